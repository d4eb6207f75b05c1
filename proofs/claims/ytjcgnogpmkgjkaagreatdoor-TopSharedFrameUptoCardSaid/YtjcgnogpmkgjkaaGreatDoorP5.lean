/-
  Walks of the functions that apart reaches (num, all, nums, look, same, alike, copied, own, see, the functions of frame and crc): each by a contract; at the end the call of apart itself with any two byte slices: it returns true and turns no old memory.
-/
import Derived.Test.YtjcgnogpmkgjkaaGreatDoorP4
import Derived.Test.YtjcgnogpmkgjkaaGreatDoorP2
import Derived.Test.YtjcgnogpmkgjkaaGreatDoorP3
set_option linter.all false
set_option linter.unusedVariables false
set_option linter.unusedSimpArgs false
section
namespace Go.Proofs.YtjcgnogpmkgjkaaGreatDoor
open Go.RowKit
set_option maxRecDepth 100000

/-- A row of bytes: at least n of its cells are bytes. -/
def ByteRow (w : World) (p n : Nat) : Prop := ∃ cur, w.heap[p]? = some (.cells cur 5 (0, 0)) ∧ ∀ i, i < n → ∃ z, cur[i]? = some (.int .u8 z) ∧ 0 ≤ z ∧ z < 256

theorem ByteRow.at {w : World} {p n : Nat} (h : ByteRow w p n) : ∃ zs, zs.length = n ∧ At w (some ⟨p, 0, none⟩) zs := by
  obtain ⟨cur, h1, h2⟩ := h
  refine ⟨(List.range n).map fun i => (match cur[i]? with | some (Value.int _ z) => z | _ => (0 : Int)), by simp, fun z hz => ?_, fun i hi => ⟨_, rfl, ?_⟩⟩
  · obtain ⟨i, hi, rfl⟩ := List.mem_map.1 hz
    obtain ⟨z, hz1, hz2⟩ := h2 i (by simpa using hi)
    simp [hz1, hz2]
  · have hin : i < n := by simpa using hi
    have e : (⟨p, 0, none⟩ : Addr).add i = ⟨p, i, none⟩ := by unfold Addr.add; split <;> simp_all
    obtain ⟨z, hz1, -⟩ := h2 i hin
    rw [e, cell_of_row _ _ i _ _ _ h1, hz1]
    simp [hin, hz1]

theorem ByteRow.set {w' : World} {p q n : Nat} {cur : Array Value} (h2 : ∀ i, i < n → ∃ z, cur[i]? = some (.int .u8 z) ∧ 0 ≤ z ∧ z < 256) {z : Int} (hz : 0 ≤ z ∧ z < 256)
    (h' : w'.heap[p]? = some (.cells (cur.setIfInBounds q (.int .u8 z)) 5 (0, 0))) : ByteRow w' p n := by
  refine ⟨_, h', fun i hi => ?_⟩
  obtain ⟨y, hy, hy'⟩ := h2 i hi
  have hlt := (Array.getElem?_eq_some_iff.1 hy).1
  by_cases e : q = i
  · subst e
    exact ⟨z, by simp [hlt], hz⟩
  · exact ⟨y, by rw [Array.getElem?_setIfInBounds_ne e]; exact hy, hy'⟩

def seen (l : List Int) (n : Nat) (zs : List Int) : List Int := l ++ [(n : Int)] ++ zs.take (200000 - (l.length + 1))

theorem add_block (ad : Addr) (i : Nat) : (ad.add i).block = ad.block := by unfold Addr.add; split <;> rfl

theorem nums_read (M : Nat → Prop) (w0 w : World) (b : Nat) (l : List Int) (t : Int) (rm : Bool) (hI : SeeI M w0 b l false t rm w) (la : Addr) (a : Option Addr) (n c : Nat)
    (hla : w0.cell? la = some (.slice a n c)) (hlb : ¬ (la.block = b ∨ M la.block)) (hnc : n ≤ c) (hc : c ≤ maxLen) (ha : a = none → c = 0) (zs : List Int) (hz : zs.length = if rm then c else n)
    (hA : At w0 a zs) (hab : ∀ ad, a = some ad → 0 < zs.length → ¬ (ad.block = b ∨ M ad.block)) (hl : l.length < 500000) :
    Calls Tryz.prog 10 #[.pointer (some ⟨b, 0, none⟩), .pointer (some la)] w fun e w' => e = .returned (.tuple #[]) ∧ SeeI M w0 b (seen l n zs) false t rm w' := by
  refine nums_call ((hI.but.cell (World.block_lt_of_cell? w0 _ hla) hlb).trans hla) ?_
  refine (all_any M w0 w b l false rm t hI a n c zs.length hnc hc hz ha (by omega)
    (fun k l' w' => SeeI M w0 b l' false t rm w' ∧ l' = (l ++ [(n : Int)]) ++ zs.take k ∧ k ≤ 200000 - (l.length + 1) ∧ k ≤ zs.length) (fun k l' w' h => ⟨t, h.1⟩)
    (fun w' h _ => ⟨h, by simp, Nat.zero_le _, Nat.zero_le _⟩) (fun k l' w' hk hl' h ad had => ?_)).mono ?_
  · obtain ⟨hS, rfl, hk1, hk2⟩ := h
    obtain ⟨ad', h1, h2⟩ := hA.2 k hk
    rw [had] at h1
    obtain rfl := Option.some.inj h1
    have hbl := World.block_lt_of_cell? w0 _ h2
    have hnb : ¬ ((ad.add k).block = b ∨ M (ad.add k).block) := by rw [add_block]; exact hab ad had (by omega)
    have hlen : (l ++ [(n : Int)] ++ zs.take k).length = l.length + 1 + k := by simp; omega
    have hm := hA.1 (zs.getD k 0) (by simp [hk])
    refine (num_read M w0 w' b _ t rm hS (ad.add k) (zs.getD k 0) ((hS.but.cell hbl hnb).trans h2) hm (by omega) (by simpa using hbl)).mono ?_
    rintro e w'' ⟨he, hS'⟩
    refine ⟨he, _, hS', ?_, by omega, by omega⟩
    rw [List.append_assoc]
    congr 1
    rw [List.take_add_one]
    simp [hk]
  · rintro e w' ⟨he, k, l', ⟨hS, rfl, hk1, hk2⟩, -, hend⟩
    refine ⟨he, ?_⟩
    have hlen : (l ++ [(n : Int)] ++ zs.take k).length = l.length + 1 + k := by simp; omega
    have : zs.take k = zs.take (200000 - (l.length + 1)) := by
      rcases hend with h | h
      · rw [List.take_of_length_le (by omega), List.take_of_length_le (by omega)]
      · congr 1; omega
    unfold seen
    rw [← this]
    exact hS

theorem nums_mark (M : Nat → Prop) (w0 w : World) (b : Nat) (l : List Int) (t : Int) (rm : Bool) (hI : SeeI M w0 b l true t rm w) (la : Addr) (a : Option Addr) (n c : Nat)
    (hla : w0.cell? la = some (.slice a n c)) (hlb : ¬ (la.block = b ∨ M la.block)) (hnc : n ≤ c) (hc : c ≤ maxLen) (ha : a = none → c = 0)
    (hrow : ∀ ad, a = some ad → ∃ p, ad = ⟨p, 0, none⟩ ∧ M p ∧ p < w0.heap.size ∧ p ≠ b ∧ ByteRow w p (if rm then c else n)) (hl : l.length < 500000) (ht : 0 ≤ t ∧ t < 100000000000) :
    Calls Tryz.prog 10 #[.pointer (some ⟨b, 0, none⟩), .pointer (some la)] w fun e w' => e = .returned (.tuple #[]) ∧ ∃ l' t', SeeI M w0 b l' true t' rm w' ∧ t ≤ t' ∧ t' + l.length ≤ t + l'.length ∧ l'.length ≤ max (l.length + 1) 200000 ∧
      (∀ q v, q < w0.heap.size → q ≠ b → ByteRow w q v → ByteRow w' q v) := by
  refine nums_call ((hI.but.cell (World.block_lt_of_cell? w0 _ hla) hlb).trans hla) ?_
  refine (all_any M w0 w b l true rm t hI a n c (if rm then c else n) hnc hc rfl ha (by omega)
    (fun k l' w' => ∃ t', SeeI M w0 b l' true t' rm w' ∧ t ≤ t' ∧ t' + l.length ≤ t + l'.length ∧ l'.length ≤ max (l.length + 1) 200000 ∧ (∀ q v, q < w0.heap.size → q ≠ b → ByteRow w q v → ByteRow w' q v)) (fun k l' w' h => let ⟨t', h1, _⟩ := h; ⟨t', h1⟩)
    (fun w' h hb => ⟨t, h, by omega, by simp; omega, by simp; omega, fun q v hq hqb ⟨cur, h1, h2⟩ => ⟨cur, hb.to h1 (by omega), h2⟩⟩) (fun k l' w' hk hl' h ad had => ?_)).mono ?_
  · obtain ⟨t', hS, ht1, ht2, hl1, hrows⟩ := h
    obtain ⟨p, rfl, hM, hp, hpb, hB⟩ := hrow ad had
    obtain ⟨cur, h1, h2⟩ := hrows p _ hp hpb hB
    obtain ⟨z, hz, hz'⟩ := h2 k hk
    have e : (⟨p, 0, none⟩ : Addr).add k = ⟨p, k, none⟩ := by unfold Addr.add; split <;> simp_all
    rw [e]
    refine (num_mark M w0 w' b l' t' rm hS p k cur _ h1 hz hM hp (by omega) (by omega)).mono ?_
    rintro e w'' ⟨he, y, hy1, hy2, h3, hS', hb⟩
    refine ⟨he, _, t' + 1, hS', by omega, by simp; omega, by simp; omega, fun q v hq hqb hr => ?_⟩
    obtain ⟨cur', g1, g2⟩ := hrows q v hq hqb hr
    by_cases eq : q = p
    · subst eq
      rw [h1] at g1
      obtain rfl : cur = cur' := by simpa using g1
      exact ByteRow.set g2 ⟨hy1, hy2⟩ h3
    · exact ⟨cur', hb.to g1 (by omega), g2⟩
  · rintro e w' ⟨he, k, l', ⟨t', hS, h1, h2, h3, h4⟩, -, -⟩
    exact ⟨he, l', t', hS, h1, h2, h3, h4⟩
end Go.Proofs.YtjcgnogpmkgjkaaGreatDoor
end
section
namespace Go.Proofs.YtjcgnogpmkgjkaaGreatDoor
open Go.RowKit
set_option maxRecDepth 100000

theorem seen_length (l : List Int) (n : Nat) (zs : List Int) : (seen l n zs).length ≤ max (l.length + 1) 200000 ∧ l.length + 1 ≤ (seen l n zs).length := by
  unfold seen; simp; omega

/-- see, reading. -/
theorem see_read (w : World) (E Y : Nat) (rm : Bool) (he : w.heap[E]? = some (.cells (eyeCells (.slice none 0 0) false 0 rm) 51 (0, 0))) (a b : Option Addr) (n c m d : Nat)
    (h0 : w.cell? ⟨Y, 0, none⟩ = some (.slice a n c)) (h1 : w.cell? ⟨Y, 1, none⟩ = some (.slice b m d)) (hYE : Y ≠ E)
    (hnc : n ≤ c) (hc : c ≤ maxLen) (ha : a = none → c = 0) (zs : List Int) (hz : zs.length = if rm then c else n) (hA : At w a zs) (hab : ∀ ad, a = some ad → 0 < zs.length → ad.block ≠ E)
    (hmd : m ≤ d) (hd : d ≤ maxLen) (hb : b = none → d = 0) (ys : List Int) (hy : ys.length = if rm then d else m) (hB : At w b ys) (hbb : ∀ ad, b = some ad → 0 < ys.length → ad.block ≠ E) :
    Calls Tryz.prog 6 #[.pointer (some ⟨E, 0, none⟩), .pointer (some ⟨Y, 0, none⟩)] w fun e w' => e = .returned (.tuple #[]) ∧ SeeI (fun _ => False) w E (seen (seen [] n zs) m ys) false 0 rm w' := by
  have hl := (seen_length [] n zs).1
  refine see_call (R1 := fun w1 => SeeI (fun _ => False) w E (seen [] n zs) false 0 rm w1) ?_ (fun w1 hS => ?_)
  · exact nums_read _ w w E [] 0 rm (SeeI.start he) ⟨Y, 0, none⟩ a n c h0 (by simpa using hYE) hnc hc ha zs hz hA (fun ad h hl => by simpa using hab ad h hl) (by simp)
  · exact nums_read _ w w1 E _ 0 rm hS ⟨Y, 1, none⟩ b m d h1 (by simpa using hYE) hmd hd hb ys hy hB (fun ad h hl => by simpa using hbb ad h hl) (by simp at hl; omega)

/-- see, marking two rows of its own. -/
theorem see_mark (w : World) (E Y ga gb n m : Nat) (he : w.heap[E]? = some (.cells (eyeCells (.slice none 0 0) true 0 true) 51 (0, 0)))
    (hy : w.heap[Y]? = some (.cells #[.slice (some ⟨ga, 0, none⟩) n (n + 2), .slice (some ⟨gb, 0, none⟩) m (m + 2)] 24 (0, 0))) (hn : n ≤ 2000) (hm : m ≤ 2000) (ra : ByteRow w ga (n + 2)) (rb : ByteRow w gb (m + 2)) :
    Calls Tryz.prog 6 #[.pointer (some ⟨E, 0, none⟩), .pointer (some ⟨Y, 0, none⟩)] w fun e w' => e = .returned (.tuple #[]) ∧ But (fun k => k = E ∨ k = ga ∨ k = gb) w w' ∧ ByteRow w' ga (n + 2) ∧ ByteRow w' gb (m + 2) := by
  have h0 : w.cell? ⟨Y, 0, none⟩ = some (.slice (some ⟨ga, 0, none⟩) n (n + 2)) := (cell_of_row _ _ 0 _ _ _ hy).trans rfl
  have h1 : w.cell? ⟨Y, 1, none⟩ = some (.slice (some ⟨gb, 0, none⟩) m (m + 2)) := (cell_of_row _ _ 1 _ _ _ hy).trans rfl
  have hx : ∀ {k : Nat} {cs : Array Value} {e : TypeId}, e ≠ 24 → w.heap[k]? = some (.cells cs e (0, 0)) → Y ≠ k := fun hne hk e => by
    rw [← e, hy] at hk; simp at hk; exact hne hk.2.symm
  have hx2 : ∀ {k : Nat} {cs : Array Value} {e : TypeId}, e ≠ 51 → w.heap[k]? = some (.cells cs e (0, 0)) → k ≠ E := fun hne hk e => by
    rw [e, he] at hk; simp at hk; exact hne hk.2.symm
  have RA := ra
  have RB := rb
  obtain ⟨ca, ha, -⟩ := ra
  obtain ⟨cb, hb, -⟩ := rb
  have yE := (hx (by decide) he)
  have yA := (hx (by decide) ha)
  have yB := (hx (by decide) hb)
  have aE := hx2 (by decide) ha
  have bE := hx2 (by decide) hb
  have la := lt_of_block ha
  have lb := lt_of_block hb
  have hYm : ¬ (Y = E ∨ Y = ga ∨ Y = gb) := by omega
  refine see_call (R1 := fun w1 => ∃ l' t', SeeI (fun k => k = ga ∨ k = gb) w E l' true t' true w1 ∧ 0 ≤ t' ∧ t' ≤ l'.length ∧ l'.length ≤ 200000 ∧ ∀ q v, q < w.heap.size → q ≠ E → ByteRow w q v → ByteRow w1 q v) ?_ (fun w1 ⟨l', t', hS, t1, t2, hl, hr⟩ => ?_)
  · refine (nums_mark (fun k => k = ga ∨ k = gb) w w E [] 0 true (SeeI.start he) ⟨Y, 0, none⟩ _ n (n + 2) h0 hYm (by omega) (by unfold maxLen; omega) (by simp) (fun ad h => ?_) (by simp) (by omega)).mono ?_
    · obtain rfl := Option.some.inj h
      exact ⟨ga, rfl, .inl rfl, la, aE, by simpa using RA⟩
    · rintro e w' ⟨he', l', t', hS, q1, q2, q3, q4⟩
      exact ⟨he', l', t', hS, q1, by simpa using q2, by simpa using q3, q4⟩
  · refine (nums_mark (fun k => k = ga ∨ k = gb) w w1 E l' t' true hS ⟨Y, 1, none⟩ _ m (m + 2) h1 hYm (by omega) (by unfold maxLen; omega) (by simp) (fun ad h => ?_) (by omega) (by omega)).mono ?_
    · obtain rfl := Option.some.inj h
      exact ⟨gb, rfl, .inr rfl, lb, bE, by simpa using hr gb _ lb bE RB⟩
    · rintro e w' ⟨he', l'', t'', hS', q1, q2, q3, q4⟩
      exact ⟨he', hS'.but, q4 ga _ la aE (hr ga _ la aE RA), q4 gb _ lb bE (hr gb _ lb bE RB)⟩
end Go.Proofs.YtjcgnogpmkgjkaaGreatDoor
end
section
namespace Go.Proofs.YtjcgnogpmkgjkaaGreatDoor
open Go.RowKit
set_option maxRecDepth 100000

/-- A slice of bytes in rows from B on. -/
structure Slc (B : Nat) (w : World) (o : Option Addr) (n c : Nat) : Prop where
  le : n ≤ c
  cap : c ≤ maxLen
  none : o = none → c = 0
  row : ∀ ad, o = some ad → ∃ p, ad = ⟨p, 0, .none⟩ ∧ B ≤ p ∧ ByteRow w p n

theorem ByteRow.lt {w : World} {p n : Nat} (h : ByteRow w p n) : p < w.heap.size := by obtain ⟨_, h, -⟩ := h; exact lt_of_block h
theorem ByteRow.keep {S : Nat → Prop} {w w1 : World} {p n : Nat} (h : ByteRow w p n) (hb : But S w w1) (hn : ¬ S p) : ByteRow w1 p n := by
  obtain ⟨cur, h1, h2⟩ := h
  exact ⟨cur, hb.to h1 hn, h2⟩
theorem Slc.keep {B : Nat} {S : Nat → Prop} {w w1 : World} {o : Option Addr} {n c : Nat} (h : Slc B w o n c) (hb : But S w w1) (hs : ∀ k, S k → k < B) : Slc B w1 o n c :=
  ⟨h.le, h.cap, h.none, fun ad had => let ⟨p, h1, h2, h3⟩ := h.row ad had; ⟨p, h1, h2, h3.keep hb (fun e => by have := hs p e; omega)⟩⟩
theorem Slc.at {B : Nat} {w : World} {o : Option Addr} {n c : Nat} (h : Slc B w o n c) : ∃ zs, zs.length = n ∧ At w o zs ∧ ∀ ad, o = some ad → B ≤ ad.block ∧ ad.block < w.heap.size := by
  rcases o with _ | ad
  · have := h.none rfl
    have := h.le
    exact ⟨[], by simp; omega, ⟨by simp, by simp⟩, by simp⟩
  · obtain ⟨p, rfl, h2, h3⟩ := h.row ad rfl
    obtain ⟨zs, h4, h5⟩ := h3.at
    refine ⟨zs, h4, h5, fun ad' e => ?_⟩
    obtain rfl := Option.some.inj e
    exact ⟨h2, h3.lt⟩
theorem Own5.slc {B : Nat} {w : World} {v : Value} {ws : List Int} (h : Own5 B w v ws) : ∃ o c, v = .slice o ws.length c ∧ Slc B w o ws.length c := by
  have hb := h.b
  rcases h.own.2 with ⟨hv, h0⟩ | ⟨g, cap, cur, hv, hB, hg, h1, h2, h3, h4⟩
  · rw [h0]; exact ⟨none, 0, hv, Nat.le_refl _, Nat.zero_le _, fun _ => rfl, by simp⟩
  · refine ⟨some ⟨g, 0, .none⟩, cap, hv, h1, h2, by simp, fun ad e => ⟨g, (Option.some.inj e).symm, hB, cur, hg, fun i hi => ⟨ws.getD i 0, ?_, hb _ (by simp [hi])⟩⟩⟩
    have h5 : (cur.toList.take (ws.length * 1))[i]? = some (.int .u8 (ws.getD i 0)) := by rw [h4]; simp [hi]
    rw [List.getElem?_take, if_pos (by omega)] at h5
    simpa using h5
theorem At.keep {S : Nat → Prop} {w w1 : World} {o : Option Addr} {zs : List Int} (h : At w o zs) (hb : But S w w1) (hn : ∀ ad, o = some ad → ¬ S ad.block) : At w1 o zs :=
  ⟨h.1, fun i hi => let ⟨ad, h1, h2⟩ := h.2 i hi; ⟨ad, h1, (hb.cell (World.block_lt_of_cell? w _ h2) (by rw [add_block]; exact hn ad h1)).trans h2⟩⟩

/-- The closure f over the variable at A sees L, wherever what lies from B on is as it is in w. -/
def Reads (f : FuncId) (A B : Nat) (w : World) (L : List Int) : Prop :=
  L.length < 400000 ∧ ∀ w1, But (fun k => k < B) w w1 → ∀ b, w.heap.size ≤ b → w1.heap[b]? = some (.cells (eyeCells (.slice none 0 0) false 0 false) 51 (0, 0)) →
    Calls Tryz.prog f #[.pointer (some ⟨b, 0, none⟩), .pointer (some ⟨A, 0, none⟩)] w1 fun e w2 => e = .returned (.tuple #[]) ∧ SeeI (fun _ => False) w1 b L false 0 false w2
/-- It is seen; and marked, it is seen again (whatever it then is); marking writes from B on alone. -/
def Shows (f : FuncId) (A B : Nat) (w : World) : Prop :=
  (∃ L, Reads f A B w L) ∧ ∀ w1, But (fun k => k < B) w w1 → ∀ b t, w.heap.size ≤ b → 0 ≤ t → t ≤ 1000000 → w1.heap[b]? = some (.cells (eyeCells (.slice none 0 0) true t false) 51 (0, 0)) →
    Calls Tryz.prog f #[.pointer (some ⟨b, 0, none⟩), .pointer (some ⟨A, 0, none⟩)] w1 fun e w2 => e = .returned (.tuple #[]) ∧ But (fun k => k = b ∨ (B ≤ k ∧ ∃ cs fr, w1.heap[k]? = some (.cells cs 5 fr))) w1 w2 ∧ ∃ L, Reads f A B w2 L

/-- A variable that holds a slice of bytes. -/
structure ResB (B : Nat) (w : World) (A : Nat) (o : Option Addr) (n c : Nat) : Prop where
  var : w.heap[A]? = some (.cells #[.slice o n c] 22 (0, 0))
  new : B ≤ A
  slc : Slc B w o n c
theorem ResB.keep {B : Nat} {w w1 : World} {A : Nat} {o : Option Addr} {n c : Nat} (h : ResB B w A o n c) (hb : But (fun k => k < B) w w1) : ResB B w1 A o n c :=
  ⟨hb.to h.var (by have := h.new; omega), h.new, h.slc.keep hb (fun k hk => hk)⟩

theorem nums_reads {B : Nat} {w : World} {A : Nat} {o : Option Addr} {n c : Nat} (h : ResB B w A o n c) : ∃ L, Reads 10 A B w L := by
  obtain ⟨zs, hz, hA, hab⟩ := h.slc.at
  refine ⟨seen [] n zs, by have := (seen_length [] n zs).1; simp at this; omega, fun w1 hb b hbn he => ?_⟩
  have h1 := h.keep hb
  have hlt := lt_of_block h.var
  refine nums_read _ w1 w1 b [] 0 false (SeeI.start he) ⟨A, 0, none⟩ o n c (cell_of_one h1.var) (by simp; omega) h1.slc.le h1.slc.cap h1.slc.none zs (by simpa using hz)
    (hA.keep hb (fun ad e => by have := (hab ad e).1; omega)) (fun ad e _ => by have := (hab ad e).2; simp; omega) (by simp)

theorem nums_shows {B : Nat} {w : World} {A : Nat} {o : Option Addr} {n c : Nat} (h : ResB B w A o n c) : Shows 10 A B w := by
  refine ⟨nums_reads h, fun w1 hb b t hbn ht0 ht1 he => ?_⟩
  have h1 := h.keep hb
  have hlt := lt_of_block h.var
  have hbl := lt_of_block he
  have hA5 : ¬ (A = b ∨ (B ≤ A ∧ ∃ cs fr, w1.heap[A]? = some (.cells cs 5 fr))) := by
    rintro (e | ⟨-, cs, fr, e⟩)
    · omega
    · rw [h1.var] at e; simp at e
  have hrow : ∀ p, B ≤ p → ByteRow w1 p n → p ≠ b := fun p _ ⟨cur, hc, _⟩ e => by rw [e, he] at hc; simp at hc
  refine (nums_mark (fun k => B ≤ k ∧ ∃ cs fr, w1.heap[k]? = some (.cells cs 5 fr)) w1 w1 b [] t false (SeeI.start he) ⟨A, 0, none⟩ o n c (cell_of_one h1.var) hA5 h1.slc.le h1.slc.cap h1.slc.none (fun ad e => ?_) (by simp) (by omega)).mono ?_
  · obtain ⟨p, hp, hBp, hr⟩ := h1.slc.row ad e
    exact ⟨p, hp, ⟨hBp, by obtain ⟨cur, hc, -⟩ := hr; exact ⟨_, _, hc⟩⟩, hr.lt, hrow p hBp hr, by simpa using hr⟩
  · rintro e w2 ⟨he', l', t', hS, -, -, -, hrows⟩
    refine ⟨he', hS.but, nums_reads (A := A) (o := o) (n := n) (c := c) ⟨hS.but.to h1.var hA5, h1.new, h1.slc.le, h1.slc.cap, h1.slc.none, fun ad e => ?_⟩⟩
    obtain ⟨p, hp, hBp, hr⟩ := h1.slc.row ad e
    exact ⟨p, hp, hBp, hrows p n hr.lt (hrow p hBp hr) hr⟩

theorem shows_via {f g : FuncId} {A B : Nat} {w : World} (hc : ∀ (w : World) (b : Nat) (R : World → Prop), (Calls Tryz.prog f #[.pointer (some ⟨b, 0, none⟩), .pointer (some ⟨A, 0, none⟩)] w fun e w' => e = .returned (.tuple #[]) ∧ R w') →
      Calls Tryz.prog g #[.pointer (some ⟨b, 0, none⟩), .pointer (some ⟨A, 0, none⟩)] w fun e w' => e = .returned (.tuple #[]) ∧ R w') (h : Shows f A B w) : Shows g A B w := by
  have hr : ∀ {w L}, Reads f A B w L → Reads g A B w L := fun h => ⟨h.1, fun w1 hb b hbn he => hc _ _ _ (h.2 w1 hb b hbn he)⟩
  refine ⟨h.1.imp fun L hL => hr hL, fun w1 hb b t hbn h0 h1 he => ?_⟩
  refine hc w1 b (fun w2 => But (fun k => k = b ∨ (B ≤ k ∧ ∃ cs fr, w1.heap[k]? = some (.cells cs 5 fr))) w1 w2 ∧ ∃ L, Reads g A B w2 L) ?_
  refine (h.2 w1 hb b t hbn h0 h1 he).mono ?_
  rintro e w2 ⟨q1, q2, L, q3⟩
  exact ⟨q1, q2, L, hr q3⟩
end Go.Proofs.YtjcgnogpmkgjkaaGreatDoor
end
section
namespace Go.Proofs.YtjcgnogpmkgjkaaGreatDoor
open Go.RowKit
set_option maxRecDepth 100000

/-- A variable that holds a list of slices of bytes. -/
structure ResR (B : Nat) (w : World) (A : Nat) (o : Option Addr) (n c : Nat) : Prop where
  var : w.heap[A]? = some (.cells #[.slice o n c] 40 (0, 0))
  new : B ≤ A
  le : n ≤ c
  cap : c ≤ maxLen
  none : o = none → c = 0
  row : ∀ ad, o = some ad → ∃ g cur, ad = ⟨g, 0, .none⟩ ∧ B ≤ g ∧ w.heap[g]? = some (.cells cur 22 (0, 0)) ∧ ∀ i, i < n → ∃ o' n' c', cur[i]? = some (.slice o' n' c') ∧ Slc B w o' n' c'

theorem ResR.keep {B : Nat} {w w1 : World} {A : Nat} {o : Option Addr} {n c : Nat} (h : ResR B w A o n c) (hb : But (fun k => k < B) w w1) : ResR B w1 A o n c :=
  ⟨hb.to h.var (by have := h.new; omega), h.new, h.le, h.cap, h.none, fun ad e => by
    obtain ⟨g, cur, h1, h2, h3, h4⟩ := h.row ad e
    refine ⟨g, cur, h1, h2, hb.to h3 (by omega), fun i hi => ?_⟩
    obtain ⟨o', n', c', h5, h6⟩ := h4 i hi
    exact ⟨o', n', c', h5, h6.keep hb (fun k hk => hk)⟩⟩

theorem Recs.res {B : Nat} {w : World} {v : Value} {xs : List Value} (h : Recs B w v xs) : ∃ o c, v = .slice o xs.length c ∧ ∀ A w1, But (fun _ => False) w w1 → w1.heap[A]? = some (.cells #[v] 40 (0, 0)) → B ≤ A → ResR B w1 A o xs.length c := by
  rcases h.own.2 with ⟨hv, h0⟩ | ⟨g, cap, cur, hv, hB, hg, h1, h2, h3, h4⟩
  · rw [h0]
    exact ⟨none, 0, hv, fun A w1 hb hA hBA => ⟨by rw [hA, hv], hBA, Nat.le_refl _, Nat.zero_le _, fun _ => rfl, by simp⟩⟩
  · refine ⟨some ⟨g, 0, .none⟩, cap, hv, fun A w1 hb hA hBA => ⟨by rw [hA, hv], hBA, h1, h2, by simp, fun ad e => ⟨g, cur, (Option.some.inj e).symm, hB, hb.to hg (by simp), fun i hi => ?_⟩⟩⟩
    obtain ⟨ws, hw⟩ := h.each xs[i] (by simp)
    obtain ⟨o', c', q1, q2⟩ := (hw.but hb).slc
    have h5 : (cur.toList.take (xs.length * 1))[i]? = some xs[i] := by rw [h4]; simp [hi]
    rw [List.getElem?_take, if_pos (by omega)] at h5
    exact ⟨o', ws.length, c', by rw [← q1]; simpa using h5, q2⟩

/-- What is seen of the first k of a list of lists. -/
def seens (f : Nat → Nat × List Int) (l : List Int) : Nat → List Int
  | 0 => l
  | k + 1 => seen (seens f l k) (f k).1 (f k).2

theorem stop_at (g : Nat → Nat) : ∀ n, ∃ k, k ≤ n ∧ (k = n ∨ 200000 ≤ g k) ∧ ∀ j, j < k → g j < 200000
  | 0 => ⟨0, by simp⟩
  | n + 1 => by
    obtain ⟨k, h1, h2, h3⟩ := stop_at g n
    rcases Nat.lt_or_ge (g k) 200000 with h | h
    · rcases h2 with h2 | h2
      · subst h2
        exact ⟨k + 1, by omega, .inl rfl, fun j hj => by
          rcases Nat.lt_or_ge j k with h4 | h4
          · exact h3 j h4
          · obtain rfl : j = k := by omega
            exact h⟩
      · omega
    · exact ⟨k, by omega, .inr h, h3⟩

theorem seens_length (f : Nat → Nat × List Int) (l : List Int) (hl : l.length ≤ 200000) : ∀ k, (∀ j, j < k → (seens f l j).length < 200000) → (seens f l k).length ≤ 200000
  | 0, _ => hl
  | k + 1, h => by
    have := (seen_length (seens f l k) (f k).1 (f k).2).1
    have := h k (by omega)
    simp only [seens]
    omega

theorem byteses_reads {B : Nat} {w : World} {A : Nat} {o : Option Addr} {n c : Nat} (h : ResR B w A o n c) : ∃ L, Reads 17 A B w L := by
  have hlt := lt_of_block h.var
  -- the lists behind the row's slices
  have hf : ∃ f : Nat → Nat × List Int, ∀ ad, o = some ad → ∀ i, i < n → ∃ o' c', w.cell? (ad.add i) = some (.slice o' (f i).1 c') ∧ B ≤ ad.block ∧ Slc B w o' (f i).1 c' ∧ (f i).2.length = (f i).1 ∧ At w o' (f i).2 ∧ ∀ ad', o' = some ad' → B ≤ ad'.block ∧ ad'.block < w.heap.size := by
    rcases o with _ | ad
    · exact ⟨fun _ => (0, []), by simp⟩
    · obtain ⟨g, cur, rfl, hg1, hg2, hg3⟩ := h.row ad rfl
      have : ∀ i, ∃ x : Nat × List Int, i < n → ∃ o' c', w.cell? ((⟨g, 0, none⟩ : Addr).add i) = some (.slice o' x.1 c') ∧ Slc B w o' x.1 c' ∧ x.2.length = x.1 ∧ At w o' x.2 ∧ ∀ ad', o' = some ad' → B ≤ ad'.block ∧ ad'.block < w.heap.size := fun i => by
        by_cases hi : i < n
        · obtain ⟨o', n', c', h5, h6⟩ := hg3 i hi
          obtain ⟨zs, h7, h8, h9⟩ := h6.at
          have e : (⟨g, 0, none⟩ : Addr).add i = ⟨g, i, none⟩ := by unfold Addr.add; split <;> simp_all
          exact ⟨(n', zs), fun _ => ⟨o', c', by rw [e, cell_of_row _ _ i _ _ _ hg2]; exact h5, h6, h7, h8, h9⟩⟩
        · exact ⟨(0, []), fun h => absurd h hi⟩
      refine ⟨fun i => Classical.choose (this i), fun ad e i hi => ?_⟩
      obtain rfl := Option.some.inj e
      obtain ⟨o', c', q1, q2, q3, q4, q5⟩ := Classical.choose_spec (this i) hi
      exact ⟨o', c', q1, hg1, q2, q3, q4, q5⟩
  obtain ⟨f, hf⟩ := hf
  obtain ⟨K, hK1, hK2, hK3⟩ := stop_at (fun k => (seens f [(n : Int)] k).length) n
  refine ⟨seens f [(n : Int)] K, by have := seens_length f [(n : Int)] (by simp) K hK3; omega, fun w1 hb b hbn he => ?_⟩
  have h1 := h.keep hb
  refine byteses_call (cell_of_one h1.var) ?_
  refine (all2_any (fun _ => False) w1 w1 b [] false false 0 (SeeI.start he) o n c n h1.le h1.cap rfl h1.none (by simp)
    (fun k l' w' => SeeI (fun _ => False) w1 b l' false 0 false w' ∧ l' = seens f [(n : Int)] k ∧ ∀ j, j < k → (seens f [(n : Int)] j).length < 200000) (fun k l' w' h => ⟨0, h.1⟩)
    (fun w' h _ => ⟨h, rfl, by simp⟩) (fun k l' w' hk hl' hJ ad had => ?_)).mono ?_
  · obtain ⟨hS, rfl, hprev⟩ := hJ
    obtain ⟨o', c', q1, q0, q2, q3, q4, q5⟩ := hf ad had k hk
    have hbl := World.block_lt_of_cell? w _ q1
    rw [add_block] at hbl
    have hcell : w1.cell? (ad.add k) = some (.slice o' (f k).1 c') := (hb.cell (by rw [add_block]; exact hbl) (by rw [add_block]; omega)).trans q1
    have hq2 := q2.keep hb (fun k hk => hk)
    refine (nums_read _ w1 w' b _ 0 false hS (ad.add k) o' (f k).1 c' hcell (by rw [add_block]; simp; omega) hq2.le hq2.cap hq2.none (f k).2 (by simpa using q3)
      (q4.keep hb (fun ad' e => by have := (q5 ad' e).1; omega)) (fun ad' e _ => by have := (q5 ad' e).2; simp; omega) (by omega)).mono ?_
    rintro e w'' ⟨he', hS'⟩
    refine ⟨he', _, hS', rfl, fun j hj => ?_⟩
    rcases Nat.lt_or_ge j k with h4 | h4
    · exact hprev j h4
    · obtain rfl : j = k := by omega
      exact hl'
  · rintro e w' ⟨he', k, l', ⟨hS, rfl, hprev⟩, hkn, hend⟩
    have : k = K := by
      rcases Nat.lt_trichotomy k K with h4 | h4 | h4
      · have := hK3 k h4
        rcases hend with h5 | h5 <;> omega
      · exact h4
      · have := hprev K h4
        rcases hK2 with h5 | h5 <;> omega
    subst this
    exact ⟨he', hS⟩

theorem byteses_shows {B : Nat} {w : World} {A : Nat} {o : Option Addr} {n c : Nat} (h : ResR B w A o n c) : Shows 17 A B w := by
  refine ⟨byteses_reads h, fun w1 hb b t hbn ht0 ht1 he => ?_⟩
  have h1 := h.keep hb
  have hlt := lt_of_block h.var
  have hbl := lt_of_block he
  have hne : ∀ {k : Nat} {cs : Array Value} {e : TypeId} {fr}, w1.heap[k]? = some (.cells cs e fr) → e ≠ 5 → e ≠ 51 → ¬ (k = b ∨ (B ≤ k ∧ ∃ cs fr, w1.heap[k]? = some (.cells cs 5 fr))) := by
    rintro k cs e' fr hk h5 h51 (e | ⟨-, cs', fr', e⟩)
    · rw [e, he] at hk; simp at hk; exact h51 hk.2.1.symm
    · rw [hk] at e; simp at e; exact h5 e.2.1
  have hrow : ∀ p v, ByteRow w1 p v → p ≠ b := fun p v ⟨cur, hc, _⟩ e => by rw [e, he] at hc; simp at hc
  refine byteses_call (cell_of_one h1.var) ?_
  refine (all2_any (fun k => B ≤ k ∧ ∃ cs fr, w1.heap[k]? = some (.cells cs 5 fr)) w1 w1 b [] true false t (SeeI.start he) o n c n h1.le h1.cap rfl h1.none (by simp)
    (fun k l' w' => ∃ t', SeeI (fun k => B ≤ k ∧ ∃ cs fr, w1.heap[k]? = some (.cells cs 5 fr)) w1 b l' true t' false w' ∧ t ≤ t' ∧ t' ≤ t + l'.length ∧ l'.length ≤ 200000 ∧ (∀ q v, q < w1.heap.size → q ≠ b → ByteRow w1 q v → ByteRow w' q v)) (fun k l' w' h => let ⟨t', h1, _⟩ := h; ⟨t', h1⟩)
    (fun w' h hb' => ⟨t, h, by omega, by simp; omega, by simp, fun q v hq hqb ⟨cur, g1, g2⟩ => ⟨cur, hb'.to g1 (by omega), g2⟩⟩) (fun k l' w' hk hl' hJ ad had => ?_)).mono ?_
  · obtain ⟨t', hS, q1, q2, q3, q4⟩ := hJ
    obtain ⟨g, cur, rfl, g1, g2, g3⟩ := h1.row ad had
    obtain ⟨o', n', c', g4, g5⟩ := g3 k hk
    have e : (⟨g, 0, none⟩ : Addr).add k = ⟨g, k, none⟩ := by unfold Addr.add; split <;> simp_all
    rw [e]
    refine (nums_mark _ w1 w' b l' t' false hS ⟨g, k, none⟩ o' n' c' ((cell_of_row _ _ k _ _ _ g2).trans g4) (hne g2 (by decide) (by decide)) g5.le g5.cap g5.none (fun ad e => ?_) (by omega) (by omega)).mono ?_
    · obtain ⟨p, hp, hBp, hr⟩ := g5.row ad e
      exact ⟨p, hp, ⟨hBp, by obtain ⟨cur, hc, -⟩ := hr; exact ⟨_, _, hc⟩⟩, hr.lt, hrow p _ hr, by simpa using q4 p n' hr.lt (hrow p _ hr) hr⟩
    · rintro e w'' ⟨he', l'', t'', hS', p1, p2, p3, p4⟩
      exact ⟨he', l'', t'', hS', by omega, by omega, by omega, fun q v hq hqb hr => p4 q v hq hqb (q4 q v hq hqb hr)⟩
  · rintro e w2 ⟨he', k, l', ⟨t', hS, -, -, -, hrows⟩, -, -⟩
    refine ⟨he', hS.but, byteses_reads (A := A) (o := o) (n := n) (c := c) ⟨hS.but.to h1.var (hne h1.var (by decide) (by decide)), h1.new, h1.le, h1.cap, h1.none, fun ad e => ?_⟩⟩
    · obtain ⟨g, cur, rfl, g1, g2, g3⟩ := h1.row ad e
      refine ⟨g, cur, rfl, g1, hS.but.to g2 (hne g2 (by decide) (by decide)), fun i hi => ?_⟩
      obtain ⟨o', n', c', g4, g5⟩ := g3 i hi
      refine ⟨o', n', c', g4, g5.le, g5.cap, g5.none, fun ad e => ?_⟩
      obtain ⟨p, hp, hBp, hr⟩ := g5.row ad e
      exact ⟨p, hp, hBp, hrows p n' hr.lt (hrow p _ hr) hr⟩
end Go.Proofs.YtjcgnogpmkgjkaaGreatDoor
end
section
namespace Go.Proofs.YtjcgnogpmkgjkaaGreatDoor
open Go.RowKit
set_option maxRecDepth 100000

/-- What each of the three calls hands back. -/
structure Gives (f : FuncId) (B : Nat) (w : World) (G A : Nat) : Prop where
  row : w.heap[G]? = some (.cells #[.func (.func f) #[] #[.pointer (some ⟨A, 0, none⟩)]] 36 (0, 0))
  new : B ≤ G
  shows_ : Shows f A B w

theorem gives1 (w : World) (Y ga gb n m : Nat) (zs ys : List Int) (hP : Pair w Y ga gb n m zs ys) :
    Calls Tryz.prog 7 #[.pointer (some ⟨Y, 0, none⟩)] w fun e w' => ∃ G A, e = .returned (.slice (some ⟨G, 0, none⟩) 1 1) ∧ Gives 9 w.heap.size w' G A ∧ But (fun _ => False) w w' := by
  refine (door1 w Y ga gb n m zs ys hP).mono ?_
  rintro e w' ⟨G, A, v, ws, he, hC, ho, -, hb⟩
  obtain ⟨o, c, hv, hs⟩ := ho.slc
  refine ⟨G, A, he, ⟨hC.row, hC.newG, shows_via (f := 10) (fun w b R h => clo9_call h) (nums_shows ⟨by rw [← hv]; exact hC.var, hC.newA, hs⟩)⟩, hb⟩
theorem gives2 (w : World) (Y ga gb n m : Nat) (zs ys : List Int) (hP : Pair w Y ga gb n m zs ys) :
    Calls Tryz.prog 11 #[.pointer (some ⟨Y, 0, none⟩)] w fun e w' => ∃ G A, e = .returned (.slice (some ⟨G, 0, none⟩) 1 1) ∧ Gives 13 w.heap.size w' G A ∧ But (fun _ => False) w w' := by
  refine (door2 w Y ga gb n m zs ys hP).mono ?_
  rintro e w' ⟨G, A, v, ws, he, hC, ho, -, hb⟩
  obtain ⟨o, c, hv, hs⟩ := ho.slc
  refine ⟨G, A, he, ⟨hC.row, hC.newG, shows_via (f := 10) (fun w b R h => clo13_call h) (nums_shows ⟨by rw [← hv]; exact hC.var, hC.newA, hs⟩)⟩, hb⟩
theorem gives3 (w : World) (Y ga gb n m : Nat) (zs ys : List Int) (hP : Pair w Y ga gb n m zs ys) :
    Calls Tryz.prog 14 #[.pointer (some ⟨Y, 0, none⟩)] w fun e w' => ∃ G A, e = .returned (.slice (some ⟨G, 0, none⟩) 1 1) ∧ Gives 16 w.heap.size w' G A ∧ But (fun _ => False) w w' := by
  refine (door3 w Y ga gb n m zs ys hP).mono ?_
  rintro e w' ⟨G, A, v, xs, he, hC, ho, -, hb⟩
  obtain ⟨o, c, hv, hs⟩ := ho.res
  refine ⟨G, A, he, ⟨hC.row, hC.newG, shows_via (f := 17) (fun w b R h => clo16_call h) (byteses_shows (hs A w' (But.refl _ _) hC.var hC.newA))⟩, hb⟩

theorem look9 {B : Nat} {w w1 : World} {G A : Nat} {L : List Int} (hG : w1.cell? ⟨G, 0, none⟩ = some (.func (.func 9) #[] #[.pointer (some ⟨A, 0, none⟩)])) (h : Reads 9 A B w L) (hb : But (fun k => k < B) w w1) :
    Calls Tryz.prog 20 #[.slice (some ⟨G, 0, none⟩) 1 1] w1 fun e w' => ∃ b, e = .returned (.slice (some ⟨b, 0, none⟩) 1 1) ∧ But (fun _ => False) w1 w' ∧ Told w1.heap.size w' b L :=
  look_call9 w1 G A L hG (fun w2 hb2 b hbn he => h.2 w2 (hb.trans hb2 (by simp)) b (Nat.le_trans hb.size hbn) he)
theorem look13 {B : Nat} {w w1 : World} {G A : Nat} {L : List Int} (hG : w1.cell? ⟨G, 0, none⟩ = some (.func (.func 13) #[] #[.pointer (some ⟨A, 0, none⟩)])) (h : Reads 13 A B w L) (hb : But (fun k => k < B) w w1) :
    Calls Tryz.prog 20 #[.slice (some ⟨G, 0, none⟩) 1 1] w1 fun e w' => ∃ b, e = .returned (.slice (some ⟨b, 0, none⟩) 1 1) ∧ But (fun _ => False) w1 w' ∧ Told w1.heap.size w' b L :=
  look_call13 w1 G A L hG (fun w2 hb2 b hbn he => h.2 w2 (hb.trans hb2 (by simp)) b (Nat.le_trans hb.size hbn) he)
theorem look16 {B : Nat} {w w1 : World} {G A : Nat} {L : List Int} (hG : w1.cell? ⟨G, 0, none⟩ = some (.func (.func 16) #[] #[.pointer (some ⟨A, 0, none⟩)])) (h : Reads 16 A B w L) (hb : But (fun k => k < B) w w1) :
    Calls Tryz.prog 20 #[.slice (some ⟨G, 0, none⟩) 1 1] w1 fun e w' => ∃ b, e = .returned (.slice (some ⟨b, 0, none⟩) 1 1) ∧ But (fun _ => False) w1 w' ∧ Told w1.heap.size w' b L :=
  look_call16 w1 G A L hG (fun w2 hb2 b hbn he => h.2 w2 (hb.trans hb2 (by simp)) b (Nat.le_trans hb.size hbn) he)
end Go.Proofs.YtjcgnogpmkgjkaaGreatDoor
end
section
namespace Go.Proofs.YtjcgnogpmkgjkaaGreatDoor
open Go.RowKit
set_option maxRecDepth 100000

theorem seen_len (l : List Int) (n : Nat) (zs : List Int) : (seen l n zs).length = l.length + 1 + min zs.length (200000 - (l.length + 1)) := by
  unfold seen; simp; omega

/-- The scene: y's block and its two rows, behind steps that turned nothing of W. -/
structure Sc (xo : Obj) (W w : World) (Y ga gb n m : Nat) (zs ys : List Int) : Prop where
  all : But (fun _ => False) W w
  x : w.heap[W.heap.size]? = some xo
  y : w.heap[Y]? = some (.cells #[.slice (some ⟨ga, 0, none⟩) n (n + 2), .slice (some ⟨gb, 0, none⟩) m (m + 2)] 24 (0, 0))
  a : At w (some ⟨ga, 0, none⟩) zs
  b : At w (some ⟨gb, 0, none⟩) ys
  la : zs.length = n + 2
  lb : ys.length = m + 2
  ra : ByteRow w ga (n + 2)
  rb : ByteRow w gb (m + 2)
  hn : n ≤ 2000
  hm : m ≤ 2000
  low : W.heap.size < Y ∧ W.heap.size < ga ∧ W.heap.size < gb

theorem Sc.step {S : Nat → Prop} {xo : Obj} {W w w' : World} {Y ga gb n m : Nat} {zs ys : List Int} (h : Sc xo W w Y ga gb n m zs ys) (hb : But S w w') (hY : ¬ S Y) (ha : ¬ S ga) (hg : ¬ S gb) (hl : ∀ k, k ≤ W.heap.size → ¬ S k) : Sc xo W w' Y ga gb n m zs ys :=
  ⟨h.all.trans hb (fun k hk hs => hl k (Nat.le_of_lt hk) hs), hb.to h.x (hl _ (Nat.le_refl _)), hb.to h.y hY, h.a.keep hb (fun ad e => by obtain rfl := Option.some.inj e; exact ha), h.b.keep hb (fun ad e => by obtain rfl := Option.some.inj e; exact hg), h.la, h.lb, h.ra.keep hb ha, h.rb.keep hb hg, h.hn, h.hm, h.low⟩
theorem Sc.quiet {xo : Obj} {W w w' : World} {Y ga gb n m : Nat} {zs ys : List Int} (h : Sc xo W w Y ga gb n m zs ys) (hb : But (fun _ => False) w w') : Sc xo W w' Y ga gb n m zs ys := h.step hb (by simp) (by simp) (by simp) (by simp)
theorem Sc.pair {xo : Obj} {W w : World} {Y ga gb n m : Nat} {zs ys : List Int} (h : Sc xo W w Y ga gb n m zs ys) : Pair w Y ga gb n m zs ys := ⟨h.y, h.a, h.b, h.la, h.lb, h.hn, h.hm⟩
theorem Sc.marked {xo : Obj} {W w w' : World} {Y ga gb n m E : Nat} {zs ys : List Int} (h : Sc xo W w Y ga gb n m zs ys) (hb : But (fun k => k = E ∨ k = ga ∨ k = gb) w w') (ra : ByteRow w' ga (n + 2)) (rb : ByteRow w' gb (m + 2)) (hE : W.heap.size < E) (hY : Y ≠ E ∧ Y ≠ ga ∧ Y ≠ gb) :
    ∃ zs ys, Sc xo W w' Y ga gb n m zs ys := by
  obtain ⟨zs', q1, q2⟩ := ra.at
  obtain ⟨ys', q3, q4⟩ := rb.at
  have hl := h.low
  exact ⟨zs', ys', h.all.trans hb (fun k hk hs => by omega), hb.to h.x (by omega), hb.to h.y (by omega), q2, q4, q1, q3, ra, rb, h.hn, h.hm, h.low⟩
theorem Sc.lt {xo : Obj} {W w : World} {Y ga gb n m : Nat} {zs ys : List Int} (h : Sc xo W w Y ga gb n m zs ys) : Y < w.heap.size ∧ ga < w.heap.size ∧ gb < w.heap.size := ⟨lt_of_block h.y, h.ra.lt, h.rb.lt⟩

/-- An eye that has seen L. -/
def Has (w : World) (E : Nat) (L : List Int) (rm : Bool) : Prop := ∃ v C, w.heap[E]? = some (.cells (eyeCells v false 0 rm) 51 (0, 0)) ∧ w.ownsRow C 3 1 v L.length (L.map (Value.int .i64))
theorem Has.step {S : Nat → Prop} {w w' : World} {E : Nat} {L : List Int} {rm : Bool} (h : Has w E L rm) (hb : But S w w') (hE : ¬ S E) (h3 : ∀ k cs, w.heap[k]? = some (.cells cs 3 (0, 0)) → ¬ S k) : Has w' E L rm := by
  obtain ⟨v, C, h1, h2⟩ := h
  refine ⟨v, C, hb.to h1 hE, h2.1, ?_⟩
  rcases h2.2 with q | ⟨g, cap, cur, q1, q2, q3, q4⟩
  · exact .inl q
  · exact .inr ⟨g, cap, cur, q1, q2, hb.to q3 (h3 g cur q3), q4⟩
theorem Has.quiet {w w' : World} {E : Nat} {L : List Int} {rm : Bool} (h : Has w E L rm) (hb : But (fun _ => False) w w') : Has w' E L rm := h.step hb (by simp) (by simp)
theorem Has.of {w w' : World} {E : Nat} {L : List Int} {rm : Bool} (h : SeeI (fun _ => False) w E L false 0 rm w') : Has w' E L rm := by
  obtain ⟨v, q1, q2⟩ := h.eye
  exact ⟨v, _, q1, q2⟩
theorem Told.has {B : Nat} {w : World} {b : Nat} {L : List Int} (h : Told B w b L) : Has w b L false := by
  obtain ⟨v, C, q1, q2, -⟩ := h.eye
  exact ⟨v, C, q1, q2⟩
theorem not3 {w : World} {E : Nat} {cs : Array Value} {e : TypeId} (he : w.heap[E]? = some (.cells cs e (0, 0))) (h : e ≠ 3) : ∀ k cs', w.heap[k]? = some (.cells cs' 3 (0, 0)) → k ≠ E := fun k cs' hk e' => by
  rw [e', he] at hk; simp at hk; exact h hk.2

def eyeR : Obj := .cells (eyeCells (.slice none 0 0) false 0 true) 51
/-- y's block and the four eyes. -/
theorem alloc5 (v1 v2 : World) (o : Obj) (h : v2 = ((((v1.alloc o).alloc eyeR).alloc eyeR).alloc eyeR).alloc eyeR) :
    But (fun _ => False) v1 v2 ∧ v2.heap[v1.heap.size]? = some o ∧ v2.heap[v1.heap.size + 1]? = some eyeR ∧ v2.heap[v1.heap.size + 1 + 1]? = some eyeR ∧ v2.heap[v1.heap.size + 1 + 1 + 1]? = some eyeR ∧ v2.heap[v1.heap.size + 1 + 1 + 1 + 1]? = some eyeR ∧ v2.heap.size = v1.heap.size + 1 + 1 + 1 + 1 + 1 := by
  subst h
  have e : ∀ (w : World) (o : Obj) (k : Nat), (w.alloc o).heap[k]? = if k = w.heap.size then some o else w.heap[k]? := fun w o k => by
    show (w.heap.push o)[k]? = _
    rw [Array.getElem?_push]
  have es : ∀ (w : World) (o : Obj), (w.alloc o).heap.size = w.heap.size + 1 := fun w o => by simp
  refine ⟨((((But.refl _ _).alloc _).alloc _).alloc _).alloc _ |>.alloc _, ?_, ?_, ?_, ?_, ?_, by simp only [es]⟩
  · rw [e, if_neg (by simp only [es]; omega), e, if_neg (by simp only [es]; omega), e, if_neg (by simp only [es]; omega), e, if_neg (by simp only [es]; omega), e, if_pos rfl]
  · rw [e, if_neg (by simp only [es]; omega), e, if_neg (by simp only [es]; omega), e, if_neg (by simp only [es]; omega), e, if_pos (by simp only [es])]
  · rw [e, if_neg (by simp only [es]; omega), e, if_neg (by simp only [es]; omega), e, if_pos (by simp only [es])]
  · rw [e, if_neg (by simp only [es]; omega), e, if_pos (by simp only [es])]
  · rw [e, if_pos (by simp only [es])]
end Go.Proofs.YtjcgnogpmkgjkaaGreatDoor
end
section
namespace Go.Proofs.YtjcgnogpmkgjkaaGreatDoor
open Go.RowKit
set_option maxRecDepth 100000

theorem but_cell {S : Nat → Prop} {w w' : World} (h : But S w w') {p : Addr} {v : Value} (hv : w.cell? p = some v) (hn : ¬ S p.block) : w'.cell? p = some v :=
  (h.cell (World.block_lt_of_cell? w _ hv) hn).trans hv

theorem row5_row {w : World} {g n : Nat} {zs : List Int} (h : Row5 w g zs) (hn : zs.length = n) : ByteRow w g n :=
  ⟨_, h.1, fun i hi => ⟨zs.getD i 0, by simp [hn, hi], h.2 _ (by simp [hn, hi])⟩⟩

set_option maxHeartbeats 8000000 in
theorem apart_walk (W : World) (a b : Option Addr) (n c m d : Nat) (C0 : Nat) (zs ys : List Int) (hnc : n ≤ c) (hc : c ≤ maxLen) (ha : a = none → c = 0) (hz : zs.length = n) (hA : At W a zs)
    (hmd : m ≤ d) (hd : d ≤ maxLen) (hb : b = none → d = 0) (hy : ys.length = m) (hB : At W b ys)
    (hC : W.heap[C0]? = some (.cells #[.func (.func 7) #[] #[], .func (.func 11) #[] #[], .func (.func 14) #[] #[]] 37 (0, 0))) :
    Calls Tryz.prog 4 #[.agg #[.slice a n c, .slice b m d], .func (.func 5) #[] #[], .func (.func 6) #[] #[], .slice (some ⟨C0, 0, none⟩) 3 3] W fun e w' => e = .returned (.bool true) ∧ But (fun _ => False) W w' := by
  have u24 := Tryz.underlying24
  have c24 : Tryz.prog.cellsOf 24 = 2 := by kernel_rfl
  have u51 := Tryz.underlying51
  have c51 : Tryz.prog.cellsOf 51 = 5 := by kernel_rfl
  -- x's block and the first eye's
  obtain ⟨w1, hw1⟩ : ∃ w1, w1 = (W.alloc (.cells #[.slice a n c, .slice b m d] 24)).alloc (.cells (eyeCells (.slice none 0 0) false 0 false) 51) := ⟨_, rfl⟩
  have hs0 : (W.alloc (.cells #[.slice a n c, .slice b m d] 24)).heap.size = W.heap.size + 1 := by simp
  have hb1 : But (fun _ => False) W w1 := by rw [hw1]; exact ((But.refl _ _).alloc _).alloc _
  have x1 : w1.heap[W.heap.size]? = some (.cells #[.slice a n c, .slice b m d] 24 (0, 0)) := by rw [hw1, Below.heap_alloc _ _ _ (by simp)]; exact heap_alloc_new W _
  have f1 : w1.heap[W.heap.size + 1]? = some (.cells (eyeCells (.slice none 0 0) false 0 false) 51 (0, 0)) := by rw [hw1, ← hs0]; exact heap_alloc_new _ _
  have HW : (W.alloc (.cells #[.slice a n c, .slice b m d] 24)).alloc (.cells #[.slice none 0 0, .slice none 0 0, .bool false, .int .i64 0, .bool false] 51) = w1 := hw1.symm
  clear hw1
  have aW : ∀ {o : Option Addr} {xs : List Int}, At W o xs → (∀ ad, o = some ad → 0 < xs.length → ad.block < W.heap.size) := fun h ad e hl => by
    obtain ⟨ad', q1, q2⟩ := h.2 0 hl
    rw [e] at q1
    obtain rfl := Option.some.inj q1
    have := World.block_lt_of_cell? W _ q2
    rwa [add_block] at this
  go_enter Tryz.func4, Tryz.ntmps4
  go_wp2_with fail
  refine (see_read w1 (W.heap.size + 1) W.heap.size false f1 a b n c m d ((cell_of_row _ _ 0 _ _ _ x1).trans rfl) ((cell_of_row _ _ 1 _ _ _ x1).trans rfl) (by omega) hnc hc ha zs (by simpa using hz) (hA.but hb1 (by simp))
    (fun ad e hl => by have := aW hA ad e hl; omega) hmd hd hb ys (by simpa using hy) (hB.but hb1 (by simp)) (fun ad e hl => by have := aW hB ad e hl; omega)).mono ?_
  rintro e w2 ⟨rfl, hS⟩
  obtain ⟨v, hv, hown⟩ := hS.eye
  have hlen := seen_len (seen [] n zs) m ys
  rw [seen_len [] n zs] at hlen
  obtain ⟨o1, c1, rfl⟩ := ownsRow_form hown
  obtain ⟨L, hL⟩ : ∃ L, L = (seen (seen [] n zs) m ys).length := ⟨_, rfl⟩
  rw [← hL] at hv hlen
  have hb2 : But (fun _ => False) W w2 := hb1.trans hS.but (fun i hi h => by simp at h; omega)
  have x2 := hS.but.to x1 (by simp)
  obtain ⟨e0, e1, e2, e3, e4⟩ := eye_all hv
  clear hS hown hL x1 f1 HW hs0
  have hLs : L < 1000000 := by simp at hlen; omega
  have hLn : ¬ 2000 < L → n ≤ 2000 ∧ m ≤ 2000 := by simp at hlen; omega
  have HLn : Hid (¬ 2000 < L → n ≤ 2000 ∧ m ≤ 2000) := hLn
  have HZ : Hid (zs.length = n ∧ ys.length = m) := ⟨hz, hy⟩
  clear hlen hLn hz hy
  have GR := great_call w2 o1 L c1 false false 0 hLs
  unfold eyeCells at GR
  go_wp2_with fail
  refine GR.mono ?_
  rintro e w3 ⟨rfl, hb3⟩
  by_cases hg : 2000 < L
  · have hgd : decide (2000 < L) = true := by simpa using hg
    rw [hgd]
    clear hgd
    go_wp2_with fail
    go_ret
    exact ⟨rfl, hb2.trans hb3 (by simp)⟩
  · have hgd : decide (2000 < L) = false := by simpa using hg
    rw [hgd]
    obtain ⟨hn, hm⟩ := HLn.out hg
    have hbw : But (fun _ => False) W w3 := hb2.trans hb3 (by simp)
    have x3 := hb3.to x2 (by simp)
    clear hg GR hLs HLn e0 e1 e2 e3 e4 hv x2 hb3 hb2
    go_wp2_with fail
    have cW := lt_of_block hC
    go_loopw [10] (fun i wr => ∃ k : Nat, k ≤ 3 ∧ i = .int .i64 k ∧ But (fun _ => False) W wr ∧ wr.heap[W.heap.size]? = some (.cells #[.slice a n c, .slice b m d] 24 (0, 0))) (fun i _ => 3 - (intOf i).toNat)
    case atStart => exact ⟨0, by omega, rfl, hbw, x3⟩
    case round =>
      obtain ⟨k, hk, rfl, hbW, xr⟩ := hrel
      have cr := hbW.to hC (by simp)
      have y0 : wr.cell? ⟨W.heap.size, 0, none⟩ = some (.slice a n c) := (cell_of_row _ _ 0 _ _ _ xr).trans rfl
      have y1 : wr.cell? ⟨W.heap.size, 1, none⟩ = some (.slice b m d) := (cell_of_row _ _ 1 _ _ _ xr).trans rfl
      have hsz := hbW.size
      have OW := own_call wr a b n c m d zs ys HZ.out.1 hn ha (hA.but hbW (by simp)) HZ.out.2 hm hb (hB.but hbW (by simp))
      have lX := lt_of_block xr
      clear hbw x3 hA hB
      have hks : k = 0 ∨ k = 1 ∨ k = 2 ∨ k = 3 := by omega
      rcases hks with rfl | rfl | rfl | rfl
      · go_wp2_with fail
        refine OW.mono ?_
        rintro e v1 ⟨ga, gb, rfl, hga, hgb, hgab, ra, rb, hb1⟩
        clear OW
        obtain ⟨v2, hv2⟩ : ∃ v2, v2 = (((((v1.alloc (.cells #[.slice (some ⟨ga, 0, none⟩) n (n + 2), .slice (some ⟨gb, 0, none⟩) m (m + 2)] 24)).alloc (.cells #[.slice none 0 0, .slice none 0 0, .bool false, .int .i64 0, .bool true] 51)).alloc (.cells #[.slice none 0 0, .slice none 0 0, .bool false, .int .i64 0, .bool true] 51)).alloc (.cells #[.slice none 0 0, .slice none 0 0, .bool false, .int .i64 0, .bool true] 51)).alloc (.cells #[.slice none 0 0, .slice none 0 0, .bool false, .int .i64 0, .bool true] 51)) := ⟨_, rfl⟩
        obtain ⟨hb2, yy, k1, k2, k3, k4, sz2⟩ := alloc5 v1 v2 _ hv2
        have HV2 := hv2.symm
        clear hv2
        have hb12 := hb1.trans hb2 (by simp)
        have sc2 : Sc (.cells #[.slice a n c, .slice b m d] 24) W v2 v1.heap.size ga gb n m (zs ++ [0, 0]) (ys ++ [0, 0]) :=
          ⟨(hbW.trans hb1 (by simp)).trans hb2 (by simp), hb12.to xr (by simp), yy, (ra.at).but hb2 (by simp), (rb.at).but hb2 (by simp), by have := HZ.out.1; simp; omega, by have := HZ.out.2; simp; omega,
            (row5_row ra (by have := HZ.out.1; simp; omega)).keep hb2 (by simp), (row5_row rb (by have := HZ.out.2; simp; omega)).keep hb2 (by simp), hn, hm, by have := hb1.size; omega⟩
        have lt2 : ga < v1.heap.size ∧ gb < v1.heap.size := ⟨lt_of_block ra.1, lt_of_block rb.1⟩
        obtain ⟨Y, hY⟩ : ∃ Y, v1.heap.size = Y := ⟨_, rfl⟩
        rw [hY] at k1 k2 k3 k4 sz2 sc2 lt2 yy
        have cr2 := hb12.to cr (by simp)
        have hsY : wr.heap.size ≤ Y := by have := hb1.size; omega
        have lY := sc2.low
        obtain ⟨L0, hL0⟩ : ∃ L0, seen (seen [] n (zs ++ [0, 0])) m (ys ++ [0, 0]) = L0 := ⟨_, rfl⟩
        have nL0 : L0.length < 1000000 := by
          have q1 := (seen_length [] n (zs ++ [0, 0])).1
          have q2 := (seen_length (seen [] n (zs ++ [0, 0])) m (ys ++ [0, 0])).1
          rw [hL0] at q2; simp at q1; omega
        clear ra rb hb1 hb2 hb12 yy y0 y1 xr
        -- see(&was, &y)
        have S10 := see_read v2 (Y + 1) Y true k1 (some ⟨ga, 0, none⟩) (some ⟨gb, 0, none⟩) n (n + 2) m (m + 2) ((cell_of_row _ _ 0 _ _ _ sc2.y).trans rfl) ((cell_of_row _ _ 1 _ _ _ sc2.y).trans rfl) (by omega) (by omega) (by unfold maxLen; omega) (by simp) _ sc2.la sc2.a
          (fun ad e _ => by obtain rfl := Option.some.inj e; simp; omega) (by omega) (by unfold maxLen; omega) (by simp) _ sc2.lb sc2.b (fun ad e _ => by obtain rfl := Option.some.inj e; simp; omega)
        rw [hL0] at S10
        go_wp2_with fail
        refine S10.mono ?_
        rintro e v3 ⟨rfl, hS3⟩
        clear S10 HV2 hY
        have z3 := hS3.but.size
        have l3 := sc2.lt
        have sc3 := sc2.step hS3.but (by rintro (h | h) <;> first | omega | exact h) (by rintro (h | h) <;> first | omega | exact h) (by rintro (h | h) <;> first | omega | exact h) (by intro k hk; rintro (h | h) <;> first | omega | exact h)
        have h1 := Has.of hS3
        have e2 := hS3.but.to k2 (by rintro (h | h) <;> first | omega | exact h)
        have e3 := hS3.but.to k3 (by rintro (h | h) <;> first | omega | exact h)
        have e4 := hS3.but.to k4 (by rintro (h | h) <;> first | omega | exact h)
        have cl := lt_of_block cr
        have cr3 := hS3.but.to cr2 (by rintro (h | h) <;> first | omega | exact h)
        have d0 : v3.cell? ⟨C0, 0, none⟩ = some (.func (.func 7) #[] #[]) := (cell_of_row _ _ 0 _ _ _ cr3).trans rfl
        clear hS3 k1 k2 k3 k4 cr2
        -- l := calls[i](&y)
        have S11 := gives1 v3 Y ga gb n m _ _ sc3.pair
        go_wp2_with fail
        refine S11.mono ?_
        rintro e v4 ⟨G, A, rfl, hg, hb4⟩
        clear S11 d0 cr3
        have z4 := hb4.size
        have sc4 := sc3.quiet hb4
        have h1 := h1.quiet hb4
        have e2 := hb4.to e2 (by simp)
        have e3 := hb4.to e3 (by simp)
        have e4 := hb4.to e4 (by simp)
        have lG := lt_of_block hg.row
        have nG := hg.new
        clear sc3
        -- see(&is, &y)
        have S12 := see_read v4 (Y + 1 + 1) Y true e2 (some ⟨ga, 0, none⟩) (some ⟨gb, 0, none⟩) n (n + 2) m (m + 2) ((cell_of_row _ _ 0 _ _ _ sc4.y).trans rfl) ((cell_of_row _ _ 1 _ _ _ sc4.y).trans rfl) (by omega) (by omega) (by unfold maxLen; omega) (by simp) _ sc4.la sc4.a
          (fun ad e _ => by obtain rfl := Option.some.inj e; simp; omega) (by omega) (by unfold maxLen; omega) (by simp) _ sc4.lb sc4.b (fun ad e _ => by obtain rfl := Option.some.inj e; simp; omega)
        rw [hL0] at S12
        clear hL0 sc2
        go_wp2_with fail
        refine S12.mono ?_
        rintro e v5 ⟨rfl, hS5⟩
        clear S12
        have z5 := hS5.but.size
        have sc5 := sc4.step hS5.but (by rintro (h | h) <;> first | omega | exact h) (by rintro (h | h) <;> first | omega | exact h) (by rintro (h | h) <;> first | omega | exact h) (by intro k hk; rintro (h | h) <;> first | omega | exact h)
        have h2 := Has.of hS5
        have h1 := h1.step hS5.but (by rintro (h | h) <;> first | omega | exact h) (fun k cs hk => by have := not3 e2 (by decide) k cs hk; rintro (h | h) <;> first | omega | exact h)
        have e3 := hS5.but.to e3 (by rintro (h | h) <;> first | omega | exact h)
        have e4 := hS5.but.to e4 (by rintro (h | h) <;> first | omega | exact h)
        have gr5 := hS5.but.to hg.row (by rintro (h | h) <;> first | omega | exact h)
        have bb5 : But (fun k => k < v3.heap.size) v4 v5 := hS5.but.mono (fun i _ h => by rcases h with h | h <;> first | omega | exact h.elim)
        obtain ⟨⟨LL, hLL⟩, hM⟩ := hg.shows_
        clear hS5 sc4 hg e2
        -- told := look(l)
        have S13 := look9 (cell_of_one gr5) hLL bb5
        have g0 := cell_of_one gr5
        go_wp2_with fail
        refine S13.mono ?_
        rintro e v6 ⟨t1, rfl, hb6, ht1⟩
        clear S13 g0
        have z6 := hb6.size
        have sc6 := sc5.quiet hb6
        have h1 := h1.quiet hb6
        have h2 := h2.quiet hb6
        have hT := ht1.has
        have nt1 := ht1.new
        have e3 := hb6.to e3 (by simp)
        have e4 := hb6.to e4 (by simp)
        have gr6 := hb6.to gr5 (by simp)
        have bb6 := bb5.trans hb6 (by simp)
        have lt1 : t1 < v6.heap.size := by obtain ⟨_, _, q, _⟩ := ht1.eye; exact lt_of_block q
        clear sc5 gr5 bb5 hb6 ht1
        -- see(&eye{mark, room}, &y)
        obtain ⟨v7, hv7⟩ : ∃ v7, v6.alloc (.cells #[.slice none 0 0, .slice none 0 0, .bool true, .int .i64 0, .bool true] 51) = v7 := ⟨_, rfl⟩
        obtain ⟨E5, hE5⟩ : ∃ E5, v6.heap.size = E5 := ⟨_, rfl⟩
        have em : v7.heap[E5]? = some (.cells (eyeCells (.slice none 0 0) true 0 true) 51 (0, 0)) := by rw [← hv7, ← hE5]; exact heap_alloc_new _ _
        have hb7 : But (fun _ => False) v6 v7 := by rw [← hv7]; exact (But.refl _ _).alloc _
        have sc7 := sc6.quiet hb7
        have l7 := sc7.lt
        have z7 := hb7.size
        have S14 := see_mark v7 E5 Y ga gb n m em sc7.y hn hm sc7.ra sc7.rb
        go_wp2_with fail
        refine S14.mono ?_
        rintro e v8 ⟨rfl, hb8, ra8, rb8⟩
        clear S14 hv7
        have z8 := hb8.size
        obtain ⟨zs2, ys2, sc8⟩ := sc7.marked hb8 ra8 rb8 (by omega) (by omega)
        have n3 : ∀ k cs, v7.heap[k]? = some (.cells cs 3 (0, 0)) → ¬ (k = E5 ∨ k = ga ∨ k = gb) := fun k cs hk => by
          have q1 := not3 em (by decide) k cs hk
          obtain ⟨_, qa, -⟩ := sc7.ra
          obtain ⟨_, qb, -⟩ := sc7.rb
          have q2 := not3 qa (by decide) k cs hk
          have q3 := not3 qb (by decide) k cs hk
          omega
        have h1 := (h1.quiet hb7).step hb8 (by omega) n3
        have h2 := (h2.quiet hb7).step hb8 (by omega) n3
        have hT := (hT.quiet hb7).step hb8 (by omega) n3
        have e3 := hb8.to (hb7.to e3 (by simp)) (by omega)
        have e4 := hb8.to (hb7.to e4 (by simp)) (by omega)
        have gr8 := hb8.to (hb7.to gr6 (by simp)) (by omega)
        have bb8 := (bb6.trans hb7 (by simp)).trans hb8 (fun i hi h => by omega)
        clear sc6 sc7 gr6 bb6 hb7 hb8 ra8 rb8 n3 em
        -- was.same(is), alike(told, look(l), -1)
        obtain ⟨va, Ca, ha1, ha2⟩ := h1
        obtain ⟨vb, Cb, hc1, hc2⟩ := h2
        have SM := same_call v8 L0 va vb Ca Cb false true false true 0 0 nL0 ha2 hc2
        unfold eyeCells at SM
        obtain ⟨p0, p1, p2, p3, p4⟩ := eye_all ha1
        obtain ⟨q0, q1, q2, q3, q4⟩ := eye_all hc1
        clear ha1 ha2 hc1 hc2
        go_wp2_with fail
        refine SM.mono ?_
        rintro e v9 ⟨rfl, hb9⟩
        clear SM p0 p1 p2 p3 p4 q0 q1 q2 q3 q4
        have gr9 := hb9.to gr8 (by simp)
        have bb9 := bb8.trans hb9 (by simp)
        have S9 := look9 (cell_of_one gr9) hLL bb9
        go_wp2_with fail
        refine S9.mono ?_
        rintro e v10 ⟨t2, rfl, hb10, ht2⟩
        clear S9
        obtain ⟨w1a, C1a, qa1, qa2⟩ := (hT.quiet hb9).quiet hb10
        obtain ⟨w2a, C2a, qb1, qb2⟩ := ht2.has
        have nLL : LL.length < 1000000 := by have := hLL.1; omega
        have AL := alike_call v10 t1 t2 LL w1a w2a C1a C2a false false false false 0 0 nLL qa1 qb1 qa2 qb2
        clear qa1 qa2 qb1 qb2 hT ht2
        go_wp2_with fail
        refine AL.mono ?_
        rintro e v11 ⟨rfl, hb11⟩
        clear AL
        have hb811 := (hb9.trans hb10 (by simp)).trans hb11 (by simp)
        have z11 := hb811.size
        have sc11 := sc8.quiet hb811
        have e3 := hb811.to e3 (by simp)
        have e4 := hb811.to e4 (by simp)
        have gr11 := hb811.to gr8 (by simp)
        have bb11 := bb8.trans hb811 (by simp)
        clear hb9 hb10 hb11 hb811 sc8 gr8 gr9 bb8 bb9
        -- see(&over, &y)
        obtain ⟨L1, hL1⟩ : ∃ L1, seen (seen [] n zs2) m ys2 = L1 := ⟨_, rfl⟩
        have nL1 : L1.length < 1000000 := by
          have q1 := (seen_length [] n zs2).1
          have q2 := (seen_length (seen [] n zs2) m ys2).1
          rw [hL1] at q2; simp at q1; omega
        have S17 := see_read v11 (Y + 1 + 1 + 1) Y true e3 (some ⟨ga, 0, none⟩) (some ⟨gb, 0, none⟩) n (n + 2) m (m + 2) ((cell_of_row _ _ 0 _ _ _ sc11.y).trans rfl) ((cell_of_row _ _ 1 _ _ _ sc11.y).trans rfl) (by omega) (by omega) (by unfold maxLen; omega) (by simp) _ sc11.la sc11.a
          (fun ad e _ => by obtain rfl := Option.some.inj e; simp; omega) (by omega) (by unfold maxLen; omega) (by simp) _ sc11.lb sc11.b (fun ad e _ => by obtain rfl := Option.some.inj e; simp; omega)
        rw [hL1] at S17
        go_wp2_with fail
        refine S17.mono ?_
        rintro e v12 ⟨rfl, hS12⟩
        clear S17
        have z12 := hS12.but.size
        have sc12 := sc11.step hS12.but (by rintro (h | h) <;> first | omega | exact h) (by rintro (h | h) <;> first | omega | exact h) (by rintro (h | h) <;> first | omega | exact h) (by intro k hk; rintro (h | h) <;> first | omega | exact h)
        have h3 := Has.of hS12
        have e4 := hS12.but.to e4 (by rintro (h | h) <;> first | omega | exact h)
        have gr12 := hS12.but.to gr11 (by rintro (h | h) <;> first | omega | exact h)
        have bb12 := bb11.trans hS12.but (fun i hi h => by rcases h with h | h <;> first | omega | exact h.elim)
        clear hS12 sc11 gr11 bb11 e3
        -- the loop over the results: one of them
        have S21 := look9 (cell_of_one gr12) hLL bb12
        go_wp2_with fail
        refine wp_loop_rounds 2 ?_
        rw [rounds_succ]
        go_wp2_with fail
        refine S21.mono ?_
        rintro e v13 ⟨t3, rfl, hb13, -⟩
        clear S21
        have z13 := hb13.size
        obtain ⟨v14, hv14⟩ : ∃ v14, v13.alloc (.cells #[.slice none 0 0, .slice none 0 0, .bool true, .int .i64 1000000, .bool false] 51) = v14 := ⟨_, rfl⟩
        obtain ⟨E6, hE6⟩ : ∃ E6, v13.heap.size = E6 := ⟨_, rfl⟩
        have em : v14.heap[E6]? = some (.cells (eyeCells (.slice none 0 0) true 1000000 false) 51 (0, 0)) := by rw [← hv14, ← hE6]; exact heap_alloc_new _ _
        have hb14 : But (fun _ => False) v12 v14 := by rw [← hv14]; exact hb13.alloc _
        have bb14 := bb12.trans hb14 (by simp)
        have gr13 := hb13.to gr12 (by simp)
        have g13 := cell_of_one gr13
        have S22 := hM v14 bb14 E6 1000000 (by omega) (by omega) (by omega) em
        go_wp2_with fail
        refine S22.mono ?_
        rintro e v15 ⟨rfl, hb15, L', hL'⟩
        clear S22 hv14 g13 gr13 hM hLL
        have z14 := hb14.size
        have z15 := hb15.size
        have hG5 : ∀ {k : Nat} {cs : Array Value} {e : TypeId}, v14.heap[k]? = some (.cells cs e (0, 0)) → e ≠ 5 → k ≠ E6 → ¬ (k = E6 ∨ (v3.heap.size ≤ k ∧ ∃ cs fr, v14.heap[k]? = some (.cells cs 5 fr))) := by
          rintro k cs e' hk h5 hne (h | ⟨-, cs', fr', h⟩)
          · exact hne h
          · rw [hk] at h; simp at h; exact h5 h.2.1
        have gr14 := hb14.to gr12 (by simp)
        have gr15 := hb15.to gr14 (hG5 gr14 (by decide) (by omega))
        have e14 := hb14.to e4 (by simp)
        have e4 := hb15.to e14 (hG5 e14 (by decide) (by omega))
        have sc14 := sc12.quiet hb14
        have sc15 := sc14.step hb15 (by omega) (by omega) (by omega) (by intro k hk; omega)
        have h3 := (h3.quiet hb14).step hb15 (by omega) (fun k cs hk => hG5 hk (by decide) (not3 em (by decide) k cs hk))
        clear hb13 hb14 hb15 sc12 sc14 gr12 bb12 bb14 e14 gr14 hG5 em
        have S23 := look9 (cell_of_one gr15) hL' (But.refl _ _)
        go_wp2_with fail
        refine S23.mono ?_
        rintro e v16 ⟨t4, rfl, hb16, -⟩
        clear S23
        have AS := alike_self v16 t3 t4
        go_wp2_with fail
        refine AS.mono ?_
        rintro e v17 ⟨rfl, hb17⟩
        clear AS
        have hb1517 := hb16.trans hb17 (by simp)
        have sc17 := sc15.quiet hb1517
        have e4 := hb1517.to e4 (by simp)
        have h3 := h3.quiet hb1517
        have z17 := hb1517.size
        clear hb16 hb17 hb1517 sc15 gr15 hL'
        -- see(&gone, &y), over.same(gone)
        have S25 := see_read v17 (Y + 1 + 1 + 1 + 1) Y true e4 (some ⟨ga, 0, none⟩) (some ⟨gb, 0, none⟩) n (n + 2) m (m + 2) ((cell_of_row _ _ 0 _ _ _ sc17.y).trans rfl) ((cell_of_row _ _ 1 _ _ _ sc17.y).trans rfl) (by omega) (by omega) (by unfold maxLen; omega) (by simp) _ sc17.la sc17.a
          (fun ad e _ => by obtain rfl := Option.some.inj e; simp; omega) (by omega) (by unfold maxLen; omega) (by simp) _ sc17.lb sc17.b (fun ad e _ => by obtain rfl := Option.some.inj e; simp; omega)
        rw [hL1] at S25
        clear hL1
        go_wp2_with fail
        rw [rounds_succ]
        go_wp2_with fail
        refine S25.mono ?_
        rintro e v18 ⟨rfl, hS18⟩
        clear S25
        have h3 := h3.step hS18.but (by rintro (h | h) <;> first | omega | exact h) (fun k cs hk => by have := not3 e4 (by decide) k cs hk; rintro (h | h) <;> first | omega | exact h)
        have h4 := Has.of hS18
        have sc18 := sc17.step hS18.but (by rintro (h | h) <;> first | omega | exact h) (by rintro (h | h) <;> first | omega | exact h) (by rintro (h | h) <;> first | omega | exact h) (by intro k hk; rintro (h | h) <;> first | omega | exact h)
        obtain ⟨va, Ca, ha1, ha2⟩ := h3
        obtain ⟨vb, Cb, hc1, hc2⟩ := h4
        have SM := same_call v18 L1 va vb Ca Cb false true false true 0 0 nL1 ha2 hc2
        unfold eyeCells at SM
        obtain ⟨p0, p1, p2, p3, p4⟩ := eye_all ha1
        obtain ⟨q0, q1, q2, q3, q4⟩ := eye_all hc1
        clear ha1 ha2 hc1 hc2 hS18 sc17 e4
        go_wp2_with fail
        refine SM.mono ?_
        rintro e v19 ⟨rfl, hb19⟩
        clear SM p0 p1 p2 p3 p4 q0 q1 q2 q3 q4
        have sc19 := sc18.quiet hb19
        go_wp2_with fail
        go_roundw
        case rel => exact ⟨0 + 1, by omega, by go_num, sc19.all, sc19.x⟩
        case measure => simp [intOf]
      · go_wp2_with fail
        refine OW.mono ?_
        rintro e v1 ⟨ga, gb, rfl, hga, hgb, hgab, ra, rb, hb1⟩
        clear OW
        obtain ⟨v2, hv2⟩ : ∃ v2, v2 = (((((v1.alloc (.cells #[.slice (some ⟨ga, 0, none⟩) n (n + 2), .slice (some ⟨gb, 0, none⟩) m (m + 2)] 24)).alloc (.cells #[.slice none 0 0, .slice none 0 0, .bool false, .int .i64 0, .bool true] 51)).alloc (.cells #[.slice none 0 0, .slice none 0 0, .bool false, .int .i64 0, .bool true] 51)).alloc (.cells #[.slice none 0 0, .slice none 0 0, .bool false, .int .i64 0, .bool true] 51)).alloc (.cells #[.slice none 0 0, .slice none 0 0, .bool false, .int .i64 0, .bool true] 51)) := ⟨_, rfl⟩
        obtain ⟨hb2, yy, k1, k2, k3, k4, sz2⟩ := alloc5 v1 v2 _ hv2
        have HV2 := hv2.symm
        clear hv2
        have hb12 := hb1.trans hb2 (by simp)
        have sc2 : Sc (.cells #[.slice a n c, .slice b m d] 24) W v2 v1.heap.size ga gb n m (zs ++ [0, 0]) (ys ++ [0, 0]) :=
          ⟨(hbW.trans hb1 (by simp)).trans hb2 (by simp), hb12.to xr (by simp), yy, (ra.at).but hb2 (by simp), (rb.at).but hb2 (by simp), by have := HZ.out.1; simp; omega, by have := HZ.out.2; simp; omega,
            (row5_row ra (by have := HZ.out.1; simp; omega)).keep hb2 (by simp), (row5_row rb (by have := HZ.out.2; simp; omega)).keep hb2 (by simp), hn, hm, by have := hb1.size; omega⟩
        have lt2 : ga < v1.heap.size ∧ gb < v1.heap.size := ⟨lt_of_block ra.1, lt_of_block rb.1⟩
        obtain ⟨Y, hY⟩ : ∃ Y, v1.heap.size = Y := ⟨_, rfl⟩
        rw [hY] at k1 k2 k3 k4 sz2 sc2 lt2 yy
        have cr2 := hb12.to cr (by simp)
        have hsY : wr.heap.size ≤ Y := by have := hb1.size; omega
        have lY := sc2.low
        obtain ⟨L0, hL0⟩ : ∃ L0, seen (seen [] n (zs ++ [0, 0])) m (ys ++ [0, 0]) = L0 := ⟨_, rfl⟩
        have nL0 : L0.length < 1000000 := by
          have q1 := (seen_length [] n (zs ++ [0, 0])).1
          have q2 := (seen_length (seen [] n (zs ++ [0, 0])) m (ys ++ [0, 0])).1
          rw [hL0] at q2; simp at q1; omega
        clear ra rb hb1 hb2 hb12 yy y0 y1 xr
        -- see(&was, &y)
        have S10 := see_read v2 (Y + 1) Y true k1 (some ⟨ga, 0, none⟩) (some ⟨gb, 0, none⟩) n (n + 2) m (m + 2) ((cell_of_row _ _ 0 _ _ _ sc2.y).trans rfl) ((cell_of_row _ _ 1 _ _ _ sc2.y).trans rfl) (by omega) (by omega) (by unfold maxLen; omega) (by simp) _ sc2.la sc2.a
          (fun ad e _ => by obtain rfl := Option.some.inj e; simp; omega) (by omega) (by unfold maxLen; omega) (by simp) _ sc2.lb sc2.b (fun ad e _ => by obtain rfl := Option.some.inj e; simp; omega)
        rw [hL0] at S10
        go_wp2_with fail
        refine S10.mono ?_
        rintro e v3 ⟨rfl, hS3⟩
        clear S10 HV2 hY
        have z3 := hS3.but.size
        have l3 := sc2.lt
        have sc3 := sc2.step hS3.but (by rintro (h | h) <;> first | omega | exact h) (by rintro (h | h) <;> first | omega | exact h) (by rintro (h | h) <;> first | omega | exact h) (by intro k hk; rintro (h | h) <;> first | omega | exact h)
        have h1 := Has.of hS3
        have e2 := hS3.but.to k2 (by rintro (h | h) <;> first | omega | exact h)
        have e3 := hS3.but.to k3 (by rintro (h | h) <;> first | omega | exact h)
        have e4 := hS3.but.to k4 (by rintro (h | h) <;> first | omega | exact h)
        have cl := lt_of_block cr
        have cr3 := hS3.but.to cr2 (by rintro (h | h) <;> first | omega | exact h)
        have d0 : v3.cell? ⟨C0, 1, none⟩ = some (.func (.func 11) #[] #[]) := (cell_of_row _ _ 1 _ _ _ cr3).trans rfl
        clear hS3 k1 k2 k3 k4 cr2
        -- l := calls[i](&y)
        have S11 := gives2 v3 Y ga gb n m _ _ sc3.pair
        go_wp2_with fail
        refine S11.mono ?_
        rintro e v4 ⟨G, A, rfl, hg, hb4⟩
        clear S11 d0 cr3
        have z4 := hb4.size
        have sc4 := sc3.quiet hb4
        have h1 := h1.quiet hb4
        have e2 := hb4.to e2 (by simp)
        have e3 := hb4.to e3 (by simp)
        have e4 := hb4.to e4 (by simp)
        have lG := lt_of_block hg.row
        have nG := hg.new
        clear sc3
        -- see(&is, &y)
        have S12 := see_read v4 (Y + 1 + 1) Y true e2 (some ⟨ga, 0, none⟩) (some ⟨gb, 0, none⟩) n (n + 2) m (m + 2) ((cell_of_row _ _ 0 _ _ _ sc4.y).trans rfl) ((cell_of_row _ _ 1 _ _ _ sc4.y).trans rfl) (by omega) (by omega) (by unfold maxLen; omega) (by simp) _ sc4.la sc4.a
          (fun ad e _ => by obtain rfl := Option.some.inj e; simp; omega) (by omega) (by unfold maxLen; omega) (by simp) _ sc4.lb sc4.b (fun ad e _ => by obtain rfl := Option.some.inj e; simp; omega)
        rw [hL0] at S12
        clear hL0 sc2
        go_wp2_with fail
        refine S12.mono ?_
        rintro e v5 ⟨rfl, hS5⟩
        clear S12
        have z5 := hS5.but.size
        have sc5 := sc4.step hS5.but (by rintro (h | h) <;> first | omega | exact h) (by rintro (h | h) <;> first | omega | exact h) (by rintro (h | h) <;> first | omega | exact h) (by intro k hk; rintro (h | h) <;> first | omega | exact h)
        have h2 := Has.of hS5
        have h1 := h1.step hS5.but (by rintro (h | h) <;> first | omega | exact h) (fun k cs hk => by have := not3 e2 (by decide) k cs hk; rintro (h | h) <;> first | omega | exact h)
        have e3 := hS5.but.to e3 (by rintro (h | h) <;> first | omega | exact h)
        have e4 := hS5.but.to e4 (by rintro (h | h) <;> first | omega | exact h)
        have gr5 := hS5.but.to hg.row (by rintro (h | h) <;> first | omega | exact h)
        have bb5 : But (fun k => k < v3.heap.size) v4 v5 := hS5.but.mono (fun i _ h => by rcases h with h | h <;> first | omega | exact h.elim)
        obtain ⟨⟨LL, hLL⟩, hM⟩ := hg.shows_
        clear hS5 sc4 hg e2
        -- told := look(l)
        have S13 := look13 (cell_of_one gr5) hLL bb5
        have g0 := cell_of_one gr5
        go_wp2_with fail
        refine S13.mono ?_
        rintro e v6 ⟨t1, rfl, hb6, ht1⟩
        clear S13 g0
        have z6 := hb6.size
        have sc6 := sc5.quiet hb6
        have h1 := h1.quiet hb6
        have h2 := h2.quiet hb6
        have hT := ht1.has
        have nt1 := ht1.new
        have e3 := hb6.to e3 (by simp)
        have e4 := hb6.to e4 (by simp)
        have gr6 := hb6.to gr5 (by simp)
        have bb6 := bb5.trans hb6 (by simp)
        have lt1 : t1 < v6.heap.size := by obtain ⟨_, _, q, _⟩ := ht1.eye; exact lt_of_block q
        clear sc5 gr5 bb5 hb6 ht1
        -- see(&eye{mark, room}, &y)
        obtain ⟨v7, hv7⟩ : ∃ v7, v6.alloc (.cells #[.slice none 0 0, .slice none 0 0, .bool true, .int .i64 0, .bool true] 51) = v7 := ⟨_, rfl⟩
        obtain ⟨E5, hE5⟩ : ∃ E5, v6.heap.size = E5 := ⟨_, rfl⟩
        have em : v7.heap[E5]? = some (.cells (eyeCells (.slice none 0 0) true 0 true) 51 (0, 0)) := by rw [← hv7, ← hE5]; exact heap_alloc_new _ _
        have hb7 : But (fun _ => False) v6 v7 := by rw [← hv7]; exact (But.refl _ _).alloc _
        have sc7 := sc6.quiet hb7
        have l7 := sc7.lt
        have z7 := hb7.size
        have S14 := see_mark v7 E5 Y ga gb n m em sc7.y hn hm sc7.ra sc7.rb
        go_wp2_with fail
        refine S14.mono ?_
        rintro e v8 ⟨rfl, hb8, ra8, rb8⟩
        clear S14 hv7
        have z8 := hb8.size
        obtain ⟨zs2, ys2, sc8⟩ := sc7.marked hb8 ra8 rb8 (by omega) (by omega)
        have n3 : ∀ k cs, v7.heap[k]? = some (.cells cs 3 (0, 0)) → ¬ (k = E5 ∨ k = ga ∨ k = gb) := fun k cs hk => by
          have q1 := not3 em (by decide) k cs hk
          obtain ⟨_, qa, -⟩ := sc7.ra
          obtain ⟨_, qb, -⟩ := sc7.rb
          have q2 := not3 qa (by decide) k cs hk
          have q3 := not3 qb (by decide) k cs hk
          omega
        have h1 := (h1.quiet hb7).step hb8 (by omega) n3
        have h2 := (h2.quiet hb7).step hb8 (by omega) n3
        have hT := (hT.quiet hb7).step hb8 (by omega) n3
        have e3 := hb8.to (hb7.to e3 (by simp)) (by omega)
        have e4 := hb8.to (hb7.to e4 (by simp)) (by omega)
        have gr8 := hb8.to (hb7.to gr6 (by simp)) (by omega)
        have bb8 := (bb6.trans hb7 (by simp)).trans hb8 (fun i hi h => by omega)
        clear sc6 sc7 gr6 bb6 hb7 hb8 ra8 rb8 n3 em
        -- was.same(is), alike(told, look(l), -1)
        obtain ⟨va, Ca, ha1, ha2⟩ := h1
        obtain ⟨vb, Cb, hc1, hc2⟩ := h2
        have SM := same_call v8 L0 va vb Ca Cb false true false true 0 0 nL0 ha2 hc2
        unfold eyeCells at SM
        obtain ⟨p0, p1, p2, p3, p4⟩ := eye_all ha1
        obtain ⟨q0, q1, q2, q3, q4⟩ := eye_all hc1
        clear ha1 ha2 hc1 hc2
        go_wp2_with fail
        refine SM.mono ?_
        rintro e v9 ⟨rfl, hb9⟩
        clear SM p0 p1 p2 p3 p4 q0 q1 q2 q3 q4
        have gr9 := hb9.to gr8 (by simp)
        have bb9 := bb8.trans hb9 (by simp)
        have S9 := look13 (cell_of_one gr9) hLL bb9
        go_wp2_with fail
        refine S9.mono ?_
        rintro e v10 ⟨t2, rfl, hb10, ht2⟩
        clear S9
        obtain ⟨w1a, C1a, qa1, qa2⟩ := (hT.quiet hb9).quiet hb10
        obtain ⟨w2a, C2a, qb1, qb2⟩ := ht2.has
        have nLL : LL.length < 1000000 := by have := hLL.1; omega
        have AL := alike_call v10 t1 t2 LL w1a w2a C1a C2a false false false false 0 0 nLL qa1 qb1 qa2 qb2
        clear qa1 qa2 qb1 qb2 hT ht2
        go_wp2_with fail
        refine AL.mono ?_
        rintro e v11 ⟨rfl, hb11⟩
        clear AL
        have hb811 := (hb9.trans hb10 (by simp)).trans hb11 (by simp)
        have z11 := hb811.size
        have sc11 := sc8.quiet hb811
        have e3 := hb811.to e3 (by simp)
        have e4 := hb811.to e4 (by simp)
        have gr11 := hb811.to gr8 (by simp)
        have bb11 := bb8.trans hb811 (by simp)
        clear hb9 hb10 hb11 hb811 sc8 gr8 gr9 bb8 bb9
        -- see(&over, &y)
        obtain ⟨L1, hL1⟩ : ∃ L1, seen (seen [] n zs2) m ys2 = L1 := ⟨_, rfl⟩
        have nL1 : L1.length < 1000000 := by
          have q1 := (seen_length [] n zs2).1
          have q2 := (seen_length (seen [] n zs2) m ys2).1
          rw [hL1] at q2; simp at q1; omega
        have S17 := see_read v11 (Y + 1 + 1 + 1) Y true e3 (some ⟨ga, 0, none⟩) (some ⟨gb, 0, none⟩) n (n + 2) m (m + 2) ((cell_of_row _ _ 0 _ _ _ sc11.y).trans rfl) ((cell_of_row _ _ 1 _ _ _ sc11.y).trans rfl) (by omega) (by omega) (by unfold maxLen; omega) (by simp) _ sc11.la sc11.a
          (fun ad e _ => by obtain rfl := Option.some.inj e; simp; omega) (by omega) (by unfold maxLen; omega) (by simp) _ sc11.lb sc11.b (fun ad e _ => by obtain rfl := Option.some.inj e; simp; omega)
        rw [hL1] at S17
        go_wp2_with fail
        refine S17.mono ?_
        rintro e v12 ⟨rfl, hS12⟩
        clear S17
        have z12 := hS12.but.size
        have sc12 := sc11.step hS12.but (by rintro (h | h) <;> first | omega | exact h) (by rintro (h | h) <;> first | omega | exact h) (by rintro (h | h) <;> first | omega | exact h) (by intro k hk; rintro (h | h) <;> first | omega | exact h)
        have h3 := Has.of hS12
        have e4 := hS12.but.to e4 (by rintro (h | h) <;> first | omega | exact h)
        have gr12 := hS12.but.to gr11 (by rintro (h | h) <;> first | omega | exact h)
        have bb12 := bb11.trans hS12.but (fun i hi h => by rcases h with h | h <;> first | omega | exact h.elim)
        clear hS12 sc11 gr11 bb11 e3
        -- the loop over the results: one of them
        have S21 := look13 (cell_of_one gr12) hLL bb12
        go_wp2_with fail
        refine wp_loop_rounds 2 ?_
        rw [rounds_succ]
        go_wp2_with fail
        refine S21.mono ?_
        rintro e v13 ⟨t3, rfl, hb13, -⟩
        clear S21
        have z13 := hb13.size
        obtain ⟨v14, hv14⟩ : ∃ v14, v13.alloc (.cells #[.slice none 0 0, .slice none 0 0, .bool true, .int .i64 1000000, .bool false] 51) = v14 := ⟨_, rfl⟩
        obtain ⟨E6, hE6⟩ : ∃ E6, v13.heap.size = E6 := ⟨_, rfl⟩
        have em : v14.heap[E6]? = some (.cells (eyeCells (.slice none 0 0) true 1000000 false) 51 (0, 0)) := by rw [← hv14, ← hE6]; exact heap_alloc_new _ _
        have hb14 : But (fun _ => False) v12 v14 := by rw [← hv14]; exact hb13.alloc _
        have bb14 := bb12.trans hb14 (by simp)
        have gr13 := hb13.to gr12 (by simp)
        have g13 := cell_of_one gr13
        have S22 := hM v14 bb14 E6 1000000 (by omega) (by omega) (by omega) em
        go_wp2_with fail
        refine S22.mono ?_
        rintro e v15 ⟨rfl, hb15, L', hL'⟩
        clear S22 hv14 g13 gr13 hM hLL
        have z14 := hb14.size
        have z15 := hb15.size
        have hG5 : ∀ {k : Nat} {cs : Array Value} {e : TypeId}, v14.heap[k]? = some (.cells cs e (0, 0)) → e ≠ 5 → k ≠ E6 → ¬ (k = E6 ∨ (v3.heap.size ≤ k ∧ ∃ cs fr, v14.heap[k]? = some (.cells cs 5 fr))) := by
          rintro k cs e' hk h5 hne (h | ⟨-, cs', fr', h⟩)
          · exact hne h
          · rw [hk] at h; simp at h; exact h5 h.2.1
        have gr14 := hb14.to gr12 (by simp)
        have gr15 := hb15.to gr14 (hG5 gr14 (by decide) (by omega))
        have e14 := hb14.to e4 (by simp)
        have e4 := hb15.to e14 (hG5 e14 (by decide) (by omega))
        have sc14 := sc12.quiet hb14
        have sc15 := sc14.step hb15 (by omega) (by omega) (by omega) (by intro k hk; omega)
        have h3 := (h3.quiet hb14).step hb15 (by omega) (fun k cs hk => hG5 hk (by decide) (not3 em (by decide) k cs hk))
        clear hb13 hb14 hb15 sc12 sc14 gr12 bb12 bb14 e14 gr14 hG5 em
        have S23 := look13 (cell_of_one gr15) hL' (But.refl _ _)
        go_wp2_with fail
        refine S23.mono ?_
        rintro e v16 ⟨t4, rfl, hb16, -⟩
        clear S23
        have AS := alike_self v16 t3 t4
        go_wp2_with fail
        refine AS.mono ?_
        rintro e v17 ⟨rfl, hb17⟩
        clear AS
        have hb1517 := hb16.trans hb17 (by simp)
        have sc17 := sc15.quiet hb1517
        have e4 := hb1517.to e4 (by simp)
        have h3 := h3.quiet hb1517
        have z17 := hb1517.size
        clear hb16 hb17 hb1517 sc15 gr15 hL'
        -- see(&gone, &y), over.same(gone)
        have S25 := see_read v17 (Y + 1 + 1 + 1 + 1) Y true e4 (some ⟨ga, 0, none⟩) (some ⟨gb, 0, none⟩) n (n + 2) m (m + 2) ((cell_of_row _ _ 0 _ _ _ sc17.y).trans rfl) ((cell_of_row _ _ 1 _ _ _ sc17.y).trans rfl) (by omega) (by omega) (by unfold maxLen; omega) (by simp) _ sc17.la sc17.a
          (fun ad e _ => by obtain rfl := Option.some.inj e; simp; omega) (by omega) (by unfold maxLen; omega) (by simp) _ sc17.lb sc17.b (fun ad e _ => by obtain rfl := Option.some.inj e; simp; omega)
        rw [hL1] at S25
        clear hL1
        go_wp2_with fail
        rw [rounds_succ]
        go_wp2_with fail
        refine S25.mono ?_
        rintro e v18 ⟨rfl, hS18⟩
        clear S25
        have h3 := h3.step hS18.but (by rintro (h | h) <;> first | omega | exact h) (fun k cs hk => by have := not3 e4 (by decide) k cs hk; rintro (h | h) <;> first | omega | exact h)
        have h4 := Has.of hS18
        have sc18 := sc17.step hS18.but (by rintro (h | h) <;> first | omega | exact h) (by rintro (h | h) <;> first | omega | exact h) (by rintro (h | h) <;> first | omega | exact h) (by intro k hk; rintro (h | h) <;> first | omega | exact h)
        obtain ⟨va, Ca, ha1, ha2⟩ := h3
        obtain ⟨vb, Cb, hc1, hc2⟩ := h4
        have SM := same_call v18 L1 va vb Ca Cb false true false true 0 0 nL1 ha2 hc2
        unfold eyeCells at SM
        obtain ⟨p0, p1, p2, p3, p4⟩ := eye_all ha1
        obtain ⟨q0, q1, q2, q3, q4⟩ := eye_all hc1
        clear ha1 ha2 hc1 hc2 hS18 sc17 e4
        go_wp2_with fail
        refine SM.mono ?_
        rintro e v19 ⟨rfl, hb19⟩
        clear SM p0 p1 p2 p3 p4 q0 q1 q2 q3 q4
        have sc19 := sc18.quiet hb19
        go_wp2_with fail
        go_roundw
        case rel => exact ⟨1 + 1, by omega, by go_num, sc19.all, sc19.x⟩
        case measure => simp [intOf]
      · go_wp2_with fail
        refine OW.mono ?_
        rintro e v1 ⟨ga, gb, rfl, hga, hgb, hgab, ra, rb, hb1⟩
        clear OW
        obtain ⟨v2, hv2⟩ : ∃ v2, v2 = (((((v1.alloc (.cells #[.slice (some ⟨ga, 0, none⟩) n (n + 2), .slice (some ⟨gb, 0, none⟩) m (m + 2)] 24)).alloc (.cells #[.slice none 0 0, .slice none 0 0, .bool false, .int .i64 0, .bool true] 51)).alloc (.cells #[.slice none 0 0, .slice none 0 0, .bool false, .int .i64 0, .bool true] 51)).alloc (.cells #[.slice none 0 0, .slice none 0 0, .bool false, .int .i64 0, .bool true] 51)).alloc (.cells #[.slice none 0 0, .slice none 0 0, .bool false, .int .i64 0, .bool true] 51)) := ⟨_, rfl⟩
        obtain ⟨hb2, yy, k1, k2, k3, k4, sz2⟩ := alloc5 v1 v2 _ hv2
        have HV2 := hv2.symm
        clear hv2
        have hb12 := hb1.trans hb2 (by simp)
        have sc2 : Sc (.cells #[.slice a n c, .slice b m d] 24) W v2 v1.heap.size ga gb n m (zs ++ [0, 0]) (ys ++ [0, 0]) :=
          ⟨(hbW.trans hb1 (by simp)).trans hb2 (by simp), hb12.to xr (by simp), yy, (ra.at).but hb2 (by simp), (rb.at).but hb2 (by simp), by have := HZ.out.1; simp; omega, by have := HZ.out.2; simp; omega,
            (row5_row ra (by have := HZ.out.1; simp; omega)).keep hb2 (by simp), (row5_row rb (by have := HZ.out.2; simp; omega)).keep hb2 (by simp), hn, hm, by have := hb1.size; omega⟩
        have lt2 : ga < v1.heap.size ∧ gb < v1.heap.size := ⟨lt_of_block ra.1, lt_of_block rb.1⟩
        obtain ⟨Y, hY⟩ : ∃ Y, v1.heap.size = Y := ⟨_, rfl⟩
        rw [hY] at k1 k2 k3 k4 sz2 sc2 lt2 yy
        have cr2 := hb12.to cr (by simp)
        have hsY : wr.heap.size ≤ Y := by have := hb1.size; omega
        have lY := sc2.low
        obtain ⟨L0, hL0⟩ : ∃ L0, seen (seen [] n (zs ++ [0, 0])) m (ys ++ [0, 0]) = L0 := ⟨_, rfl⟩
        have nL0 : L0.length < 1000000 := by
          have q1 := (seen_length [] n (zs ++ [0, 0])).1
          have q2 := (seen_length (seen [] n (zs ++ [0, 0])) m (ys ++ [0, 0])).1
          rw [hL0] at q2; simp at q1; omega
        clear ra rb hb1 hb2 hb12 yy y0 y1 xr
        -- see(&was, &y)
        have S10 := see_read v2 (Y + 1) Y true k1 (some ⟨ga, 0, none⟩) (some ⟨gb, 0, none⟩) n (n + 2) m (m + 2) ((cell_of_row _ _ 0 _ _ _ sc2.y).trans rfl) ((cell_of_row _ _ 1 _ _ _ sc2.y).trans rfl) (by omega) (by omega) (by unfold maxLen; omega) (by simp) _ sc2.la sc2.a
          (fun ad e _ => by obtain rfl := Option.some.inj e; simp; omega) (by omega) (by unfold maxLen; omega) (by simp) _ sc2.lb sc2.b (fun ad e _ => by obtain rfl := Option.some.inj e; simp; omega)
        rw [hL0] at S10
        go_wp2_with fail
        refine S10.mono ?_
        rintro e v3 ⟨rfl, hS3⟩
        clear S10 HV2 hY
        have z3 := hS3.but.size
        have l3 := sc2.lt
        have sc3 := sc2.step hS3.but (by rintro (h | h) <;> first | omega | exact h) (by rintro (h | h) <;> first | omega | exact h) (by rintro (h | h) <;> first | omega | exact h) (by intro k hk; rintro (h | h) <;> first | omega | exact h)
        have h1 := Has.of hS3
        have e2 := hS3.but.to k2 (by rintro (h | h) <;> first | omega | exact h)
        have e3 := hS3.but.to k3 (by rintro (h | h) <;> first | omega | exact h)
        have e4 := hS3.but.to k4 (by rintro (h | h) <;> first | omega | exact h)
        have cl := lt_of_block cr
        have cr3 := hS3.but.to cr2 (by rintro (h | h) <;> first | omega | exact h)
        have d0 : v3.cell? ⟨C0, 2, none⟩ = some (.func (.func 14) #[] #[]) := (cell_of_row _ _ 2 _ _ _ cr3).trans rfl
        clear hS3 k1 k2 k3 k4 cr2
        -- l := calls[i](&y)
        have S11 := gives3 v3 Y ga gb n m _ _ sc3.pair
        go_wp2_with fail
        refine S11.mono ?_
        rintro e v4 ⟨G, A, rfl, hg, hb4⟩
        clear S11 d0 cr3
        have z4 := hb4.size
        have sc4 := sc3.quiet hb4
        have h1 := h1.quiet hb4
        have e2 := hb4.to e2 (by simp)
        have e3 := hb4.to e3 (by simp)
        have e4 := hb4.to e4 (by simp)
        have lG := lt_of_block hg.row
        have nG := hg.new
        clear sc3
        -- see(&is, &y)
        have S12 := see_read v4 (Y + 1 + 1) Y true e2 (some ⟨ga, 0, none⟩) (some ⟨gb, 0, none⟩) n (n + 2) m (m + 2) ((cell_of_row _ _ 0 _ _ _ sc4.y).trans rfl) ((cell_of_row _ _ 1 _ _ _ sc4.y).trans rfl) (by omega) (by omega) (by unfold maxLen; omega) (by simp) _ sc4.la sc4.a
          (fun ad e _ => by obtain rfl := Option.some.inj e; simp; omega) (by omega) (by unfold maxLen; omega) (by simp) _ sc4.lb sc4.b (fun ad e _ => by obtain rfl := Option.some.inj e; simp; omega)
        rw [hL0] at S12
        clear hL0 sc2
        go_wp2_with fail
        refine S12.mono ?_
        rintro e v5 ⟨rfl, hS5⟩
        clear S12
        have z5 := hS5.but.size
        have sc5 := sc4.step hS5.but (by rintro (h | h) <;> first | omega | exact h) (by rintro (h | h) <;> first | omega | exact h) (by rintro (h | h) <;> first | omega | exact h) (by intro k hk; rintro (h | h) <;> first | omega | exact h)
        have h2 := Has.of hS5
        have h1 := h1.step hS5.but (by rintro (h | h) <;> first | omega | exact h) (fun k cs hk => by have := not3 e2 (by decide) k cs hk; rintro (h | h) <;> first | omega | exact h)
        have e3 := hS5.but.to e3 (by rintro (h | h) <;> first | omega | exact h)
        have e4 := hS5.but.to e4 (by rintro (h | h) <;> first | omega | exact h)
        have gr5 := hS5.but.to hg.row (by rintro (h | h) <;> first | omega | exact h)
        have bb5 : But (fun k => k < v3.heap.size) v4 v5 := hS5.but.mono (fun i _ h => by rcases h with h | h <;> first | omega | exact h.elim)
        obtain ⟨⟨LL, hLL⟩, hM⟩ := hg.shows_
        clear hS5 sc4 hg e2
        -- told := look(l)
        have S13 := look16 (cell_of_one gr5) hLL bb5
        have g0 := cell_of_one gr5
        go_wp2_with fail
        refine S13.mono ?_
        rintro e v6 ⟨t1, rfl, hb6, ht1⟩
        clear S13 g0
        have z6 := hb6.size
        have sc6 := sc5.quiet hb6
        have h1 := h1.quiet hb6
        have h2 := h2.quiet hb6
        have hT := ht1.has
        have nt1 := ht1.new
        have e3 := hb6.to e3 (by simp)
        have e4 := hb6.to e4 (by simp)
        have gr6 := hb6.to gr5 (by simp)
        have bb6 := bb5.trans hb6 (by simp)
        have lt1 : t1 < v6.heap.size := by obtain ⟨_, _, q, _⟩ := ht1.eye; exact lt_of_block q
        clear sc5 gr5 bb5 hb6 ht1
        -- see(&eye{mark, room}, &y)
        obtain ⟨v7, hv7⟩ : ∃ v7, v6.alloc (.cells #[.slice none 0 0, .slice none 0 0, .bool true, .int .i64 0, .bool true] 51) = v7 := ⟨_, rfl⟩
        obtain ⟨E5, hE5⟩ : ∃ E5, v6.heap.size = E5 := ⟨_, rfl⟩
        have em : v7.heap[E5]? = some (.cells (eyeCells (.slice none 0 0) true 0 true) 51 (0, 0)) := by rw [← hv7, ← hE5]; exact heap_alloc_new _ _
        have hb7 : But (fun _ => False) v6 v7 := by rw [← hv7]; exact (But.refl _ _).alloc _
        have sc7 := sc6.quiet hb7
        have l7 := sc7.lt
        have z7 := hb7.size
        have S14 := see_mark v7 E5 Y ga gb n m em sc7.y hn hm sc7.ra sc7.rb
        go_wp2_with fail
        refine S14.mono ?_
        rintro e v8 ⟨rfl, hb8, ra8, rb8⟩
        clear S14 hv7
        have z8 := hb8.size
        obtain ⟨zs2, ys2, sc8⟩ := sc7.marked hb8 ra8 rb8 (by omega) (by omega)
        have n3 : ∀ k cs, v7.heap[k]? = some (.cells cs 3 (0, 0)) → ¬ (k = E5 ∨ k = ga ∨ k = gb) := fun k cs hk => by
          have q1 := not3 em (by decide) k cs hk
          obtain ⟨_, qa, -⟩ := sc7.ra
          obtain ⟨_, qb, -⟩ := sc7.rb
          have q2 := not3 qa (by decide) k cs hk
          have q3 := not3 qb (by decide) k cs hk
          omega
        have h1 := (h1.quiet hb7).step hb8 (by omega) n3
        have h2 := (h2.quiet hb7).step hb8 (by omega) n3
        have hT := (hT.quiet hb7).step hb8 (by omega) n3
        have e3 := hb8.to (hb7.to e3 (by simp)) (by omega)
        have e4 := hb8.to (hb7.to e4 (by simp)) (by omega)
        have gr8 := hb8.to (hb7.to gr6 (by simp)) (by omega)
        have bb8 := (bb6.trans hb7 (by simp)).trans hb8 (fun i hi h => by omega)
        clear sc6 sc7 gr6 bb6 hb7 hb8 ra8 rb8 n3 em
        -- was.same(is), alike(told, look(l), -1)
        obtain ⟨va, Ca, ha1, ha2⟩ := h1
        obtain ⟨vb, Cb, hc1, hc2⟩ := h2
        have SM := same_call v8 L0 va vb Ca Cb false true false true 0 0 nL0 ha2 hc2
        unfold eyeCells at SM
        obtain ⟨p0, p1, p2, p3, p4⟩ := eye_all ha1
        obtain ⟨q0, q1, q2, q3, q4⟩ := eye_all hc1
        clear ha1 ha2 hc1 hc2
        go_wp2_with fail
        refine SM.mono ?_
        rintro e v9 ⟨rfl, hb9⟩
        clear SM p0 p1 p2 p3 p4 q0 q1 q2 q3 q4
        have gr9 := hb9.to gr8 (by simp)
        have bb9 := bb8.trans hb9 (by simp)
        have S9 := look16 (cell_of_one gr9) hLL bb9
        go_wp2_with fail
        refine S9.mono ?_
        rintro e v10 ⟨t2, rfl, hb10, ht2⟩
        clear S9
        obtain ⟨w1a, C1a, qa1, qa2⟩ := (hT.quiet hb9).quiet hb10
        obtain ⟨w2a, C2a, qb1, qb2⟩ := ht2.has
        have nLL : LL.length < 1000000 := by have := hLL.1; omega
        have AL := alike_call v10 t1 t2 LL w1a w2a C1a C2a false false false false 0 0 nLL qa1 qb1 qa2 qb2
        clear qa1 qa2 qb1 qb2 hT ht2
        go_wp2_with fail
        refine AL.mono ?_
        rintro e v11 ⟨rfl, hb11⟩
        clear AL
        have hb811 := (hb9.trans hb10 (by simp)).trans hb11 (by simp)
        have z11 := hb811.size
        have sc11 := sc8.quiet hb811
        have e3 := hb811.to e3 (by simp)
        have e4 := hb811.to e4 (by simp)
        have gr11 := hb811.to gr8 (by simp)
        have bb11 := bb8.trans hb811 (by simp)
        clear hb9 hb10 hb11 hb811 sc8 gr8 gr9 bb8 bb9
        -- see(&over, &y)
        obtain ⟨L1, hL1⟩ : ∃ L1, seen (seen [] n zs2) m ys2 = L1 := ⟨_, rfl⟩
        have nL1 : L1.length < 1000000 := by
          have q1 := (seen_length [] n zs2).1
          have q2 := (seen_length (seen [] n zs2) m ys2).1
          rw [hL1] at q2; simp at q1; omega
        have S17 := see_read v11 (Y + 1 + 1 + 1) Y true e3 (some ⟨ga, 0, none⟩) (some ⟨gb, 0, none⟩) n (n + 2) m (m + 2) ((cell_of_row _ _ 0 _ _ _ sc11.y).trans rfl) ((cell_of_row _ _ 1 _ _ _ sc11.y).trans rfl) (by omega) (by omega) (by unfold maxLen; omega) (by simp) _ sc11.la sc11.a
          (fun ad e _ => by obtain rfl := Option.some.inj e; simp; omega) (by omega) (by unfold maxLen; omega) (by simp) _ sc11.lb sc11.b (fun ad e _ => by obtain rfl := Option.some.inj e; simp; omega)
        rw [hL1] at S17
        go_wp2_with fail
        refine S17.mono ?_
        rintro e v12 ⟨rfl, hS12⟩
        clear S17
        have z12 := hS12.but.size
        have sc12 := sc11.step hS12.but (by rintro (h | h) <;> first | omega | exact h) (by rintro (h | h) <;> first | omega | exact h) (by rintro (h | h) <;> first | omega | exact h) (by intro k hk; rintro (h | h) <;> first | omega | exact h)
        have h3 := Has.of hS12
        have e4 := hS12.but.to e4 (by rintro (h | h) <;> first | omega | exact h)
        have gr12 := hS12.but.to gr11 (by rintro (h | h) <;> first | omega | exact h)
        have bb12 := bb11.trans hS12.but (fun i hi h => by rcases h with h | h <;> first | omega | exact h.elim)
        clear hS12 sc11 gr11 bb11 e3
        -- the loop over the results: one of them
        have S21 := look16 (cell_of_one gr12) hLL bb12
        go_wp2_with fail
        refine wp_loop_rounds 2 ?_
        rw [rounds_succ]
        go_wp2_with fail
        refine S21.mono ?_
        rintro e v13 ⟨t3, rfl, hb13, -⟩
        clear S21
        have z13 := hb13.size
        obtain ⟨v14, hv14⟩ : ∃ v14, v13.alloc (.cells #[.slice none 0 0, .slice none 0 0, .bool true, .int .i64 1000000, .bool false] 51) = v14 := ⟨_, rfl⟩
        obtain ⟨E6, hE6⟩ : ∃ E6, v13.heap.size = E6 := ⟨_, rfl⟩
        have em : v14.heap[E6]? = some (.cells (eyeCells (.slice none 0 0) true 1000000 false) 51 (0, 0)) := by rw [← hv14, ← hE6]; exact heap_alloc_new _ _
        have hb14 : But (fun _ => False) v12 v14 := by rw [← hv14]; exact hb13.alloc _
        have bb14 := bb12.trans hb14 (by simp)
        have gr13 := hb13.to gr12 (by simp)
        have g13 := cell_of_one gr13
        have S22 := hM v14 bb14 E6 1000000 (by omega) (by omega) (by omega) em
        go_wp2_with fail
        refine S22.mono ?_
        rintro e v15 ⟨rfl, hb15, L', hL'⟩
        clear S22 hv14 g13 gr13 hM hLL
        have z14 := hb14.size
        have z15 := hb15.size
        have hG5 : ∀ {k : Nat} {cs : Array Value} {e : TypeId}, v14.heap[k]? = some (.cells cs e (0, 0)) → e ≠ 5 → k ≠ E6 → ¬ (k = E6 ∨ (v3.heap.size ≤ k ∧ ∃ cs fr, v14.heap[k]? = some (.cells cs 5 fr))) := by
          rintro k cs e' hk h5 hne (h | ⟨-, cs', fr', h⟩)
          · exact hne h
          · rw [hk] at h; simp at h; exact h5 h.2.1
        have gr14 := hb14.to gr12 (by simp)
        have gr15 := hb15.to gr14 (hG5 gr14 (by decide) (by omega))
        have e14 := hb14.to e4 (by simp)
        have e4 := hb15.to e14 (hG5 e14 (by decide) (by omega))
        have sc14 := sc12.quiet hb14
        have sc15 := sc14.step hb15 (by omega) (by omega) (by omega) (by intro k hk; omega)
        have h3 := (h3.quiet hb14).step hb15 (by omega) (fun k cs hk => hG5 hk (by decide) (not3 em (by decide) k cs hk))
        clear hb13 hb14 hb15 sc12 sc14 gr12 bb12 bb14 e14 gr14 hG5 em
        have S23 := look16 (cell_of_one gr15) hL' (But.refl _ _)
        go_wp2_with fail
        refine S23.mono ?_
        rintro e v16 ⟨t4, rfl, hb16, -⟩
        clear S23
        have AS := alike_self v16 t3 t4
        go_wp2_with fail
        refine AS.mono ?_
        rintro e v17 ⟨rfl, hb17⟩
        clear AS
        have hb1517 := hb16.trans hb17 (by simp)
        have sc17 := sc15.quiet hb1517
        have e4 := hb1517.to e4 (by simp)
        have h3 := h3.quiet hb1517
        have z17 := hb1517.size
        clear hb16 hb17 hb1517 sc15 gr15 hL'
        -- see(&gone, &y), over.same(gone)
        have S25 := see_read v17 (Y + 1 + 1 + 1 + 1) Y true e4 (some ⟨ga, 0, none⟩) (some ⟨gb, 0, none⟩) n (n + 2) m (m + 2) ((cell_of_row _ _ 0 _ _ _ sc17.y).trans rfl) ((cell_of_row _ _ 1 _ _ _ sc17.y).trans rfl) (by omega) (by omega) (by unfold maxLen; omega) (by simp) _ sc17.la sc17.a
          (fun ad e _ => by obtain rfl := Option.some.inj e; simp; omega) (by omega) (by unfold maxLen; omega) (by simp) _ sc17.lb sc17.b (fun ad e _ => by obtain rfl := Option.some.inj e; simp; omega)
        rw [hL1] at S25
        clear hL1
        go_wp2_with fail
        rw [rounds_succ]
        go_wp2_with fail
        refine S25.mono ?_
        rintro e v18 ⟨rfl, hS18⟩
        clear S25
        have h3 := h3.step hS18.but (by rintro (h | h) <;> first | omega | exact h) (fun k cs hk => by have := not3 e4 (by decide) k cs hk; rintro (h | h) <;> first | omega | exact h)
        have h4 := Has.of hS18
        have sc18 := sc17.step hS18.but (by rintro (h | h) <;> first | omega | exact h) (by rintro (h | h) <;> first | omega | exact h) (by rintro (h | h) <;> first | omega | exact h) (by intro k hk; rintro (h | h) <;> first | omega | exact h)
        obtain ⟨va, Ca, ha1, ha2⟩ := h3
        obtain ⟨vb, Cb, hc1, hc2⟩ := h4
        have SM := same_call v18 L1 va vb Ca Cb false true false true 0 0 nL1 ha2 hc2
        unfold eyeCells at SM
        obtain ⟨p0, p1, p2, p3, p4⟩ := eye_all ha1
        obtain ⟨q0, q1, q2, q3, q4⟩ := eye_all hc1
        clear ha1 ha2 hc1 hc2 hS18 sc17 e4
        go_wp2_with fail
        refine SM.mono ?_
        rintro e v19 ⟨rfl, hb19⟩
        clear SM p0 p1 p2 p3 p4 q0 q1 q2 q3 q4
        have sc19 := sc18.quiet hb19
        go_wp2_with fail
        go_roundw
        case rel => exact ⟨2 + 1, by omega, by go_num, sc19.all, sc19.x⟩
        case measure => simp [intOf]
      · go_wp2_with fail
        go_ret
        exact ⟨rfl, hbW⟩
end Go.Proofs.YtjcgnogpmkgjkaaGreatDoor
end
section
namespace Go.Proofs.YtjcgnogpmkgjkaaGreatDoor
open Go.RowKit

theorem apart_from (W : World) (a b : Option Addr) (n c m d : Nat) (zs ys : List Int) (hnc : n ≤ c) (hc : c ≤ maxLen) (ha : a = none → c = 0) (hz : zs.length = n) (hA : At W a zs)
    (hmd : m ≤ d) (hd : d ≤ maxLen) (hb : b = none → d = 0) (hy : ys.length = m) (hB : At W b ys) :
    Calls Tryz.prog 4 #[.agg #[.slice a n c, .slice b m d], .func (.func 5) #[] #[], .func (.func 6) #[] #[], .slice (some ⟨W.heap.size + 1, 0, none⟩) 3 3]
      ((W.alloc (.cells #[.slice a n c, .slice b m d] 24)).alloc (.cells #[.func (.func 7) #[] #[], .func (.func 11) #[] #[], .func (.func 14) #[] #[]] 37)) fun e w' => e = .returned (.bool true) ∧ Below W.heap.size W w' := by
  have hb1 : But (fun _ => False) W ((W.alloc (.cells #[.slice a n c, .slice b m d] 24)).alloc (.cells #[.func (.func 7) #[] #[], .func (.func 11) #[] #[], .func (.func 14) #[] #[]] 37)) := ((But.refl _ _).alloc _).alloc _
  have hs : (W.alloc (.cells #[.slice a n c, .slice b m d] 24)).heap.size = W.heap.size + 1 := by simp
  refine (apart_walk _ a b n c m d (W.heap.size + 1) zs ys hnc hc ha hz (hA.but hb1 (by simp)) hmd hd hb hy (hB.but hb1 (by simp)) (by rw [← hs]; exact heap_alloc_new _ _)).mono ?_
  rintro e w' ⟨he, hb2⟩
  exact ⟨he, (hb1.trans hb2 (by simp)).below (Nat.le_refl _) (by simp)⟩

theorem at_of {W : World} {a : Option Addr} {n c : Nat} (le : n ≤ c) (hnone : a = none → c = 0)
    (h : ∀ ad, a = some ad → ∃ zs : List Int, zs.length = c ∧ (∀ i, i < c → W.cell? (ad.add i) = some (.int .u8 (zs.getD i 0))) ∧ ∀ z ∈ zs, 0 ≤ z ∧ z < 256) : ∃ zs, zs.length = n ∧ At W a zs := by
  rcases a with _ | ad
  · have := hnone rfl
    exact ⟨[], by simp; omega, by simp, by simp⟩
  · obtain ⟨zs, h1, h2, h3⟩ := h ad rfl
    refine ⟨zs.take n, by simp; omega, fun z hz => h3 z (List.mem_of_mem_take hz), fun i hi => ⟨ad, rfl, ?_⟩⟩
    simp at hi
    rw [h2 i (by omega)]
    simp [List.getD, show i < zs.length from by omega, show i < n from by omega]
theorem u8_wf {z : Int} (h : (Lit.int .u8 z).wf = true) : 0 ≤ z ∧ z < 256 := by
  simp [Lit.wf, IntKind.min, IntKind.max, IntKind.bits, IntKind.signed] at h
  omega
end Go.Proofs.YtjcgnogpmkgjkaaGreatDoor
end
