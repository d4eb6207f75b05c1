/-
  Walks of the functions that apart reaches (num, all, nums, look, same, alike, copied, own, see, the functions of crc): each by a contract; at the end the call of apart itself with any byte slice and any three numbers: it returns true and turns no old memory.
-/
import Derived.Test.YtlckcnkognnlpaaGreatDoorP4
import Derived.Test.YtlckcnkognnlpaaGreatDoorP2
import Derived.Test.YtlckcnkognnlpaaGreatDoorP3
import Derived.Test.YtlckcnkognnlpaaGreatDoorP1
import Derived.Deep.RegionHeld3
import Derived.Lib.SmallJoins
import Derived.ChangeSlices
import Derived.KernelRfl
set_option linter.all false
set_option linter.unusedVariables false
set_option linter.unusedSimpArgs false
section
namespace Go.Proofs.YtlckcnkognnlpaaGreatDoor
open Go.RowKit
set_option maxRecDepth 100000

/-- A row of bytes: at least n of its cells are bytes. -/
def ByteRow (w : World) (p n : Nat) : Prop := ∃ cur, w.heap[p]? = some (.cells cur 5 (0, 0)) ∧ ∀ i, i < n → ∃ z, cur[i]? = some (.int .u8 z) ∧ 0 ≤ z ∧ z < 256

theorem ByteRow.at {w : World} {p n : Nat} (h : ByteRow w p n) : ∃ zs, zs.length = n ∧ At w (some ⟨p, 0, none⟩) zs := by
  obtain ⟨cur, h1, h2⟩ := h
  refine ⟨(List.range n).map fun i => (match cur[i]? with | some (Value.int _ z) => z | _ => (0 : Int)), by simp, fun z hz => ?_, fun i hi => ⟨_, rfl, ?_⟩⟩
  · obtain ⟨i, hi, rfl⟩ := List.mem_map.1 hz
    obtain ⟨z, hz1, hz2⟩ := h2 i (by simpa using hi)
    simp [hz1, hz2]
  · have hin : i < n := by simpa using hi
    have e : (⟨p, 0, none⟩ : Addr).add i = ⟨p, i, none⟩ := by unfold Addr.add; split <;> simp_all
    obtain ⟨z, hz1, -⟩ := h2 i hin
    rw [e, cell_of_row _ _ i _ _ _ h1, hz1]
    simp [hin, hz1]

theorem ByteRow.set {w' : World} {p q n : Nat} {cur : Array Value} (h2 : ∀ i, i < n → ∃ z, cur[i]? = some (.int .u8 z) ∧ 0 ≤ z ∧ z < 256) {z : Int} (hz : 0 ≤ z ∧ z < 256)
    (h' : w'.heap[p]? = some (.cells (cur.setIfInBounds q (.int .u8 z)) 5 (0, 0))) : ByteRow w' p n := by
  refine ⟨_, h', fun i hi => ?_⟩
  obtain ⟨y, hy, hy'⟩ := h2 i hi
  have hlt := (Array.getElem?_eq_some_iff.1 hy).1
  by_cases e : q = i
  · subst e
    exact ⟨z, by simp [hlt], hz⟩
  · exact ⟨y, by rw [Array.getElem?_setIfInBounds_ne e]; exact hy, hy'⟩

def seen (l : List Int) (n : Nat) (zs : List Int) : List Int := l ++ [(n : Int)] ++ zs.take (200000 - (l.length + 1))

theorem add_block (ad : Addr) (i : Nat) : (ad.add i).block = ad.block := by unfold Addr.add; split <;> rfl

theorem nums_read (M : Nat → Prop) (w0 w : World) (b : Nat) (l : List Int) (t : Int) (rm : Bool) (hI : SeeI M w0 b l false t rm w) (la : Addr) (a : Option Addr) (n c : Nat)
    (hla : w.cell? la = some (.slice a n c)) (hnc : n ≤ c) (hc : c ≤ maxLen) (ha : a = none → c = 0) (zs : List Int) (hz : zs.length = if rm then c else n)
    (hA : At w0 a zs) (hab : ∀ ad, a = some ad → 0 < zs.length → ¬ (ad.block = b ∨ M ad.block)) (hl : l.length < 500000) :
    Calls Tryz.prog 14 #[.pointer (some ⟨b, 0, none⟩), .pointer (some la)] w fun e w' => e = .returned (.tuple #[]) ∧ SeeI M w0 b (seen l n zs) false t rm w' := by
  refine nums_call hla ?_
  refine (all_any M w0 w b l false rm t hI a n c zs.length hnc hc hz ha (by omega)
    (fun k l' w' => SeeI M w0 b l' false t rm w' ∧ l' = (l ++ [(n : Int)]) ++ zs.take k ∧ k ≤ 200000 - (l.length + 1) ∧ k ≤ zs.length) (fun k l' w' h => ⟨t, h.1⟩)
    (fun w' h _ => ⟨h, by simp, Nat.zero_le _, Nat.zero_le _⟩) (fun k l' w' hk hl' h ad had => ?_)).mono ?_
  · obtain ⟨hS, rfl, hk1, hk2⟩ := h
    obtain ⟨ad', h1, h2⟩ := hA.2 k hk
    rw [had] at h1
    obtain rfl := Option.some.inj h1
    have hbl := World.block_lt_of_cell? w0 _ h2
    have hnb : ¬ ((ad.add k).block = b ∨ M (ad.add k).block) := by rw [add_block]; exact hab ad had (by omega)
    have hlen : (l ++ [(n : Int)] ++ zs.take k).length = l.length + 1 + k := by simp; omega
    have hm := hA.1 (zs.getD k 0) (by simp [hk])
    refine (num_read M w0 w' b _ t rm hS (ad.add k) (zs.getD k 0) ((hS.but.cell hbl hnb).trans h2) hm (by omega) (by simpa using hbl)).mono ?_
    rintro e w'' ⟨he, hS'⟩
    refine ⟨he, _, hS', ?_, by omega, by omega⟩
    rw [List.append_assoc]
    congr 1
    rw [List.take_add_one]
    simp [hk]
  · rintro e w' ⟨he, k, l', ⟨hS, rfl, hk1, hk2⟩, -, hend⟩
    refine ⟨he, ?_⟩
    have hlen : (l ++ [(n : Int)] ++ zs.take k).length = l.length + 1 + k := by simp; omega
    have : zs.take k = zs.take (200000 - (l.length + 1)) := by
      rcases hend with h | h
      · rw [List.take_of_length_le (by omega), List.take_of_length_le (by omega)]
      · congr 1; omega
    unfold seen
    rw [← this]
    exact hS

theorem nums_mark (M : Nat → Prop) (w0 w : World) (b : Nat) (l : List Int) (t : Int) (rm : Bool) (hI : SeeI M w0 b l true t rm w) (la : Addr) (a : Option Addr) (n c : Nat)
    (hla : w.cell? la = some (.slice a n c)) (hnc : n ≤ c) (hc : c ≤ maxLen) (ha : a = none → c = 0)
    (hrow : ∀ ad, a = some ad → ∃ p, ad = ⟨p, 0, none⟩ ∧ M p ∧ p < w0.heap.size ∧ p ≠ b ∧ ByteRow w p (if rm then c else n)) (hl : l.length < 500000) (ht : 0 ≤ t ∧ t < 100000000000) :
    Calls Tryz.prog 14 #[.pointer (some ⟨b, 0, none⟩), .pointer (some la)] w fun e w' => e = .returned (.tuple #[]) ∧ ∃ l' t', SeeI M w0 b l' true t' rm w' ∧ t ≤ t' ∧ t' + l.length ≤ t + l'.length ∧ l'.length ≤ max (l.length + 1) 200000 ∧
      (∀ q v, q < w0.heap.size → q ≠ b → ByteRow w q v → ByteRow w' q v) ∧ But (fun k => k = b ∨ (∃ ad, a = some ad ∧ k = ad.block) ∨ w0.heap.size ≤ k) w w' := by
  refine nums_call hla ?_
  refine (all_any M w0 w b l true rm t hI a n c (if rm then c else n) hnc hc rfl ha (by omega)
    (fun k l' w' => ∃ t', SeeI M w0 b l' true t' rm w' ∧ t ≤ t' ∧ t' + l.length ≤ t + l'.length ∧ l'.length ≤ max (l.length + 1) 200000 ∧ (∀ q v, q < w0.heap.size → q ≠ b → ByteRow w q v → ByteRow w' q v) ∧ But (fun k => k = b ∨ (∃ ad, a = some ad ∧ k = ad.block) ∨ w0.heap.size ≤ k) w w') (fun k l' w' h => let ⟨t', h1, _⟩ := h; ⟨t', h1⟩)
    (fun w' h hb => ⟨t, h, by omega, by simp; omega, by simp; omega, fun q v hq hqb ⟨cur, h1, h2⟩ => ⟨cur, hb.to h1 (by omega), h2⟩, hb.mono (fun i _ h => by omega)⟩) (fun k l' w' hk hl' h ad had => ?_)).mono ?_
  · obtain ⟨t', hS, ht1, ht2, hl1, hrows, hbb⟩ := h
    obtain ⟨p, rfl, hM, hp, hpb, hB⟩ := hrow ad had
    obtain ⟨cur, h1, h2⟩ := hrows p _ hp hpb hB
    obtain ⟨z, hz, hz'⟩ := h2 k hk
    have e : (⟨p, 0, none⟩ : Addr).add k = ⟨p, k, none⟩ := by unfold Addr.add; split <;> simp_all
    rw [e]
    refine (num_mark M w0 w' b l' t' rm hS p k cur _ h1 hz hM hp (by omega) (by omega)).mono ?_
    rintro e w'' ⟨he, y, hy1, hy2, h3, hS', hb⟩
    refine ⟨he, _, t' + 1, hS', by omega, by simp; omega, by simp; omega, fun q v hq hqb hr => ?_, hbb.trans hb (fun i hi h => by rcases h with h | h | h <;> first | exact .inl h | exact .inr (.inl ⟨_, had, h⟩) | exact .inr (.inr h))⟩
    obtain ⟨cur', g1, g2⟩ := hrows q v hq hqb hr
    by_cases eq : q = p
    · subst eq
      rw [h1] at g1
      obtain rfl : cur = cur' := by simpa using g1
      exact ByteRow.set g2 ⟨hy1, hy2⟩ h3
    · exact ⟨cur', hb.to g1 (by omega), g2⟩
  · rintro e w' ⟨he, k, l', ⟨t', hS, h1, h2, h3, h4, h5⟩, -, -⟩
    exact ⟨he, l', t', hS, h1, h2, h3, h4, h5⟩
end Go.Proofs.YtlckcnkognnlpaaGreatDoor
end
section
namespace Go.Proofs.YtlckcnkognnlpaaGreatDoor
open Go.RowKit
set_option maxRecDepth 100000

theorem seen_length (l : List Int) (n : Nat) (zs : List Int) : (seen l n zs).length ≤ max (l.length + 1) 200000 ∧ l.length + 1 ≤ (seen l n zs).length := by
  unfold seen; simp; omega

end Go.Proofs.YtlckcnkognnlpaaGreatDoor
end
section
namespace Go.Proofs.YtlckcnkognnlpaaGreatDoor
open Go.RowKit
set_option maxRecDepth 100000

/-- A slice of bytes in rows from B on. -/
structure Slc (B : Nat) (w : World) (o : Option Addr) (n c : Nat) : Prop where
  le : n ≤ c
  cap : c ≤ maxLen
  none : o = none → c = 0
  row : ∀ ad, o = some ad → ∃ p, ad = ⟨p, 0, .none⟩ ∧ B ≤ p ∧ ByteRow w p n

theorem ByteRow.lt {w : World} {p n : Nat} (h : ByteRow w p n) : p < w.heap.size := by obtain ⟨_, h, -⟩ := h; exact lt_of_block h
theorem ByteRow.keep {S : Nat → Prop} {w w1 : World} {p n : Nat} (h : ByteRow w p n) (hb : But S w w1) (hn : ¬ S p) : ByteRow w1 p n := by
  obtain ⟨cur, h1, h2⟩ := h
  exact ⟨cur, hb.to h1 hn, h2⟩
theorem Slc.keep {B : Nat} {S : Nat → Prop} {w w1 : World} {o : Option Addr} {n c : Nat} (h : Slc B w o n c) (hb : But S w w1) (hs : ∀ k, S k → k < B) : Slc B w1 o n c :=
  ⟨h.le, h.cap, h.none, fun ad had => let ⟨p, h1, h2, h3⟩ := h.row ad had; ⟨p, h1, h2, h3.keep hb (fun e => by have := hs p e; omega)⟩⟩
theorem Slc.at {B : Nat} {w : World} {o : Option Addr} {n c : Nat} (h : Slc B w o n c) : ∃ zs, zs.length = n ∧ At w o zs ∧ ∀ ad, o = some ad → B ≤ ad.block ∧ ad.block < w.heap.size := by
  rcases o with _ | ad
  · have := h.none rfl
    have := h.le
    exact ⟨[], by simp; omega, ⟨by simp, by simp⟩, by simp⟩
  · obtain ⟨p, rfl, h2, h3⟩ := h.row ad rfl
    obtain ⟨zs, h4, h5⟩ := h3.at
    refine ⟨zs, h4, h5, fun ad' e => ?_⟩
    obtain rfl := Option.some.inj e
    exact ⟨h2, h3.lt⟩
theorem Own5.slc {B : Nat} {w : World} {v : Value} {ws : List Int} (h : Own5 B w v ws) : ∃ o c, v = .slice o ws.length c ∧ Slc B w o ws.length c := by
  have hb := h.b
  rcases h.own.2 with ⟨hv, h0⟩ | ⟨g, cap, cur, hv, hB, hg, h1, h2, h3, h4⟩
  · rw [h0]; exact ⟨none, 0, hv, Nat.le_refl _, Nat.zero_le _, fun _ => rfl, by simp⟩
  · refine ⟨some ⟨g, 0, .none⟩, cap, hv, h1, h2, by simp, fun ad e => ⟨g, (Option.some.inj e).symm, hB, cur, hg, fun i hi => ⟨ws.getD i 0, ?_, hb _ (by simp [hi])⟩⟩⟩
    have h5 : (cur.toList.take (ws.length * 1))[i]? = some (.int .u8 (ws.getD i 0)) := by rw [h4]; simp [hi]
    rw [List.getElem?_take, if_pos (by omega)] at h5
    simpa using h5
theorem At.keep {S : Nat → Prop} {w w1 : World} {o : Option Addr} {zs : List Int} (h : At w o zs) (hb : But S w w1) (hn : ∀ ad, o = some ad → ¬ S ad.block) : At w1 o zs :=
  ⟨h.1, fun i hi => let ⟨ad, h1, h2⟩ := h.2 i hi; ⟨ad, h1, (hb.cell (World.block_lt_of_cell? w _ h2) (by rw [add_block]; exact hn ad h1)).trans h2⟩⟩

/-- The closure f over the variable at A sees L, wherever what lies from B on is as it is in w. -/
def Reads (f : FuncId) (A B : Nat) (w : World) (L : List Int) : Prop :=
  L.length < 400000 ∧ ∀ w1, But (fun k => k < B) w w1 → ∀ b, w.heap.size ≤ b → w1.heap[b]? = some (.cells (eyeCells (.slice none 0 0) false 0 false) 50 (0, 0)) →
    Calls Tryz.prog f #[.pointer (some ⟨b, 0, none⟩), .pointer (some ⟨A, 0, none⟩)] w1 fun e w2 => e = .returned (.tuple #[]) ∧ SeeI (fun _ => False) w1 b L false 0 false w2
/-- It is seen; and marked, it is seen again (whatever it then is); marking writes from B on alone. -/
def Shows (f : FuncId) (A B : Nat) (w : World) : Prop :=
  (∃ L, Reads f A B w L) ∧ ∀ w1, But (fun k => k < B) w w1 → ∀ b t, w.heap.size ≤ b → 0 ≤ t → t ≤ 1000000 → w1.heap[b]? = some (.cells (eyeCells (.slice none 0 0) true t false) 50 (0, 0)) →
    Calls Tryz.prog f #[.pointer (some ⟨b, 0, none⟩), .pointer (some ⟨A, 0, none⟩)] w1 fun e w2 => e = .returned (.tuple #[]) ∧ But (fun k => k = b ∨ (B ≤ k ∧ ∃ cs fr, w1.heap[k]? = some (.cells cs 5 fr))) w1 w2 ∧ ∃ L, Reads f A B w2 L

/-- A variable that holds a slice of bytes. -/
structure ResB (B : Nat) (w : World) (A : Nat) (o : Option Addr) (n c : Nat) : Prop where
  var : w.heap[A]? = some (.cells #[.slice o n c] 22 (0, 0))
  new : B ≤ A
  slc : Slc B w o n c
theorem ResB.keep {B : Nat} {w w1 : World} {A : Nat} {o : Option Addr} {n c : Nat} (h : ResB B w A o n c) (hb : But (fun k => k < B) w w1) : ResB B w1 A o n c :=
  ⟨hb.to h.var (by have := h.new; omega), h.new, h.slc.keep hb (fun k hk => hk)⟩

theorem nums_reads {B : Nat} {w : World} {A : Nat} {o : Option Addr} {n c : Nat} (h : ResB B w A o n c) : ∃ L, Reads 14 A B w L := by
  obtain ⟨zs, hz, hA, hab⟩ := h.slc.at
  refine ⟨seen [] n zs, by have := (seen_length [] n zs).1; simp at this; omega, fun w1 hb b hbn he => ?_⟩
  have h1 := h.keep hb
  have hlt := lt_of_block h.var
  refine nums_read _ w1 w1 b [] 0 false (SeeI.start he) ⟨A, 0, none⟩ o n c (cell_of_one h1.var) h1.slc.le h1.slc.cap h1.slc.none zs (by simpa using hz)
    (hA.keep hb (fun ad e => by have := (hab ad e).1; omega)) (fun ad e _ => by have := (hab ad e).2; simp; omega) (by simp)

theorem nums_shows {B : Nat} {w : World} {A : Nat} {o : Option Addr} {n c : Nat} (h : ResB B w A o n c) : Shows 14 A B w := by
  refine ⟨nums_reads h, fun w1 hb b t hbn ht0 ht1 he => ?_⟩
  have h1 := h.keep hb
  have hlt := lt_of_block h.var
  have hbl := lt_of_block he
  have hA5 : ¬ (A = b ∨ (B ≤ A ∧ ∃ cs fr, w1.heap[A]? = some (.cells cs 5 fr))) := by
    rintro (e | ⟨-, cs, fr, e⟩)
    · omega
    · rw [h1.var] at e; simp at e
  have hrow : ∀ p, B ≤ p → ByteRow w1 p n → p ≠ b := fun p _ ⟨cur, hc, _⟩ e => by rw [e, he] at hc; simp at hc
  refine (nums_mark (fun k => B ≤ k ∧ ∃ cs fr, w1.heap[k]? = some (.cells cs 5 fr)) w1 w1 b [] t false (SeeI.start he) ⟨A, 0, none⟩ o n c (cell_of_one h1.var) h1.slc.le h1.slc.cap h1.slc.none (fun ad e => ?_) (by simp) (by omega)).mono ?_
  · obtain ⟨p, hp, hBp, hr⟩ := h1.slc.row ad e
    exact ⟨p, hp, ⟨hBp, by obtain ⟨cur, hc, -⟩ := hr; exact ⟨_, _, hc⟩⟩, hr.lt, hrow p hBp hr, by simpa using hr⟩
  · rintro e w2 ⟨he', l', t', hS, -, -, -, hrows, -⟩
    refine ⟨he', hS.but, nums_reads (A := A) (o := o) (n := n) (c := c) ⟨hS.but.to h1.var hA5, h1.new, h1.slc.le, h1.slc.cap, h1.slc.none, fun ad e => ?_⟩⟩
    obtain ⟨p, hp, hBp, hr⟩ := h1.slc.row ad e
    exact ⟨p, hp, hBp, hrows p n hr.lt (hrow p hBp hr) hr⟩

theorem shows_via {f g : FuncId} {A B : Nat} {w : World} (hc : ∀ (w : World) (b : Nat) (R : World → Prop), (Calls Tryz.prog f #[.pointer (some ⟨b, 0, none⟩), .pointer (some ⟨A, 0, none⟩)] w fun e w' => e = .returned (.tuple #[]) ∧ R w') →
      Calls Tryz.prog g #[.pointer (some ⟨b, 0, none⟩), .pointer (some ⟨A, 0, none⟩)] w fun e w' => e = .returned (.tuple #[]) ∧ R w') (h : Shows f A B w) : Shows g A B w := by
  have hr : ∀ {w L}, Reads f A B w L → Reads g A B w L := fun h => ⟨h.1, fun w1 hb b hbn he => hc _ _ _ (h.2 w1 hb b hbn he)⟩
  refine ⟨h.1.imp fun L hL => hr hL, fun w1 hb b t hbn h0 h1 he => ?_⟩
  refine hc w1 b (fun w2 => But (fun k => k = b ∨ (B ≤ k ∧ ∃ cs fr, w1.heap[k]? = some (.cells cs 5 fr))) w1 w2 ∧ ∃ L, Reads g A B w2 L) ?_
  refine (h.2 w1 hb b t hbn h0 h1 he).mono ?_
  rintro e w2 ⟨q1, q2, L, q3⟩
  exact ⟨q1, q2, L, hr q3⟩
end Go.Proofs.YtlckcnkognnlpaaGreatDoor
end
section
namespace Go.Proofs.YtlckcnkognnlpaaGreatDoor
open Go.RowKit

/-- On the blocks of K the two worlds are alike. -/
def Agree (K : Nat → Prop) (w w1 : World) : Prop := ∀ k, K k → w1.heap[k]? = w.heap[k]?
theorem Agree.refl (K : Nat → Prop) (w : World) : Agree K w w := fun _ _ => rfl
theorem Agree.trans {K : Nat → Prop} {a b c : World} (h : Agree K a b) (h' : Agree K b c) : Agree K a c := fun k hk => (h' k hk).trans (h k hk)
theorem Agree.but {K S : Nat → Prop} {a w w1 : World} (h : Agree K a w) (hb : But S w w1) (hk : ∀ k, K k → k < w.heap.size ∧ ¬ S k) : Agree K a w1 := fun k h1 => (hb.block k (hk k h1).1 (hk k h1).2).trans (h k h1)

/-- see, over y at block Y with what lies in K, sees L (with room). -/
def ReadsY (see : FuncId) (Y : Nat) (K : Nat → Prop) (w : World) (L : List Int) : Prop :=
  L.length < 400000 ∧ ∀ w1, Agree K w w1 → ∀ E, ¬ K E → w1.heap[E]? = some (.cells (eyeCells (.slice none 0 0) false 0 true) 50 (0, 0)) →
    Calls Tryz.prog see #[.pointer (some ⟨E, 0, none⟩), .pointer (some ⟨Y, 0, none⟩)] w1 fun e w2 => e = .returned (.tuple #[]) ∧ SeeI (fun _ => False) w1 E L false 0 true w2
/-- see, marking: it writes K alone, and y is seen again (whatever it then is). -/
def MarksY (see : FuncId) (Y : Nat) (K : Nat → Prop) (w : World) : Prop :=
  ∀ w1, Agree K w w1 → ∀ E, ¬ K E → w1.heap[E]? = some (.cells (eyeCells (.slice none 0 0) true 0 true) 50 (0, 0)) →
    Calls Tryz.prog see #[.pointer (some ⟨E, 0, none⟩), .pointer (some ⟨Y, 0, none⟩)] w1 fun e w2 => e = .returned (.tuple #[]) ∧ But (fun k => k = E ∨ K k) w1 w2 ∧ ∃ L, ReadsY see Y K w2 L
theorem ReadsY.agree {see : FuncId} {Y : Nat} {K : Nat → Prop} {w w1 : World} {L : List Int} (h : ReadsY see Y K w L) (ha : Agree K w w1) : ReadsY see Y K w1 L :=
  ⟨h.1, fun w2 h2 => h.2 w2 (ha.trans h2)⟩

/-- A closure's row: what a call hands back. -/
structure Gives (f : FuncId) (B : Nat) (w : World) (G A : Nat) : Prop where
  row : w.heap[G]? = some (.cells #[.func (.func f) #[] #[.pointer (some ⟨A, 0, none⟩)]] 38 (0, 0))
  new : B ≤ G
  shows_ : Shows f A B w
end Go.Proofs.YtlckcnkognnlpaaGreatDoor
end
section
namespace Go.Proofs.YtlckcnkognnlpaaGreatDoor
open Go.RowKit
set_option maxRecDepth 100000

theorem see_call4 {w : World} {b Y : Nat} {R1 R2 R3 R : World → Prop}
    (h : Calls Tryz.prog 14 #[.pointer (some ⟨b, 0, none⟩), .pointer (some ⟨Y, 0, none⟩)] w fun e w' => e = .returned (.tuple #[]) ∧ R1 w')
    (h2 : ∀ w1, R1 w1 → Calls Tryz.prog 27 #[.pointer (some ⟨b, 0, none⟩), .pointer (some ⟨Y, 1, none⟩)] w1 fun e w' => e = .returned (.tuple #[]) ∧ R2 w')
    (h3 : ∀ w1, R2 w1 → Calls Tryz.prog 28 #[.pointer (some ⟨b, 0, none⟩), .pointer (some ⟨Y, 2, none⟩)] w1 fun e w' => e = .returned (.tuple #[]) ∧ R3 w')
    (h4 : ∀ w1, R3 w1 → Calls Tryz.prog 27 #[.pointer (some ⟨b, 0, none⟩), .pointer (some ⟨Y, 3, none⟩)] w1 fun e w' => e = .returned (.tuple #[]) ∧ R w') :
    Calls Tryz.prog 6 #[.pointer (some ⟨b, 0, none⟩), .pointer (some ⟨Y, 0, none⟩)] w fun e w' => e = .returned (.tuple #[]) ∧ R w' := by
  have u25 := Tryz.underlying25
  go_enter Tryz.func6, Tryz.ntmps6
  go_wp2_with fail
  refine h.mono ?_; rintro e w2 ⟨rfl, hr⟩
  go_wp2_with fail
  refine (h2 _ hr).mono ?_; rintro e w3 ⟨rfl, hr3⟩
  go_wp2_with fail
  refine (h3 _ hr3).mono ?_; rintro e w4 ⟨rfl, hr4⟩
  go_wp2_with fail
  refine (h4 _ hr4).mono ?_; rintro e w5 ⟨rfl, hr5⟩
  go_wp2_with fail
  go_end0
  exact ⟨rfl, hr5⟩

def U32 (z : Int) : Prop := 0 ≤ z ∧ z < 4294967296
def I64 (z : Int) : Prop := -9223372036854775808 ≤ z ∧ z < 9223372036854775808

/-- y of this law: a slice of bytes of its own and three numbers. -/
structure YC (w : World) (Y ga n : Nat) (s t u : Int) : Prop where
  y : w.heap[Y]? = some (.cells #[.slice (some ⟨ga, 0, none⟩) n (n + 2), .int .u32 s, .int .i64 t, .int .u32 u] 25 (0, 0))
  row : ByteRow w ga (n + 2)
  hs : U32 s
  ht : I64 t
  hu : U32 u
  hn : n ≤ 2000
def KC (ga Y : Nat) (k : Nat) : Prop := k = ga ∨ k = Y

theorem YC.agree {w w1 : World} {Y ga n : Nat} {s t u : Int} (h : YC w Y ga n s t u) (ha : Agree (KC ga Y) w w1) : YC w1 Y ga n s t u :=
  ⟨(ha Y (.inr rfl)).trans h.y, by obtain ⟨cur, q1, q2⟩ := h.row; exact ⟨cur, (ha ga (.inl rfl)).trans q1, q2⟩, h.hs, h.ht, h.hu, h.hn⟩

theorem yc_reads {w : World} {Y ga n : Nat} {s t u : Int} (h : YC w Y ga n s t u) : ∃ L, ReadsY 6 Y (KC ga Y) w L := by
  obtain ⟨zs, hz, hA⟩ := h.row.at
  have hl := (seen_length [] n zs).1
  refine ⟨seen [] n zs ++ [s] ++ [t] ++ [u], by simp at hl ⊢; omega, fun w1 ha E hE he => ?_⟩
  have h1 := h.agree ha
  have hA1 : At w1 (some ⟨ga, 0, none⟩) zs := ⟨hA.1, fun i hi => by
    obtain ⟨ad, q1, q2⟩ := hA.2 i hi
    refine ⟨ad, q1, ?_⟩
    obtain rfl := Option.some.inj q1
    rw [World.cell?_of_block (w := w) (w' := w1) (by rw [add_block]; exact ha ga (.inl rfl))]
    exact q2⟩
  have hgE : ga ≠ E := fun e => hE (.inl e.symm)
  have hYE : Y ≠ E := fun e => hE (.inr e.symm)
  have cY : ∀ {w2 : World} {l : List Int} {o : Nat} {v : Value}, SeeI (fun _ => False) w1 E l false 0 true w2 → (#[.slice (some ⟨ga, 0, none⟩) n (n + 2), .int .u32 s, .int .i64 t, .int .u32 u] : Array Value)[o]? = some v → w2.cell? ⟨Y, o, none⟩ = some v := fun hS hv =>
    (cell_of_row _ _ _ _ _ _ (hS.but.to h1.y (by simpa using hYE))).trans hv
  have lY := lt_of_block h1.y
  have nn := h.hn
  refine see_call4 (R1 := fun w2 => SeeI (fun _ => False) w1 E (seen [] n zs) false 0 true w2) (R2 := fun w2 => SeeI (fun _ => False) w1 E (seen [] n zs ++ [s]) false 0 true w2)
    (R3 := fun w2 => SeeI (fun _ => False) w1 E (seen [] n zs ++ [s] ++ [t]) false 0 true w2) ?_ (fun w2 hS => ?_) (fun w2 hS => ?_) (fun w2 hS => ?_)
  · exact nums_read _ w1 w1 E [] 0 true (SeeI.start he) ⟨Y, 0, none⟩ _ n (n + 2) (cY (SeeI.start he) rfl) (by omega) (by unfold maxLen; omega) (by simp) zs (by simpa using hz) hA1 (fun ad e _ => by obtain rfl := Option.some.inj e; simpa using hgE) (by simp)
  · exact num32_read _ w1 w2 E _ 0 true hS ⟨Y, 1, none⟩ s (cY hS rfl) h.hs (by simp at hl; omega) lY
  · exact num64_read _ w1 w2 E _ 0 true hS ⟨Y, 2, none⟩ t (cY hS rfl) h.ht (by simp at hl ⊢; omega) lY
  · exact num32_read _ w1 w2 E _ 0 true hS ⟨Y, 3, none⟩ u (cY hS rfl) h.hu (by simp at hl ⊢; omega) lY

theorem yc_marks {w : World} {Y ga n : Nat} {s t u : Int} (h : YC w Y ga n s t u) : MarksY 6 Y (KC ga Y) w := by
  intro w1 ha E hE he
  have h1 := h.agree ha
  have hgE : ga ≠ E := fun e => hE (.inl e.symm)
  have hYE : Y ≠ E := fun e => hE (.inr e.symm)
  have lY := lt_of_block h1.y
  have lg := h1.row.lt
  have nn := h.hn
  have hYg : Y ≠ ga := fun e => by obtain ⟨cur, q, -⟩ := h1.row; rw [← e, h1.y] at q; simp at q
  refine see_call4 (R1 := fun w2 => ∃ l' t', SeeI (KC ga Y) w1 E l' true t' true w2 ∧ 0 ≤ t' ∧ t' ≤ l'.length ∧ l'.length ≤ 200000 ∧ YC w2 Y ga n s t u)
    (R2 := fun w2 => ∃ l' t' s', SeeI (KC ga Y) w1 E l' true t' true w2 ∧ 0 ≤ t' ∧ t' ≤ l'.length ∧ l'.length ≤ 200001 ∧ YC w2 Y ga n s' t u)
    (R3 := fun w2 => ∃ l' t' s' t2, SeeI (KC ga Y) w1 E l' true t' true w2 ∧ 0 ≤ t' ∧ t' ≤ l'.length ∧ l'.length ≤ 200002 ∧ YC w2 Y ga n s' t2 u) ?_ ?_ ?_ ?_
  · refine (nums_mark (KC ga Y) w1 w1 E [] 0 true (SeeI.start he) ⟨Y, 0, none⟩ _ n (n + 2) ((cell_of_row _ _ 0 _ _ _ h1.y).trans rfl) (by omega) (by unfold maxLen; omega) (by simp) (fun ad e => ?_) (by simp) (by omega)).mono ?_
    · obtain rfl := Option.some.inj e
      exact ⟨ga, rfl, .inl rfl, lg, hgE, by simpa using h1.row⟩
    · rintro e w2 ⟨he', l', t', hS, q1, q2, q3, q4, q5⟩
      refine ⟨he', l', t', hS, q1, by simpa using q2, by simpa using q3, ⟨q5.to h1.y ?_, q4 ga _ lg hgE h1.row, h.hs, h.ht, h.hu, h.hn⟩⟩
      rintro (e | ⟨ad, e1, e2⟩ | e)
      · exact hYE e
      · obtain rfl := Option.some.inj e1; exact hYg e2
      · omega
  · rintro w2 ⟨l', t', hS, q1, q2, q3, hY⟩
    refine (num32_mark (KC ga Y) w1 w2 E l' t' true hS Y 1 _ 25 _ hY.y (by decide) rfl (.inr rfl) lY (by omega) (by omega)).mono ?_
    rintro e w3 ⟨he', z, z1, z2, hy, hS', hb⟩
    refine ⟨he', _, t' + 1, z, hS', by omega, by simp; omega, by simp; omega, hy, hY.row.keep hb (by omega), ⟨z1, z2⟩, h.ht, h.hu, h.hn⟩
  · rintro w2 ⟨l', t', s', hS, q1, q2, q3, hY⟩
    refine (num64_mark (KC ga Y) w1 w2 E l' t' true hS Y 2 _ 25 _ hY.y (by decide) rfl (.inr rfl) lY (by omega) (by omega)).mono ?_
    rintro e w3 ⟨he', z, z1, z2, hy, hS', hb⟩
    refine ⟨he', _, t' + 1, s', z, hS', by omega, by simp; omega, by simp; omega, hy, hY.row.keep hb (by omega), hY.hs, ⟨z1, z2⟩, h.hu, h.hn⟩
  · rintro w2 ⟨l', t', s', t2, hS, q1, q2, q3, hY⟩
    refine (num32_mark (KC ga Y) w1 w2 E l' t' true hS Y 3 _ 25 _ hY.y (by decide) rfl (.inr rfl) lY (by omega) (by omega)).mono ?_
    rintro e w3 ⟨he', z, z1, z2, hy, hS', hb⟩
    have hY3 : YC w3 Y ga n s' t2 z := ⟨hy, hY.row.keep hb (by omega), hY.hs, hY.ht, ⟨z1, z2⟩, h.hn⟩
    exact ⟨he', hS'.but, yc_reads hY3⟩

set_option maxHeartbeats 1600000 in
theorem own_call (w : World) (a : Option Addr) (n c : Nat) (s t u : Int) (zs : List Int) (hz : zs.length = n) (hn : n ≤ 2000) (ha : a = none → c = 0) (h : At w a zs) :
    Calls Tryz.prog 5 #[.agg #[.slice a n c, .int .u32 s, .int .i64 t, .int .u32 u]] w fun e w' => ∃ ga, e = .returned (.agg #[.slice (some ⟨ga, 0, none⟩) n (n + 2), .int .u32 s, .int .i64 t, .int .u32 u]) ∧
      w.heap.size ≤ ga ∧ Row5 w' ga (zs ++ [0, 0]) ∧ But (fun _ => False) w w' := by
  have u25 := Tryz.underlying25
  have c25 : Tryz.prog.cellsOf 25 = 4 := by kernel_rfl
  obtain ⟨w1, hw1⟩ : ∃ w1, (w.alloc (.cells #[.slice a n c, .int .u32 s, .int .i64 t, .int .u32 u] 25)).alloc (.cells #[.slice none 0 0, .int .u32 0, .int .i64 0, .int .u32 0] 25) = w1 := ⟨_, rfl⟩
  have hs0 : (w.alloc (.cells #[.slice a n c, .int .u32 s, .int .i64 t, .int .u32 u] 25)).heap.size = w.heap.size + 1 := by simp
  have hb1 : But (fun _ => False) w w1 := by rw [← hw1]; exact ((But.refl _ _).alloc _).alloc _
  have x1 : w1.heap[w.heap.size]? = some (.cells #[.slice a n c, .int .u32 s, .int .i64 t, .int .u32 u] 25 (0, 0)) := by rw [← hw1, Below.heap_alloc _ _ _ (by simp)]; exact heap_alloc_new w _
  have r1 : w1.heap[w.heap.size + 1]? = some (.cells #[.slice none 0 0, .int .u32 0, .int .i64 0, .int .u32 0] 25 (0, 0)) := by rw [← hw1, ← hs0]; exact heap_alloc_new _ _
  have hA := At.but h hb1 (by simp)
  clear hs0
  have lr := lt_of_block r1
  have H1 := copied_call w1 a n c zs hz hn ha hA
  have y00 : w1.cell? ⟨w.heap.size, 0, none⟩ = some (.slice a n c) := (cell_of_row _ _ 0 _ _ _ x1).trans rfl
  go_enter Tryz.func5, Tryz.ntmps5
  go_wp2_with fail
  refine H1.mono ?_
  rintro e w2 ⟨rfl, g2, hb2⟩
  have x2 := hb2.to x1 (by simp)
  have r2 := hb2.to r1 (by simp)
  have y0 : w2.cell? ⟨w.heap.size, 0, none⟩ = some (.slice a n c) := (cell_of_row _ _ 0 _ _ _ x2).trans rfl
  have y1 : w2.frozen? ⟨w.heap.size, 0, none⟩ = false := by simp [World.frozen?, x2]
  obtain ⟨w5, hw5⟩ : ∃ w5, w2.setCell ⟨w.heap.size, 0, none⟩ (.slice (some ⟨w1.heap.size, 0, none⟩) n (n + 2)) = w5 := ⟨_, rfl⟩
  have x5 : w5.heap[w.heap.size]? = some (.cells #[.slice (some ⟨w1.heap.size, 0, none⟩) n (n + 2), .int .u32 s, .int .i64 t, .int .u32 u] 25 (0, 0)) := by rw [← hw5, heap_setCell_same x2]; rfl
  have r5 : w5.heap[w.heap.size + 1]? = some (.cells #[.slice none 0 0, .int .u32 0, .int .i64 0, .int .u32 0] 25 (0, 0)) := by rw [← hw5, heap_setCell_far (by simp)]; exact r2
  have g5 : w5.heap[w1.heap.size]? = some (.cells ((zs ++ [0, 0]).map (Value.int .u8)).toArray 5 (0, 0)) := by rw [← hw5, heap_setCell_far (by simp; omega)]; exact g2
  have hb5 : But (fun _ => False) w w5 := by rw [← hw5]; exact (hb1.trans hb2 (by simp)).setCell (by simp) _
  have q0 : w5.cell? ⟨w.heap.size, 0, none⟩ = some (.slice (some ⟨w1.heap.size, 0, none⟩) n (n + 2)) := (cell_of_row _ _ 0 _ _ _ x5).trans rfl
  have q1 : w5.cell? ⟨w.heap.size, 1, none⟩ = some (.int .u32 s) := (cell_of_row _ _ 1 _ _ _ x5).trans rfl
  have q2 : w5.cell? ⟨w.heap.size, 2, none⟩ = some (.int .i64 t) := (cell_of_row _ _ 2 _ _ _ x5).trans rfl
  have q3 : w5.cell? ⟨w.heap.size, 3, none⟩ = some (.int .u32 u) := (cell_of_row _ _ 3 _ _ _ x5).trans rfl
  have p0 : w5.cell? ⟨w.heap.size + 1, 0, none⟩ = some (.slice none 0 0) := (cell_of_row _ _ 0 _ _ _ r5).trans rfl
  have p1 : w5.cell? ⟨w.heap.size + 1, 1, none⟩ = some (.int .u32 0) := (cell_of_row _ _ 1 _ _ _ r5).trans rfl
  have p2 : w5.cell? ⟨w.heap.size + 1, 2, none⟩ = some (.int .i64 0) := (cell_of_row _ _ 2 _ _ _ r5).trans rfl
  have p3 : w5.cell? ⟨w.heap.size + 1, 3, none⟩ = some (.int .u32 0) := (cell_of_row _ _ 3 _ _ _ r5).trans rfl
  have pf0 : w5.frozen? ⟨w.heap.size + 1, 0, none⟩ = false := by simp [World.frozen?, r5]
  have pf1 : w5.frozen? ⟨w.heap.size + 1, 1, none⟩ = false := by simp [World.frozen?, r5]
  have pf2 : w5.frozen? ⟨w.heap.size + 1, 2, none⟩ = false := by simp [World.frozen?, r5]
  have pf3 : w5.frozen? ⟨w.heap.size + 1, 3, none⟩ = false := by simp [World.frozen?, r5]
  have hsz5 : w1.heap.size < w5.heap.size := lt_of_block g5
  clear x2 r2 g2 hw1 x1 r1 y00 hA H1
  go_wp2_with fail
  obtain ⟨w6, hw6⟩ : ∃ w6, w6 = (((w5.setCell ⟨w.heap.size + 1, 0, none⟩ (.slice (some ⟨w1.heap.size, 0, none⟩) n (n + 2))).setCell ⟨w.heap.size + 1, 1, none⟩ (.int .u32 s)).setCell ⟨w.heap.size + 1, 2, none⟩ (.int .i64 t)).setCell ⟨w.heap.size + 1, 3, none⟩ (.int .u32 u) := ⟨_, rfl⟩
  have r6 : w6.heap[w.heap.size + 1]? = some (.cells #[.slice (some ⟨w1.heap.size, 0, none⟩) n (n + 2), .int .u32 s, .int .i64 t, .int .u32 u] 25 (0, 0)) := by
    rw [hw6, heap_setCell_same (heap_setCell_same (heap_setCell_same (heap_setCell_same r5 _) _) _)]; rfl
  have ga6 : Row5 w6 w1.heap.size (zs ++ [0, 0]) := by
    refine ⟨?_, fun z hz' => ?_⟩
    · rw [hw6, heap_setCell_far (by simp; omega), heap_setCell_far (by simp; omega), heap_setCell_far (by simp; omega), heap_setCell_far (by simp; omega)]; exact g5
    · rcases List.mem_append.1 hz' with h0 | h0
      · exact h.1 z h0
      · simp at h0; omega
  have hb6 : But (fun _ => False) w w6 := by rw [hw6]; exact (((hb5.setCell (by simp) _).setCell (by simp) _).setCell (by simp) _).setCell (by simp) _
  have t0 : w6.cell? ⟨w.heap.size + 1, 0, none⟩ = some (.slice (some ⟨w1.heap.size, 0, none⟩) n (n + 2)) := (cell_of_row _ _ 0 _ _ _ r6).trans rfl
  have t1 : w6.cell? ⟨w.heap.size + 1, 1, none⟩ = some (.int .u32 s) := (cell_of_row _ _ 1 _ _ _ r6).trans rfl
  have t2 : w6.cell? ⟨w.heap.size + 1, 2, none⟩ = some (.int .i64 t) := (cell_of_row _ _ 2 _ _ _ r6).trans rfl
  have t3 : w6.cell? ⟨w.heap.size + 1, 3, none⟩ = some (.int .u32 u) := (cell_of_row _ _ 3 _ _ _ r6).trans rfl
  rw [← hw6]
  clear hw6
  refine bodyPost_ret (v := .agg #[.slice (some ⟨w1.heap.size, 0, none⟩) n (n + 2), .int .u32 s, .int .i64 t, .int .u32 u]) (by simp [results, Tryz.results5, go_sem, t0, t1, t2, t3]) rfl ⟨w1.heap.size, rfl, by omega, ga6, hb6⟩
end Go.Proofs.YtlckcnkognnlpaaGreatDoor
end
section
namespace Go.Proofs.YtlckcnkognnlpaaGreatDoor
open Go.RowKit
set_option maxRecDepth 100000
attribute [local go_sem ↓] Go.wp_at_zero Go.wp_at_succ

theorem YC.bytes {w : World} {Y ga n : Nat} {s t u : Int} (h : YC w Y ga n s t u) : ∃ zs, zs.length = n ∧ At w (some ⟨ga, 0, none⟩) zs := by
  obtain ⟨zs, q1, q2⟩ := h.row.at
  exact ⟨zs.take n, by simp; omega, q2.take n⟩

theorem door1 (w : World) (Y ga n : Nat) (s t u : Int) (h : YC w Y ga n s t u) :
    Calls Tryz.prog 7 #[.pointer (some ⟨Y, 0, none⟩)] w fun e w' => e = .returned (.slice none 0 0) ∧ But (fun _ => False) w w' := by
  have u25 := Tryz.underlying25
  have y0 : w.cell? ⟨Y, 0, none⟩ = some (.slice (some ⟨ga, 0, none⟩) n (n + 2)) := (cell_of_row _ _ 0 _ _ _ h.y).trans rfl
  obtain ⟨zs, hz, hA⟩ := h.bytes
  have R := sum_call w (some ⟨ga, 0, none⟩) n (n + 2) zs hz (by have := h.hn; omega) hA
  clear h hz hA
  go_enter Tryz.func7, Tryz.ntmps7
  go_wp2_with fail
  refine R.mono ?_
  rintro e w1 ⟨⟨r, rfl⟩, rfl⟩
  go_wp2_with fail
  go_ret
  exact ⟨rfl, But.refl _ _⟩

set_option maxHeartbeats 1600000 in
theorem door2 (w : World) (Y ga n : Nat) (s t u : Int) (h : YC w Y ga n s t u) :
    Calls Tryz.prog 9 #[.pointer (some ⟨Y, 0, none⟩)] w fun e w' => e = .returned (.slice none 0 0) ∧ But (fun _ => False) w w' := by
  have u25 := Tryz.underlying25
  have y0 : w.cell? ⟨Y, 0, none⟩ = some (.slice (some ⟨ga, 0, none⟩) n (n + 2)) := (cell_of_row _ _ 0 _ _ _ h.y).trans rfl
  have y1 : w.cell? ⟨Y, 1, none⟩ = some (.int .u32 s) := (cell_of_row _ _ 1 _ _ _ h.y).trans rfl
  obtain ⟨zs, hz, hA⟩ := h.bytes
  have R := more_call w.drew (some ⟨ga, 0, none⟩) n (n + 2) s zs hz (by have := h.hn; omega) (hA.but (But.refl (fun _ => False) w).drew (by simp))
  clear h hz hA
  go_enter Tryz.func9, Tryz.ntmps9
  go_wp2_with fail
  go_region_held3 (fun w' => w'.cell? ⟨Y, 0, none⟩ = some (.slice (some ⟨ga, 0, none⟩) n (n + 2)) ∧ w'.cell? ⟨Y, 1, none⟩ = some (.int .u32 s)) (go_keep) ((go_at_call 10; refine R.mono ?_; rintro e w1 ⟨⟨r, rfl⟩, rfl⟩))
  all_goals
    go_wp2_with fail
    go_ret
    exact ⟨rfl, (But.refl _ _).drew⟩

/-- What a call that hands one closure back leaves. -/
def Hands (f : FuncId) (w : World) (e : Ending) (w' : World) : Prop := ∃ G A, e = .returned (.slice (some ⟨G, 0, none⟩) 1 1) ∧ Gives f w.heap.size w' G A ∧ But (fun _ => False) w w'

theorem hands_of {f : FuncId} {w w' : World} {G A : Nat} {v : Value} {ws : List Int} (hs : ∀ {B A : Nat} {w : World}, Shows 14 A B w → Shows f A B w) (hC : Clo f 22 w.heap.size w' G A v) (ho : Own5 w.heap.size w' v ws) : Gives f w.heap.size w' G A := by
  obtain ⟨o, c, hv, q⟩ := ho.slc
  exact ⟨hC.row, hC.newG, hs (nums_shows ⟨by rw [← hv]; exact hC.var, hC.newA, q⟩)⟩
theorem viaA {B A : Nat} {w : World} (h : Shows 14 A B w) : Shows 13 A B w := shows_via (f := 14) (fun _ _ _ h => cloA_call h) h
theorem viaB {B A : Nat} {w : World} (h : Shows 14 A B w) : Shows 17 A B w := shows_via (f := 14) (fun _ _ _ h => cloB_call h) h
theorem viaC {B A : Nat} {w : World} (h : Shows 14 A B w) : Shows 20 A B w := shows_via (f := 14) (fun _ _ _ h => cloC_call h) h

set_option maxHeartbeats 1600000 in
theorem door3 (w : World) (Y ga n : Nat) (s t u : Int) (h : YC w Y ga n s t u) :
    Calls Tryz.prog 11 #[.pointer (some ⟨Y, 0, none⟩)] w fun e w' => Hands 13 w e w' := by
  have u25 := Tryz.underlying25
  have y0 : w.cell? ⟨Y, 0, none⟩ = some (.slice (some ⟨ga, 0, none⟩) n (n + 2)) := (cell_of_row _ _ 0 _ _ _ h.y).trans rfl
  obtain ⟨zs, hz, hA⟩ := h.bytes
  have R := sealed_call w (some ⟨ga, 0, none⟩) n (n + 2) zs hz (by have := h.hn; omega) (by simp) hA
  clear h hz hA
  go_enter Tryz.func11, Tryz.ntmps11
  go_wp2_with fail
  refine R.mono ?_
  rintro e w1 ⟨v1, ws, rfl, hws, ho1, hb1⟩
  have HO := ho1
  obtain ⟨o', c', hv1, -⟩ := ho1.at
  subst hv1
  clear hws R
  go_wp2_with fail
  go_ret
  exact ⟨_, _, rfl, hands_of viaA (clo_of 13 22 _ hb1.size) (HO.but (((But.refl _ _).alloc _).alloc _)), (hb1.alloc _).alloc _⟩

set_option maxHeartbeats 1600000 in
theorem door4 (w : World) (Y ga n : Nat) (s t u : Int) (h : YC w Y ga n s t u) :
    Calls Tryz.prog 15 #[.pointer (some ⟨Y, 0, none⟩)] w fun e w' => Hands 17 w e w' := by
  have u25 := Tryz.underlying25
  have y0 : w.cell? ⟨Y, 0, none⟩ = some (.slice (some ⟨ga, 0, none⟩) n (n + 2)) := (cell_of_row _ _ 0 _ _ _ h.y).trans rfl
  obtain ⟨zs, hz, hA⟩ := h.bytes
  have R : Calls Tryz.prog 16 #[.slice (some ⟨ga, 0, none⟩) n (n + 2)] w fun e w' => ∃ v ws ok, e = .returned (.tuple #[v, .bool ok]) ∧ Own5 w.heap.size w' v ws ∧ But (fun _ => False) w w' := by
    rcases Nat.lt_or_ge n 4 with h4 | h4
    · exact (opened_few w _ n (n + 2) h4).mono (fun e w' hh => ⟨_, [], false, hh.1, Own5.nil _ _, hh.2⟩)
    · obtain ⟨N, rfl⟩ : ∃ N, n = N + 4 := ⟨n - 4, by omega⟩
      refine (opened_call w ga 0 N (N + 4 + 2) zs hz (by omega) (by have := h.hn; unfold maxLen; omega) (by have := h.hn; omega) hA).mono ?_
      rintro e w' ⟨v, ws, ok, q1, -, q2, q3⟩
      exact ⟨v, ws, ok, q1, q2, q3⟩
  clear h hz hA
  go_enter Tryz.func15, Tryz.ntmps15
  go_wp2_with fail
  refine R.mono ?_
  rintro e w1 ⟨v1, ws, ok, rfl, ho1, hb1⟩
  have HO := ho1
  obtain ⟨o', c', hv1, -⟩ := ho1.at
  subst hv1
  clear R
  go_wp2_with fail
  go_ret
  exact ⟨_, _, rfl, hands_of viaB (clo_of 17 22 _ hb1.size) (HO.but (((But.refl _ _).alloc _).alloc _)), (hb1.alloc _).alloc _⟩

set_option maxHeartbeats 3200000 in
theorem door5 (w : World) (Y ga n : Nat) (s t u : Int) (h : YC w Y ga n s t u) :
    Calls Tryz.prog 18 #[.pointer (some ⟨Y, 0, none⟩)] w fun e w' => Hands 20 w e w' := by
  have u25 := Tryz.underlying25
  have y0 : w.cell? ⟨Y, 0, none⟩ = some (.slice (some ⟨ga, 0, none⟩) n (n + 2)) := (cell_of_row _ _ 0 _ _ _ h.y).trans rfl
  have y2 : w.cell? ⟨Y, 2, none⟩ = some (.int .i64 t) := (cell_of_row _ _ 2 _ _ _ h.y).trans rfl
  have y3 : w.cell? ⟨Y, 3, none⟩ = some (.int .u32 u) := (cell_of_row _ _ 3 _ _ _ h.y).trans rfl
  obtain ⟨zs, hz, hA⟩ := h.bytes
  have RR : ∀ w', But (fun _ => False) w w' → Calls Tryz.prog 19 #[.slice (some ⟨ga, 0, none⟩) n (n + 2), .int .i64 t, .int .u32 u] w' fun e w'' => BurstPost w' n e w'' := fun w' hb =>
    burst_call w' ga 0 n (n + 2) t u zs hz (by have := h.hn; omega) (hA.but hb (by simp)) h.ht h.hu
  have ly := lt_of_block h.y
  have hbA : But (fun _ => False) w w.drew := (But.refl _ w).drew
  have hbB : But (fun _ => False) w (w.alloc (.cells #[.slice none 0 0] 22)).drew := ((But.refl _ w).alloc _).drew
  have vB : (w.alloc (.cells #[.slice none 0 0] 22)).drew.heap[w.heap.size]? = some (.cells #[.slice none 0 0] 22 (0, 0)) := heap_alloc_new w _
  have hyne : w.heap.size ≠ Y := by omega
  clear h hz hA
  go_enter Tryz.func18, Tryz.ntmps18
  go_wp2_with fail
  go_region_held3 (fun w' => w'.cell? ⟨Y, 0, none⟩ = some (.slice (some ⟨ga, 0, none⟩) n (n + 2)) ∧ w'.cell? ⟨Y, 2, none⟩ = some (.int .i64 t) ∧ w'.cell? ⟨Y, 3, none⟩ = some (.int .u32 u))
    (first | go_keep | (go_split_ands; refine ⟨?_, ?_, ?_⟩ <;> (rw [hb1.cell (by assumption) (by simp)]; assumption)))
    (first
      | (go_at_call 19; refine (RR _ hbA).mono ?_; rintro e w1 ⟨v1, ws, x, rfl, ho1, hws, hb1⟩; have H : Hid (But (fun _ => False) w w1 ∧ Own5 w.heap.size w1 v1 ws) := ⟨hbA.trans hb1 (by simp), ho1⟩; obtain ⟨o', c', hv1, hxx⟩ := ho1.at; clear hxx; subst hv1; have k0 := (hb1.cell (p := ⟨Y, 0, none⟩) ly (by simp)).trans y0; have k1 := (hb1.cell (p := ⟨Y, 2, none⟩) ly (by simp)).trans y2; have k5 := (hb1.cell (p := ⟨Y, 3, none⟩) ly (by simp)).trans y3; have n0 := World.new_ne w1 _ k0)
      | (go_at_call 19; refine (RR _ hbB).mono ?_; rintro e w1 ⟨v1, ws, x, rfl, ho1, hws, hb1⟩; have H : Hid (But (fun _ => False) w w1 ∧ Own5 w.heap.size w1 v1 ws) := ⟨hbB.trans hb1 (by simp), ho1.mono hbB.size⟩; obtain ⟨o', c', hv1, hxx⟩ := ho1.at; clear hxx; subst hv1; have k0 := (H.out.1.cell (p := ⟨Y, 0, none⟩) ly (by simp)).trans y0; have k1 := (H.out.1.cell (p := ⟨Y, 2, none⟩) ly (by simp)).trans y2; have k5 := (H.out.1.cell (p := ⟨Y, 3, none⟩) ly (by simp)).trans y3; have k2 := hb1.to vB (by simp); have k3 := cell_of_one k2; have k4 := free_of_one k2; have n0 := World.new_ne w1 _ k0))
  all_goals first
    | (have k2' := k2
       have HH := H.out
       go_wp2_with fail
       go_ret
       have C := clo_of2 20 (.slice o' ws.length c') k2' (Nat.le_refl w.heap.size)
       have O := HH.2.other (grownBy_setCell w1 ⟨w.heap.size, 0, none⟩ (.slice o' ws.length c')) (fun k hk => by injection hk with hk; subst hk; exact ⟨_, _, _, k2', by decide⟩)
       exact ⟨_, _, rfl, hands_of viaC C (O.but ((But.refl _ _).alloc _)), (HH.1.setCell (fun h => by simp at h) _).alloc _⟩)
    | (have HH := H.out
       go_wp2_with fail
       go_ret
       exact ⟨_, _, rfl, hands_of viaC (clo_of 20 22 _ HH.1.size) (HH.2.but (((But.refl _ _).alloc _).alloc _)), (HH.1.alloc _).alloc _⟩)
end Go.Proofs.YtlckcnkognnlpaaGreatDoor
end
section
namespace Go.Proofs.YtlckcnkognnlpaaGreatDoor
open Go.RowKit
set_option maxRecDepth 100000

theorem seen_len (l : List Int) (n : Nat) (zs : List Int) : (seen l n zs).length = l.length + 1 + min zs.length (200000 - (l.length + 1)) := by
  unfold seen; simp; omega

theorem MarksY.agree {see : FuncId} {Y : Nat} {K : Nat → Prop} {w w1 : World} (h : MarksY see Y K w) (ha : Agree K w w1) : MarksY see Y K w1 := fun w2 h2 => h w2 (ha.trans h2)

/-- The scene: y, told by what see shows of it, behind steps that turned nothing of W. -/
structure Sc (xo : Obj) (see : FuncId) (W w : World) (Y : Nat) (K : Nat → Prop) (L : List Int) : Prop where
  all : But (fun _ => False) W w
  x : w.heap[W.heap.size]? = some xo
  rd : ReadsY see Y K w L
  low : ∀ k, K k → W.heap.size < k ∧ k ≤ Y
  yl : W.heap.size < Y ∧ Y < w.heap.size

theorem Sc.agrees {S : Nat → Prop} {xo : Obj} {see : FuncId} {W w w' : World} {Y : Nat} {K : Nat → Prop} {L : List Int} (h : Sc xo see W w Y K L) (hb : But S w w') (hK : ∀ k, K k → ¬ S k) : Agree K w w' :=
  (Agree.refl K w).but hb (fun k hk => ⟨by have := h.low k hk; have := h.yl; omega, hK k hk⟩)
theorem Sc.step {S : Nat → Prop} {xo : Obj} {see : FuncId} {W w w' : World} {Y : Nat} {K : Nat → Prop} {L : List Int} (h : Sc xo see W w Y K L) (hb : But S w w') (hK : ∀ k, K k → ¬ S k) (hl : ∀ k, k ≤ W.heap.size → ¬ S k) : Sc xo see W w' Y K L :=
  ⟨h.all.trans hb (fun k hk hs => hl k (Nat.le_of_lt hk) hs), hb.to h.x (hl _ (Nat.le_refl _)), h.rd.agree (h.agrees hb hK), h.low, ⟨h.yl.1, by have := h.yl.2; have := hb.size; omega⟩⟩
theorem Sc.quiet {xo : Obj} {see : FuncId} {W w w' : World} {Y : Nat} {K : Nat → Prop} {L : List Int} (h : Sc xo see W w Y K L) (hb : But (fun _ => False) w w') : Sc xo see W w' Y K L := h.step hb (by simp) (by simp)

/-- An eye that has seen L. -/
def Has (w : World) (E : Nat) (L : List Int) (rm : Bool) : Prop := ∃ v C, w.heap[E]? = some (.cells (eyeCells v false 0 rm) 50 (0, 0)) ∧ w.ownsRow C 3 1 v L.length (L.map (Value.int .i64))
theorem Has.step {S : Nat → Prop} {w w' : World} {E : Nat} {L : List Int} {rm : Bool} (h : Has w E L rm) (hb : But S w w') (hE : ¬ S E) (h3 : ∀ k cs, w.heap[k]? = some (.cells cs 3 (0, 0)) → ¬ S k) : Has w' E L rm := by
  obtain ⟨v, C, h1, h2⟩ := h
  refine ⟨v, C, hb.to h1 hE, h2.1, ?_⟩
  rcases h2.2 with q | ⟨g, cap, cur, q1, q2, q3, q4⟩
  · exact .inl q
  · exact .inr ⟨g, cap, cur, q1, q2, hb.to q3 (h3 g cur q3), q4⟩
theorem Has.quiet {w w' : World} {E : Nat} {L : List Int} {rm : Bool} (h : Has w E L rm) (hb : But (fun _ => False) w w') : Has w' E L rm := h.step hb (by simp) (by simp)
theorem Has.of {w w' : World} {E : Nat} {L : List Int} {rm : Bool} (h : SeeI (fun _ => False) w E L false 0 rm w') : Has w' E L rm := by
  obtain ⟨v, q1, q2⟩ := h.eye
  exact ⟨v, _, q1, q2⟩
theorem Told.has {B : Nat} {w : World} {b : Nat} {L : List Int} (h : Told B w b L) : Has w b L false := by
  obtain ⟨v, C, q1, q2, -⟩ := h.eye
  exact ⟨v, C, q1, q2⟩
theorem not3 {w : World} {E : Nat} {cs : Array Value} {e : TypeId} (he : w.heap[E]? = some (.cells cs e (0, 0))) (h : e ≠ 3) : ∀ k cs', w.heap[k]? = some (.cells cs' 3 (0, 0)) → k ≠ E := fun k cs' hk e' => by
  rw [e', he] at hk; simp at hk; exact h hk.2

def eyeR : Obj := .cells (eyeCells (.slice none 0 0) false 0 true) 50
/-- y's block and the four eyes. -/
theorem alloc5 (v1 v2 : World) (o : Obj) (h : v2 = ((((v1.alloc o).alloc eyeR).alloc eyeR).alloc eyeR).alloc eyeR) :
    But (fun _ => False) v1 v2 ∧ v2.heap[v1.heap.size]? = some o ∧ v2.heap[v1.heap.size + 1]? = some eyeR ∧ v2.heap[v1.heap.size + 1 + 1]? = some eyeR ∧ v2.heap[v1.heap.size + 1 + 1 + 1]? = some eyeR ∧ v2.heap[v1.heap.size + 1 + 1 + 1 + 1]? = some eyeR ∧ v2.heap.size = v1.heap.size + 1 + 1 + 1 + 1 + 1 := by
  subst h
  have e : ∀ (w : World) (o : Obj) (k : Nat), (w.alloc o).heap[k]? = if k = w.heap.size then some o else w.heap[k]? := fun w o k => by
    show (w.heap.push o)[k]? = _
    rw [Array.getElem?_push]
  have es : ∀ (w : World) (o : Obj), (w.alloc o).heap.size = w.heap.size + 1 := fun w o => by simp
  refine ⟨((((But.refl _ _).alloc _).alloc _).alloc _).alloc _ |>.alloc _, ?_, ?_, ?_, ?_, ?_, by simp only [es]⟩
  · rw [e, if_neg (by simp only [es]; omega), e, if_neg (by simp only [es]; omega), e, if_neg (by simp only [es]; omega), e, if_neg (by simp only [es]; omega), e, if_pos rfl]
  · rw [e, if_neg (by simp only [es]; omega), e, if_neg (by simp only [es]; omega), e, if_neg (by simp only [es]; omega), e, if_pos (by simp only [es])]
  · rw [e, if_neg (by simp only [es]; omega), e, if_neg (by simp only [es]; omega), e, if_pos (by simp only [es])]
  · rw [e, if_neg (by simp only [es]; omega), e, if_pos (by simp only [es])]
  · rw [e, if_pos (by simp only [es])]

theorem row5_row {w : World} {g n : Nat} {zs : List Int} (h : Row5 w g zs) (hn : zs.length = n) : ByteRow w g n :=
  ⟨_, h.1, fun i hi => ⟨zs.getD i 0, by simp [hn, hi], h.2 _ (by simp [hn, hi])⟩⟩

/-- A look at no result; nothing is alike to nothing. -/
theorem make51 (w : World) : (Instr.makeSlice 51 (.int .i64 0) (.int .i64 0)).run Tryz.prog w = .ok (.slice (some ⟨w.heap.size, 0, none⟩) 0 0) (w.alloc (.cells #[] 50)) := by kernel_rfl
theorem look_nil (w : World) : Calls Tryz.prog 23 #[.slice none 0 0] w fun e w' => ∃ b, e = .returned (.slice (some ⟨b, 0, none⟩) 0 0) ∧ But (fun _ => False) w w' := by
  have hmk := make51
  go_enter Tryz.func23, Tryz.ntmps23
  go_wp2_with fail
  refine wp_loop_rounds 1 ?_
  rw [rounds_succ]
  go_wp2_with fail
  go_ret
  exact ⟨_, rfl, (But.refl _ _).alloc _⟩
theorem alike_nil (w : World) (g1 g2 : Nat) (k : Int) : Calls Tryz.prog 25 #[.slice (some ⟨g1, 0, none⟩) 0 0, .slice (some ⟨g2, 0, none⟩) 0 0, .int .i64 k] w fun e w' => e = .returned (.bool true) ∧ w = w' := by
  go_enter Tryz.func25, Tryz.ntmps25
  go_wp2_with fail
  refine wp_loop_rounds 1 ?_
  rw [rounds_succ]
  go_wp2_with fail
  go_ret
  exact ⟨rfl, rfl⟩

theorem look13 {B : Nat} {w w1 : World} {G A : Nat} {L : List Int} (hG : w1.cell? ⟨G, 0, none⟩ = some (.func (.func 13) #[] #[.pointer (some ⟨A, 0, none⟩)])) (h : Reads 13 A B w L) (hb : But (fun k => k < B) w w1) :
    Calls Tryz.prog 23 #[.slice (some ⟨G, 0, none⟩) 1 1] w1 fun e w' => ∃ b, e = .returned (.slice (some ⟨b, 0, none⟩) 1 1) ∧ But (fun _ => False) w1 w' ∧ Told w1.heap.size w' b L :=
  lookA_call w1 G A L hG (fun w2 hb2 b hbn he => h.2 w2 (hb.trans hb2 (by simp)) b (Nat.le_trans hb.size hbn) he)
theorem look17 {B : Nat} {w w1 : World} {G A : Nat} {L : List Int} (hG : w1.cell? ⟨G, 0, none⟩ = some (.func (.func 17) #[] #[.pointer (some ⟨A, 0, none⟩)])) (h : Reads 17 A B w L) (hb : But (fun k => k < B) w w1) :
    Calls Tryz.prog 23 #[.slice (some ⟨G, 0, none⟩) 1 1] w1 fun e w' => ∃ b, e = .returned (.slice (some ⟨b, 0, none⟩) 1 1) ∧ But (fun _ => False) w1 w' ∧ Told w1.heap.size w' b L :=
  lookB_call w1 G A L hG (fun w2 hb2 b hbn he => h.2 w2 (hb.trans hb2 (by simp)) b (Nat.le_trans hb.size hbn) he)
theorem look20 {B : Nat} {w w1 : World} {G A : Nat} {L : List Int} (hG : w1.cell? ⟨G, 0, none⟩ = some (.func (.func 20) #[] #[.pointer (some ⟨A, 0, none⟩)])) (h : Reads 20 A B w L) (hb : But (fun k => k < B) w w1) :
    Calls Tryz.prog 23 #[.slice (some ⟨G, 0, none⟩) 1 1] w1 fun e w' => ∃ b, e = .returned (.slice (some ⟨b, 0, none⟩) 1 1) ∧ But (fun _ => False) w1 w' ∧ Told w1.heap.size w' b L :=
  lookC_call w1 G A L hG (fun w2 hb2 b hbn he => h.2 w2 (hb.trans hb2 (by simp)) b (Nat.le_trans hb.size hbn) he)

/-- see over x itself, without room: the first eye. -/
theorem see_first (w : World) (E X : Nat) (he : w.heap[E]? = some (.cells (eyeCells (.slice none 0 0) false 0 false) 50 (0, 0))) (a : Option Addr) (n c : Nat) (s t u : Int)
    (hX : w.heap[X]? = some (.cells #[.slice a n c, .int .u32 s, .int .i64 t, .int .u32 u] 25 (0, 0))) (hXE : X ≠ E) (hnc : n ≤ c) (hc : c ≤ maxLen) (ha : a = none → c = 0) (zs : List Int) (hz : zs.length = n) (hA : At w a zs)
    (hab : ∀ ad, a = some ad → 0 < zs.length → ad.block ≠ E) (hs : U32 s) (ht : I64 t) (hu : U32 u) :
    Calls Tryz.prog 6 #[.pointer (some ⟨E, 0, none⟩), .pointer (some ⟨X, 0, none⟩)] w fun e w' => e = .returned (.tuple #[]) ∧ SeeI (fun _ => False) w E (seen [] n zs ++ [s] ++ [t] ++ [u]) false 0 false w' := by
  have hl := (seen_length [] n zs).1
  have cY : ∀ {w2 : World} {l : List Int} {o : Nat} {v : Value}, SeeI (fun _ => False) w E l false 0 false w2 → (#[.slice a n c, .int .u32 s, .int .i64 t, .int .u32 u] : Array Value)[o]? = some v → w2.cell? ⟨X, o, none⟩ = some v := fun hS hv =>
    (cell_of_row _ _ _ _ _ _ (hS.but.to hX (by simpa using hXE))).trans hv
  have lX := lt_of_block hX
  refine see_call4 (R1 := fun w2 => SeeI (fun _ => False) w E (seen [] n zs) false 0 false w2) (R2 := fun w2 => SeeI (fun _ => False) w E (seen [] n zs ++ [s]) false 0 false w2)
    (R3 := fun w2 => SeeI (fun _ => False) w E (seen [] n zs ++ [s] ++ [t]) false 0 false w2) ?_ (fun w2 hS => ?_) (fun w2 hS => ?_) (fun w2 hS => ?_)
  · exact nums_read _ w w E [] 0 false (SeeI.start he) ⟨X, 0, none⟩ a n c (cY (SeeI.start he) rfl) hnc hc ha zs (by simpa using hz) hA (fun ad e hl => by simpa using hab ad e hl) (by simp)
  · exact num32_read _ w w2 E _ 0 false hS ⟨X, 1, none⟩ s (cY hS rfl) hs (by simp at hl; omega) lX
  · exact num64_read _ w w2 E _ 0 false hS ⟨X, 2, none⟩ t (cY hS rfl) ht (by simp at hl ⊢; omega) lX
  · exact num32_read _ w w2 E _ 0 false hS ⟨X, 3, none⟩ u (cY hS rfl) hu (by simp at hl ⊢; omega) lX
end Go.Proofs.YtlckcnkognnlpaaGreatDoor
end
section
namespace Go.Proofs.YtlckcnkognnlpaaGreatDoor
open Go.ChangeShapes Go.WideShapes Go.ChangeAt Go.RowKit Go.Joins
set_option maxRecDepth 100000
/-- The closures' slice, as apart gets it. -/
def callsAt (n : Nat) : Value := .slice (some ⟨n, 0, none⟩) 5 5
def callsRow : Obj := .cells #[.func (.func 7) #[] #[], .func (.func 9) #[] #[], .func (.func 11) #[] #[], .func (.func 15) #[] #[], .func (.func 18) #[] #[]] 32
theorem walk3 (W : World) (a : Option Addr) (n c : Nat) (s t u : Int)
    (hap : Calls Tryz.prog 4 #[.agg #[.slice a n c, .int .u32 s, .int .i64 t, .int .u32 u], .func (.func 5) #[] #[], .func (.func 6) #[] #[], callsAt (W.heap.size + 1)] ((W.alloc (.cells #[.slice a n c, .int .u32 s, .int .i64 t, .int .u32 u] 25)).alloc callsRow)
      fun e w' => e = .returned (.bool true) ∧ Below W.heap.size W w')
    (hal : ∀ w, Below W.heap.size W w → Calls Tryz.prog 21 #[] w fun e w' => e = .returned (.bool true) ∧ Below W.heap.size W w') :
    Calls Tryz.prog 3 #[.agg #[.slice a n c, .int .u32 s, .int .i64 t, .int .u32 u]] W fun e W' => e = .returned (.bool true) ∧ Below W.heap.size W W' := by
  have c25 : Tryz.prog.cellsOf 25 = 4 := by kernel_rfl
  have u25 := Tryz.underlying25
  go_enter Tryz.func3, Tryz.ntmps3
  go_wp2_with fail
  refine hap.mono fun e w1 ⟨he, hb⟩ => ?_
  subst he
  go_wp2_with fail
  refine (hal w1 hb).mono fun e w2 ⟨he2, hb2⟩ => ?_
  subst he2
  go_wp2_with fail
  go_ret
  exact ⟨rfl, hb2⟩

/-- A slice of bytes that lies in W whole, its room too. -/
structure Bytes (W : World) (a : Option Addr) (n c : Nat) : Prop where
  le : n ≤ c
  cap : c ≤ maxLen
  none : a = none → c = 0
  at_ : ∀ ad, a = some ad → ∃ zs : List Int, zs.length = c ∧ (∀ i, i < c → ad.block < W.heap.size) ∧ (∀ i, i < c → W.cell? (ad.add i) = some (.int .u8 (zs.getD i 0))) ∧ ∀ z ∈ zs, (Lit.int .u8 z).wf = true
theorem und22 : Tryz.prog.underlying 22 = some (.slice 5) := by kernel_rfl
theorem und5 : Tryz.prog.underlying 5 = some (.int .u8) := by kernel_rfl
theorem und3 : Tryz.prog.underlying 3 = some (.int .i64) := by kernel_rfl
theorem und23 : Tryz.prog.underlying 23 = some (.int .u32) := by kernel_rfl
theorem cells5 : Tryz.prog.cellsOf 5 = 1 := by kernel_rfl
theorem cells25 : Tryz.prog.cellsOf 25 = 4 := by kernel_rfl
theorem bytes_of {H : Type} {enc : TypeId × Value → H} {W : World} {n : Nat} {v : Value} {y : DataW H × List MemPlace} (h : DataW.trod enc Tryz.prog W 0 (fun _ => true) true n 22 [v] = some y) (hlt : ∀ x ∈ y.2, x.block < W.heap.size) :
    ∃ a n c, v = .slice a n c ∧ Bytes W a n c := by
  rcases open_ints und22 und5 cells5 h with ⟨h0, _⟩ | ⟨a, len, cap, zs, h0, _, hl, hm, hz, hy, hc, hw⟩
  · obtain rfl := List.singleton_inj.1 h0
    exact ⟨_, _, _, rfl, ⟨Nat.le_refl _, Nat.zero_le _, fun _ => rfl, fun _ h => by cases h⟩⟩
  · obtain rfl := List.singleton_inj.1 h0
    simp only [if_true] at hz
    refine ⟨_, _, _, rfl, ⟨hl, hm, fun h => (by cases h), fun ad had => ?_⟩⟩
    obtain rfl := Option.some.inj had
    refine ⟨zs, hz, fun i hi => ?_, fun i hi => hc i (by omega), hw⟩
    subst hy
    exact hlt (.cell a.block a.off) (MemPlace.mem_row.2 ⟨0, by omega, by simp [Addr.add]⟩)
theorem num_of {H : Type} {enc : TypeId × Value → H} {W : World} {n ty : Nat} {k : IntKind} {v : Value} {y : DataW H × List MemPlace} (ht : Tryz.prog.underlying ty = some (.int k)) (h : DataW.trod enc Tryz.prog W 0 (fun _ => true) true n ty [v] = some y) :
    ∃ z, v = .int k z ∧ (Lit.int k z).wf = true := by
  obtain ⟨z, h1, -, h3⟩ := DataW.trod_int ht h
  exact ⟨z, List.singleton_inj.1 h1, h3⟩
theorem u32_wf {z : Int} (h : (Lit.int .u32 z).wf = true) : U32 z := by
  simp [Lit.wf, IntKind.min, IntKind.max, IntKind.bits, IntKind.signed] at h
  unfold U32; omega
theorem i64_wf {z : Int} (h : (Lit.int .i64 z).wf = true) : I64 z := by
  simp [Lit.wf, IntKind.min, IntKind.max, IntKind.bits, IntKind.signed] at h
  unfold I64; omega
theorem u8_wf {z : Int} (h : (Lit.int .u8 z).wf = true) : 0 ≤ z ∧ z < 256 := by
  simp [Lit.wf, IntKind.min, IntKind.max, IntKind.bits, IntKind.signed] at h
  omega
theorem Bytes.at {W : World} {a : Option Addr} {n c : Nat} (h : Bytes W a n c) : ∃ zs, zs.length = n ∧ At W a zs := by
  rcases a with _ | ad
  · have := h.none rfl
    have := h.le
    exact ⟨[], by simp; omega, by simp, by simp⟩
  · obtain ⟨zs, h1, -, h2, h3⟩ := h.at_ ad rfl
    have hle := h.le
    refine ⟨zs.take n, by simp; omega, fun z hz => u8_wf (h3 z (List.mem_of_mem_take hz)), fun i hi => ⟨ad, rfl, ?_⟩⟩
    simp at hi
    rw [h2 i (by omega)]
    simp [List.getD, show i < zs.length from by omega, show i < n from by omega]
/-- The door's argument, opened. -/
theorem open_door {H : Type} {enc : TypeId × Value → H} {W : World} {r : Reach} {base : Nat} {v : Value} {d : DataW H} {p : List MemPlace} (hok : Value.okWide Tryz.prog W r base 25 v) (ht : DataW.Trod enc Tryz.prog W 0 (fun _ => true) true 25 v d p) (hlt : ∀ x ∈ p, x.block < W.heap.size) :
    ∃ a n c s t u, v = .agg #[.slice a n c, .int .u32 s, .int .i64 t, .int .u32 u] ∧ Bytes W a n c ∧ U32 s ∧ I64 t ∧ U32 u := by
  obtain ⟨v0, v1, v2, v3, y0, y1, y2, y3, k, rfl, rfl, rfl, h0, h1, h2, h3⟩ := open_agg4 Tryz.underlying25 (by kernel_rfl) cells25 hok ht
  obtain ⟨a, n, c, rfl, B0⟩ := bytes_of h0 (fun x hx => hlt x (List.mem_append_left _ hx))
  obtain ⟨s, rfl, w1⟩ := num_of und23 h1
  obtain ⟨t, rfl, w2⟩ := num_of und3 h2
  obtain ⟨u, rfl, w3⟩ := num_of und23 h3
  exact ⟨a, n, c, s, t, u, rfl, B0, u32_wf w1, i64_wf w2, u32_wf w3⟩
end Go.Proofs.YtlckcnkognnlpaaGreatDoor
end
