/-
  The reckoner is sound, last part: the library's functions by contract, calls told in parts, a run joined from its parts.
-/
import Derived.Test.YtoplphimhbnelaaGreatDoorD
import Derived.Laws.Externs
import Derived.Lib.MakeNoZero
import Derived.Shelf.Strings.Fields
import Derived.RecoverIn
import Derived.BigFrameIn
import Derived.KernelRfl
set_option linter.all false
set_option linter.unusedVariables false
set_option linter.unusedSimpArgs false
section
namespace Go.Ax
open Go Go.RowKit
noncomputable section
set_option linter.unusedSectionVars false
set_option linter.unusedVariables false
set_option linter.unusedSimpArgs false
variable {P : Program} {op : Nat → Value} {ti : TI}
/-- A function without a body, run as its entry says. -/
def RunsAs (P : Program) (g : FuncId) (e : Array Value → Sem Value) : Prop := ∀ args w, (callFunc g args).run P w = ((e args).run P w).andThen fun v w' => .ok (.value v) w'
theorem asByte_inv {F : Res} (hg : F.good) {v : AV} {k : Nat → Res} (h : F = v.asByte k) : ∃ c : Nat, v = .int .u8 (.ofNat c) ∧ c ≤ 255 ∧ F = k c := by
  obtain ⟨i, n, e, h⟩ := asInt_inv hg h
  obtain ⟨g1, h⟩ := guard_inv hg h
  cases n with
  | ofNat c =>
    obtain ⟨g2, h⟩ := guard_inv hg h
    exact ⟨c, by rw [e, sameKind_eq g1], Nat.le_of_ble_eq_true g2, h⟩
  | negSucc c => rw [h] at hg; exact hg.elim
theorem asI64_inv {F : Res} (hg : F.good) {v : AV} {k : Nat → Res} (h : F = v.asI64 k) : ∃ c : Nat, v = .int .i64 (.ofNat c) ∧ F = k c := by
  obtain ⟨i, n, e, h⟩ := asInt_inv hg h
  obtain ⟨g1, h⟩ := guard_inv hg h
  cases n with
  | ofNat c => exact ⟨c, by rw [e, sameKind_eq g1], h⟩
  | negSucc c => rw [h] at hg; exact hg.elim
/-- The one argument. -/
theorem one_arg {ρ : Rho} {c : AV} {vs : List Value} (hl : LRel op ρ c vs) {F : Res} (hg : F.good) {k : AV → Res} (hF : F = c.nthK 0 fun x => guardK (Nat.beq c.len 1) (k x)) : ∃ x v, vs = [v] ∧ VRel op ρ x v ∧ F = k x := by
  obtain ⟨x, ⟨v, hv, hx⟩, hF⟩ := Out.inv hg hF (nthK_ok op c 0 _ hl)
  obtain ⟨g1, hF⟩ := guard_inv hg hF
  have g1 := Nat.eq_of_beq_eq_true g1
  rw [len_ok op c hl] at g1
  refine ⟨x, v, ?_, hx, hF⟩
  match vs, g1, hv with
  | [u], _, hv => cases hv; rfl
/- ### abi.NoEscape -/
theorem ext_noEscape {g t u : Nat} (h : RunsAs P g Extern.AbiNoEscape.same) : ExtOk P op ti g (extK 3 t u) := by
  intro w0 ρ s w c vs F k hg hF hl hG hH
  have hF : F = c.nthK 0 fun x => guardK (Nat.beq c.len 1) (k x s) := hF
  obtain ⟨x, v, rfl, hx, hF⟩ := one_arg hl hg hF
  refine .inl ⟨v, w, ?_, x, s, ρ, by rw [hF]; exact .refl _, .refl _, hx, hH⟩
  rw [h]; rfl
/- ### maps.clone -/
theorem ext_clone {g t u : Nat} (h : RunsAs P g Extern.MapsClone.clone) : ExtOk P op ti g (extK 2 t u) := by
  intro w0 ρ s w c vs F k hg hF hl hG hH
  have hF : F = c.nthK 0 fun x => guardK (Nat.beq c.len 1) (x.caseIfc .fail fun t v => v.asMap fun id => (s.get id).asMap fun es c => s.newK (.map es c) fun id' s' => k (.ifc t (.map id')) s') := hF
  obtain ⟨x, v, rfl, hx, hF⟩ := one_arg hl hg hF
  rcases caseIfc_inv hg hF with ⟨_, hF⟩ | ⟨ty, y, rfl, hF⟩
  · rw [hF] at hg; exact hg.elim
  · obtain ⟨uv, hy, rfl⟩ := hx
    clear hF
    rename_i hF
    obtain ⟨id, rfl, hF⟩ := asMap_inv hg hF
    obtain ⟨es, cl, ho, hF⟩ := oasMap_inv hg hF
    obtain ⟨hn, hF⟩ := newK_inv hg hF
    obtain ⟨p, hp, rfl⟩ := hy
    have hob := hH.obj id p hp
    rw [ho] at hob
    obtain ⟨hB, l, hb, hml⟩ := hob
    have hnone := (hH.fresh (o := .dead) hn).2
    obtain ⟨hsub, hnew, hH'⟩ := hH.make (a := .map es cl) (p := ⟨w.heap.size, 0, 0⟩) hn rfl (grew_alloc w (.map l cl)) ⟨hH.below.size, l, rfl, hml.mono (Rho.put_sub hnone)⟩
    refine .inl ⟨.iface ty (.map (some w.heap.size)), w.alloc (.map l cl), ?_, .ifc ty (.map s.next), _, _, by rw [hF]; exact .refl _, hsub, ⟨_, ⟨_, hnew, rfl⟩, rfl⟩, hH'⟩
    rw [h]
    have : (Extern.MapsClone.clone #[.iface ty (.map (some p.b))]).run P w = .ok (.iface ty (.map (some w.heap.size))) (w.alloc (.map l cl)) := by
      have hgo : (getObj p.b).run P w = .ok (.map l cl) w := by simp [getObj, Sem.run, hb]
      have hdef : Extern.MapsClone.clone #[.iface ty (.map (some p.b))] = (do
        let .map entries clock ← getObj p.b | stuck "maps.clone: a map expected"
        pure (.iface ty (.map (some (← newObj (.map entries clock)))))) := rfl
      rw [hdef]
      simp [hgo, run_newObj_alloc, Result.andThen]
    rw [this]; rfl
/- ### bytealg.IndexByteString -/
theorem idx_spec (c : Nat) : ∀ (l : BL) (i : Nat), (BL.rec (motive := fun _ => Nat → Int) (fun _ => .negSucc 0) (fun b _ ih i => Bool.rec (motive := fun _ => Int) (ih (Nat.succ i)) (.ofNat i) (Nat.beq b c)) l i = -1 ∧ ∀ (j : Nat) (b : UInt8), l.toBytes[j]? = some b → l.ok → c ≤ 255 → b ≠ UInt8.ofNat c) ∨
    ∃ j : Nat, BL.rec (motive := fun _ => Nat → Int) (fun _ => .negSucc 0) (fun b _ ih i => Bool.rec (motive := fun _ => Int) (ih (Nat.succ i)) (.ofNat i) (Nat.beq b c)) l i = ((i + j : Nat) : Int) ∧ l.toBytes[j]? = some (UInt8.ofNat c) ∧ ∀ (j' : Nat) (b : UInt8), j' < j → l.toBytes[j']? = some b → l.ok → c ≤ 255 → b ≠ UInt8.ofNat c
  | .nil, i => .inl ⟨rfl, fun j b h => by simp [BL.toBytes] at h⟩
  | .cons b t, i => by
    have hrec : ∀ i, BL.rec (motive := fun _ => Nat → Int) (fun _ => .negSucc 0) (fun b _ ih i => Bool.rec (motive := fun _ => Int) (ih (Nat.succ i)) (.ofNat i) (Nat.beq b c)) (.cons b t) i = Bool.rec (motive := fun _ => Int) (BL.rec (motive := fun _ => Nat → Int) (fun _ => .negSucc 0) (fun b _ ih i => Bool.rec (motive := fun _ => Int) (ih (Nat.succ i)) (.ofNat i) (Nat.beq b c)) t (Nat.succ i)) (.ofNat i) (Nat.beq b c) := fun _ => rfl
    rw [hrec]
    have hne : ∀ {b : Nat}, b ≠ c → b < 256 → c ≤ 255 → UInt8.ofNat b ≠ UInt8.ofNat c := fun hbc hb hc e => hbc (by
      have := congrArg UInt8.toNat e
      simp at this; omega)
    cases hb : Nat.beq b c with
    | true =>
      refine .inr ⟨0, rfl, ?_, fun j' _ h => absurd h (Nat.not_lt_zero _)⟩
      rw [Nat.eq_of_beq_eq_true hb]; rfl
    | false =>
      have hbc : b ≠ c := fun e => by rw [e, Nat.beq_refl] at hb; cases hb
      rcases idx_spec c t (i + 1) with ⟨h1, h2⟩ | ⟨j, h1, h2, h3⟩
      · refine .inl ⟨h1, fun j b' hj hok hc => ?_⟩
        cases j with
        | zero => cases hj; exact hne hbc hok.1 hc
        | succ j => exact h2 j b' hj hok.2 hc
      · refine .inr ⟨j + 1, by rw [show i + (j + 1) = i + 1 + j by omega]; exact h1, h2, fun j' b' hj' hj hok hc => ?_⟩
        cases j' with
        | zero => cases hj; exact hne hbc hok.1 hc
        | succ j' => exact h3 j' b' (by omega) hj hok.2 hc
theorem idx_ok {l : BL} {c : Nat} (hok : l.ok) (hc : c ≤ 255) : idx l c = firstIdx l.arr (UInt8.ofNat c) := by
  have hget : ∀ (i : Nat), i < l.arr.size → l.toBytes[i]? = some (l.arr[i]!) := by
    intro i hi
    have hi' : i < l.toBytes.length := hi
    rw [List.getElem?_eq_getElem hi']
    have : l.arr[i]! = l.arr[i] := getElem!_pos l.arr i hi
    rw [this]; rfl
  unfold firstIdx
  rcases idx_spec c l 0 with ⟨h1, h2⟩ | ⟨j, h1, h2, h3⟩
  · have : (List.range l.arr.size).find? (fun i => l.arr[i]! == UInt8.ofNat c) = none := by
      rw [List.find?_eq_none]
      intro i hi
      have hi := List.mem_range.1 hi
      have := h2 i _ (hget i hi) hok hc
      simpa using this
    rw [this]; exact h1
  · have hj : j < l.arr.size := by
      obtain ⟨h, _⟩ := List.getElem?_eq_some_iff.1 h2
      exact h
    have : (List.range l.arr.size).find? (fun i => l.arr[i]! == UInt8.ofNat c) = some j := by
      rw [List.find?_range_eq_some]
      refine ⟨?_, List.mem_range.2 hj, fun k hk => ?_⟩
      · have := hget j hj
        rw [h2] at this
        have := Option.some.inj this
        rw [← this]; simp
      · have := h3 k _ hk (hget k (by omega)) hok hc
        simpa using this
    rw [this]
    exact h1.trans (by simp)
theorem ext_index {g t u : Nat} (h : RunsAs P g Extern.BytealgIndexByte.indexByte) : ExtOk P op ti g (extK 1 t u) := by
  intro w0 ρ s w c vs F k hg hF hl hG hH
  have hF : F = c.nthK 0 fun x => c.nthK 1 fun y => guardK (Nat.beq c.len 2) (x.asStr fun l => y.asByte fun b => k (.int .i64 (idx l b)) s) := hF
  obtain ⟨x, ⟨v, hv, hx⟩, hF⟩ := Out.inv hg hF (nthK_ok op c 0 _ hl)
  obtain ⟨y, ⟨v', hv', hy⟩, hF⟩ := Out.inv hg hF (nthK_ok op c 1 _ hl)
  obtain ⟨g1, hF⟩ := guard_inv hg hF
  have g1 := Nat.eq_of_beq_eq_true g1
  rw [len_ok op c hl] at g1
  obtain ⟨l, rfl, hF⟩ := asStr_inv hg hF
  obtain ⟨b, rfl, hb, hF⟩ := asByte_inv hg hF
  obtain ⟨hok, rfl⟩ := hx
  have hy : v' = .int .u8 (.ofNat b) := hy
  subst hy
  have hvs : vs = [.string l.arr, .int .u8 (.ofNat b)] := by
    match vs, g1, hv, hv' with
    | [_, _], _, hv, hv' => cases hv; cases hv'; rfl
  subst hvs
  refine .inl ⟨.int .i64 (idx l b), w, ?_, .int .i64 (idx l b), s, ρ, by rw [hF]; exact .refl _, .refl _, rfl, hH⟩
  rw [h]
  have : (Extern.BytealgIndexByte.indexByte [Value.string l.arr, .int .u8 (.ofNat b)].toArray).run P w = .ok (.int .i64 (firstIdx l.arr (UInt8.ofNat b))) w := by
    rw [show [Value.string l.arr, .int .u8 (.ofNat b)].toArray = #[.string l.arr, .int .u8 (.ofNat b)] from rfl, run_indexByte_string]; rfl
  rw [this, idx_ok hok hb]; rfl
/- ### bytealg.MakeNoZero -/
theorem digits_ints : ∀ (n t : Nat) (acc : Array Value), (∀ v ∈ acc.toList, v.oneCell' = true) → ∀ v ∈ (Extern.BytealgMakeNoZero.digits n t acc).toList, v.oneCell' = true
  | 0, _, _, h => h
  | n + 1, t, acc, h => by
    rw [Extern.BytealgMakeNoZero.digits]
    refine digits_ints n _ _ ?_
    intro v hv
    rw [Array.toList_push, List.mem_append] at hv
    rcases hv with hv | hv
    · exact h v hv
    · rw [List.mem_singleton] at hv; subst hv; rfl
theorem run_makeNoZero' (w : World) (ps : Array TypeId) (t e : TypeId) (ht : P.underlying t = some (.slice e)) (n : Nat) (hn : n ≤ 281474976710656) :
    ∃ cs : Array Value, (Extern.BytealgMakeNoZero.makeNoZero ps #[t] #[.int .i64 n]).run P w = .ok (.slice (some ⟨w.heap.size, 0, none⟩) n cs.size) (w.drew.drew.alloc (.cells cs e)) ∧ n ≤ cs.size ∧ ∀ v ∈ cs.toList, v.oneCell' = true := by
  have hdef : Extern.BytealgMakeNoZero.makeNoZero ps #[t] #[.int .i64 n] =
      (do
        let .slice elem ← underlying t | stuck "bytealg.MakeNoZero: slice type expected"
        if (n : Int) < 0 || (n : Int) > 2 ^ 48 then runtimePanic (.error "makeslice: len out of range")
        let cap ← choose (.appendCap (n : Int).toNat 0 elem)
        askRoom cap
        let bytes ← choose (.extern "internal/bytealg.MakeNoZero.bytes" 0)
        let a ← newRow elem (Extern.BytealgMakeNoZero.digits cap bytes #[])
        pure (.slice (some a) (n : Int).toNat cap)) := rfl
  refine ⟨Extern.BytealgMakeNoZero.digits (grownCap w n 0 e) ((Question.extern "internal/bytealg.MakeNoZero.bytes" 0).cut (w.tape (w.drawn + 1) (.extern "internal/bytealg.MakeNoZero.bytes" 0))) #[], ?_, ?_, ?_⟩
  · rw [hdef]
    have h1 : ¬ (n : Int) < 0 := by omega
    have h2 : ¬ (281474976710656 : Int) < (n : Int) := by omega
    simp [_root_.Go.run_underlying ht, h1, h2, Question.forced, newRow, Go.Lib.size_digits, grownCap]
  · rw [Go.Lib.size_digits]
    simpa using grownCap_ge w n 0 e
  · exact digits_ints _ _ _ (by simp)
theorem times_top {ρ : Rho} : ∀ (n : Nat) (vs : List Value), vs.length = n → LRel op ρ ((AV.lcons .top .lnil).times n) vs
  | 0, vs, h => by cases vs <;> first | rfl | cases h
  | n + 1, vs, h => by
    cases vs with
    | nil => cases h
    | cons v vs =>
      have : (AV.lcons .top .lnil).times (n + 1) = .lcons .top ((AV.lcons .top .lnil).times n) := rfl
      rw [this]
      exact (LRel.cons op).2 ⟨v, vs, rfl, trivial, times_top n vs (by simpa using h)⟩
theorem ext_makeNoZero {g t u : Nat} {ps : Array TypeId} {tS : TypeId} (h : RunsAs P g (Extern.BytealgMakeNoZero.makeNoZero ps #[tS])) (ht : P.underlying tS = some (.slice t)) : ExtOk P op ti g (extK 5 t u) := by
  intro w0 ρ s w c vs F k hg hF hl hG hH
  have hF : F = c.nthK 0 fun x => guardK (Nat.beq c.len 1) (x.asI64 fun m => guardK (Nat.ble m 16777216) (s.newK (.row t (AV.times (.lcons .top .lnil) m) m 0 false true) fun id s' => k (.sl id 0 m m false 1) s')) := hF
  obtain ⟨x, v, rfl, hx, hF⟩ := one_arg hl hg hF
  obtain ⟨m, rfl, hF⟩ := asI64_inv hg hF
  obtain ⟨gm, hF⟩ := guard_inv hg hF
  have gm := Nat.le_of_ble_eq_true gm
  have hx : v = .int .i64 (.ofNat m) := hx
  subst hx
  obtain ⟨hn, hF⟩ := newK_inv hg hF
  obtain ⟨cs, hrun, hle, hone⟩ := run_makeNoZero' (P := P) w ps tS t ht m (by omega)
  have hgrew : Grew w (w.drew.drew.alloc (.cells cs t)) (.cells cs t) := ⟨rfl, rfl, rfl, rfl⟩
  have hat : ∀ (i : Nat) (v : Value), (cs.toList.take m)[i]? = some v → cs[0 + i]? = some v := by
    intro i v hv
    rw [List.getElem?_take] at hv
    split at hv
    · simpa using hv
    · cases hv
  have hlen : (cs.toList.take m).length = m := by simp; omega
  have hrow : ∀ ρ', RowRel op ρ' w0.heap.size ⟨w.heap.size, 0, cs.size⟩ (AV.times (.lcons .top .lnil) m) m 0 false true cs 0 0 (cs.toList.take m) := fun ρ' =>
    ⟨times_top m _ hlen, hlen, hle, Nat.zero_add _, hat, fun v hv => hone v (List.mem_of_mem_take hv), Nat.le_refl _, fun h => absurd h (Nat.lt_irrefl _), fun _ => rfl, fun _ => hH.below.size⟩
  obtain ⟨hsub, hnew, hH'⟩ := hH.make (a := .row t (AV.times (.lcons .top .lnil) m) m 0 false true) (p := ⟨w.heap.size, 0, cs.size⟩) hn rfl hgrew ⟨cs, 0, 0, cs.toList.take m, rfl, hrow _⟩
  refine .inl ⟨.slice (some ⟨w.heap.size, 0, none⟩) m cs.size, w.drew.drew.alloc (.cells cs t), ?_, .sl s.next 0 m m false 1, _, _, by rw [hF]; exact .refl _, hsub, ⟨_, _, _, hnew, rfl, hle, (fun h => by cases h), hle, .inr rfl, by simp⟩, hH'⟩
  rw [h]
  have : [Value.int .i64 (.ofNat m)].toArray = #[.int .i64 ((m : Nat) : Int)] := rfl
  rw [this, hrun]; rfl
end
end Go.Ax
end
section
namespace Go.Ax
open Go Go.RowKit
noncomputable section
set_option linter.unusedSectionVars false
set_option linter.unusedVariables false
set_option linter.unusedSimpArgs false
variable {P : Program} {op : Nat → Value} {ti : TI}
/- ### strings.Fields -/
theorem revK_ok : ∀ (x a : BL) {k : BL → Res}, x.ok → a.ok → ∃ r, x.revK a k = k r ∧ r.ok ∧ r.toBytes = x.toBytes.reverse ++ a.toBytes
  | .nil, a, k, _, ha => ⟨a, rfl, ha, by simp [BL.toBytes]⟩
  | .cons h t, a, k, hx, ha => by
    obtain ⟨r, h1, h2, h3⟩ := revK_ok t (.cons h a) (k := k) hx.2 ⟨hx.1, ha⟩
    exact ⟨r, h1, h2, by rw [h3]; simp [BL.toBytes]⟩
set_option maxRecDepth 100000 in
theorem isSp_eq : ∀ c, c < 256 → isSp c = Lib.isSp (UInt8.ofNat c) := by decide
theorem fieldsK_ok {ρ : Rho} : ∀ (l : BL) {cur : BL} {has : Bool} {F : Res} {k : AV → Res}, l.ok → cur.ok → (has = true ↔ cur.toBytes ≠ []) → F.good → F = l.fieldsK cur has k →
    (∀ b ∈ l.toBytes, b.toNat < 128) ∧ ∃ c, F = k c ∧ LRel op ρ c ((Lib.fieldsGo cur.toBytes.reverse l.toBytes).map fun x => Value.string ⟨x.toArray⟩)
  | .nil, cur, has, F, k, hl, hc, hh, hg, hF => by
    refine ⟨fun b hb => by simp [BL.toBytes] at hb, ?_⟩
    have hF : F = Bool.rec (motive := fun _ => Res) (k .lnil) (cur.revK .nil fun w => k (.lcons (.str w) .lnil)) has := hF
    cases has with
    | false =>
      have : cur.toBytes = [] := Classical.byContradiction fun h => by have := hh.2 h; cases this
      exact ⟨.lnil, hF, by simp [BL.toBytes, Lib.fieldsGo, this, LRel]⟩
    | true =>
      obtain ⟨r, h1, h2, h3⟩ := revK_ok cur .nil (k := fun w => k (.lcons (.str w) .lnil)) hc trivial
      have hne : cur.toBytes.reverse ≠ [] := by simpa using hh.1 rfl
      refine ⟨.lcons (.str r) .lnil, hF.trans h1, ?_⟩
      have : (Lib.fieldsGo cur.toBytes.reverse BL.nil.toBytes) = [cur.toBytes.reverse] := by
        show (if cur.toBytes.reverse.isEmpty then [] else [cur.toBytes.reverse]) = _
        rw [if_neg (by simpa [List.isEmpty_iff] using hh.1 rfl)]
      rw [this]
      refine (LRel.cons op).2 ⟨_, [], rfl, ⟨h2, ?_⟩, rfl⟩
      show Value.string ⟨cur.toBytes.reverse.toArray⟩ = .string r.arr
      unfold BL.arr; rw [h3]; simp [BL.toBytes]
  | .cons h t, cur, has, F, k, hl, hc, hh, hg, hF => by
    have hF : F = guardK (Nat.ble h 127) (Bool.rec (motive := fun _ => Res) (t.fieldsK (.cons h cur) true k) (Bool.rec (motive := fun _ => Res) (t.fieldsK .nil false k) (cur.revK .nil fun w => t.fieldsK .nil false fun l => k (.lcons (.str w) l)) has) (isSp h)) := hF
    obtain ⟨g1, hF⟩ := guard_inv hg hF
    have g1 := Nat.le_of_ble_eq_true g1
    have hb : (BL.cons h t).toBytes = UInt8.ofNat h :: t.toBytes := rfl
    have h128 : (UInt8.ofNat h).toNat < 128 := by simp; omega
    have hsp := isSp_eq h (by omega)
    have bound : (∀ b ∈ t.toBytes, b.toNat < 128) → ∀ b ∈ (BL.cons h t).toBytes, b.toNat < 128 := fun hh b hbm => by
      rw [hb] at hbm
      rcases List.mem_cons.1 hbm with rfl | hbm
      · exact h128
      · exact hh b hbm
    have hgo : Lib.fieldsGo cur.toBytes.reverse (BL.cons h t).toBytes = if Lib.isSp (UInt8.ofNat h) then (if cur.toBytes.reverse.isEmpty then Lib.fieldsGo [] t.toBytes else cur.toBytes.reverse :: Lib.fieldsGo [] t.toBytes) else Lib.fieldsGo (cur.toBytes.reverse ++ [UInt8.ofNat h]) t.toBytes := rfl
    rw [hgo]
    cases hs : isSp h with
    | false =>
      rw [hs] at hF hsp
      have hF : F = t.fieldsK (.cons h cur) true k := hF
      obtain ⟨h1, c, h2, h3⟩ := fieldsK_ok (ρ := ρ) t (cur := .cons h cur) hl.2 ⟨hl.1, hc⟩ (by simp [BL.toBytes]) hg hF
      refine ⟨bound h1, c, h2, ?_⟩
      rw [← hsp, if_neg (by decide)]
      have : (BL.cons h cur).toBytes.reverse = cur.toBytes.reverse ++ [UInt8.ofNat h] := by simp [BL.toBytes]
      rw [← this]; exact h3
    | true =>
      rw [hs] at hF hsp
      rw [← hsp, if_pos rfl]
      cases has with
      | false =>
        have hcn : cur.toBytes = [] := Classical.byContradiction fun h => by have := hh.2 h; cases this
        have hF : F = t.fieldsK .nil false k := hF
        obtain ⟨h1, c, h2, h3⟩ := fieldsK_ok (ρ := ρ) t (cur := .nil) hl.2 trivial (by simp [BL.toBytes]) hg hF
        refine ⟨bound h1, c, h2, ?_⟩
        rw [hcn]; exact h3
      | true =>
        have hF : F = cur.revK .nil fun w => t.fieldsK .nil false fun l => k (.lcons (.str w) l) := hF
        obtain ⟨r, e1, e2, e3⟩ := revK_ok cur .nil (k := fun w => t.fieldsK .nil false fun l => k (.lcons (.str w) l)) hc trivial
        obtain ⟨h1, c, h2, h3⟩ := fieldsK_ok (ρ := ρ) t (cur := .nil) hl.2 trivial (by simp [BL.toBytes]) hg (hF.trans e1)
        refine ⟨bound h1, .lcons (.str r) c, h2, ?_⟩
        rw [if_neg (by simpa [List.isEmpty_iff] using hh.1 rfl), List.map_cons]
        refine (LRel.cons op).2 ⟨_, _, rfl, ⟨e2, ?_⟩, h3⟩
        show Value.string ⟨cur.toBytes.reverse.toArray⟩ = .string r.arr
        unfold BL.arr; rw [e3]; simp [BL.toBytes]
theorem spRow_ok {ρ : Rho} : ∀ (n i : Nat) {vs : List Value}, LRel op ρ (spRow n i) vs → ∀ j, j < n → vs[j]? = some (.int .u8 (if isSp (i + j) then 1 else 0))
  | 0, i, vs, h, j, hj => absurd hj (Nat.not_lt_zero _)
  | n + 1, i, vs, h, j, hj => by
    have h : LRel op ρ (.lcons (.int .u8 (.ofNat (Bool.rec (motive := fun _ => Nat) 0 1 (isSp i)))) (spRow n (Nat.succ i))) vs := h
    obtain ⟨v, vs', rfl, hv, ht⟩ := (LRel.cons op).1 h
    cases j with
    | zero =>
      have hv : v = .int .u8 (.ofNat (Bool.rec (motive := fun _ => Nat) 0 1 (isSp i))) := hv
      rw [hv, Nat.add_zero]
      cases isSp i <;> rfl
    | succ j =>
      have := spRow_ok n (i + 1) ht j (by omega)
      rw [List.getElem?_cons_succ, this, show i + 1 + j = i + (j + 1) by omega]
theorem ext_fields {r : Go.Shelf.Ren} {g t u : Nat} (L : Go.Proofs.Lays.n157 P r) (hi9 : (P.info? (r.t 9)).map (fun i => (i.zero, i.size, i.bytes)) = some (some (.string ByteArray.empty), 1, 16)) (hgf : g = r.f 157) (htt : t = r.t 9) (hu : u = r.g 0) (hung : u < ti.ng) : ExtOk P op ti g (extK 4 t u) := by
  intro w0 ρ s w c vs F k hg hF hl hG hH
  have hF : F = c.nthK 0 fun x => guardK (Nat.beq c.len 1) (x.asStr fun l => guardK (Nat.ble l.len 65536) ((s.get u).asRow fun _ tc _ _ _ _ => guardK (AV.beq tc (spRow 256 0)) (l.fieldsK .nil false fun c => s.newK (.row t c c.len 0 false true) fun id s' => k (.sl id 0 c.len c.len true 1) s'))) := hF
  obtain ⟨x, v, rfl, hx, hF⟩ := one_arg hl hg hF
  obtain ⟨l, rfl, hF⟩ := asStr_inv hg hF
  obtain ⟨glen, hF⟩ := guard_inv hg hF
  have glen := Nat.le_of_ble_eq_true glen
  obtain ⟨te, tc, tm, tz, tr, tb, ho, hF⟩ := asRow_inv hg hF
  obtain ⟨gt, hF⟩ := guard_inv hg hF
  have gt := beq_eq gt
  obtain ⟨hok, rfl⟩ := hx
  obtain ⟨h128, cl, hF, hcl⟩ := fieldsK_ok (op := op) (ρ := ρ) l hok (show BL.ok .nil from trivial) (by simp [BL.toBytes]) hg hF
  obtain ⟨hn, hF⟩ := newK_inv hg hF
  have hfl : Lib.fieldsGo (BL.nil).toBytes.reverse l.toBytes = Lib.fields l.arr.data.toList := by
    show _ = Lib.fieldsGo [] _
    simp [BL.arr, BL.toBytes]
  rw [hfl] at hcl
  -- the table
  obtain ⟨p, hp, hpb, hp0⟩ := hG u hung
  have hob := hH.obj u p hp
  rw [ho] at hob
  obtain ⟨cc, lo, hi, tvs, hb, hrow⟩ := hob
  have hcells := hrow.cells
  rw [gt] at hcells
  have hT : ∀ c : Nat, c < 256 → w.cell? ⟨r.g 0, c, none⟩ = some (.int .u8 (if Lib.isSp (UInt8.ofNat c) then 1 else 0)) := by
    intro c hc
    have h1 := spRow_ok 256 0 hcells c hc
    have h2 := hrow.cell hb h1
    rw [hpb, hp0, Nat.zero_add] at h2
    rw [isSp_eq c hc, hu] at h2
    exact h2
  have hsz : l.arr.size < 4294967281 := by rw [arr_size]; omega
  have hasc : ∀ (j : Nat) b, l.arr.data.toList[j]? = some b → b.toNat < 128 := fun j b hj => h128 b (by
    have : l.arr.data.toList = l.toBytes := by simp [BL.arr]
    rw [this] at hj; exact List.mem_of_getElem? hj)
  have hcall := Go.Proofs.Any.strings_Fields_core L hi9 l.arr w hsz hasc hT
  obtain ⟨W, hW⟩ : ∃ W : List Value, W = (Lib.fields l.arr.data.toList).map fun x => Value.string ⟨x.toArray⟩ := ⟨_, rfl⟩
  rw [← hW] at hcl
  have hWl : W.length = (Lib.fields l.arr.data.toList).length := by rw [hW, List.length_map]
  have hclen := len_ok op cl hcl
  have hnone := (hH.fresh (o := .dead) hn).2
  have hrow' : ∀ ρ', ρ.sub ρ' → RowRel op ρ' w0.heap.size ⟨w.heap.size, 0, W.length⟩ cl cl.len 0 false true W.toArray 0 0 W := fun ρ' hs =>
    ⟨hcl.mono op hs, hclen.symm, by rw [hclen]; exact Nat.le_refl _, by simp, fun i v hv => by rw [Nat.zero_add]; simpa using hv, fun v hv => by
      rw [hW] at hv
      obtain ⟨_, _, rfl⟩ := List.mem_map.1 hv; rfl, Nat.le_refl _, fun h => absurd h (Nat.lt_irrefl _), fun _ => rfl, fun _ => hH.below.size⟩
  obtain ⟨hsub, hnew, hH'⟩ := hH.make (a := .row t cl cl.len 0 false true) (p := ⟨w.heap.size, 0, W.length⟩) hn rfl (grew_alloc w (.cells W.toArray t)) ⟨W.toArray, 0, 0, W, rfl, hrow' _ (Rho.put_sub hnone)⟩
  refine .inr ⟨?_, callsIn_wide.2 (Calls.mono (by rw [hgf]; exact hcall) ?_)⟩
  · rw [hgf]
    exact run_callFunc (P := P) L.f157 rfl (by simp [Go.Proofs.Body.n157]) _ _
  · rintro e w' ⟨rfl, rfl⟩
    refine ⟨_, rfl, .sl s.next 0 cl.len cl.len true 1, _, _, by rw [hF]; exact .refl _, hsub, ?_, by rw [← hW, ← htt]; exact hH'⟩
    refine ⟨_, ⟨w.heap.size, 0, none⟩, (Lib.fields l.arr.data.toList).length, hnew, ?_, ?_, ?_, ?_, .inr rfl, ?_⟩
    · rw [hclen, hWl]
    · rw [hclen, hWl]; exact Nat.le_refl _
    · intro _; rw [hclen, hWl]
    · rw [hclen, hWl]; exact Nat.le_refl _
    · show 0 + _ * 1 ≤ W.length
      rw [hWl]; omega
end
end Go.Ax
end
section
namespace Go.Ax
open Go Go.RowKit
noncomputable section
set_option linter.unusedSectionVars false
set_option linter.unusedVariables false
set_option linter.unusedSimpArgs false
variable {P : Program} {op : Nat → Value} {ti : TI}
/- ### A function that takes up a panic, where there is none -/
theorem hush_ok (T : TiOk P ti) {g : Nat} {fn : Func} (hf : P.funcs[g]? = some fn) (hn : fn.name ≠ "runtime.NumGoroutine") {i0 i1 i2 bid t5 t7 : Nat} {rest : Code} {o0 o1 o2 : Oper} {at0 : Array TypeId} {tE tE' : TypeId} {ms : Array (String × TypeId)}
    (hb : fn.body = some (.seq (.region i0 #[o0] false) (.block bid (.seq (.region i1 #[o1] false) (.cond (.tmp t7) (.region i2 #[o2] false) rest)))))
    (h0 : o0.op = .call { callee := .builtin .recover, args := #[], argTypes := at0 }) (d0 : o0.dst = some t5) (g0 : o0.guard = none)
    (h1 : o1.op = .binOp .eql tE (.tmp t5) (.const .nilIface) tE') (d1 : o1.dst = some t7) (g1 : o1.guard = none) (hu : undC ti tE = some (.interface ms))
    (h2 : o2.op = .assign (.tmp t5)) (g2 : o2.guard = none) (hr : fn.results = #[]) (ht5 : t5 < 512) (hn5 : t5 < fn.ntmps) (hn7 : t7 < fn.ntmps) : HushOk P g := by
  intro args w
  refine ⟨run_callFunc hf hb hn args w, callsDIn_of_wpSIn hf hb trivial ?_⟩
  intro c₀ cs hc0
  obtain ⟨a, ha⟩ : ∃ a : Act, a = { tmps := args ++ Array.replicate (fn.ntmps - args.size) undef, defers := [] } := ⟨_, rfl⟩
  have hsz : fn.ntmps ≤ a.tmps.size := by rw [ha]; simp; omega
  have hdf : a.defers = [] := by rw [ha]
  rw [← ha]
  refine wpSIn_seq (wpSIn_region ?_)
  show wpOpsSIn _ _ _ _ _ [0] a _ w
  simp only [wpOpsSIn]
  show (∀ f, o0.about P w a.eval = some f → True) ∧ _
  refine ⟨fun _ _ => trivial, ?_⟩
  have hw0 : Region.wanted o0 (yielded #[o0] a.tmps) = true := by unfold Region.wanted; rw [g0]
  refine (Eq.mpr (if_pos hw0)) ?_
  have he0 : (execOp a.eval o0).run P w = .ok .recover w := by
    simp [execOp, h0, resolve, invoke, builtin, Result.andThen]
  show (match (execOp a.eval o0).run P w with | .ok .recover w' => _ | .ok (.value v) w' => _ | .ok .skip w' => _ | .halt (.panic v) w' => _ | _ => False)
  rw [he0]
  have hrec : recoverD (c₀ :: cs) = none := by simp [recoverD, hc0]
  rw [hrec]
  -- behind it: the answer is nil
  obtain ⟨a1, ha1⟩ : ∃ a1 : Act, a1 = a.put o0.dst .nilIface := ⟨_, rfl⟩
  show Code.wpSIn _ _ _ _ _ (a.put o0.dst .nilIface) (c₀ :: cs) w
  rw [← ha1]
  have h51 : a1.tmps.getD t5 undef = .nilIface := by rw [ha1, d0, put_getD (Nat.lt_of_lt_of_le hn5 hsz), if_pos rfl]
  have hsz1 : fn.ntmps ≤ a1.tmps.size := by rw [ha1, d0]; simpa [Act.put] using hsz
  have hdf1 : a1.defers = [] := by rw [ha1, d0]; exact hdf
  refine wpSIn_of_wpIn rfl (wpIn_block (wpIn_seq (wpIn_region ?_)))
  show wpOpsIn _ _ _ _ _ [0] a1 w
  simp only [wpOpsIn]
  have hw1 : Region.wanted o1 (yielded #[o1] a1.tmps) = true := by unfold Region.wanted; rw [g1]
  refine (Eq.mpr (if_pos hw1)) ?_
  refine ⟨fun _ _ => trivial, ?_⟩
  have hs1 : o1.semAt none a1.eval = execOp a1.eval o1 := rfl
  show o1.uponIn _ _ _ _ _ _ ((o1.semAt none a1.eval).run P w)
  rw [hs1]
  have he1 : (execOp a1.eval o1).run P w = .ok (.value (.bool true)) w := by
    obtain ⟨op, hopd⟩ : ∃ op : Nat → Value, op = fun _ => .nilIface := ⟨_, rfl⟩
    have hT : TiOk P ⟨ti.ty, 0⟩ := ⟨T.info, T.und, T.guard, T.stood⟩
    have hG : GRel ⟨ti.ty, 0⟩ (fun _ => none) := fun g hg => absurd hg (Nat.not_lt_zero _)
    have hH : HRel op { w with mb := none } (fun _ => none) deadSt w := ⟨Nat.le_refl _, fun _ _ h => (by cases h), fun _ _ h => (by cases h), fun _ _ h => (by cases h), fun _ _ _ _ h => (by cases h), .refl _ _, trivial, fun _ h => h.elim, ⟨fun _ _ h => (by cases h), fun _ _ h => (by cases h)⟩⟩
    have hS : Opd op (fun _ => none) ⟨ti.ty, 0⟩ (NC.setS (fpath t5) .nili zc) a1 o1 := by
      intro x hx y hy
      rw [h1] at hx
      simp only [Op.operands, List.mem_cons, List.not_mem_nil, or_false] at hx
      have hx : x = .tmp t5 ∨ x = .const .nilIface := by simpa using hx
      rcases hx with rfl | rfl
      · simp only [srcC, if_pos ht5] at hy
        cases hy
        show VRel op _ (NC.get (fpath t5) _) _
        rw [NC.get_same]; exact h51
      · have : srcC ⟨ti.ty, 0⟩ (.const .nilIface) = some (.val .nili) := rfl
        rw [this] at hy; cases hy; rfl
    have hx : srcC ⟨ti.ty, 0⟩ (.tmp t5) = some (.loc (fpath t5)) := by simp only [srcC, if_pos ht5]
    have hrd := op_eqifc (P := P) (op := op) (ti := ⟨ti.ty, 0⟩) (w0 := { w with mb := none }) (ρ := fun _ => none) (s := deadSt) (w := w) (f := NC.setS (fpath t5) .nili zc) (a := a1) (o := o1) hT hS hG hH (neg := false) h1 hu hx rfl
    have hF : oEq false (.ifc (ms.isEmpty || Region.isConst (.tmp t5) || Region.isConst (.const .nilIface)) (okC ⟨ti.ty, 0⟩)) (.loc (fpath t5)) (.val .nili) (NC.setS (fpath t5) .nili zc) deadSt valOf = valOf (.bool true) deadSt := by
      show (NC.get (fpath t5) (NC.setS (fpath t5) .nili zc)).ifcEq .nili _ _ (fun b => valOf (.bool b) deadSt) = _
      rw [NC.get_same]
      show guardK (ms.isEmpty || false || true) (valOf (.bool true) deadSt) = _
      rw [Bool.or_true]; rfl
    obtain ⟨av, v, hrun, hv, e⟩ := hrd _ valOf (by rw [hF]; trivial) rfl
    rw [hF] at e
    have : AV.bool true = av := (OneIs.val ⟨_, _, _, _, rfl, rfl⟩ e).1
    subst this
    rw [hrun]
    have hv : v = .bool true := hv
    rw [hv]
  rw [he1, Oper.uponIn_value]
  obtain ⟨a2, ha2⟩ : ∃ a2 : Act, a2 = a1.put o1.dst (.bool true) := ⟨_, rfl⟩
  show Code.wpIn _ _ _ _ _ (a1.put o1.dst (.bool true)) w
  rw [← ha2]
  have h72 : a2.eval (.tmp t7) = .bool true := by
    show a2.tmps.getD t7 undef = _
    rw [ha2, d1, put_getD (Nat.lt_of_lt_of_le hn7 hsz1), if_pos rfl]
  have hdf2 : a2.defers = [] := by rw [ha2, d1]; exact hdf1
  refine wpIn_cond_true h72 (wpIn_region ?_)
  show wpOpsIn _ _ _ _ _ [0] a2 w
  simp only [wpOpsIn]
  have hw2 : Region.wanted o2 (yielded #[o2] a2.tmps) = true := by unfold Region.wanted; rw [g2]
  refine (Eq.mpr (if_pos hw2)) ?_
  refine ⟨fun _ _ => trivial, ?_⟩
  have hs2 : o2.semAt none a2.eval = execOp a2.eval o2 := rfl
  show o2.uponIn _ _ _ _ _ _ ((o2.semAt none a2.eval).run P w)
  rw [hs2]
  have he2 : (execOp a2.eval o2).run P w = .ok (.value (a2.eval (.tmp t5))) w := by unfold execOp; rw [h2]; rfl
  rw [he2, Oper.uponIn_value]
  have hdf3 : (a2.put o2.dst (a2.eval (.tmp t5))).defers = [] := by
    cases o2.dst with
    | none => exact hdf2
    | some t => exact hdf2
  refine ⟨hdf3, .returning, ?_, .tuple #[], ?_, ⟨_, rfl⟩, rfl, rfl⟩
  · rw [← hc0]
  · rw [results_eq, hr]; simp
end
end Go.Ax
end
section
namespace Go.Ax
open Go Go.RowKit
noncomputable section
set_option linter.unusedSectionVars false
set_option linter.unusedVariables false
set_option linter.unusedSimpArgs false
variable {P : Program} {op : Nat → Value} {ti : TI}
/- ### Tables in rows -/
/-- All rows but the last have n places; the last one no more. -/
def rowsOk {α : Type} (n : Nat) : List (List α) → Bool
  | [] => true
  | [r] => Nat.ble r.length n
  | r :: l => Nat.beq r.length n && rowsOk n l
theorem look_eq {α : Type} {n : Nat} (hn : 0 < n) : ∀ (l : List (List α)), rowsOk n l = true → ∀ t, look n l t = l.flatten[t]?
  | [], _, t => by simp [look]
  | [r], h, t => by
    have h : r.length ≤ n := Nat.le_of_ble_eq_true h
    unfold look
    rw [List.flatten_cons, List.flatten_nil, List.append_nil]
    by_cases ht : t < n
    · rw [Nat.div_eq_of_lt ht, Nat.mod_eq_of_lt ht]; rfl
    · have : 1 ≤ t / n := (Nat.le_div_iff_mul_le hn).2 (by omega)
      rw [List.getElem?_eq_none (by simpa using this), List.getElem?_eq_none (by omega)]
  | r :: r' :: l, h, t => by
    have h : (Nat.beq r.length n && rowsOk n (r' :: l)) = true := h
    rw [Bool.and_eq_true] at h
    have hr : r.length = n := Nat.eq_of_beq_eq_true h.1
    rw [List.flatten_cons]
    by_cases ht : t < n
    · unfold look
      rw [Nat.div_eq_of_lt ht, Nat.mod_eq_of_lt ht, List.getElem?_append_left (by omega)]; rfl
    · obtain ⟨u, rfl⟩ : ∃ u, t = u + n := ⟨t - n, by omega⟩
      have := look_eq hn (r' :: l) h.2 u
      rw [List.getElem?_append_right (by omega), hr, Nat.add_sub_cancel, ← this]
      unfold look
      rw [Nat.add_div_right _ hn, Nat.add_mod_right, List.getElem?_cons_succ]
def undOf (l : List (List TE)) (n : Nat) (e : TE) : Option TypeDesc := match e.info.desc with
  | .named _ u => match look n l u with
    | some e' => some e'.info.desc
    | none => none
  | d => some d
theorem underlying_of {t : Nat} {i : Go.TypeInfo} (h : P.info? t = some i) : P.underlying t = (match i.desc with
  | .named _ u => (P.info? u).map (·.desc)
  | d => some d) := by
  unfold Program.underlying
  rw [h]
  obtain ⟨d⟩ := i
  cases d <;> rfl
/-- The flags that say no. -/
def flagsOk (P : Program) : List TE → Nat → Bool
  | [], _ => true
  | e :: l, t => (if e.guard then true else if isAggD e.und then !(P.eqGuardType P.depth t) else true) && (if e.stood then true else match e.und with
    | .struct _ => !(P.stoodInHeld t)
    | _ => true) && flagsOk P l (t + 1)
theorem flags_at : ∀ (l : List TE) {s : Nat}, flagsOk P l s = true → ∀ t e, l[t]? = some e → (isAggD e.und = true → e.guard = false → P.eqGuardType P.depth (s + t) = false) ∧ ((∃ fs, e.und = .struct fs) → e.stood = false → P.stoodInHeld (s + t) = false) := by
  intro l
  induction l with
  | nil => intro s h t e he; simp at he
  | cons e l ih =>
    intro s h t e' he
    simp only [flagsOk, Bool.and_eq_true] at h
    cases t with
    | zero =>
      cases he
      refine ⟨fun ha hg => ?_, fun ⟨fs, hu⟩ hs => ?_⟩
      · have := h.1.1
        rw [hg, ha] at this
        simpa using this
      · have := h.1.2
        rw [hs, hu] at this
        simpa using this
    | succ t =>
      have := ih h.2 t e' he
      rw [show s + (t + 1) = s + 1 + t by omega]; exact this
theorem tiOk_of {l : List (List TE)} {n : Nat} (hn : 0 < n) (hrow : rowsOk n l = true) (hty : ti.ty = look n l) (hinfo : P.types.toList = l.flatten.map (·.info)) (hund : l.flatten.map (fun e => some e.und) = l.flatten.map (undOf l n)) (hflag : flagsOk P l.flatten 0 = true) : TiOk P ti := by
  have hlk := look_eq hn l hrow
  have hat : ∀ t e, ti t = some e → l.flatten[t]? = some e := fun t e h => by
    have h : ti.ty t = some e := h
    rw [hty, hlk] at h; exact h
  have hin : ∀ t e, l.flatten[t]? = some e → P.info? t = some e.info := fun t e h => by
    have h1 : P.types.toList[t]? = some e.info := by rw [hinfo, List.getElem?_map, h]; rfl
    have h2 : P.types[t]? = some e.info := by rw [← Array.getElem?_toList]; exact h1
    obtain ⟨hlt, _⟩ := Array.getElem?_eq_some_iff.1 h2
    show (if t < P.types.size then P.types[t]? else _) = _
    rw [if_pos hlt, h2]
  refine ⟨fun t e h => hin t e (hat t e h), fun t e h => ?_, fun t e h ha hg => ?_, fun t e h hs hg => ?_⟩
  · have h := hat t e h
    have hu : some e.und = undOf l n e := by
      have h1 : (l.flatten.map fun e => some e.und)[t]? = some (some e.und) := by rw [List.getElem?_map, h]; rfl
      rw [hund, List.getElem?_map, h] at h1
      exact (Option.some.inj h1).symm
    rw [underlying_of (hin t e h), hu]
    unfold undOf
    cases hd : e.info.desc with
    | named nm u =>
      simp only
      rw [hlk]
      unfold undOf at hu
      rw [hd] at hu
      simp only at hu
      rw [hlk] at hu
      cases hl : l.flatten[u]? with
      | none => rw [hl] at hu; cases hu
      | some e' => rw [hin u e' hl]; rfl
    | _ => rfl
  · have := (flags_at _ hflag t e (hat t e h)).1 ha hg
    rwa [Nat.zero_add] at this
  · have := (flags_at _ hflag t e (hat t e h)).2 hs hg
    rwa [Nat.zero_add] at this
end
end Go.Ax
end
section
namespace Go.Ax
open Go Go.RowKit
noncomputable section
set_option linter.unusedSectionVars false
set_option linter.unusedVariables false
set_option linter.unusedSimpArgs false
variable {P : Program} {op : Nat → Value} {ti : TI}
theorem fnC_go {o : Option Func} {flag : Nat} {body : Code} {res : RL} {nt fl : Nat} (h : fnC ti o flag = .go body res nt fl) : ∃ fn, o = some fn ∧ fn.body = some body ∧ resC ti fn.results.toList = some res ∧ fn.ntmps = nt ∧ nt ≤ 512 := by
  unfold fnC at h
  split at h
  · rename_i fn
    split at h
    · rename_i c r hb hr
      split at h
      · rename_i hle
        cases h
        exact ⟨fn, rfl, hb, hr, rfl, hle⟩
      · cases h
    · cases h
  · cases h
theorem fnC_ext {o : Option Func} {flag : Nat} {run : AV → St → (AV → St → Res) → Res} (h : fnC ti o flag = .ext run) : False := by
  unfold fnC at h
  split at h
  · split at h
    · split at h <;> cases h
    · cases h
  · cases h
theorem fnC_hush {o : Option Func} {flag : Nat} (h : fnC ti o flag = .hush) : False := by
  unfold fnC at h
  split at h
  · split at h
    · split at h <;> cases h
    · cases h
  · cases h
theorem envOk_of {okTo : Nat → Nat → Nat → Nat → Bool} {fns : List (List Func)} {ext : Nat → Nat × Nat × Nat} {flag : Nat → Nat} (hrow : rowsOk 38 fns = true) (hfun : P.funcs.toList = fns.flatten) (hname : (fns.flatten.all fun f => !(f.name == "runtime.NumGoroutine")) = true)
    (hext : ∀ g n t u, ext g = (n + 1, t, u) → (n = 5 → HushOk P g) ∧ (n ≠ 5 → ExtOk P op ti g (extK (n + 1) t u))) : EnvOk P op ti okTo ⟨regC ti okTo, envFn ti fns ext flag⟩ := by
  have hgo : ∀ g body res nt fl, fnC ti (look 38 fns g) (flag g) = .go body res nt fl → ∃ fn, P.funcs[g]? = some fn ∧ fn.body = some body ∧ resC ti fn.results.toList = some res ∧ fn.ntmps = nt ∧ nt ≤ 512 ∧ fn.name ≠ "runtime.NumGoroutine" := by
    intro g body res nt fl h
    obtain ⟨fn, h1, h2, h3, h4, h5⟩ := fnC_go h
    rw [look_eq (by decide) fns hrow] at h1
    refine ⟨fn, by rw [← Array.getElem?_toList, hfun]; exact h1, h2, h3, h4, h5, ?_⟩
    have := List.all_eq_true.1 hname fn (List.mem_of_getElem? h1)
    simpa using this
  have hcase : ∀ g, (∃ n t u, ext g = (n + 1, t, u) ∧ envFn ti fns ext flag g = if n = 5 then .hush else .ext (extK (n + 1) t u)) ∨ envFn ti fns ext flag g = fnC ti (look 38 fns g) (flag g) := by
    intro g
    cases hx : ext g with
    | mk a b =>
      obtain ⟨t, u⟩ := b
      cases a with
      | zero => right; unfold envFn; rw [hx]
      | succ n => left; exact ⟨n, t, u, rfl, by unfold envFn; rw [hx]⟩
  refine ⟨rfl, ?_, ?_, ?_⟩
  · intro g body res nt fl h
    rcases hcase g with ⟨n, t, u, he, e⟩ | e
    · have h : envFn ti fns ext flag g = _ := h
      rw [e] at h
      split at h <;> cases h
    · exact hgo g body res nt fl (e.symm.trans h)
  · intro g run h
    have h : envFn ti fns ext flag g = _ := h
    rcases hcase g with ⟨n', t', u', he, e⟩ | e
    · rw [e] at h
      split at h
      · cases h
      · rename_i hn
        cases h
        exact (hext g n' t' u' he).2 hn
    · rw [e] at h; exact (fnC_ext h).elim
  · intro g h
    have h : envFn ti fns ext flag g = _ := h
    rcases hcase g with ⟨n', t', u', he, e⟩ | e
    · rw [e] at h
      split at h
      · rename_i hn; exact (hext g n' t' u' he).1 hn
      · cases h
    · rw [e] at h; exact (fnC_hush h).elim
end
end Go.Ax
end
section
namespace Go.Ax
open Go Go.RowKit
noncomputable section
set_option linter.unusedSectionVars false
set_option linter.unusedVariables false
set_option linter.unusedSimpArgs false
variable {P : Program} {op : Nat → Value} {w0 : Base} {ti : TI}
/- ### Long runs in parts -/
def PLs.layS : PLs → HE → HE
  | .nil, h => h
  | .cons id o t, h => t.layS (HE.setS (hpath id) o h)
theorem PLs.layK_eq : ∀ (l : PLs) (h : HE) (k : HE → Res), l.layK h k = k (l.layS h)
  | .nil, _, _ => rfl
  | .cons id o t, h, k => by
    show HE.setK (hpath id) o h (fun h' => t.layK h' k) = _
    rw [HE.setK_eq]; exact PLs.layK_eq t _ k
def PP.layS : PP → HE → HE
  | .nil, h => h
  | .cons l t, h => t.layS (l.layS h)
theorem PP.layK_eq : ∀ (l : PP) (h : HE) (k : HE → Res), l.layK h k = k (l.layS h)
  | .nil, _, _ => rfl
  | .cons l t, h, k => by
    show l.layK h (fun h' => t.layK h' k) = _
    rw [PLs.layK_eq]; exact PP.layK_eq t _ k
/-- Is there an object for this number? -/
def PLs.hit : PLs → Nat → Prop
  | .nil, _ => False
  | .cons id _ t, j => hpath j = hpath id ∨ t.hit j
def PP.hit : PP → Nat → Prop
  | .nil, _ => False
  | .cons l t, j => l.hit j ∨ t.hit j
theorem PLs.layS_other : ∀ (l : PLs) (h : HE) (j : Nat), ¬ l.hit j → HE.get (hpath j) (l.layS h) = HE.get (hpath j) h
  | .nil, _, _, _ => rfl
  | .cons id o t, h, j, hn => by
    show HE.get (hpath j) (t.layS _) = _
    rw [PLs.layS_other t _ j fun h => hn (.inr h), HE.get_other _ _ _ _ fun e => hn (.inl e)]
theorem PP.layS_other : ∀ (l : PP) (h : HE) (j : Nat), ¬ l.hit j → HE.get (hpath j) (l.layS h) = HE.get (hpath j) h
  | .nil, _, _, _ => rfl
  | .cons l t, h, j, hn => by
    show HE.get (hpath j) (t.layS _) = _
    rw [PP.layS_other t _ j fun h => hn (.inr h), PLs.layS_other l _ j fun h => hn (.inl h)]
theorem cov_ok {x y : Obj} (h : Obj.cov x y = true) : x = .dead ∨ x = y := by
  have key : Obj.same x y = true → x = y := fun hs => by
    rcases join_cases x y with e | ⟨_, e⟩
    · unfold Obj.same at hs; rw [e] at hs; cases hs
    · exact e
  cases x with
  | dead => exact .inl rfl
  | row => exact .inr (key h)
  | map => exact .inr (key h)
  | _ => cases h
section
variable {F : Res} (hg : F.good)
include hg
theorem PLs.covK_inv : ∀ (l : PLs) {h : HE} {s : St} {k : Res}, F = l.covK h s k → (∀ j, j < 262144 → l.hit j → HE.get (hpath j) h = .dead ∨ HE.get (hpath j) h = s.get j) ∧ F = k
  | .nil, _, _, _, hF => ⟨fun _ _ h => h.elim, hF⟩
  | .cons id o t, h, s, k, hF => by
    have hF : F = guardK (Nat.ble (Nat.succ id) 262144) (guardK (Obj.cov (HE.get (hpath id) h) (s.get id)) (t.covK h s k)) := hF
    obtain ⟨g1, hF⟩ := guard_inv hg hF
    obtain ⟨g2, hF⟩ := guard_inv hg hF
    obtain ⟨h1, hF⟩ := PLs.covK_inv t hF
    refine ⟨fun j hj hh => ?_, hF⟩
    rcases hh with e | hh
    · have : j = id := hpath_inj hj (Nat.le_of_ble_eq_true g1) e
      subst this
      exact cov_ok g2
    · exact h1 j hj hh
theorem PP.covK_inv : ∀ (l : PP) {h : HE} {s : St} {k : Res}, F = l.covK h s k → (∀ j, j < 262144 → l.hit j → HE.get (hpath j) h = .dead ∨ HE.get (hpath j) h = s.get j) ∧ F = k
  | .nil, _, _, _, hF => ⟨fun _ _ h => h.elim, hF⟩
  | .cons l t, h, s, k, hF => by
    have hF : F = l.covK h s (t.covK h s k) := hF
    obtain ⟨h1, hF⟩ := PLs.covK_inv hg l hF
    obtain ⟨h2, hF⟩ := PP.covK_inv t hF
    exact ⟨fun j hj hh => hh.elim (h1 j hj) (h2 j hj), hF⟩
end
theorem isGood_ok : ∀ {r : Res}, r.isGood = true → r.good
  | .fail, h => by cases h
  | .nil, _ => trivial
  | .ok _ _ _ m, h => isGood_ok (r := m) h
theorem CallDone.mono {g : FuncId} {args : Array Value} {w : World} {R R' : Value → World → Prop} (h : CallDone P g args w R) (hr : ∀ v w', R v w' → R' v w') : CallDone P g args w R' := by
  rcases h with ⟨v, w', e, h⟩ | ⟨e, h⟩
  · exact .inl ⟨v, w', e, hr _ _ h⟩
  · exact .inr ⟨e, CallsIn.mono h fun e w' ⟨v, he, h⟩ => ⟨v, he, hr _ _ h⟩⟩
theorem layers_less {P0 : PP} {h : HE} {s : St} (hh : h = P0.layS za5) (hc : ∀ j, j < 262144 → P0.hit j → HE.get (hpath j) h = .dead ∨ HE.get (hpath j) h = s.get j) : ∀ id, id < 262144 → HE.get (hpath id) h = .dead ∨ HE.get (hpath id) h = s.get id := by
  intro id hid
  by_cases hi : P0.hit id
  · exact hc id hid hi
  · left; rw [hh, PP.layS_other _ _ _ hi]; exact za5_get _
section
variable (T : TiOk P ti) {okTo : Nat → Nat → Nat → Nat → Bool} {E : Env} (EO : EnvOk P op ti okTo E) {ih : IH} (IOk : IhOk P op ti ih)
include T EO IOk
theorem ext_walk {g : Nat} : ExtOk P op ti g (walkK E ih g) := fun _ _ _ _ _ _ _ _ hg hF hl hG hH => callK_ok T EO IOk hG hH hl hg hF
theorem ext_seg {g : Nat} {a0 : AV} {P0 : PP} {n0 : Nat} {v : AV} {D : PLs} {n1 : Nat} {rest : XRun} (hrun : (partRun E ih g a0 P0 n0 v D n1).isGood = true) (hrest : ExtOk P op ti g rest) : ExtOk P op ti g (segK a0 P0 n0 v D n1 rest) := by
  intro w0 ρ s w c vs F k hg hF hl hG hH
  cases hn : Nat.beq s.next n0 with
  | false =>
    refine hrest w0 ρ s w c vs F k hg ?_ hl hG hH
    rw [hF]; unfold segK; rw [hn]
  | true =>
    have hF1 : F = guardK (AV.beq a0 c) (guardK (bnot s.md.isOn) (P0.layK za5 fun h => P0.covK h s (D.layK h fun h1 => k v ⟨h1, n1, .off⟩))) := by
      rw [hF]; unfold segK; rw [hn]
    clear hF
    have hnx : s.next = n0 := Nat.eq_of_beq_eq_true hn
    obtain ⟨g1, hF2⟩ := guard_inv hg hF1
    clear hF1
    have hac : a0 = c := beq_eq g1
    clear g1
    subst hac
    obtain ⟨g2, hF3⟩ := guard_inv hg hF2
    clear hF2
    have hoff : s.md.isOn = false := by
      cases h : s.md.isOn with
      | false => rfl
      | true => rw [h] at g2; cases g2
    have hmb := isOn_mb hH.md hoff
    rw [PP.layK_eq] at hF3
    obtain ⟨hc, hF4⟩ := PP.covK_inv hg _ hF3
    clear hF3
    rw [PLs.layK_eq] at hF4
    have hH0 : HRel op w0 ρ ⟨P0.layS za5, n0, .off⟩ w := hH.less (by rw [hnx]; exact Nat.le_refl _) (by rw [← hnx]; exact hH.next) (layers_less rfl hc) (by rw [hmb]; trivial)
    have hgG := isGood_ok hrun
    have hGF : partRun E ih g a0 P0 n0 v D n1 = callK (E.fn g) ih (cv1 E ih) a0 ⟨P0.layS za5, n0, .off⟩ (partEnd P0 D (P0.layS za5) v n1) := by
      unfold partRun; rw [PP.layK_eq]
    refine (callK_ok T EO IOk hG hH0 hl hgG hGF).mono ?_
    rintro v1 w1 ⟨av, s2, ρ', hs, hsub, hv, hH2⟩
    obtain ⟨X, hX⟩ : ∃ X, X = partEnd P0 D (P0.layS za5) v n1 av s2 := ⟨_, rfl⟩
    have hgX : X.good := by rw [hX]; exact (hs hgG).1
    have hX : X = guardK (AV.beq v av) (guardK (Nat.ble s2.next n1) (guardK (Nat.ble n1 262144) (guardK (bnot s2.md.isOn) (D.layK (P0.layS za5) fun h1 => P0.covK h1 s2 (D.covK h1 s2 .nil))))) := hX
    obtain ⟨k1, hX1⟩ := guard_inv hgX hX
    obtain ⟨k2, hX2⟩ := guard_inv hgX hX1
    obtain ⟨k3, hX3⟩ := guard_inv hgX hX2
    obtain ⟨k4, hX4⟩ := guard_inv hgX hX3
    rw [PLs.layK_eq] at hX4
    obtain ⟨c1, hX5⟩ := PP.covK_inv hgX _ hX4
    obtain ⟨c2, hX6⟩ := PLs.covK_inv hgX _ hX5
    have hva : v = av := beq_eq k1
    subst hva
    refine ⟨v, ⟨D.layS (P0.layS za5), n1, .off⟩, ρ', by rw [hF4]; exact .refl _, hsub, hv, ?_⟩
    refine hH2.less (Nat.le_of_ble_eq_true k2) (Nat.le_of_ble_eq_true k3) (fun id hid => ?_) (by rw [hmb]; trivial)
    show HE.get (hpath id) (D.layS (P0.layS za5)) = .dead ∨ _
    by_cases hd : D.hit id
    · exact c2 id hid hd
    · by_cases hp : P0.hit id
      · exact c1 id hid hp
      · left; rw [PLs.layS_other _ _ _ hd, PP.layS_other _ _ _ hp]; exact za5_get _
theorem top_ok {g : Nat} {s : St} {ρ : Rho} {w : World} (hrun : (topRun E ih g s).isGood = true) (hG : GRel ti ρ) (hH : HRel op w0 ρ s w) :
    CallDone P g #[] w fun v w' => v = .bool true ∧ ∃ ρ' s', ρ.sub ρ' ∧ HRel op w0 ρ' s' w' := by
  have hgG := isGood_ok hrun
  refine (callK_ok (l := .lnil) (vs := []) T EO IOk hG hH (by simp [LRel]) hgG rfl).mono ?_
  rintro v w' ⟨av, s', ρ', hs, hsub, hv, hH'⟩
  have hgX := (hs hgG).1
  obtain ⟨k1, _⟩ := guard_inv hgX rfl
  have : av = .bool true := by
    cases av with
    | bool b => cases b with
      | true => rfl
      | false => cases k1
    | _ => cases k1
  subst this
  exact ⟨hv, ρ', s', hsub, hH'⟩
end
/-- One function more that is not walked. -/
theorem EnvOk.put {okTo : Nat → Nat → Nat → Nat → Bool} {E : Env} (EO : EnvOk P op ti okTo E) {g : Nat} {x : XRun} (hx : ExtOk P op ti g x) : EnvOk P op ti okTo (E.put g x) := by
  obtain ⟨reg, fn⟩ := E
  have e : ∀ h, (Env.put ⟨reg, fn⟩ g x).fn h = if h = g then .ext x else fn h := fun h => by
    show (Bool.rec (motive := fun _ => FnC) (fn h) (.ext x) (Nat.beq h g)) = _
    cases hb : Nat.beq h g with
    | true => rw [if_pos (Nat.eq_of_beq_eq_true hb)]
    | false => rw [if_neg (Nat.ne_of_beq_eq_false hb)]
  refine ⟨EO.reg, fun h body res nt flag he => ?_, fun h run he => ?_, fun h he => ?_⟩
  · rw [e] at he; split at he
    · cases he
    · exact EO.fn h body res nt flag he
  · rw [e] at he; split at he
    · rename_i hh; subst hh; cases he; exact hx
    · exact EO.ext h run he
  · rw [e] at he; split at he
    · cases he
    · exact EO.hush h he
end
end Go.Ax
end
section
namespace Go.Ax
open Go Go.RowKit
noncomputable section
set_option linter.unusedSectionVars false
set_option linter.unusedVariables false
set_option linter.unusedSimpArgs false
variable {P : Program} {op : Nat → Value} {w0 : Base} {ti : TI}
/- ### A call that was run before, in a state of which it knows a part -/
theorem PLs.layS_hit : ∀ (l : PLs) (h h' : HE) (j : Nat), l.hit j → HE.get (hpath j) (l.layS h) = HE.get (hpath j) (l.layS h')
  | .nil, _, _, _, hh => hh.elim
  | .cons id o t, h, h', j, hh => by
    show HE.get (hpath j) (t.layS _) = HE.get (hpath j) (t.layS _)
    by_cases ht : t.hit j
    · exact PLs.layS_hit t _ _ j ht
    · rw [PLs.layS_other t _ j ht, PLs.layS_other t _ j ht]
      rcases hh with e | hh
      · rw [e, HE.get_same, HE.get_same]
      · exact absurd hh ht
theorem isDead_ok {o : Obj} (h : o.isDead = true) : o = .dead := by cases o <;> first | rfl | cases h
theorem deadK_inv {F : Res} (hg : F.good) : ∀ (m n : Nat) {s : St} {k : Res}, F = deadK m n s k → (∀ j, n ≤ j → j < n + m → s.get j = .dead) ∧ F = k
  | 0, n, s, k, hF => ⟨fun j h1 h2 => absurd h2 (by omega), hF⟩
  | m + 1, n, s, k, hF => by
    have hF1 : F = guardK (Obj.isDead (s.get n)) (deadK m (Nat.succ n) s k) := hF
    obtain ⟨g1, hF2⟩ := guard_inv hg hF1
    obtain ⟨h1, hF3⟩ := deadK_inv hg m (Nat.succ n) hF2
    refine ⟨fun j h2 h3 => ?_, hF3⟩
    by_cases e : j = n
    · subst e; exact isDead_ok g1
    · exact h1 j (by omega) (by omega)
theorem live_dead {o : Obj} (h : ¬ o.live) : o = .dead := by cases o <;> first | rfl | exact absurd trivial h
section
variable (T : TiOk P ti) {okTo : Nat → Nat → Nat → Nat → Bool} {E : Env} (EO : EnvOk P op ti okTo E) {ih : IH} (IOk : IhOk P op ti ih)
include T EO IOk
theorem ext_frag {g : Nat} {a0 : AV} {P0 : PP} {n0 : Nat} {v : AV} {D : PLs} {n1 : Nat} {rest : XRun} (hrun : (partRun E ih g a0 P0 n0 v D n1).isGood = true) (hrest : ExtOk P op ti g rest) : ExtOk P op ti g (fragK a0 P0 n0 v D n1 rest) := by
  intro w0 ρ s w c vs F k hg hF hl hG hH
  cases hn : Nat.beq s.next n0 with
  | false =>
    refine hrest w0 ρ s w c vs F k hg ?_ hl hG hH
    rw [hF]; unfold fragK; rw [hn]
  | true =>
    have hF1 : F = guardK (AV.beq a0 c) (guardK (bnot s.md.isOn) (guardK (Nat.ble n0 n1) (deadK (Nat.sub n1 n0) n0 s (P0.layK za5 fun h => P0.covK h s (D.layK s.heap fun h1 => k v ⟨h1, n1, .off⟩))))) := by
      rw [hF]; unfold fragK; rw [hn]
    clear hF
    have hnx : s.next = n0 := Nat.eq_of_beq_eq_true hn
    obtain ⟨g1, hF2⟩ := guard_inv hg hF1
    clear hF1
    have hac : a0 = c := beq_eq g1
    clear g1
    subst hac
    obtain ⟨g2, hF3⟩ := guard_inv hg hF2
    clear hF2
    obtain ⟨g3, hF4⟩ := guard_inv hg hF3
    clear hF3
    have hn01 : n0 ≤ n1 := Nat.le_of_ble_eq_true g3
    obtain ⟨hdd, hF5⟩ := deadK_inv hg _ _ hF4
    clear hF4
    have hdead : ∀ j, n0 ≤ j → j < n1 → s.get j = .dead := fun j h1 h2 => hdd j h1 (by
      have : Nat.sub n1 n0 = n1 - n0 := rfl
      omega)
    have hoff : s.md.isOn = false := by
      cases h : s.md.isOn with
      | false => rfl
      | true => rw [h] at g2; cases g2
    have hmb := isOn_mb hH.md hoff
    rw [PP.layK_eq] at hF5
    obtain ⟨hc, hF6⟩ := PP.covK_inv hg _ hF5
    clear hF5
    rw [PLs.layK_eq] at hF6
    obtain ⟨s0, hs0⟩ : ∃ s0 : St, s0 = ⟨P0.layS za5, n0, .off⟩ := ⟨_, rfl⟩
    have hless : ∀ id, id < 262144 → s0.get id = .dead ∨ s0.get id = s.get id := by rw [hs0]; exact layers_less rfl hc
    have hH0 : HRel op w0 ρ s0 w := hH.less (by rw [hnx, hs0]; exact Nat.le_refl _) (by rw [hs0, ← hnx]; exact hH.next) hless (by rw [hmb, hs0]; trivial)
    -- what the call does not know is kept
    obtain ⟨prot, hprot⟩ : ∃ prot : Nat → Prop, prot = fun b => ∃ id p, ρ id = some p ∧ (s.get id).live ∧ ¬ (s0.get id).live ∧ p.b = b := ⟨_, rfl⟩
    obtain ⟨was, hwas⟩ : ∃ was : Nat → Option Go.Obj, was = fun b => @_root_.ite _ (prot b ∧ w0.heap.size ≤ b) (Classical.propDecidable _) (w.heap[b]?) (w0.was b) := ⟨_, rfl⟩
    have was1 : ∀ b, prot b → w0.heap.size ≤ b → was b = w.heap[b]? := fun b h1 h2 => by rw [hwas]; exact if_pos ⟨h1, h2⟩
    have was2 : ∀ b o, w0.was b = some o → was b = some o := fun b o h1 => by
      rw [hwas]
      by_cases h : prot b ∧ w0.heap.size ≤ b
      · exact (if_pos h).trans (hH.keep.1 b o h1)
      · exact (if_neg h).trans h1
    have was3 : ∀ b o, was b = some o → w.heap[b]? = some o := fun b o h1 => by
      by_cases h : prot b ∧ w0.heap.size ≤ b
      · rw [← was1 b h.1 h.2]; exact h1
      · have e : was b = w0.was b := by rw [hwas]; exact if_neg h
        exact hH.keep.1 b o (e ▸ h1)
    obtain ⟨w1, hw1⟩ : ∃ w1 : Base, w1 = { toWorld := w0.toWorld, mb := none, res := fun id => w0.res id ∨ (id < n0 ∧ ρ id = none), was := was } := ⟨_, rfl⟩
    have hH1 : HRel op w1 ρ s0 w := by
      rw [hw1]
      refine ⟨hH0.next, hH0.lt, hH0.blk, hH0.obj, hH0.inj, hH0.below, by rw [hs0]; trivial, ?_, ⟨fun b o => was3 b o, ?_⟩⟩
      · rintro id (h | ⟨h1, h2⟩)
        · exact hH0.res id h
        · exact ⟨h2, by rw [hs0]; exact h1⟩
      · intro id p hp hlv hB
        have hlv' : (s.get id).live := by
          rcases hless id (hH.id_lt hp) with e | e
          · rw [e] at hlv; exact hlv.elim
          · rw [← e]; exact hlv
        have hnp : ¬ prot p.b := by
          rw [hprot]
          rintro ⟨j, q, hq, h1, h2, h3⟩
          have hne : id ≠ j := fun e => by subst e; exact h2 hlv
          exact hH.inj id j p q hp hq hne hlv' h1 hB h3.symm
        have e : was p.b = w0.was p.b := by rw [hwas]; exact if_neg fun h => hnp h.1
        show was p.b = none
        rw [e]; exact hH.keep.2 id p hp hlv' hB
    have hgG := isGood_ok hrun
    have hGF : partRun E ih g a0 P0 n0 v D n1 = callK (E.fn g) ih (cv1 E ih) a0 s0 (partEnd P0 D (P0.layS za5) v n1) := by
      unfold partRun; rw [PP.layK_eq, hs0]
    refine (callK_ok T EO IOk hG hH1 hl hgG hGF).mono ?_
    rintro v1 wE ⟨av, s2, ρ', hs, hsub, hv, hH2⟩
    obtain ⟨X, hX⟩ : ∃ X, X = partEnd P0 D (P0.layS za5) v n1 av s2 := ⟨_, rfl⟩
    have hgX : X.good := by rw [hX]; exact (hs hgG).1
    have hX : X = guardK (AV.beq v av) (guardK (Nat.ble s2.next n1) (guardK (Nat.ble n1 262144) (guardK (bnot s2.md.isOn) (D.layK (P0.layS za5) fun h1 => P0.covK h1 s2 (D.covK h1 s2 .nil))))) := hX
    obtain ⟨k1, hX1⟩ := guard_inv hgX hX
    obtain ⟨k2, hX2⟩ := guard_inv hgX hX1
    obtain ⟨k3, hX3⟩ := guard_inv hgX hX2
    obtain ⟨k4, hX4⟩ := guard_inv hgX hX3
    rw [PLs.layK_eq] at hX4
    obtain ⟨c1, hX5⟩ := PP.covK_inv hgX _ hX4
    obtain ⟨c2, hX6⟩ := PLs.covK_inv hgX _ hX5
    have hva : v = av := beq_eq k1
    subst hva
    have k2 := Nat.le_of_ble_eq_true k2
    have k3 := Nat.le_of_ble_eq_true k3
    obtain ⟨s3, hs3⟩ : ∃ s3 : St, s3 = ⟨D.layS s.heap, n1, .off⟩ := ⟨_, rfl⟩
    have hbsz : w1.heap.size = w0.heap.size := by rw [hw1]
    -- what stands behind the call: of the call's own knowing, or kept
    have cases3 : ∀ id p, ρ' id = some p → (s3.get id).live → (s3.get id = s2.get id ∧ (s2.get id).live) ∨
        (s3.get id = s.get id ∧ ρ id = some p ∧ (s.get id).live ∧ ¬ (s0.get id).live ∧ wE.heap[p.b]? = w.heap[p.b]? ∧ (w0.heap.size ≤ p.b → was p.b = w.heap[p.b]?)) := by
      intro id p hp hlv
      have hid := hH2.id_lt hp
      have hid1 : id < n1 := Nat.lt_of_lt_of_le (hH2.lt id p hp) k2
      have known : HE.get (hpath id) (D.layS (P0.layS za5)) = s2.get id → (s3.get id = HE.get (hpath id) (D.layS (P0.layS za5))) → (s3.get id = s2.get id ∧ (s2.get id).live) := fun e1 e2 => by
        have e := e2.trans e1
        exact ⟨e, by rw [← e]; exact hlv⟩
      by_cases hd : D.hit id
      · have e2 : s3.get id = HE.get (hpath id) (D.layS (P0.layS za5)) := by rw [hs3]; exact PLs.layS_hit D _ _ id hd
        rcases c2 id hid hd with e | e
        · rw [e2, e] at hlv; exact hlv.elim
        · exact .inl (known e e2)
      · have e3 : s3.get id = s.get id := by rw [hs3]; exact PLs.layS_other D _ id hd
        by_cases h0 : (s0.get id).live
        · have es : s0.get id = s.get id := (hless id hid).resolve_left fun e => by rw [e] at h0; exact h0
          have e4 : HE.get (hpath id) (D.layS (P0.layS za5)) = s0.get id := by rw [PLs.layS_other D _ id hd, hs0]; rfl
          have hp0 : P0.hit id := Classical.byContradiction fun hn0 => by
            have e5 : s0.get id = .dead := by
              rw [hs0]
              show HE.get (hpath id) (P0.layS za5) = _
              rw [PP.layS_other _ _ _ hn0]; exact za5_get _
            rw [e5] at h0; exact h0
          rcases c1 id hid hp0 with e | e
          · rw [e4] at e; rw [e] at h0; exact h0.elim
          · exact .inl (known e (by rw [e3, e4, es]))
        · rw [e3] at hlv
          have hlt : id < n0 := Classical.byContradiction fun hge => by
            rw [hdead id (by omega) hid1] at hlv; exact hlv
          have hρ : ρ id = some p := by
            cases hρ : ρ id with
            | none =>
              have := (hH2.res id (by rw [hw1]; exact .inr ⟨hlt, hρ⟩)).1
              rw [hp] at this; cases this
            | some q => rw [← hp]; exact (hsub id q hρ).symm
          have hpr : prot p.b := by rw [hprot]; exact ⟨id, p, hρ, hlv, h0, rfl⟩
          have hwb : w0.heap.size ≤ p.b → was p.b = w.heap[p.b]? := fun hB => was1 p.b hpr hB
          refine .inr ⟨e3, hρ, hlv, h0, ?_, hwb⟩
          by_cases hB : w0.heap.size ≤ p.b
          · obtain ⟨o, ho⟩ : ∃ o, w.heap[p.b]? = some o := ⟨_, Array.getElem?_eq_getElem (hH.blk id p hρ)⟩
            rw [ho]
            refine hH2.keep.1 p.b o ?_
            rw [hw1]; show was p.b = some o
            rw [hwb hB, ho]
          · have b1 := hH2.below.block p.b (by rw [hbsz]; omega)
            have b2 := hH.below.block p.b (by omega)
            rw [b1, b2, hw1]
    refine ⟨v, s3, ρ', by rw [hF6, hs3]; exact .refl _, hsub, hv, ?_⟩
    have hwas' : w1.was = was := by rw [hw1]
    refine ⟨by rw [hs3]; exact k3, fun id p hp => by rw [hs3]; exact Nat.lt_of_lt_of_le (hH2.lt id p hp) k2, hH2.blk, ?_, ?_, ?_, by rw [hmb, hs3]; trivial, ?_, ⟨?_, ?_⟩⟩
    · intro id p hp
      by_cases hlv : (s3.get id).live
      · rcases cases3 id p hp hlv with ⟨e, _⟩ | ⟨e, hρ, _, _, hb, _⟩
        · rw [e]; have := hH2.obj id p hp; rwa [hbsz] at this
        · rw [e, hb]; exact (hH.obj id p hρ).mono hsub
      · rw [live_dead hlv]; trivial
    · intro i j p q hi hj hne hli hlj hB
      rcases cases3 i p hi hli with ⟨e1, l1⟩ | ⟨e1, r1, l1, d1, hb1, hw1'⟩ <;> rcases cases3 j q hj hlj with ⟨e2, l2⟩ | ⟨e2, r2, l2, d2, hb2, hw2'⟩
      · exact hH2.inj i j p q hi hj hne l1 l2 (by rw [hbsz]; exact hB)
      · intro e
        have h1 := hH2.keep.2 i p hi l1 (by rw [hbsz]; exact hB)
        rw [hwas', e, hw2' (by rw [← e]; exact hB)] at h1
        have := Array.getElem?_eq_getElem (hH.blk j q r2)
        rw [h1] at this; cases this
      · intro e
        have h1 := hH2.keep.2 j q hj l2 (by rw [hbsz, ← e]; exact hB)
        rw [hwas', ← e, hw1' hB] at h1
        have := Array.getElem?_eq_getElem (hH.blk i p r1)
        rw [h1] at this; cases this
      · exact hH.inj i j p q r1 r2 hne l1 l2 hB
    · have := hH2.below; rw [hw1] at this; exact this
    · intro id hid
      have := hH2.res id (by rw [hw1]; exact .inl hid)
      exact ⟨this.1, by rw [hs3]; exact Nat.lt_of_lt_of_le this.2 k2⟩
    · intro b o hb
      exact hH2.keep.1 b o (by rw [hwas']; exact was2 b o hb)
    · intro id p hp hlv hB
      rcases cases3 id p hp hlv with ⟨e, l⟩ | ⟨e, hρ, l, _, _, _⟩
      · have h1 := hH2.keep.2 id p hp l (by rw [hbsz]; exact hB)
        rw [hwas'] at h1
        cases hw : w0.was p.b with
        | none => rfl
        | some o => rw [was2 _ _ hw] at h1; cases h1
      · exact hH.keep.2 id p hρ l hB
end
end
end Go.Ax
end
