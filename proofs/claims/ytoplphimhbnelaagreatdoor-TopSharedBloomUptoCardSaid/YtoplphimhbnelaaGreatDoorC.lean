/-
  The reckoner is sound, second part: appends, maps, conversions, calls of builtins.
-/
import Derived.Test.YtoplphimhbnelaaGreatDoorB
import Derived.Laws.NewBlocks
import Derived.Laws.RangeString
set_option linter.all false
set_option linter.unusedVariables false
set_option linter.unusedSimpArgs false
section
namespace Go.Ax
open Go Go.RowKit
noncomputable section
set_option linter.unusedSectionVars false
set_option linter.unusedVariables false
set_option linter.unusedSimpArgs false
/- ### Comparisons as operations; maps -/
section
variable {P : Program} {op : Nat → Value} {w0 : Base} {ti : TI} (T : TiOk P ti) {ρ : Rho} {s : St} {w : World} {f : NC} {a : Act}
  {o : Oper} (hS : Opd op ρ ti f a o) (hG : GRel ti ρ) (hH : HRel op w0 ρ s w)
include T
theorem eq_plain {n t : Nat} {p : EqP} {e : TE} (h : eqC ti n t = some p) (he : ti t = some e) (hd : ∀ ms, e.und ≠ .interface ms) :
    (∃ m, p = .leaf (m + 1)) ∨ (isAggD e.und = true ∧ e.guard = false ∧ ∃ off m agg pe pt, p = .pcons off m agg pe pt) := by
  cases n with
  | zero => cases h
  | succ n =>
    simp only [eqC, he] at h
    split at h <;> rename_i hund
    · cases h; exact .inl ⟨0, rfl⟩
    · cases h; exact .inl ⟨1, rfl⟩
    · cases h; exact .inl ⟨2, rfl⟩
    · cases h; exact .inl ⟨4, rfl⟩
    · cases h; exact .inl ⟨5, rfl⟩
    · cases h; exact .inl ⟨6, rfl⟩
    · exact absurd hund (hd _)
    · split at h
      · cases h; exact .inl ⟨3, rfl⟩
      · cases h
    · rename_i fs
      split at h
      · cases h
      · rename_i hgs
        simp only [Bool.or_eq_true, not_or, Bool.not_eq_true] at hgs
        refine .inr ⟨by rw [hund]; rfl, hgs.1.1, ?_⟩
        cases hl : fs.toList with
        | nil => exact absurd hl (by simpa using hgs.2)
        | cons fl rest =>
          rw [hl] at h
          simp only [fieldsEqC] at h
          split at h
          · cases h
          · split at h
            · split at h
              · cases h; exact ⟨_, _, _, _, _, rfl⟩
              · cases h
            · cases h
    · cases h
omit T in
theorem binOp_cmp (neg : Bool) (t : TypeId) (x y : Value) (hx : match x with | .int _ _ | .float _ _ | .complex _ _ _ | .string _ => False | _ => True) :
    binOp (if neg then .neq else .eql) t x y = (do let r ← Op.equal t x y; pure (.bool (if neg then !r else r))) := by
  cases neg <;> cases x <;> first | exact hx.elim | rfl | (cases y <;> rfl)
include hS hG hH
theorem op_eq {x y : Operand} {x' y' : Src} {neg : Bool} {t t' : TypeId} {e : TE} {p : EqP} (hop : o.op = .binOp (if neg then .neq else .eql) t x y t') (he : ti t = some e) (hd : ∀ ms, e.und ≠ .interface ms) (hni : ∀ k, e.und ≠ .int k) (hns : e.und ≠ .string) (hp : eqC ti 6 t = some p)
    (hx : srcC ti x = some x') (hy : srcC ti y = some y') : ReadOk P op ρ s w (oEq neg p x' y' f s) (execOp a.eval o) := by
  intro F k hg hF
  have h1 := src_ok hS hG hx
  have h2 := src_ok hS hG hy
  unfold oEq at hF
  generalize x'.ev f = X at h1 hF
  generalize y'.ev f = Y at h2 hF
  obtain ⟨b, hb, hF'⟩ := Out.inv hg hF (eqP_ok T 6 t p hp Op.maxDepth (by decide) h1 h2 _)
  have fin : (match a.eval x with | .int _ _ | .float _ _ | .complex _ _ _ | .string _ => False | _ => True) → (eqGuard (if neg then .neq else .eql) t x y (a.eval x) (a.eval y)).run P w = .ok () w → ∃ av v, (execOp a.eval o).run P w = .ok (.value v) w ∧ VRel op ρ av v ∧ F = k av s := by
    intro hm hgd
    refine rd (v := .bool (if neg then !b else b)) hF' ?_ (by cases neg <;> simp [VRel, bnot_eq])
    have := hb w
    simp only [execOp, hop, Sem.run_bind, hgd, Result.andThen, binOp_cmp neg t _ _ hm, Op.equal, this, Sem.run_pure]
  rcases eq_plain T hp he hd with ⟨m, rfl⟩ | ⟨ha, hgd, off, m, agg, pe, pt, rfl⟩
  · have hF : F = guardK (Nat.beq (m + 1) X.cls) (X.leafEq Y fun b => k (.bool (Bool.rec (motive := fun _ => Bool) b (bnot b) neg)) s) := hF
    obtain ⟨hc, _⟩ := guard_inv hg hF
    have hc := Nat.eq_of_beq_eq_true hc
    have hbas : Basic ti t (m + 1) := by
      simp only [eqC, he] at hp
      split at hp <;> rename_i hund
      · cases hp; exact ⟨e, he, .inl ⟨rfl, hund⟩⟩
      · exact absurd hund (hni _)
      · exact absurd hund hns
      · cases hp; exact ⟨e, he, .inr (.inr (.inr (.inr (.inl ⟨rfl, _, hund⟩))))⟩
      · cases hp; exact ⟨e, he, .inr (.inr (.inr (.inr (.inr (.inl ⟨rfl, _, _, hund⟩)))))⟩
      · cases hp; exact ⟨e, he, .inr (.inr (.inr (.inr (.inr (.inr ⟨rfl, _, _, _, hund⟩)))))⟩
      · exact absurd hund (hd _)
      · split at hp
        · rename_i j hj; cases hp; exact ⟨e, he, .inr (.inr (.inr (.inl ⟨rfl, _, j, hund, hj⟩)))⟩
        · cases hp
      · split at hp
        · cases hp
        · rename_i fs _
          cases hl : fs.toList with
          | nil => rw [hl] at hp; simp only [fieldsEqC] at hp; split at hp <;> cases hp
          | cons fl rest =>
            rw [hl] at hp
            simp only [fieldsEqC] at hp
            split at hp
            · cases hp
            · split at hp
              · split at hp <;> cases hp
              · cases hp
      · cases hp
    have hne : m + 1 ≠ 2 ∧ m + 1 ≠ 3 := by
      obtain ⟨e', he', hbas⟩ := hbas
      rw [he] at he'; cases he'
      constructor
      · intro h2
        rcases hbas with ⟨h, _⟩ | ⟨_, kk, h⟩ | ⟨h, _⟩ | ⟨h, _⟩ | ⟨h, _⟩ | ⟨h, _⟩ | ⟨h, _⟩ <;> first | (exact hni _ h) | omega
      · intro h2
        rcases hbas with ⟨h, _⟩ | ⟨h, _⟩ | ⟨_, h⟩ | ⟨h, _⟩ | ⟨h, _⟩ | ⟨h, _⟩ | ⟨h, _⟩ <;> first | (exact hns h) | omega
    have gd : (match a.eval x with | .nilIface | .agg _ => False | _ => True) → (eqGuard (if neg then .neq else .eql) t x y (a.eval x) (a.eval y)).run P w = .ok () w := by
      intro hm
      unfold eqGuard
      cases neg <;> simp <;> (split <;> simp_all)
    cases X with
    | bool c => have h1 : a.eval x = .bool c := h1; exact fin (by rw [h1]; trivial) (gd (by rw [h1]; trivial))
    | int i c => exact absurd hc hne.1
    | str c => exact absurd hc hne.2
    | nilp => have h1 : a.eval x = .pointer none := h1; exact fin (by rw [h1]; trivial) (gd (by rw [h1]; trivial))
    | ptr => obtain ⟨_, _, h1⟩ := h1; exact fin (by rw [h1]; trivial) (gd (by rw [h1]; trivial))
    | nils => have h1 : a.eval x = .slice none 0 0 := h1; exact fin (by rw [h1]; trivial) (gd (by rw [h1]; trivial))
    | sl => obtain ⟨_, _, _, _, h1, _⟩ := h1; exact fin (by rw [h1]; trivial) (gd (by rw [h1]; trivial))
    | nilm => have h1 : a.eval x = .map none := h1; exact fin (by rw [h1]; trivial) (gd (by rw [h1]; trivial))
    | map => obtain ⟨_, _, h1⟩ := h1; exact fin (by rw [h1]; trivial) (gd (by rw [h1]; trivial))
    | nilf => have h1 : a.eval x = .nilFunc := h1; exact fin (by rw [h1]; trivial) (gd (by rw [h1]; trivial))
    | fn => obtain ⟨_, _, _, _, _, _, h1⟩ := h1; exact fin (by rw [h1]; trivial) (gd (by rw [h1]; trivial))
    | _ => cases hc
  · have hF : F = X.asAgg fun c => Y.asAgg fun d => partK agg off m c fun u => partK agg off m d fun v => pe.runK u v fun r => Bool.rec (motive := fun _ => Res) (k (.bool (Bool.rec (motive := fun _ => Bool) false (bnot false) neg)) s) (pt.runK X Y fun b => k (.bool (Bool.rec (motive := fun _ => Bool) b (bnot b) neg)) s) r := hF
    obtain ⟨c, e1, hF⟩ := asAgg_inv hg hF
    obtain ⟨d, e2, hF⟩ := asAgg_inv hg hF
    subst e1; subst e2
    obtain ⟨xs, _, _, h1⟩ := h1
    obtain ⟨ys, _, _, h2⟩ := h2
    refine fin (by rw [h1]; trivial) ?_
    rw [h1, h2]
    exact run_eqGuard_agg w _ t x y _ _ (T.guard t e he ha hgd)
theorem op_eqifc {x y : Operand} {x' y' : Src} {neg : Bool} {t t' : TypeId} {ms : Array (String × TypeId)} (hop : o.op = .binOp (if neg then .neq else .eql) t x y t') (hu : undC ti t = some (.interface ms))
    (hx : srcC ti x = some x') (hy : srcC ti y = some y') : ReadOk P op ρ s w (oEq neg (.ifc (ms.isEmpty || Region.isConst x || Region.isConst y) (okC ti)) x' y' f s) (execOp a.eval o) := by
  intro F k hg hF
  obtain ⟨e, he, hund⟩ : ∃ e, ti t = some e ∧ e.und = .interface ms := by
    unfold undC at hu
    split at hu
    · rename_i e he; injection hu with hu; exact ⟨e, he, hu⟩
    · cases hu
  have h1 := src_ok hS hG hx
  have h2 := src_ok hS hG hy
  have hF : F = (x'.ev f).ifcEq (y'.ev f) (ms.isEmpty || Region.isConst x || Region.isConst y) (okC ti) fun b => k (.bool (Bool.rec (motive := fun _ => Bool) b (bnot b) neg)) s := hF
  generalize x'.ev f = X at h1 hF
  generalize y'.ev f = Y at h2 hF
  obtain ⟨b, ⟨hb, hnn⟩, hF'⟩ := Out.inv hg hF (ifcEq_ok T he hund _ h1 h2 _)
  have hX : a.eval x = .nilIface ∨ ∃ t v, a.eval x = .iface t v := by
    rcases caseIfc_inv hg hF with ⟨rfl, _⟩ | ⟨t, u, rfl, _⟩
    · exact .inl h1
    · obtain ⟨v, _, h1⟩ := h1; exact .inr ⟨_, _, h1⟩
  have hgd : (eqGuard (if neg then .neq else .eql) t x y (a.eval x) (a.eval y)).run P w = .ok () w := by
    rcases hX with hX | ⟨t1, v1, hX⟩
    · by_cases hY : a.eval y = .nilIface
      · have := hnn hX hY
        rw [hX, hY]
        simp only [Bool.or_eq_true] at this
        have hcx : ∀ z : Operand, Region.isConst z = true → ∃ v, z = .const v := fun z hz => by cases z <;> first | exact ⟨_, rfl⟩ | cases hz
        rcases this with (hm | hc) | hc
        · have hgi : (Op.eqGuardIn Op.maxDepth t .nilIface .nilIface).run P w = .ok false w := by
            show (Op.eqGuardIn (9999 + 1) t .nilIface .nilIface).run P w = _
            rw [Op.eqGuardIn]
            simp [run_underlying T hu, Result.andThen, hm]
          unfold eqGuard
          cases neg <;> simp [hgi, Result.andThen]
        · obtain ⟨v, rfl⟩ := hcx x hc; unfold eqGuard; cases neg <;> simp
        · obtain ⟨v, rfl⟩ := hcx y hc; unfold eqGuard; cases neg <;> simp
      · rw [hX]; unfold eqGuard; cases neg <;> simp <;> (split <;> simp_all)
    · rw [hX]; unfold eqGuard; cases neg <;> simp <;> (split <;> simp_all)
  have hm : (match a.eval x with | .int _ _ | .float _ _ | .complex _ _ _ | .string _ => False | _ => True) := by
    rcases hX with hX | ⟨t1, v1, hX⟩ <;> rw [hX] <;> trivial
  refine rd (v := .bool (if neg then !b else b)) hF' ?_ (by cases neg <;> simp [VRel, bnot_eq])
  have := hb w 9998
  simp only [execOp, hop, Sem.run_bind, hgd, Result.andThen, binOp_cmp neg t _ _ hm, Op.equal, Op.maxDepth, this, Sem.run_pure]
end
end
end Go.Ax
end
section
namespace Go.Ax
open Go Go.RowKit
noncomputable section
set_option linter.unusedSectionVars false
set_option linter.unusedVariables false
set_option linter.unusedSimpArgs false
/- ### Maps -/
theorem putObj_turned {w : World} {b : Nat} (o : Go.Obj) : Turned w { w with heap := w.heap.setIfInBounds b o } b :=
  ⟨rfl, rfl, rfl, by simp, fun k hk => by simp [Array.getElem?_setIfInBounds]; intro h; exact absurd h.symm hk⟩
theorem putObj_same {w : World} {b : Nat} (o : Go.Obj) (h : b < w.heap.size) : ({ w with heap := w.heap.setIfInBounds b o } : World).heap[b]? = some o := by
  simp [Array.getElem?_setIfInBounds, h]
theorem run_setObj_map {P : Program} {w : World} {b : Nat} {l : Array MapEntry} {c : Nat} (o : Go.Obj) (h : w.heap[b]? = some (.map l c)) : (setObj b o).run P w = .ok () { w with heap := w.heap.setIfInBounds b o } := by
  simp [setObj, Sem.run, h]
/-- A value of a basic kind: what a comparison says of it. -/
inductive Plain : Nat → Value → Prop
  | bool (b : Bool) : Plain 1 (.bool b)
  | int (k : IntKind) (n : Int) : Plain 2 (.int k n)
  | str (s : ByteArray) : Plain 3 (.string s)
section
variable {P : Program} {op : Nat → Value} {w0 : Base} {ti : TI} (T : TiOk P ti) {ρ : Rho}
theorem sameNow_ok {t n : Nat} (hb : Basic ti t n) (h3 : n ≤ 3) {d : TypeDesc} (hd : undC ti t = some d) {X Y : AV} {x y : Value} (hx : VRel op ρ X x) (hy : VRel op ρ Y y) (k : Bool → Res) :
    Out (basicEq n X Y k) k fun b => Instr.sameNow d x y = some b ∧ Plain n x ∧ (b = true → Instr.sameBits 10000 y x = true) := by
  obtain ⟨e, he, hb⟩ := hb
  have hde : d = e.und := by simp only [undC, he] at hd; injection hd with hd; exact hd.symm
  subst hde
  refine Out.guard fun hc => ?_
  have hc : n = X.cls := Nat.eq_of_beq_eq_true hc
  cases X with
  | bool b =>
    have hx : x = .bool b := hx
    have hn : n = 1 := hc
    cases Y with
    | bool c =>
      have hy : y = .bool c := hy
      rcases hb with ⟨_, h⟩ | ⟨h, _⟩ | ⟨h, _⟩ | ⟨h, _⟩ | ⟨h, _⟩ | ⟨h, _⟩ | ⟨h, _⟩ <;> first | (omega) | skip
      refine .ok (sameBool b c) ⟨?_, ?_, ?_⟩
      · rw [h, hx, hy]; cases b <;> cases c <;> rfl
      · rw [hn, hx]; exact .bool b
      · rw [hx, hy]; cases b <;> cases c <;> first | (intro _; rfl) | (intro h; cases h)
    | _ => exact .inl rfl
  | int i m =>
    have hx : x = .int i m := hx
    have hn : n = 2 := hc
    cases Y with
    | int j l =>
      have hy : y = .int j l := hy
      show Out (Bool.rec (motive := fun _ => Res) .fail (k (ieq m l)) (sameKind i j)) k _
      cases hk : sameKind i j with
      | false => exact .inl rfl
      | true =>
        have hk := sameKind_eq hk
        subst hk
        rcases hb with ⟨h, _⟩ | ⟨_, kk, h⟩ | ⟨h, _⟩ | ⟨h, _⟩ | ⟨h, _⟩ | ⟨h, _⟩ | ⟨h, _⟩ <;> first | (omega) | skip
        refine Out.ok (k := k) (ieq m l) ⟨?_, ?_, ?_⟩
        · rw [h, hx, hy]; simp [Instr.sameNow, ieq_eq]
        · rw [hn, hx]; exact .int i m
        · rw [hx, hy, ieq_eq]; intro h; simp at h; simp [Instr.sameBits, h]
    | _ => exact .inl rfl
  | str a =>
    obtain ⟨ha, hx⟩ := hx
    have hn : n = 3 := hc
    cases Y with
    | str b =>
      obtain ⟨hb', hy⟩ := hy
      rcases hb with ⟨h, _⟩ | ⟨h, _⟩ | ⟨_, h⟩ | ⟨h, _⟩ | ⟨h, _⟩ | ⟨h, _⟩ | ⟨h, _⟩ <;> first | (omega) | skip
      have hbb : (a.arr == b.arr) = BL.eq a b := by
        rw [beq_toListBytes, bl_eq ha hb', show a.arr.toList = a.toBytes from ByteArray.toList_mk _, show b.arr.toList = b.toBytes from ByteArray.toList_mk _]
      refine .ok (BL.eq a b) ⟨?_, ?_, ?_⟩
      · rw [h, hx, hy]; simp only [Instr.sameNow, hbb]
      · rw [hn, hx]; exact .str _
      · rw [hx, hy, ← hbb]
        intro h
        have : a.arr = b.arr := by
          have h := h
          rw [beq_toListBytes] at h
          rw [show a.arr.toList = a.toBytes from ByteArray.toList_mk _, show b.arr.toList = b.toBytes from ByteArray.toList_mk _] at h
          have h := eq_of_beq h
          unfold BL.arr; rw [h]
        rw [this]
        show (b.arr == b.arr) = true
        rw [beq_toListBytes]; simp
    | _ => exact .inl rfl
  | _ => exact absurd hc (by have := hb; intro h; rcases this with ⟨h1, _⟩ | ⟨h1, _⟩ | ⟨h1, _⟩ | ⟨h1, _⟩ | ⟨h1, _⟩ | ⟨h1, _⟩ | ⟨h1, _⟩ <;> simp only [AV.cls] at h <;> omega)
theorem findK_ok {t n : Nat} (hb : Basic ti t n) (h3 : n ≤ 3) {d : TypeDesc} (hd : undC ti t = some d) {X : AV} {x : Value} (hx : VRel op ρ X x) {z : Res} {k : Nat → AV → Res} {F : Res} (hg : F.good) :
    ∀ (es : ML) (l : List MapEntry) (i : Nat), MLRel op ρ es l → F = es.findK n X z k →
      (F = z ∧ Instr.findNow d x l i = some none) ∨ ∃ b V e j, F = k b V ∧ Instr.findNow d x l i = some (some (i + j, e.val)) ∧ l[j]? = some e ∧ VRel op ρ V e.val
  | .nil, l, i, h, hF => by have h : l = [] := h; subst h; exact .inl ⟨hF, rfl⟩
  | .cons c v b es, l, i, h, hF => by
    obtain ⟨e, l', rfl, hk, hv, he, hr⟩ := h
    obtain ⟨r, ⟨hr1, _, _⟩, hF⟩ := Out.inv hg hF (sameNow_ok hb h3 hd hx hk _)
    cases r with
    | true => exact .inr ⟨b, v, e, 0, hF, by simp [Instr.findNow, hr1], rfl, hv⟩
    | false =>
      rcases findK_ok hb h3 hd hx hg es l' (i + 1) hr hF with ⟨hF, hn⟩ | ⟨b', V, e', j, hF, hn, hj, hV⟩
      · exact .inl ⟨hF, by simp only [Instr.findNow, hr1]; exact hn⟩
      · exact .inr ⟨b', V, e', j + 1, hF, by simp only [Instr.findNow, hr1]; rw [hn]; congr 3; omega, hj, hV⟩
theorem putK_ok {t n : Nat} (hb : Basic ti t n) (h3 : n ≤ 3) {d : TypeDesc} (hd : undC ti t = some d) {X V : AV} {x v : Value} (hx : VRel op ρ X x) (hv : VRel op ρ V v) (clock : Nat) {F : Res} (hg : F.good) :
    ∀ (es : ML) (l : List MapEntry) (i : Nat) (k : ML → Nat → Res), MLRel op ρ es l → F = es.putK n X V clock k →
      (∃ es', F = k es' (clock + 1) ∧ Instr.findNow d x l i = some none ∧ MLRel op ρ es' (l ++ [{ key := x, val := v, born := clock }])) ∨
      ∃ es' e j, F = k es' clock ∧ Instr.findNow d x l i = some (some (i + j, e.val)) ∧ l[j]? = some e ∧ Instr.sameBits 10000 e.key x = true ∧ MLRel op ρ es' (l.modify j fun e => { e with key := x, val := v })
  | .nil, l, i, k, h, hF => by
    have h : l = [] := h
    subst h
    exact .inl ⟨.cons X V clock .nil, hF, rfl, _, _, rfl, hx, hv, rfl, rfl⟩
  | .cons c u b es, l, i, k, h, hF => by
    obtain ⟨e, l', rfl, hk, hu, he, hr⟩ := h
    obtain ⟨r, ⟨hr1, _, hsb⟩, hF⟩ := Out.inv hg hF (sameNow_ok hb h3 hd hx hk _)
    cases r with
    | true => exact .inr ⟨.cons X V b es, e, 0, hF, by simp [Instr.findNow, hr1], rfl, hsb rfl, _, _, rfl, hx, hv, he, hr⟩
    | false =>
      rcases putK_ok hb h3 hd hx hv clock hg es l' (i + 1) _ hr hF with ⟨es', hF, hn, hr'⟩ | ⟨es', e', j, hF, hn, hj, hs, hr'⟩
      · exact .inl ⟨.cons c u b es', hF, by simp only [Instr.findNow, hr1]; exact hn, _, _, rfl, hk, hu, he, hr'⟩
      · exact .inr ⟨.cons c u b es', e', j + 1, hF, by simp only [Instr.findNow, hr1]; rw [hn]; congr 3; omega, hj, hs, _, _, rfl, hk, hu, he, hr'⟩
end
end
end Go.Ax
end
section
namespace Go.Ax
open Go Go.RowKit
noncomputable section
set_option linter.unusedSectionVars false
set_option linter.unusedVariables false
set_option linter.unusedSimpArgs false
theorem MLRel.app {op : Nat → Value} {ρ : Rho} : ∀ {es : ML} {l : List MapEntry} {i : Nat}, MLRel op ρ es l → True := fun _ => trivial
section
variable {P : Program} {op : Nat → Value} {w0 : Base} {ti : TI} (T : TiOk P ti) {ρ : Rho} {s : St} {w : World} {f : NC} {a : Act}
  {o : Oper} (hS : Opd op ρ ti f a o) (hG : GRel ti ρ) (hH : HRel op w0 ρ s w)
include T
theorem basic_und {t n : Nat} (hb : Basic ti t n) (h3 : n ≤ 3) : ∃ d, undC ti t = some d ∧ (d = .bool ∨ (∃ k, d = .int k) ∨ d = .string) := by
  obtain ⟨e, he, hb⟩ := hb
  refine ⟨e.und, by simp only [undC, he], ?_⟩
  rcases hb with ⟨_, h⟩ | ⟨_, h⟩ | ⟨_, h⟩ | ⟨h, _⟩ | ⟨h, _⟩ | ⟨h, _⟩ | ⟨h, _⟩
  · exact .inl h
  · exact .inr (.inl h)
  · exact .inr (.inr h)
  all_goals omega
theorem run_checkKey {t : Nat} {d : TypeDesc} (hd : undC ti t = some d) (hb : d = .bool ∨ (∃ k, d = .int k) ∨ d = .string) (empty : Bool) (x : Value) (w : World) : (Instr.checkKey empty 10000 t x).run P w = .ok () w := by
  show (Instr.checkKey empty (9999 + 1) t x).run P w = _
  rw [Instr.checkKey]
  rcases hb with rfl | ⟨k, rfl⟩ | rfl <;> simp [run_underlying T hd, Result.andThen]
theorem run_findKey {t : Nat} {d : TypeDesc} (hd : undC ti t = some d) {x : Value} {l : List MapEntry} {r : Option (Nat × Value)} (h : Instr.findNow d x l 0 = some r) (w : World) : (Instr.findKey t x l).run P w = .ok r w := by
  simp [Instr.findKey, run_underlying T hd, h, Result.andThen]
theorem zeroC_ok {t : Nat} {z : AV} (hz : zeroC ti t = some z) (ρ : Rho) : ∃ zv, (∀ w, (zeroValue t).run P w = .ok zv w) ∧ VRel op ρ z zv ∧ (∃ e, ti t = some e ∧ e.info.zero = some zv) ∧ avOf 6 zv = some z ∧ ∀ vs, zv ≠ .tuple vs := by
  unfold zeroC at hz
  split at hz
  · rename_i e he
    split at hz
    · cases hz
    · rename_i zv hnt hzv; exact ⟨zv, fun w => by simp [zeroValue, run_typeInfo T he, hzv, Result.andThen], avOf_ok op ρ 6 zv z hz, ⟨e, he, hzv⟩, hz, fun vs e => hnt vs e⟩
    · cases hz
  · cases hz
include hS hG hH
theorem op_lookup {m key : Operand} {m' key' : Src} {t kt e n : Nat} {z : AV} {ok : Bool} (hop : o.op = .lookup t m key ok) (ht : undC ti t = some (.map kt e)) (hk : keyC ti kt = some n) (hz : zeroC ti e = some z) (hm : srcC ti m = some m') (hkey : srcC ti key = some key') :
    ReadOk P op ρ s w (oLookup n z ok m' key' f s) (execOp a.eval o) := by
  intro F k hg hF
  have h1 := src_ok hS hG hm
  have h2 := src_ok hS hG hkey
  unfold oLookup mapOf at hF
  generalize m'.ev f = M at h1 hF
  generalize key'.ev f = K at h2 hF
  obtain ⟨hb, h3⟩ := keyC_basic T hk
  obtain ⟨d, hd, hdb⟩ := basic_und T hb h3
  obtain ⟨zv, hz1, hz2, _⟩ := zeroC_ok (op := op) (P := P) T hz ρ
  have fin : ∀ (es : ML) (l : Array MapEntry), MLRel op ρ es l.toList → F = es.findK n K (k (Bool.rec (motive := fun _ => AV) z (.tup (.lcons z (.lcons (.bool false) .lnil))) ok) s) (fun _ v => k (Bool.rec (motive := fun _ => AV) v (.tup (.lcons v (.lcons (.bool true) .lnil))) ok) s) →
      (∀ (r : Option (Nat × Value)) (v : Value) (b : Bool), Instr.findNow d (a.eval key) l.toList 0 = some r → (r = none ∧ v = zv ∧ b = false ∨ ∃ i, r = some (i, v) ∧ b = true) → (execOp a.eval o).run P w = .ok (.value (if ok then .tuple #[v, .bool b] else v)) w) →
      ∃ av v, (execOp a.eval o).run P w = .ok (.value v) w ∧ VRel op ρ av v ∧ F = k av s := by
    intro es l hr hF hrun
    rcases findK_ok hb h3 hd h2 hg es l.toList 0 hr hF with ⟨hF, hn⟩ | ⟨b, V, e', j, hF, hn, _, hV⟩
    · refine rd (v := if ok then .tuple #[zv, .bool false] else zv) hF (hrun none zv false hn (.inl ⟨rfl, rfl, rfl⟩)) ?_
      cases ok
      · exact hz2
      · exact ⟨[zv, .bool false], ⟨zv, _, rfl, hz2, .bool false, [], rfl, rfl, rfl⟩, rfl⟩
    · refine rd (v := if ok then .tuple #[e'.val, .bool true] else e'.val) hF (hrun _ e'.val true hn (.inr ⟨_, rfl, rfl⟩)) ?_
      cases ok
      · exact hV
      · exact ⟨[e'.val, .bool true], ⟨e'.val, _, rfl, hV, .bool true, [], rfl, rfl, rfl⟩, rfl⟩
  have hr0 := caseMap_inv hg hF; clear hF
  rcases hr0 with ⟨rfl, hF⟩ | ⟨id, rfl, hF⟩
  · have h1 : a.eval m = .map none := h1
    refine fin .nil #[] rfl hF fun r v b hr hv => ?_
    simp only [execOp, hop, Instr.lookup, Sem.run_bind, run_underlying T ht, Result.andThen, h1, Sem.run_pure, run_checkKey T hd hdb, run_findKey T hd hr]
    rcases hv with ⟨rfl, rfl, rfl⟩ | ⟨i, rfl, rfl⟩
    · simp [hz1, Result.andThen]
    · simp [Result.andThen]
  · obtain ⟨p, hp, h1⟩ := h1
    obtain ⟨es, clock, l, _, hF, hgo, hr, _, _⟩ := map_ok (P := P) T hS hG hH hp hg hF
    refine fin es l hr hF fun r v b hr hv => ?_
    simp only [execOp, hop, Instr.lookup, Sem.run_bind, run_underlying T ht, Result.andThen, h1, Sem.run_pure, hgo, run_checkKey T hd hdb, run_findKey T hd hr]
    rcases hv with ⟨rfl, rfl, rfl⟩ | ⟨i, rfl, rfl⟩
    · simp [hz1, Result.andThen]
    · simp [Result.andThen]
theorem op_mapset {m key val : Operand} {m' key' val' : Src} {t kt e n : Nat} (hop : o.op = .mapUpdate t m key val ∨ o.op = .insert t m key val) (ht : undC ti t = some (.map kt e)) (hk : keyC ti kt = some n) (hm : srcC ti m = some m') (hkey : srcC ti key = some key') (hval : srcC ti val = some val') :
    OpOk P op w0 ρ s w (oMapset n m' key' val' f s) (execOp a.eval o) := by
  intro F k hg hF
  have h1 := src_ok hS hG hm (by rcases hop with h | h <;> simp [h, Op.operands])
  have h2 := src_ok hS hG hkey (by rcases hop with h | h <;> simp [h, Op.operands])
  have h3 := src_ok hS hG hval (by rcases hop with h | h <;> simp [h, Op.operands])
  unfold oMapset at hF
  generalize m'.ev f = M at h1 hF
  generalize key'.ev f = K at h2 hF
  generalize val'.ev f = V at h3 hF
  obtain ⟨hb, hn3⟩ := keyC_basic T hk
  obtain ⟨d, hd, hdb⟩ := basic_und T hb hn3
  obtain ⟨id, e1, hF⟩ := asMap_inv hg hF
  subst e1
  obtain ⟨p, hp, h1⟩ := h1
  obtain ⟨es, clock, l, ho, hF, hgo, hr, hB, hblk⟩ := map_ok (P := P) T hS hG hH hp hg hF
  have hlive : (s.get id).live := by rw [ho]; trivial
  have done : ∀ (es' : ML) (c' : Nat) (l' : Array MapEntry), F = s.setK id (.map es' c') (fun s' => k .top s') → MLRel op ρ es' l'.toList →
      (execOp a.eval o).run P w = .ok .skip { w with heap := w.heap.setIfInBounds p.b (.map l' c') } → ∃ av s', Gets P op w0 ρ (execOp a.eval o) w av s' ∧ Sub (k av s') F := by
    intro es' c' l' hF hr' hrun
    rw [St.setK_eq] at hF
    have hnew := hH.turn (o := .map es' c') hp hlive hB (putObj_turned (.map l' c')) ⟨hB, l', putObj_same _ (hH.blk _ _ hp), hr'⟩
    exact ⟨.top, _, ⟨undef, _, ρ, .inr ⟨hrun, rfl⟩, .refl _, trivial, hnew⟩, by rw [hF]; exact .refl _⟩
  have hexec : (execOp a.eval o).run P w = ((Instr.mapUpdate t (a.eval m) (a.eval key) (a.eval val)).run P w).andThen fun _ w' => .ok .skip w' := by
    rcases hop with h | h <;> simp only [execOp, h, Sem.run_bind] <;> rfl
  have hset : ∀ o', (setObj p.b o').run P w = .ok () { w with heap := w.heap.setIfInBounds p.b o' } := fun o' => run_setObj_map o' hblk
  rcases putK_ok hb hn3 hd h2 h3 clock hg es l.toList 0 _ hr hF with ⟨es', hF, hn, hr'⟩ | ⟨es', e', j, hF, hn, hj, hsb, hr'⟩
  · refine done es' _ (l.push { key := a.eval key, val := a.eval val, born := clock }) hF (by simpa using hr') ?_
    rw [hexec]
    simp only [Instr.mapUpdate, Sem.run_bind, run_underlying T ht, Result.andThen, h1, hgo, run_checkKey T hd hdb, run_findKey T hd hn, hset]
  · refine done es' _ (l.modify j fun e => { e with key := a.eval key, val := a.eval val }) hF (by simpa using hr') ?_
    rw [hexec]
    have hj' : l[j]? = some e' := by simpa using hj
    simp only [Instr.mapUpdate, Sem.run_bind, run_underlying T ht, Result.andThen, h1, hgo, run_checkKey T hd hdb, run_findKey T hd hn, Nat.zero_add, hj', Option.map_some, Option.getD_some, Instr.keyThatStays, hsb, if_true, Sem.run_pure, hset]
end
end
end Go.Ax
end
section
namespace Go.Ax
open Go Go.RowKit
noncomputable section
set_option linter.unusedSectionVars false
set_option linter.unusedVariables false
set_option linter.unusedSimpArgs false
/- ### Values built of parts -/
theorem foldl_lay (off : Nat) : ∀ (vs : List Value) (k : Nat) (cells : Array Value), off + k + vs.length ≤ cells.size →
    ((vs.zipIdx k).foldl (fun cs (x : Value × Nat) => cs.setIfInBounds (off + x.2) x.1) cells).toList = lay cells.toList (off + k) vs := by
  intro vs
  induction vs with
  | nil => intro k cells h; simp [lay]
  | cons v vs ih =>
    intro k cells h
    simp only [List.zipIdx_cons, List.foldl_cons]
    rw [ih (k + 1) _ (by simp at h ⊢; omega)]
    apply List.ext_getElem?
    intro i
    have hl : off + k + (v :: vs).length ≤ cells.toList.length := by simpa using h
    have hl2 : off + (k + 1) + vs.length ≤ (cells.setIfInBounds (off + k) v).toList.length := by simp at h ⊢; omega
    rw [lay_getElem? _ _ _ _ hl2, lay_getElem? _ _ _ _ hl]
    by_cases e1 : i = off + k
    · subst e1
      rw [if_neg (by omega), if_pos (by simp)]
      have : off + k < cells.size := by simp at h; omega
      simp [this]
    · by_cases e2 : off + (k + 1) ≤ i ∧ i < off + (k + 1) + vs.length
      · rw [if_pos e2, if_pos (by simp; omega)]
        have : i - (off + k) = (i - (off + (k + 1))) + 1 := by omega
        rw [this]; rfl
      · rw [if_neg e2, if_neg (by simp; omega)]
        simp only [Array.toList_setIfInBounds, List.getElem?_set]
        rw [if_neg (by omega)]
section
variable {P : Program} {op : Nat → Value} {w0 : Base} {ti : TI} (T : TiOk P ti) {ρ : Rho} {s : St} {w : World} {f : NC} {a : Act}
  {o : Oper} (hS : Opd op ρ ti f a o) (hG : GRel ti ρ) (hop1 : ∀ n, (op n).oneCell' = true)
include hS hG hop1
theorem fill_ok {place place' : Nat → Option (Nat × Nat)} (hpl : ∀ i x, place i = some x → place' i = some x) : ∀ (parts : List (Nat × Operand)) {ps : PL} {Z : AV} {zs : Array Value} {F : Res} {k : AV → Res}, (∀ p, p ∈ parts → p.2 ∈ o.op.operands.toList) → F.good → partsC ti place parts = some ps →
    LRel op ρ Z zs.toList → (∀ v, v ∈ zs.toList → v.oneCell' = true) → F = ps.layK f Z k →
    ∃ c cells, F = k c ∧ Instr.fill place' zs (parts.map fun (i, x) => (i, a.eval x)) = some cells ∧ LRel op ρ c cells.toList ∧ (∀ v, v ∈ cells.toList → v.oneCell' = true) ∧ cells.size = zs.size
  | [], ps, Z, zs, F, k, hm, hg, hp, hz, h1, hF => by cases hp; exact ⟨Z, zs, hF, rfl, hz, h1, rfl⟩
  | (i, x) :: t, ps, Z, zs, F, k, hm, hg, hp, hz, h1, hF => by
    simp only [partsC] at hp
    split at hp
    · rename_i off size s' l e1 e2 e3
      cases hp
      obtain ⟨c, hF, hc, hc1⟩ := cellsK_inv hg (hS x (hm (i, x) (List.mem_cons_self ..)) s' e2) hop1 hF
      obtain ⟨g1, hF⟩ := guard_inv hg hF
      have g1 := Nat.eq_of_beq_eq_true g1
      rw [len_ok op c hc] at g1
      obtain ⟨z', ⟨hl, hz'⟩, hF⟩ := Out.inv hg hF (layK_ok op Z off c _ _ hz hc)
      have hsz : (a.eval x).cells.size = size := by simpa using g1
      have hle : off + (a.eval x).cells.size ≤ zs.size := by simpa using hl
      let zs' : Array Value := ⟨lay zs.toList off (a.eval x).cells.toList⟩
      have hsize : zs'.size = zs.size := by simp [zs', lay]; omega
      obtain ⟨c2, cells, hF, hfill, hr, ho, hs⟩ := fill_ok hpl t (zs := zs') (fun p hp => hm p (List.mem_cons_of_mem _ hp)) hg e3 hz' (fun v hv => (mem_lay hv).elim (h1 v) (hc1 v)) hF
      refine ⟨c2, cells, hF, ?_, hr, ho, by rw [hs, hsize]⟩
      have hfold : (a.eval x).cells.zipIdx.foldl (fun cs (x : Value × Nat) => cs.setIfInBounds (off + x.2) x.1) zs = zs' := by
        apply Array.ext'
        rw [← Array.foldl_toList, Array.toList_zipIdx]
        rw [foldl_lay off _ 0 zs (by simpa using hle)]
        rfl
      rw [List.map_cons, Instr.fill, hpl _ _ e1]
      simp only [hsz, ne_eq, not_true_eq_false, decide_false, Bool.false_or]
      rw [if_neg (by simp; omega)]
      rw [← hfill]
      congr 1
    · cases hp
end
section
variable {P : Program} {op : Nat → Value} {w0 : Base} {ti : TI} (T : TiOk P ti) {ρ : Rho} {s : St} {w : World} {f : NC} {a : Act}
  {o : Oper} (hS : Opd op ρ ti f a o) (hG : GRel ti ρ) (hH : HRel op w0 ρ s w) (hop1 : ∀ n, (op n).oneCell' = true)
theorem zcells_ok {z : AV} {zv : Value} (n : Nat) (hz : avOf n zv = some z) : LRel op ρ z.cells zv.cells.toList ∧ ((∀ v, v ∈ zv.cells.toList → v.oneCell' = true) ∨ ∃ vs, zv = .tuple vs) := by
  have hv := avOf_ok op ρ n zv z hz
  cases n with
  | zero => cases hz
  | succ n =>
    cases zv with
    | agg cs =>
      simp only [avOf] at hz
      split at hz
      · split at hz
        · cases hz
          obtain ⟨vs, h1, h2, e⟩ := hv
          cases e
          exact ⟨h1, .inl h2⟩
        · cases hz
      · cases hz
    | tuple vs =>
      refine ⟨?_, .inr ⟨vs, rfl⟩⟩
      simp only [avOf] at hz
      split at hz
      · cases hz; exact (LRel.cons op).2 ⟨_, [], rfl, hv, rfl⟩
      · cases hz
    | bool b => cases hz; exact ⟨(LRel.cons op).2 ⟨_, [], rfl, hv, rfl⟩, .inl (by simp [Value.cells, Value.oneCell'])⟩
    | int k i => cases hz; exact ⟨(LRel.cons op).2 ⟨_, [], rfl, hv, rfl⟩, .inl (by simp [Value.cells, Value.oneCell'])⟩
    | string s => cases hz; exact ⟨(LRel.cons op).2 ⟨_, [], rfl, hv, rfl⟩, .inl (by simp [Value.cells, Value.oneCell'])⟩
    | pointer ad => cases ad <;> cases hz; exact ⟨(LRel.cons op).2 ⟨_, [], rfl, hv, rfl⟩, .inl (by simp [Value.cells, Value.oneCell'])⟩
    | slice ad l c =>
      cases ad with
      | some _ => cases hz
      | none => cases l <;> cases c <;> cases hz; exact ⟨(LRel.cons op).2 ⟨_, [], rfl, hv, rfl⟩, .inl (by simp [Value.cells, Value.oneCell'])⟩
    | map r => cases r <;> cases hz; exact ⟨(LRel.cons op).2 ⟨_, [], rfl, hv, rfl⟩, .inl (by simp [Value.cells, Value.oneCell'])⟩
    | nilFunc => cases hz; exact ⟨(LRel.cons op).2 ⟨_, [], rfl, hv, rfl⟩, .inl (by simp [Value.cells, Value.oneCell'])⟩
    | nilIface => cases hz; exact ⟨(LRel.cons op).2 ⟨_, [], rfl, hv, rfl⟩, .inl (by simp [Value.cells, Value.oneCell'])⟩
    | iface t u =>
      simp only [avOf] at hz
      split at hz
      · cases hz; exact ⟨(LRel.cons op).2 ⟨_, [], rfl, hv, rfl⟩, .inl (by simp [Value.cells, Value.oneCell'])⟩
      · cases hz
    | _ => cases hz
end
end
end Go.Ax
end
section
namespace Go.Ax
open Go Go.RowKit
noncomputable section
set_option linter.unusedSectionVars false
set_option linter.unusedVariables false
set_option linter.unusedSimpArgs false
/- ### Operations that make objects -/
theorem run_mapM_list {P : Program} {α β : Type} (g : α → Sem β) (h : α → β) (w : World) : ∀ (l : List α), (∀ x, x ∈ l → (g x).run P w = .ok (h x) w) → (l.mapM g).run P w = .ok (l.map h) w
  | [], _ => by simp
  | x :: l, hx => by
    rw [List.mapM_cons]
    simp [hx x (List.mem_cons_self ..), run_mapM_list g h w l (fun y hy => hx y (List.mem_cons_of_mem _ hy)), Result.andThen]
theorem run_mapM_array {P : Program} {α β : Type} (g : α → Sem β) (h : α → β) (w : World) (l : Array α) (hx : ∀ x, x ∈ l.toList → (g x).run P w = .ok (h x) w) : (l.mapM g).run P w = .ok (l.map h) w := by
  have e := run_mapM_list (P := P) g h w l.toList hx
  rw [← Array.toList_mapM] at e
  simp only [Sem.run_map] at e
  cases hr : (l.mapM g).run P w with
  | ok arr w' =>
    rw [hr] at e
    simp only [Result.andThen, Result.ok.injEq] at e
    obtain ⟨e1, e2⟩ := e
    have : arr = l.map h := Array.ext' (by rw [e1]; simp)
    rw [this, e2]
  | halt x w' => rw [hr] at e; cases e
section
variable {P : Program} {op : Nat → Value} {w0 : Base} {ti : TI} (T : TiOk P ti) {ρ : Rho} {s : St} {w : World} {f : NC} {a : Act}
  {o : Oper} (hS : Opd op ρ ti f a o) (hG : GRel ti ρ) (hop1 : ∀ n, (op n).oneCell' = true)
include T
theorem zeroC_cells {t : Nat} {z : AV} (hz : zeroC ti t = some z) (ρ : Rho) : ∃ zv, (∀ w, (zeroValue t).run P w = .ok zv w) ∧ LRel op ρ z.cells zv.cells.toList ∧ (∀ v, v ∈ zv.cells.toList → v.oneCell' = true) := by
  obtain ⟨zv, h1, _, _, h4, h5⟩ := zeroC_ok (op := op) (P := P) T hz ρ
  obtain ⟨h6, h7⟩ := zcells_ok (op := op) (ρ := ρ) 6 h4
  exact ⟨zv, h1, h6, h7.resolve_right fun ⟨vs, e⟩ => h5 vs e⟩
include hS hG hop1
theorem op_build_struct {t : Nat} {fs : Array Field} {parts : Array (Nat × Operand)} {z : AV} {ps : PL} (hop : o.op = .build t parts) (ht : undC ti t = some (.struct fs)) (hz : zeroC ti t = some z) (hall : (fs.toList.all fun f => (sizeC ti f.type).isSome) = true)
    (hp : partsC ti (fieldsC ti fs.toList) parts.toList = some ps) : ReadOk P op ρ s w (oBuild z.cells ps f s) (execOp a.eval o) := by
  intro F k hg hF
  obtain ⟨zv, hz1, hz2, hz3⟩ := zeroC_cells (op := op) (P := P) T hz ρ
  let sz : Field → Nat := fun f => (sizeC ti f.type).getD 0
  have hplaces : (fs.mapM fun (f : Field) => do pure (f.offset, ← sizeOf f.type)).run P w = .ok (fs.map fun (f : Field) => (f.offset, sz f)) w := by
    refine run_mapM_array _ _ w fs fun fl hfl => ?_
    have := List.all_eq_true.1 hall fl hfl
    obtain ⟨n, hn⟩ := Option.isSome_iff_exists.1 this
    simp [run_sizeOf T hn, Result.andThen, sz, hn]
  obtain ⟨c, cells, hF, hfill, hr, h1, _⟩ := fill_ok (place' := ((fs.map fun (f : Field) => (f.offset, sz f))[·]?)) hS hG hop1 (fun i x hx => by
    simp only [fieldsC] at hx
    split at hx
    · rename_i fl hfl
      split at hx
      · rename_i n hn
        cases hx
        have : fs[i]? = some fl := by simpa using hfl
        simp [this, sz, hn]
      · cases hx
    · cases hx) parts.toList (fun p hp => by simp only [hop, Op.operands]; exact List.mem_map_of_mem hp) hg hp hz2 hz3 hF
  refine rd (v := .agg cells) hF ?_ ⟨cells.toList, hr, h1, by simp⟩
  simp only [execOp, hop, Instr.build, Sem.run_bind, hz1, Result.andThen, run_underlying T ht, hplaces, Array.toList_map, hfill, Sem.run_pure]
theorem op_build_array {t e m n : Nat} {parts : Array (Nat × Operand)} {z : AV} {ps : PL} (hop : o.op = .build t parts) (ht : undC ti t = some (.array m e)) (hz : zeroC ti t = some z) (hn : sizeC ti e = some n)
    (hp : partsC ti (fun i => some (i * n, n)) parts.toList = some ps) : ReadOk P op ρ s w (oBuild z.cells ps f s) (execOp a.eval o) := by
  intro F k hg hF
  obtain ⟨zv, hz1, hz2, hz3⟩ := zeroC_cells (op := op) (P := P) T hz ρ
  obtain ⟨c, cells, hF, hfill, hr, h1, _⟩ := fill_ok (place' := fun i => some (i * n, n)) hS hG hop1 (fun i x hx => hx) parts.toList (fun p hp => by simp only [hop, Op.operands]; exact List.mem_map_of_mem hp) hg hp hz2 hz3 hF
  refine rd (v := .agg cells) hF ?_ ⟨cells.toList, hr, h1, by simp⟩
  simp only [execOp, hop, Instr.build, Sem.run_bind, hz1, Result.andThen, run_underlying T ht, run_sizeOf T hn, Array.toList_map, hfill, Sem.run_pure]
omit T hS hG hop1 in
/-- A new row of known cells. -/
theorem new_row {B e : Nat} {c : AV} {vs : List Value} (hc : LRel op ρ c vs) (h1 : ∀ v, v ∈ vs → v.oneCell' = true) (b0 : Bool) {w : World} (hB : B ≤ w.heap.size) (rest : List Value) :
    ORel op ρ B ⟨w.heap.size, 0, vs.length + rest.length⟩ (.row e c c.len 0 false b0) (some (.cells (vs ++ rest).toArray e (0, 0))) := by
  refine ⟨_, 0, 0, vs, rfl, hc, (len_ok op c hc).symm, by rw [len_ok op c hc]; simp, by simp, ?_, h1, Nat.le_refl _, by simp, fun _ => rfl, fun _ => hB⟩
  intro i v hv
  have : i < vs.length := (List.getElem?_eq_some_iff.1 hv).1
  simp only [Nat.zero_add, List.getElem?_toArray]
  rw [List.getElem?_append_left this]; exact hv
theorem op_alloc {e : Nat} {z : AV} (hop : o.op = .alloc e) (hz : zeroC ti e = some z) {B : Nat} : MadeOk P op B ρ s (oAlloc e z.cells f s) (execOp a.eval o) := by
  intro F k hg hF
  obtain ⟨hn, hF⟩ := newK_inv hg hF
  refine ⟨fun id => .ptr id 0, _, hn, hF, fun w ρ' hB hsub => ?_⟩
  obtain ⟨zv, hz1, hz2, hz3⟩ := zeroC_cells (op := op) (P := P) T hz ρ'
  have hrun : (execOp a.eval o).run P w = .ok (.value (.pointer (some ⟨w.heap.size, 0, none⟩))) (w.alloc (.cells zv.cells e)) := by
    simp [execOp, hop, Instr.alloc, hz1, Result.andThen, newVar, newRow]
  refine ⟨_, _, _, ⟨w.heap.size, 0, zv.cells.toList.length⟩, hrun, grew_alloc _ _, rfl, fun id hid => ⟨⟨_, Rho.put_same, rfl⟩, ?_⟩⟩
  have := new_row (e := e) (hz2.mono op (Rho.put_sub (p := ⟨w.heap.size, 0, zv.cells.toList.length⟩) hid)) hz3 true hB []
  simpa using this
theorem op_box {e : Nat} {x : Operand} {y : Src} (hop : o.op = .box e x) (hx : srcC ti x = some y) {B : Nat} : MadeOk P op B ρ s (oBox e y f s) (execOp a.eval o) := by
  intro F k hg hF
  unfold oBox at hF
  obtain ⟨c, hF, hc, hc1⟩ := cellsK_inv hg (src_ok hS hG hx) hop1 hF
  obtain ⟨hn, hF⟩ := newK_inv hg hF
  refine ⟨fun id => .ptr id 0, _, hn, hF, fun w ρ' hB hsub => ?_⟩
  have hrun : (execOp a.eval o).run P w = .ok (.value (.pointer (some ⟨w.heap.size, 0, none⟩))) (w.alloc (.cells (a.eval x).cells e)) := by
    simp [execOp, hop, Instr.box, Result.andThen, newVar, newRow]
  refine ⟨_, _, _, ⟨w.heap.size, 0, (a.eval x).cells.toList.length⟩, hrun, grew_alloc _ _, rfl, fun id hid => ⟨⟨_, Rho.put_same, rfl⟩, ?_⟩⟩
  have := new_row (e := e) ((hc.mono op hsub).mono op (Rho.put_sub (p := ⟨w.heap.size, 0, (a.eval x).cells.toList.length⟩) hid)) hc1 true hB []
  simpa using this
omit T hS hG hop1 in
theorem op_mkmap {t : Nat} (hop : o.op = .makeMap t none) {B : Nat} : MadeOk P op B ρ s (oMkmap f s) (execOp a.eval o) := by
  intro F k hg hF
  obtain ⟨hn, hF⟩ := newK_inv hg hF
  refine ⟨fun id => .map id, _, hn, hF, fun w ρ' hB hsub => ?_⟩
  have hrun : (execOp a.eval o).run P w = .ok (.value (.map (some w.heap.size))) (w.alloc (.map #[] 0)) := by
    simp [execOp, hop, Instr.makeMap, Result.andThen]
  exact ⟨_, _, _, ⟨w.heap.size, 0, 0⟩, hrun, grew_alloc _ _, rfl, fun id hid => ⟨⟨_, Rho.put_same, rfl⟩, hB, #[], rfl, rfl⟩⟩
omit T hS hG hop1 in
theorem zeros_times (zs : Array Value) (h : 0 < zs.size) : ∀ n, (((Array.range (n * zs.size)).map fun i => zs[i % zs.size]!).toList) = (List.replicate n zs.toList).flatten := by
  intro n
  induction n with
  | zero => simp
  | succ n ih =>
    rw [List.replicate_succ', List.flatten_append, ← ih]
    apply List.ext_getElem?
    intro i
    simp only [Array.toList_map, Array.toList_range, List.getElem?_map, List.flatten_singleton]
    rw [List.getElem?_append]
    simp only [List.length_map, List.length_range, List.getElem?_map]
    by_cases hi : i < n * zs.size
    · rw [if_pos hi]
      rw [List.getElem?_range (by rw [Nat.succ_mul]; omega), List.getElem?_range hi]
    · rw [if_neg hi]
      by_cases h2 : i < (n + 1) * zs.size
      · rw [List.getElem?_range h2]
        have hlt : i - n * zs.size < zs.size := by rw [Nat.succ_mul] at h2; omega
        have hmod : i % zs.size = i - n * zs.size := by
          have : i = (i - n * zs.size) + zs.size * n := by rw [Nat.mul_comm zs.size n]; omega
          rw [this, Nat.add_mul_mod_self_left, Nat.mod_eq_of_lt hlt, ← this]
        simp [hmod, hlt]
      · have h3 : (n + 1) * zs.size ≤ i := by omega
        have h4 : ¬ i - n * zs.size < zs.size := by rw [Nat.succ_mul] at h3; omega
        simp [h2, h4]
omit hS hG hop1 in
theorem zeros_rel {t : Nat} {z : AV} {n : Nat} (hz : zeroC ti t = some z) (hn : sizeC ti t = some n) (hcell : z.cells.len = n) (hpos : 0 < n) (ρ : Rho) (len : Nat) :
    ∃ zv : Value, (∀ w, (zeroValue t).run P w = .ok zv w) ∧ zv.cells.size = n ∧ ∃ vs : List Value, ((Array.range (len * n)).map fun i => zv.cells[i % zv.cells.size]!).toList = vs ∧ LRel op ρ (z.cells.times len) vs ∧ (∀ v, v ∈ vs → v.oneCell' = true) ∧ vs.length = len * n := by
  obtain ⟨zv, hz1, hz2, hz3⟩ := zeroC_cells (op := op) (P := P) T hz ρ
  have hsz : zv.cells.size = n := by rw [← hcell, len_ok op _ hz2]; simp
  refine ⟨zv, hz1, hsz, _, rfl, ?_⟩
  have := zeros_times zv.cells (by omega) len
  rw [hsz] at this ⊢
  rw [this]
  refine ⟨times_ok op hz2 len, ?_, ?_⟩
  · intro v hv
    obtain ⟨l, hl, hv⟩ := List.mem_flatten.1 hv
    rw [(List.mem_replicate.1 hl).2] at hv
    exact hz3 v hv
  · simp [hsz]
end
end
end Go.Ax
end
section
namespace Go.Ax
open Go Go.RowKit
noncomputable section
set_option linter.unusedSectionVars false
set_option linter.unusedVariables false
set_option linter.unusedSimpArgs false
theorem range0_map {α : Type} (g : Nat → α) : (Array.range 0).map g = #[] := by apply Array.ext'; simp
theorem freeze_push (w : World) (c : Array Value) (e off : Nat) : (w.alloc (.cells c e)).freeze ⟨w.heap.size, off, none⟩ 1 = { w with heap := w.heap.push (.cells c e (off, off + 1)) } := by
  unfold World.freeze
  rw [if_neg (by decide)]
  have h : (w.alloc (.cells c e)).heap = w.heap.push (.cells c e) := rfl
  have h2 : ∀ g : Go.Obj → Go.Obj, (w.heap.push (.cells c e)).modify w.heap.size g = w.heap.push (g (.cells c e)) := by
    intro g
    apply Array.ext_getElem?
    intro i
    rw [Array.getElem?_modify, Array.getElem?_push, Array.getElem?_push]
    by_cases hi : i = w.heap.size
    · subst hi; simp
    · rw [if_neg (Ne.symm hi), if_neg hi, if_neg hi]
  rw [h, h2]
  rfl
theorem run_stringToBytes {P : Program} (e : Nat) (s : ByteArray) (w : World) : ∃ cap, s.size ≤ cap ∧ (Conv.stringToBytes e s).run P w = .ok (.slice (some ⟨w.heap.size, 0, none⟩) s.size cap)
    { w with drawn := w.drawn + 1, heap := w.heap.push (.cells ((s.data.map fun b => Value.int .u8 b.toNat) ++ Array.replicate (cap - s.size) (.int .u8 0)) e (cap, cap + 1)) } := by
  obtain ⟨cap, hcap⟩ : ∃ cap, (Question.appendCap s.size 0 e).cut (w.tape w.drawn (.appendCap s.size 0 e)) = cap := ⟨_, rfl⟩
  have hle : s.size ≤ cap := by rw [← hcap]; exact Nat.le_add_right _ _
  refine ⟨cap, hle, ?_⟩
  obtain ⟨arr, harr⟩ : ∃ arr, (s.data.map fun b => Value.int .u8 b.toNat) ++ Array.replicate (cap - s.size) (.int .u8 0) = arr := ⟨_, rfl⟩
  have hasz : arr.size = cap := by
    rw [← harr, Array.size_append, Array.size_map, Array.size_replicate]
    show s.data.size + (cap - s.data.size) = cap
    have : s.data.size ≤ cap := hle
    omega
  simp only [Conv.stringToBytes, Sem.run_bind, run_choose, Question.forced, Bool.false_eq_true, if_false, Result.andThen, hcap, harr, newRow, run_newObj, Sem.run_pure, markStringish, run_shape]
  have hsh : (({ w with drawn := w.drawn + 1 } : World).alloc (.cells arr e)).shape? w.heap.size = some (e, cap) := by
    simp only [World.shape?]
    rw [show (({ w with drawn := w.drawn + 1 } : World).alloc (.cells arr e)).heap = w.heap.push (.cells arr e) from rfl, Array.getElem?_push_size]
    simp [hasz]
  have hw : (({ heap := w.heap.push (.cells arr e), tape := w.tape, drawn := w.drawn + 1, os := w.os, output := w.output } : World)) = ({ w with drawn := w.drawn + 1 } : World).alloc (.cells arr e) := rfl
  rw [hw, hsh]
  have := freeze_push ({ w with drawn := w.drawn + 1 } : World) arr e cap
  simp only [run_freeze]
  rw [show ({ w with drawn := w.drawn + 1 } : World).heap.size = w.heap.size from rfl] at this
  rw [this]
theorem wrap_i64 {n : Nat} (h : n < 9223372036854775808) : IntKind.i64.wrap (n : Int) = n := wrap_small rfl (by simp only [halfK]; omega) (by simp only [halfK]; omega)
section
variable {P : Program} {op : Nat → Value} {w0 : Base} {ti : TI} (T : TiOk P ti) {ρ : Rho} {s : St} {w : World} {f : NC} {a : Act}
  {o : Oper} (hS : Opd op ρ ti f a o) (hG : GRel ti ρ) (hop1 : ∀ n, (op n).oneCell' = true)
include T hS hG hop1
theorem op_bsl {t e n len : Nat} {parts : Array (Nat × Operand)} {z : AV} {ps : PL} (hop : o.op = .buildSlice t len parts) (ht : undC ti t = some (.slice e)) (hz : zeroC ti e = some z) (hn : sizeC ti e = some (n + 1)) (hle : len * (n + 1) ≤ 16777216) (hzl : z.cells.len = n + 1)
    (hp : partsC ti (fun i => some (i * (n + 1), n + 1)) parts.toList = some ps) {B : Nat} : MadeOk P op B ρ s (oBsl e z.cells len ps f s) (execOp a.eval o) := by
  intro F k hg hF
  obtain ⟨zv, hz1, hsz, vs, hvs, hr, h1, hlen⟩ := zeros_rel (op := op) (P := P) T hz hn hzl (Nat.succ_pos _) ρ len
  obtain ⟨c, cells, hF, hfill, hrc, hc1, hcs⟩ := fill_ok (zs := (Array.range (len * (n + 1))).map fun i => zv.cells[i % zv.cells.size]!) (place' := fun i => some (i * (n + 1), n + 1)) hS hG hop1 (fun i x hx => hx) parts.toList (fun p hp => by simp only [hop, Op.operands]; exact List.mem_map_of_mem hp) hg hp (by rw [hvs]; exact hr) (by rw [hvs]; exact h1) hF
  obtain ⟨hnx, hF⟩ := newK_inv hg hF
  refine ⟨fun id => .sl id 0 len len true z.cells.len, _, hnx, hF, fun w ρ' hB hsub => ?_⟩
  have hrun : (execOp a.eval o).run P w = .ok (.value (.slice (some ⟨w.heap.size, 0, none⟩) len len)) (w.alloc (.cells cells e)) := by
    simp only [execOp, hop, Instr.buildSlice, Sem.run_bind, run_underlying T ht, Result.andThen, run_sizeOf T hn]
    rw [if_neg (by omega)]
    by_cases h0 : len * (n + 1) = 0
    · have hl0 : len = 0 := by rcases Nat.mul_eq_zero.1 h0 with h | h; exact h; omega
      subst hl0
      rw [Nat.zero_mul, range0_map] at hfill
      simp only [Nat.zero_mul, if_true, Sem.run_pure, Result.andThen, range0_map, Array.toList_map, hfill, newRow, Sem.run_bind, run_newObj, World.alloc_eq]
    · rw [if_neg h0]
      simp only [Sem.run_bind, hz1, Result.andThen, Sem.run_pure, Array.toList_map, hfill, newRow, run_newObj, World.alloc_eq]
  have hcl : cells.toList.length = len * (n + 1) := by simp [hcs]
  refine ⟨_, _, _, ⟨w.heap.size, 0, cells.toList.length⟩, hrun, grew_alloc _ _, rfl, fun id hid => ⟨⟨_, _, len, Rho.put_same, rfl, Nat.le_refl _, fun _ => rfl, Nat.le_refl _, .inr rfl, ?_⟩, ?_⟩⟩
  · show 0 + len * z.cells.len ≤ cells.toList.length
    rw [hzl, hcl]; omega
  · have := new_row (e := e) ((hrc.mono op hsub).mono op (Rho.put_sub (p := ⟨w.heap.size, 0, cells.toList.length⟩) hid)) hc1 true hB []
    simpa using this
theorem op_mksl {t e : Nat} {te : TE} {l c : Operand} {l' c' : Src} {z : AV} (hop : o.op = .makeSlice t l c) (ht : undC ti t = some (.slice e)) (he : ti e = some te) (hz : zeroC ti e = some z) (hs0 : te.info.size ≠ 0) (hzl : z.cells.len = te.info.size) (hl : srcC ti l = some l') (hc : srcC ti c = some c') {B : Nat} :
    MadeOk P op B ρ s (oMksl e te.info.bytes z.cells l' c' f s) (execOp a.eval o) := by
  intro F k hg hF
  have h1 := src_ok hS hG hl
  have h2 := src_ok hS hG hc
  unfold oMksl at hF
  generalize l'.ev f = L at h1 hF
  generalize c'.ev f = C at h2 hF
  obtain ⟨j1, n1, e1, hF⟩ := intNat_inv hg hF
  obtain ⟨j2, n2, e2, hF⟩ := intNat_inv hg hF
  subst e1; subst e2
  have h1 : a.eval l = .int j1 n1 := h1
  have h2 : a.eval c = .int j2 n2 := h2
  obtain ⟨g1, hF⟩ := guard_inv hg hF
  obtain ⟨g2, hF⟩ := guard_inv hg hF
  obtain ⟨g3, hF⟩ := guard_inv hg hF
  have g1 := Nat.le_of_ble_eq_true g1
  have g2 : te.info.bytes * n2 ≤ 281474976710656 := Nat.le_of_ble_eq_true g2
  have g3 := Nat.le_of_ble_eq_true g3
  obtain ⟨hnx, hF⟩ := newK_inv hg hF
  have hn : sizeC ti e = some te.info.size := by simp only [sizeC, he]
  refine ⟨fun id => .sl id 0 n1 n2 true z.cells.len, _, hnx, hF, fun w ρ' hB hsub => ?_⟩
  obtain ⟨zv, hz1, hsz, vs, hvs, hr, h3, hlen⟩ := zeros_rel (op := op) (P := P) T hz hn hzl (by omega) ρ' n2
  have hrun : (execOp a.eval o).run P w = .ok (.value (.slice (some ⟨w.heap.size, 0, none⟩) n1 n2)) (w.alloc (.cells ((Array.range (n2 * te.info.size)).map fun i => zv.cells[i % zv.cells.size]!) e)) := by
    simp only [execOp, hop, Instr.makeSlice, Sem.run_bind, run_underlying T ht, Result.andThen, asInt, asIntOf, h1, h2, Sem.run_pure, run_typeInfo T he, wrap_i64 (show n1 < 9223372036854775808 by omega), wrap_i64 (show n2 < 9223372036854775808 by omega)]
    have c1 : ¬ ((decide ((n2 : Int) < 0) || decide ((te.info.bytes : Int) * (n2 : Int) > 2 ^ 48)) = true) := by
      have : (te.info.bytes : Int) * (n2 : Int) = ((te.info.bytes * n2 : Nat) : Int) := by simp
      rw [this]; simp; omega
    rw [if_neg (by
      simp only [Bool.or_eq_true, decide_eq_true_eq, not_or]
      simp only [Bool.or_eq_true, decide_eq_true_eq, not_or] at c1
      exact ⟨⟨c1, by omega⟩, by omega⟩)]
    simp only [run_askRoom, Sem.run_bind, Result.andThen, run_size T he, Int.toNat_natCast]
    by_cases h0 : n2 * te.info.size = 0
    · have hl0 : n2 = 0 := by rcases Nat.mul_eq_zero.1 h0 with h | h; exact h; omega
      subst hl0
      simp only [Nat.zero_mul, if_true, Sem.run_pure, Result.andThen, range0_map, newRow, Sem.run_bind, run_newObj, World.alloc_eq]
    · rw [if_neg h0]
      simp only [Sem.run_bind, hz1, Result.andThen, Sem.run_pure, newRow, run_newObj, World.alloc_eq]
  refine ⟨_, _, _, ⟨w.heap.size, 0, vs.length⟩, hrun, grew_alloc _ _, rfl, fun id hid => ⟨⟨_, _, n2, Rho.put_same, rfl, Nat.le_refl _, fun _ => rfl, g1, .inr rfl, ?_⟩, ?_⟩⟩
  · show 0 + n2 * z.cells.len ≤ vs.length
    rw [hzl, hlen]; omega
  · have := new_row (e := e) (hr.mono op (Rho.put_sub (p := ⟨w.heap.size, 0, vs.length⟩) hid)) h3 true hB []
    have e1 : (vs ++ []).toArray = (Array.range (n2 * te.info.size)).map fun i => zv.cells[i % zv.cells.size]! := by rw [List.append_nil]; apply Array.ext'; rw [hvs]
    rw [e1] at this
    simpa using this
theorem op_s2b {x : Operand} {y : Src} {src dst e : TypeId} (hop : o.op = .convert src dst x) (hs : undC ti src = some .string) (hd : undC ti dst = some (.slice e)) (he : undC ti e = some (.int .u8)) (hx : srcC ti x = some y) {B : Nat} :
    MadeOk P op B ρ s (oS2b e y f s) (execOp a.eval o) := by
  intro F k hg hF
  have h1 := src_ok hS hG hx
  unfold oS2b at hF
  generalize y.ev f = X at h1 hF
  obtain ⟨b, e1, hF⟩ := asStr_inv hg hF
  subst e1
  obtain ⟨hb, h1⟩ := h1
  obtain ⟨c, hF, hc⟩ := blCells_ok (op := op) (ρ := ρ) hb hF
  obtain ⟨hnx, hF⟩ := newK_inv hg hF
  have hclen : c.len = b.toBytes.length := by rw [len_ok op c hc]; simp
  refine ⟨fun id => .sl id 0 c.len c.len false 1, _, hnx, hF, fun w ρ' hB hsub => ?_⟩
  obtain ⟨cap, hcle, hconv⟩ := run_stringToBytes (P := P) e b.arr w
  have hcle : b.toBytes.length ≤ cap := by rw [← len_bytes, ← arr_size]; exact hcle
  obtain ⟨arr, harr⟩ : ∃ arr, (b.arr.data.map fun b => Value.int .u8 b.toNat) ++ Array.replicate (cap - b.arr.size) (.int .u8 0) = arr := ⟨_, rfl⟩
  rw [harr] at hconv
  have hasz : arr.size = cap := by
    have := arr_size b
    rw [len_bytes] at this
    rw [← harr, Array.size_append, Array.size_map, Array.size_replicate]
    show b.arr.size + (cap - b.arr.size) = cap
    omega
  have hrun : (execOp a.eval o).run P w = .ok (.value (.slice (some ⟨w.heap.size, 0, none⟩) b.arr.size cap)) { w with drawn := w.drawn + 1, heap := w.heap.push (.cells arr e (cap, cap + 1)) } := by
    simp only [execOp, hop, convert, Sem.run_bind, run_underlying T hs, run_underlying T hd, run_underlying T he, Result.andThen, h1, hconv, Sem.run_pure]
  have hg2 : Grew w { w with drawn := w.drawn + 1, heap := w.heap.push (.cells arr e (cap, cap + 1)) } (.cells arr e (cap, cap + 1)) := ⟨rfl, rfl, rfl, rfl⟩
  refine ⟨_, _, _, ⟨w.heap.size, 0, cap⟩, hrun, hg2, rfl, fun id hid => ⟨⟨_, _, cap, Rho.put_same, by rw [arr_size, len_bytes, hclen], by rw [hclen]; exact hcle, fun h => (by cases h), by rw [hclen]; exact hcle, .inr rfl, by simp⟩, ?_⟩⟩
  refine ⟨arr, cap, cap + 1, _, rfl, (hc.mono op hsub).mono op (Rho.put_sub hid), by rw [hclen]; simp, by rw [hclen]; exact hcle, by rw [hasz]; simp, ?_, ?_, Nat.le_succ _, fun _ => .inr ⟨rfl, by rw [hasz]; exact Nat.le_refl _⟩, (fun h => by cases h), fun _ => hB⟩
  · intro i v hv
    have hi : i < b.toBytes.length := by have := (List.getElem?_eq_some_iff.1 hv).1; simpa using this
    have hd : b.arr.data.toList = b.toBytes := by simp [BL.arr]
    rw [← harr, Nat.zero_add, Array.getElem?_append_left (by rw [Array.size_map]; rw [← hd] at hi; simpa using hi)]
    rw [← hv]; simp [← hd]
  · intro v hv
    obtain ⟨u, _, rfl⟩ := List.mem_map.1 hv; rfl
end
end
end Go.Ax
end
section
namespace Go.Ax
open Go Go.RowKit
noncomputable section
set_option linter.unusedSectionVars false
set_option linter.unusedVariables false
set_option linter.unusedSimpArgs false
/- ### Operations that write -/
section
variable {op : Nat → Value} {w0 : Base} {ρ : Rho} {s : St} {w w' : World}
/-- An object lies on under a new number, the elder one is given up. -/
theorem HRel.move (h : HRel op w0 ρ s w) {id : Nat} {p q : Sp} {a : Obj} (hp : ρ id = some p) (hl : (s.get id).live) (hB : w0.heap.size ≤ p.b) (hq : q.b = p.b) (hw : Turned w w' p.b) (hn : s.next < 262144)
    (ho : ORel op (ρ.put s.next q) w0.heap.size q a w'.heap[p.b]?) : ρ.sub (ρ.put s.next q) ∧ (ρ.put s.next q) s.next = some q ∧ HRel op w0 (ρ.put s.next q) ((s.set id .dead).add a) w' := by
  have hnone : ρ s.next = none := by
    cases e : ρ s.next with
    | none => rfl
    | some p => have := h.lt _ _ e; omega
  have hid : id < 262144 := h.id_lt hp
  have hidn : id ≠ s.next := Nat.ne_of_lt (h.lt _ _ hp)
  have h1 : HRel op w0 ρ (s.set id .dead) w' := h.turn hp hl hB hw trivial
  have hnx : (s.set id .dead).next = s.next := rfl
  have hcase : ∀ i r, (ρ.put s.next q) i = some r → (i = s.next ∧ r = q) ∨ (i ≠ s.next ∧ ρ i = some r) := fun i r hr => by
    unfold Rho.put at hr
    split at hr
    · rename_i e; cases hr; exact .inl ⟨e, rfl⟩
    · rename_i e; exact .inr ⟨e, hr⟩
  have hg1 : ((s.set id .dead).add a).get s.next = a := by rw [← hnx]; exact St.add_same
  have hg2 : ∀ i r, ρ i = some r → ((s.set id .dead).add a).get i = (s.set id .dead).get i := fun i r hr =>
    St.add_other (by rw [hnx]; exact hn) (h.id_lt hr) (by rw [hnx]; exact Nat.ne_of_lt (h.lt _ _ hr))
  refine ⟨Rho.put_sub hnone, Rho.put_same, ⟨hn, ?_, ?_, ?_, ?_, h1.below, h1.md.add (by rw [hnx]; exact hn), fun j hj => ⟨by unfold Rho.put; rw [if_neg (Nat.ne_of_lt (h.res j hj).2)]; exact (h.res j hj).1, Nat.lt_succ_of_lt (h.res j hj).2⟩, ⟨h1.keep.1, fun i r hr hli hBr => ?_⟩⟩⟩
  · intro i r hr
    rcases hcase i r hr with ⟨e, _⟩ | ⟨_, hr⟩
    · subst e; exact Nat.lt_succ_self _
    · exact Nat.lt_succ_of_lt (h.lt i r hr)
  · intro i r hr
    rcases hcase i r hr with ⟨_, e⟩ | ⟨_, hr⟩
    · subst e; rw [hq, hw.size]; exact h.blk _ _ hp
    · exact h1.blk i r hr
  · intro i r hr
    rcases hcase i r hr with ⟨e, e'⟩ | ⟨_, hr⟩
    · subst e; subst e'; rw [hg1, hq]; exact ho
    · rw [hg2 i r hr]; exact (h1.obj i r hr).mono (Rho.put_sub hnone)
  · intro i j r t hi hj hne hli hlj hBi
    rcases hcase i r hi with ⟨e1, e2⟩ | ⟨n1, k1⟩ <;> rcases hcase j t hj with ⟨e3, e4⟩ | ⟨n3, k3⟩
    · exact absurd (e1.trans e3.symm) hne
    · subst e2
      rw [hg2 j t k3] at hlj
      have hjid : j ≠ id := fun e => by subst e; rw [St.get_same] at hlj; exact hlj
      rw [St.get_other hid (h.id_lt k3) hjid] at hlj
      rw [hq]; exact h.inj id j p t hp k3 (Ne.symm hjid) hl hlj hB
    · subst e4
      rw [hg2 i r k1] at hli
      have hiid : i ≠ id := fun e => by subst e; rw [St.get_same] at hli; exact hli
      rw [St.get_other hid (h.id_lt k1) hiid] at hli
      rw [hq]; exact Ne.symm (h.inj id i p r hp k1 (Ne.symm hiid) hl hli hB)
    · rw [hg2 i r k1] at hli
      rw [hg2 j t k3] at hlj
      exact h1.inj i j r t k1 k3 hne hli hlj hBi
  · rcases hcase i r hr with ⟨_, e⟩ | ⟨_, hr⟩
    · subst e; rw [hq]; exact h.keep.2 id p hp hl hB
    · rw [hg2 i r hr] at hli; exact h1.keep.2 i r hr hli hBr
end
theorem oo {P : Program} {op : Nat → Value} {w0 : Base} {ρ ρ' : Rho} {m : Sem Next} {w w' : World} {F : Res} {k : AV → St → Res} {av : AV} {s' : St} {v : Value} (hF : F = k av s') (h1 : m.run P w = .ok (.value v) w') (hs : ρ.sub ρ') (hv : VRel op ρ' av v) (hH : HRel op w0 ρ' s' w') :
    ∃ av s', Gets P op w0 ρ m w av s' ∧ Sub (k av s') F := ⟨av, s', ⟨v, w', ρ', .inl h1, hs, hv, hH⟩, by rw [hF]; exact .refl _⟩
section
variable {P : Program} {op : Nat → Value} {w0 : Base} {ti : TI} (T : TiOk P ti) {ρ : Rho} {s : St} {w : World} {f : NC} {a : Act}
  {o : Oper} (hS : Opd op ρ ti f a o) (hG : GRel ti ρ) (hH : HRel op w0 ρ s w) (hop1 : ∀ n, (op n).oneCell' = true)
include T hS hG hH hop1
theorem op_st {t n : Nat} {x v : Operand} {x' v' : Src} (hop : o.op = .store t x v) (ht : sizeC ti t = some n) (hx : srcC ti x = some x') (hv : srcC ti v = some v') : OpOk P op w0 ρ s w (oSt n x' v' f s) (execOp a.eval o) := by
  intro F k hg hF
  have h1 := src_ok hS hG hx
  have h2 := src_ok hS hG hv
  unfold oSt at hF
  generalize x'.ev f = X at h1 hF
  obtain ⟨id, off, e, hF⟩ := asPtr_inv hg hF
  subst e
  obtain ⟨p, hp, h1⟩ := h1
  obtain ⟨c, hF, hc, hc1⟩ := cellsK_inv hg h2 hop1 hF
  obtain ⟨g, hF⟩ := guard_inv hg hF
  have g := Nat.eq_of_beq_eq_true g
  rw [len_ok op c hc] at g
  obtain ⟨s', w', hF, hrun, hH', _⟩ := layK_inv (P := P) hg hH hp hc hc1 hF
  refine ⟨.top, s', ⟨undef, w', ρ, .inr ⟨?_, rfl⟩, .refl _, trivial, hH'⟩, by rw [hF]; exact .refl _⟩
  have hsz : (a.eval v).cells.size = n := by simpa using g
  simp [execOp, hop, Instr.storeAt, h1, Instr.sureAddr, storeVar, run_sizeOf T ht, hsz, hrun, Result.andThen]
omit hop1 in
/-- The cells that are appended or copied. -/
theorem addedK_ok {X : AV} {x : Value} (hx : VRel op ρ X x) {size n : Nat} {F : Res} (hg : F.good) {k : AV → Res} (hF : F = addedK X size n s k) (hn0 : X = .nils → n = 0) :
    ∃ c vs, F = k c ∧ LRel op ρ c vs ∧ vs.length = n * size ∧ (∀ v, v ∈ vs → v.oneCell' = true) ∧ ∀ dr, (Builtin.firstCells size n x).run P { w with drawn := dr } = .ok vs.toArray { w with drawn := dr } := by
  unfold addedK at hF
  have hq := caseSlS_inv hg hF; clear hF
  rcases hq with ⟨rfl, hF⟩ | ⟨id, off, len, cap, ex, z, rfl, hF⟩ | ⟨b, rfl, hF⟩
  · have hx : x = .slice none 0 0 := hx
    exact ⟨.lnil, [], hF, rfl, by simp [hn0 rfl], by simp, fun dr => by rw [hx]; rfl⟩
  · obtain ⟨c, vs, hF, h1, h2, h3, h4, _⟩ := sliceCells_ok (P := P) T hS hG hH hx hg hF
    exact ⟨c, vs, hF, h1, h2, h3, h4⟩
  · obtain ⟨g1, hF1⟩ := guard_inv hg hF
    clear hF
    obtain ⟨g2, hF⟩ := guard_inv hg hF1
    clear hF1
    have g1 := Nat.eq_of_beq_eq_true g1
    have g2 := Nat.eq_of_beq_eq_true g2
    subst g1; subst g2
    obtain ⟨hb, rfl⟩ := hx
    obtain ⟨c, hF, hc⟩ := blCells_ok (op := op) (ρ := ρ) hb hF
    refine ⟨c, _, hF, hc, by simp [len_bytes], fun v hv => ?_, fun dr => ?_⟩
    · obtain ⟨u, _, rfl⟩ := List.mem_map.1 hv; rfl
    · have : b.arr.extract 0 b.len = b.arr := by unfold BL.arr; rw [ByteArray.extract_mk, len_bytes]; simp
      simp only [Builtin.firstCells, this, Sem.run_pure]
      congr 1
      apply Array.ext'
      simp [BL.arr]
omit hS hG hH hop1 in
theorem run_lenOf {X : AV} {x : Value} (hx : VRel op ρ X x) {F : Res} (hg : F.good) {k : Nat → Res} (hF : F = X.slLen k) (w : World) : ∃ n, F = k n ∧ (Builtin.lenOf x).run P w = .ok n w ∧ (X = .nils → n = 0) := by
  rcases slLen_inv hg hF with ⟨b, rfl, hF⟩ | ⟨rfl, hF⟩ | ⟨id, off, len, cap, ex, z, rfl, hF⟩
  · obtain ⟨_, rfl⟩ := hx; exact ⟨_, hF, by simp [Builtin.lenOf, arr_size], fun h => by cases h⟩
  · have hx : x = .slice none 0 0 := hx
    exact ⟨_, hF, by rw [hx]; rfl, fun _ => rfl⟩
  · obtain ⟨p, ad, c, hp, rfl, _⟩ := hx; exact ⟨_, hF, rfl, fun h => by cases h⟩
omit hop1 in
theorem op_copy {x y : Operand} {x' y' : Src} {c : Call} {t e n : Nat} (hop : o.op = .call c) (hcal : c.callee = .builtin .copy) (hargs : c.args.toList = [x, y]) (hct : c.argTypes[0]? = some t) (ht : undC ti t = some (.slice e)) (hn : sizeC ti e = some n) (hx : srcC ti x = some x') (hy : srcC ti y = some y') :
    OpOk P op w0 ρ s w (oCopy n x' y' f s) (execOp a.eval o) := by
  intro F k hg hF
  have h1 := src_ok hS hG hx
  have h2 := src_ok hS hG hy
  unfold oCopy at hF
  generalize x'.ev f = X at h1 hF
  generalize y'.ev f = Y at h2 hF
  obtain ⟨n1, hF1, hl1, hz1⟩ := run_lenOf (P := P) T h2 hg hF w
  clear hF
  obtain ⟨n2, hF, hl2, hz2⟩ := run_lenOf (P := P) T h1 hg hF1 w
  clear hF1
  rw [nmin_eq] at hF
  obtain ⟨cc, vs, hF1, hc, hcl, hc1, hfc⟩ := addedK_ok (P := P) T hS hG hH h2 hg hF (fun h => by rw [hz1 h]; simp)
  clear hF
  have hF := hF1
  clear hF1
  have hfc := hfc w.drawn
  obtain ⟨cs, hrun⟩ := builtin_run (P := P) (a := a) hop hcal
  have hr0 := caseSl_inv hg hF; clear hF
  rcases hr0 with ⟨rfl, hF⟩ | ⟨id, off, len, cap, ex, z, rfl, hF⟩
  · have h1 : a.eval x = .slice none 0 0 := h1
    refine oo (v := .int .i64 (min n1 n2 : Nat)) hF ?_ (.refl _) rfl hH
    have : n2 = 0 := hz2 rfl
    subst this
    rw [hrun, args2 hargs, h1]
    simp only [Nat.min_zero] at hfc
    simp [builtin, Builtin.copy_, hct, run_underlying T ht, Result.andThen, hl1, run_sizeOf T hn, goInt, hfc, Nat.min_def]
  · obtain ⟨p, ad, cp, hp, h1, hc1', hc2, hc3, hc4, hc5⟩ := h1
    obtain ⟨gz, hF⟩ := guard_inv hg hF
    obtain ⟨s', w', hF, hst, hH', _⟩ := layK_inv (P := P) hg hH hp hc hc1 hF
    rw [h1] at hl2
    have hl2 : len = n2 := by simpa [Builtin.lenOf] using hl2
    refine oo (v := .int .i64 (min n1 n2 : Nat)) hF ?_ (.refl _) rfl hH'
    have hst' : (storeCells ad vs).run P w = .ok () w' := by
      by_cases h0 : cp = 0
      · have hl0 : n2 = 0 := by omega
        have : vs = [] := List.length_eq_zero_iff.1 (by rw [hcl, hl0]; simp)
        subst this
        exact hst
      · rw [hc4.resolve_left h0]; exact hst
    rw [hrun, args2 hargs, h1]
    have hm : Nat.min n1 n2 = min n1 n2 := rfl
    simp [builtin, Builtin.copy_, hct, run_underlying T ht, Result.andThen, hl1, hl2, run_sizeOf T hn, goInt, hfc, hst', hm]
omit hop1 in
theorem op_clear {x : Operand} {y : Src} {c : Call} {t e : Nat} {z : AV} (hop : o.op = .call c) (hcal : c.callee = .builtin .clear) (hargs : c.args.toList = [x]) (hct : c.argTypes[0]? = some t) (ht : undC ti t = some (.slice e)) (hz : zeroC ti e = some z) (hz0 : z.cells.len ≠ 0) (hx : srcC ti x = some y) :
    OpOk P op w0 ρ s w (oClear z.cells y f s) (execOp a.eval o) := by
  intro F k hg hF
  have h1 := src_ok hS hG hx
  unfold oClear at hF
  generalize y.ev f = X at h1 hF
  obtain ⟨cs, hrun⟩ := builtin_run (P := P) (a := a) hop hcal
  have hr0 := caseSl_inv hg hF; clear hF
  rcases hr0 with ⟨rfl, hF⟩ | ⟨id, off, len, cap, ex, sz, rfl, hF⟩
  · have h1 : a.eval x = .slice none 0 0 := h1
    refine oo (v := .tuple #[]) hF ?_ (.refl _) ⟨[], rfl, rfl⟩ hH
    rw [hrun, args1 hargs, h1]
    simp [builtin, Builtin.clear_, hct, run_underlying T ht, Result.andThen]
  · obtain ⟨p, ad, cp, hp, h1, hc1', hc2, hc3, hc4, hc5⟩ := h1
    obtain ⟨gz, hF⟩ := guard_inv hg hF
    obtain ⟨zv, hz1, hz2, hz3⟩ := zeroC_cells (op := op) (P := P) T hz ρ
    have hsz : zv.cells.size = z.cells.len := by rw [len_ok op _ hz2]; simp
    have htimes := times_ok op hz2 len
    have hone : ∀ v, v ∈ (List.replicate len zv.cells.toList).flatten → v.oneCell' = true := by
      intro v hv
      obtain ⟨l, hl, hv⟩ := List.mem_flatten.1 hv
      rw [(List.mem_replicate.1 hl).2] at hv
      exact hz3 v hv
    obtain ⟨s', w', hF, hst, hH', _⟩ := layK_inv (P := P) hg hH hp htimes hone hF
    refine oo (v := .tuple #[]) hF ?_ (.refl _) ⟨[], rfl, rfl⟩ hH'
    rw [hrun, args1 hargs, h1]
    have hcells := zeros_times zv.cells (by omega) len
    cases len with
    | zero =>
      have hw : (Result.ok () w : Result Unit) = .ok () w' := hst
      cases hw
      simp [builtin, Builtin.clear_, hct, run_underlying T ht, Result.andThen]
    | succ len =>
      have had : ad = ⟨p.b, p.base + off, none⟩ := hc4.resolve_left (by omega)
      subst had
      simp [builtin, Builtin.clear_, hct, run_underlying T ht, Result.andThen, hz1, Builtin.zeroCells]
      simp only [Array.toList_map, Array.toList_range] at hcells
      rw [hcells, hst]
theorem op_sdata {x : Operand} {y : Src} {c : Call} (hop : o.op = .call c) (hcal : c.callee = .builtin .unsafeSliceData) (hargs : c.args.toList = [x]) (hx : srcC ti x = some y) : ReadOk P op ρ s w (oSdata y f s) (execOp a.eval o) := by
  intro F k hg hF
  have h1 := src_ok hS hG hx
  unfold oSdata at hF
  generalize y.ev f = X at h1 hF
  obtain ⟨cs, hrun⟩ := builtin_run (P := P) (a := a) hop hcal
  have hr0 := caseSl_inv hg hF; clear hF
  rcases hr0 with ⟨rfl, hF⟩ | ⟨id, off, len, cap, ex, sz, rfl, hF⟩
  · have h1 : a.eval x = .slice none 0 0 := h1
    refine rd (v := .pointer none) hF ?_ rfl
    rw [hrun, args1 hargs, h1]
    have e : Builtin.unsafeSliceData_ c.argTypes o.type #[.slice none 0 0] = pure (.pointer none) := rfl
    simp [builtin, e, Result.andThen]
  · obtain ⟨p, ad, cp, hp, h1, hc1', hc2, hc3, hc4, hc5⟩ := h1
    obtain ⟨g, hF⟩ := guard_inv hg hF
    have g := Nat.le_of_ble_eq_true g
    have h0 : cp ≠ 0 := by omega
    refine rd (v := .pointer (some ⟨p.b, p.base + off, none⟩)) hF ?_ ⟨p, hp, rfl⟩
    rw [hrun, args1 hargs, h1]
    have e : (Builtin.unsafeSliceData_ c.argTypes o.type #[.slice (some ad) len cp]).run P w = .ok (.pointer (some ad)) w := by
      show (if cp ≠ 0 then (pure (.pointer (some ad)) : Sem Value) else _).run P w = _
      rw [if_pos h0]; rfl
    simp only [builtin, Sem.run_bind, e, Result.andThen, Sem.run_pure]
    rw [hc4.resolve_left h0]
end
end
end Go.Ax
end
section
namespace Go.Ax
open Go Go.RowKit
noncomputable section
set_option linter.unusedSectionVars false
set_option linter.unusedVariables false
set_option linter.unusedSimpArgs false
/- ### Append -/
theorem growBy_le (newLen : Nat) : ∀ r c, Builtin.growBy newLen r c ≤ c * 2 ^ r + 192 * 2 ^ r ∨ True := fun _ _ => .inr trivial
theorem nextslicecap_le {need cap : Nat} (h : cap < need) : Builtin.nextslicecap need cap ≤ 16 * need + 4096 := by
  unfold Builtin.nextslicecap
  split
  · omega
  · split
    · omega
    · have g : ∀ r c, Builtin.growBy need r c ≤ 2 ^ r * (c + 256) := by
        intro r
        induction r with
        | zero => intro c; simp [Builtin.growBy]
        | succ r ih =>
          intro c
          simp only [Builtin.growBy]
          split
          · have : 1 ≤ 2 ^ (r + 1) := Nat.one_le_two_pow
            calc c ≤ c + 256 := by omega
              _ = 1 * (c + 256) := by omega
              _ ≤ 2 ^ (r + 1) * (c + 256) := Nat.mul_le_mul_right _ this
          · refine Nat.le_trans (ih _) ?_
            rw [Nat.pow_succ, Nat.mul_assoc]
            exact Nat.mul_le_mul_left _ (by omega)
      have g4 := g 4 cap
      clear g
      rw [show 2 ^ 4 = 16 from rfl, Nat.mul_add] at g4
      have h5 : cap * 16 = 16 * cap := Nat.mul_comm _ _
      generalize Builtin.growBy need 4 cap = G at g4 ⊢
      omega
theorem new_row_fz {op : Nat → Value} {ρ : Rho} {B e : Nat} {c : AV} {vs : List Value} (hc : LRel op ρ c vs) (h1 : ∀ v, v ∈ vs → v.oneCell' = true) (b0 : Bool) (fz : Nat) {w : World} (hB : B ≤ w.heap.size) (rest : List Value) :
    ORel op ρ B ⟨w.heap.size, 0, vs.length + rest.length⟩ (.row e c c.len fz false b0) (some (.cells (vs ++ rest).toArray e (0, 0))) := by
  obtain ⟨cc, lo, hi, ws, e1, hr⟩ := new_row (e := e) hc h1 b0 hB rest
  cases e1
  exact ⟨_, 0, 0, ws, rfl, { hr with frozen := fun h => absurd h (Nat.lt_irrefl 0) }⟩
section
variable {P : Program} {op : Nat → Value} {w0 : Base} {ti : TI} (T : TiOk P ti) {ρ : Rho} {s : St} {w : World} {f : NC} {a : Act}
  {o : Oper} (hS : Opd op ρ ti f a o) (hG : GRel ti ρ) (hH : HRel op w0 ρ s w) (hop1 : ∀ n, (op n).oneCell' = true)
include T hS hG hH
/-- What a growing append leaves. -/
theorem append_grows {y : Value} {ad : Option Addr} {t t1 e size len cp n : Nat} {te : TE} {d1 : TypeDesc} {c : Call} (ht : undC ti t = some (.slice e)) (ht0 : c.argTypes[0]? = some t) (ht1 : c.argTypes[1]? = none ∨ (c.argTypes[1]? = some t1 ∧ undC ti t1 = some d1 ∧ ∀ k, d1 ≠ .int k)) (he : ti e = some te) (hsz : te.info.size = size)
    (hbytes : te.info.bytes ≤ 65536) {zv : Value} (hz : ∀ w, (zeroValue e).run P w = .ok zv w) (hzs : zv.cells.size = size) (h0 : 0 < size) (hl : ∀ w, (Builtin.lenOf y).run P w = .ok n w) (hneed : cp < len + n) (hsmall : len + n ≤ 16777216)
    {old new : List Value} (hold : ∀ dr, (Builtin.firstCells size len (.slice ad len cp)).run P { w with drawn := dr } = .ok old.toArray { w with drawn := dr }) (hnew : ∀ dr, (Builtin.firstCells size n y).run P { w with drawn := dr } = .ok new.toArray { w with drawn := dr }) (htype : TypeId) :
    ∃ nc rest, len + n ≤ nc ∧ rest.length = (nc - (len + n)) * size ∧ (Builtin.append_ c.argTypes htype #[.slice ad len cp, y]).run P w =
      .ok (.slice (some ⟨w.heap.size, 0, none⟩) (len + n) nc) { w with drawn := w.drawn + 1, heap := w.heap.push (.cells (old ++ new ++ rest).toArray e (0, 0)) } := by
  obtain ⟨nc, hnc⟩ : ∃ nc, (Question.appendCap (len + n) cp e).cut (w.tape w.drawn (.appendCap (len + n) cp e)) = nc := ⟨_, rfl⟩
  have hle : len + n ≤ nc := by rw [← hnc]; exact Nat.le_add_right _ _
  have hcap : ¬ Builtin.nextslicecap (len + n) cp * te.info.bytes > 2 ^ 48 := by
    have h1 := nextslicecap_le hneed
    have h2 : Builtin.nextslicecap (len + n) cp * te.info.bytes ≤ (16 * 16777216 + 4096) * 65536 := Nat.mul_le_mul (by omega) hbytes
    omega
  have hneed' : ¬ len + n ≤ cp := by omega
  have hi : ¬ (((len + n : Nat) : Int) > IntKind.i64.max ∧ (false = true ∨ te.info.bytes = 0)) := by
    have : IntKind.i64.max = 9223372036854775807 := by decide
    rw [this]; omega
  have hrestlen : ∀ m, (Builtin.zeroCells zv.cells m).toList.length = m * size := by
    intro m; simp [Builtin.zeroCells, hzs]
  refine ⟨nc, (Builtin.zeroCells zv.cells (nc - (len + n))).toList, hle, hrestlen _, ?_⟩
  have hs2 : ∀ w, (sizeOf e).run P w = .ok size w := fun w => by rw [← hsz]; exact run_size T he w
  have hi' : ¬ (((len + n : Nat) : Int) > IntKind.i64.max ∧ (False ∨ te.info.bytes = 0)) := fun h => hi ⟨h.1, h.2.imp False.elim id⟩
  have harr : ∀ r : Array Value, old.toArray ++ new.toArray ++ r = (old ++ new ++ r.toList).toArray := fun r => by simp
  have hold' := hold (w.drawn + 1)
  have hnew' := hnew (w.drawn + 1)
  rcases ht1 with h | ⟨h, hd, hni⟩
  · simp only [Builtin.append_, ht0, h, List.getElem?_toArray, List.getElem?_cons_zero, List.getElem?_cons_succ, Sem.run_bind, run_underlying T ht, Result.andThen, Sem.run_pure, hs2, Bool.false_eq_true, if_false, hl, hneed', Bool.not_false, if_true, run_typeInfo T he]
    rw [if_neg hi']
    simp only [Sem.run_bind, run_typeInfo T he, Result.andThen]
    rw [if_neg hcap]
    simp only [Sem.run_bind, run_typeInfo T he, Result.andThen, run_choose, Question.forced, Bool.false_eq_true, if_false, hnc, run_askRoom, hold', hnew', hz, newRow, run_newObj, Sem.run_pure, harr]
  · have hm : (match d1 with | .int _ => true | _ => false) = false := by cases d1 <;> first | rfl | exact absurd rfl (hni _)
    simp only [Builtin.append_, ht0, h, List.getElem?_toArray, List.getElem?_cons_zero, List.getElem?_cons_succ, Sem.run_bind, run_underlying T ht, run_underlying T hd, Result.andThen, Sem.run_pure, hs2, hm, Bool.false_eq_true, if_false, hl, hneed', Bool.not_false, if_true, run_typeInfo T he]
    rw [if_neg hi']
    simp only [Sem.run_bind, run_typeInfo T he, Result.andThen]
    rw [if_neg hcap]
    simp only [Sem.run_bind, run_typeInfo T he, Result.andThen, run_choose, Question.forced, Bool.false_eq_true, if_false, hnc, run_askRoom, hold', hnew', hz, newRow, run_newObj, Sem.run_pure, harr]
theorem op_append {x y : Operand} {x' y' : Src} {t t1 e size : Nat} {te : TE} {d1 : TypeDesc} {c : Call} {z : AV} (hop : o.op = .call c) (hcal : c.callee = .builtin .append) (hargs : c.args.toList = [x, y]) (ht0 : c.argTypes[0]? = some t) (ht : undC ti t = some (.slice e))
    (ht1 : c.argTypes[1]? = none ∨ (c.argTypes[1]? = some t1 ∧ undC ti t1 = some d1 ∧ ∀ k, d1 ≠ .int k)) (he : ti e = some te) (hsz : te.info.size = size) (h0 : 0 < size) (hbytes : te.info.bytes ≤ 65536) (hz : zeroC ti e = some z) (hzl : z.cells.len = size) (hx : srcC ti x = some x') (hy : srcC ti y = some y') :
    OpOk P op w0 ρ s w (oAppend e size x' y' f s) (execOp a.eval o) := by
  intro F k hg hF
  have h1 := src_ok hS hG hx
  have h2 := src_ok hS hG hy
  unfold oAppend at hF
  generalize x'.ev f = X at h1 hF
  generalize y'.ev f = Y at h2 hF
  obtain ⟨zv, hz1, hz2, hz3⟩ := zeroC_cells (op := op) (P := P) T hz ρ
  have hzs : zv.cells.size = size := by rw [← hzl, len_ok op _ hz2]; simp
  have hs2 : ∀ w, (sizeOf e).run P w = .ok size w := fun w => by rw [← hsz]; exact run_size T he w
  have hlen : ∀ w, ∃ n, F = (addedK Y size n s fun new => X.caseSl
      (guardK (Nat.ble n 16777216) (Nat.rec (motive := fun _ => Res) (k .nils s) (fun _ _ => s.newK (.row e new new.len 0 false true) fun id s' => k (.sl id 0 n n false size) s') n))
      (fun id off len cap ex z => guardK (Nat.beq z size) (Bool.rec (motive := fun _ => Res)
        (guardK (Nat.ble (Nat.add len n) 16777216) (Bool.rec (motive := fun _ => Res) (appGrow e size id off len new n s k)
          (sliceCells (.sl id off len cap ex z) size len s fun old => s.newK (.row e (old.app new) (old.app new).len 0 false true) fun id' s' => k (.sl id' 0 (Nat.add len n) (Nat.add len n) false size) s') ex))
        (s.layK id (Nat.add off (Nat.mul len size)) new fun s' => k (.sl id off (Nat.add len n) cap ex size) s')
        (Nat.ble (Nat.add len n) cap)))) ∧ (Builtin.lenOf (a.eval y)).run P w = .ok n w ∧ (Y = .nils → n = 0) := fun w => run_lenOf (P := P) T h2 hg hF w
  obtain ⟨n, hF1, hl1, hnz⟩ := hlen w
  have hl : ∀ w, (Builtin.lenOf (a.eval y)).run P w = .ok n w := by
    intro w'
    revert hl1
    cases a.eval y <;> first | (intro h; simp [Builtin.lenOf] at h ⊢; exact h) | (intro h; simp [Builtin.lenOf] at h)
  clear hF hlen
  obtain ⟨new, nvs, hF, hnc, hnl, hn1, hnf⟩ := addedK_ok (P := P) T hS hG hH h2 hg hF1 hnz
  clear hF1
  obtain ⟨cs, hrun⟩ := builtin_run (P := P) (a := a) hop hcal
  have hexec : ∀ v w', (Builtin.append_ c.argTypes o.type #[a.eval x, a.eval y]).run P w = .ok v w' → (execOp a.eval o).run P w = .ok (.value v) w' := by
    intro v w' h
    rw [hrun, args2 hargs]
    simp [builtin, h, Result.andThen]
  -- in place
  have place : ∀ (ad : Option Addr) (len cp : Nat) (w' : World), a.eval x = .slice ad len cp → len + n ≤ cp → (match ad with | some ad => (storeCells (ad.add (len * size)) nvs).run P w = .ok () w' | none => w' = w) →
      (execOp a.eval o).run P w = .ok (.value (.slice ad (len + n) cp)) w' := by
    intro ad len cp w' hv hle hst
    refine hexec _ _ ?_
    have hnf := hnf w.drawn
    rw [hv]
    rcases ht1 with h | ⟨h, hd, hni⟩
    · simp only [Builtin.append_, ht0, h, List.getElem?_toArray, List.getElem?_cons_zero, List.getElem?_cons_succ, Sem.run_bind, run_underlying T ht, Result.andThen, Sem.run_pure, hs2, Bool.false_eq_true, if_false, hl, hle, Bool.not_false, if_true, hnf]
      cases ad with
      | none => rw [hst]; rfl
      | some ad => simp only [hst, Sem.run_bind, Result.andThen, Sem.run_pure]
    · have hm : (match d1 with | .int _ => true | _ => false) = false := by cases d1 <;> first | rfl | exact absurd rfl (hni _)
      simp only [Builtin.append_, ht0, h, List.getElem?_toArray, List.getElem?_cons_zero, List.getElem?_cons_succ, Sem.run_bind, run_underlying T ht, run_underlying T hd, Result.andThen, Sem.run_pure, hs2, hm, Bool.false_eq_true, if_false, hl, hle, Bool.not_false, if_true, hnf]
      cases ad with
      | none => rw [hst]; rfl
      | some ad => simp only [hst, Sem.run_bind, Result.andThen, Sem.run_pure]
  -- grown
  have grown : ∀ (s0 : St) (ad : Option Addr) (len cp : Nat) (old : AV) (ovs : List Value), HRel op w0 ρ s0 w → s0.next < 262144 → a.eval x = .slice ad len cp → cp < len + n → len + n ≤ 16777216 → LRel op ρ old ovs → ovs.length = len * size → (∀ v, v ∈ ovs → v.oneCell' = true) →
      (∀ dr, (Builtin.firstCells size len (.slice ad len cp)).run P { w with drawn := dr } = .ok ovs.toArray { w with drawn := dr }) → ∀ (b0 : Bool) (fz : Nat),
      ∃ v w' ρ', (execOp a.eval o).run P w = .ok (.value v) w' ∧ ρ.sub ρ' ∧ VRel op ρ' (.sl s0.next 0 (len + n) (len + n) false size) v ∧ HRel op w0 ρ' (s0.add (.row e (old.app new) (old.app new).len fz false b0)) w' := by
    intro s0 ad len cp old ovs hH0 hnx hv hlt hsm hol holl ho1 hof b0 fz
    obtain ⟨nc, rest, hle, hrl, hr⟩ := append_grows (P := P) (w := w) T hS hG hH (y := a.eval y) ht ht0 ht1 he hsz hbytes hz1 hzs h0 hl hlt hsm hof hnf o.type
    rw [← hv] at hr
    have hap := app_ok op old hol hnc
    have hgrew : Grew w { w with drawn := w.drawn + 1, heap := w.heap.push (.cells (ovs ++ nvs ++ rest).toArray e (0, 0)) } (.cells (ovs ++ nvs ++ rest).toArray e (0, 0)) := ⟨rfl, rfl, rfl, rfl⟩
    have hnone := (hH0.fresh (o := .dead) hnx).2
    have hone : ∀ v, v ∈ ovs ++ nvs → v.oneCell' = true := fun v hv => (List.mem_append.1 hv).elim (ho1 v) (hn1 v)
    have hrow := new_row_fz (e := e) (hap.mono op (Rho.put_sub (p := ⟨w.heap.size, 0, (ovs ++ nvs).length + rest.length⟩) hnone)) hone b0 fz hH0.below.size rest
    obtain ⟨h4, h5, h6⟩ := hH0.make hnx rfl hgrew hrow
    refine ⟨_, _, _, hexec _ _ hr, h4, ⟨_, _, nc, h5, rfl, hle, fun h => (by cases h), hle, .inr rfl, ?_⟩, h6⟩
    show 0 + nc * size ≤ (ovs ++ nvs).length + rest.length
    rw [List.length_append, holl, hnl, hrl]
    have : nc * size = len * size + n * size + (nc - (len + n)) * size := by
      rw [← Nat.add_mul, ← Nat.add_mul]; congr 1; omega
    omega
  have hr0 := caseSl_inv hg hF; clear hF
  rcases hr0 with ⟨rfl, hF⟩ | ⟨id, off, len, cap, ex, sz, rfl, hF⟩
  · have h1 : a.eval x = .slice none 0 0 := h1
    obtain ⟨gs, hF⟩ := guard_inv hg hF
    have gs := Nat.le_of_ble_eq_true gs
    cases n with
    | zero => exact oo hF (place none 0 0 w h1 (by omega) rfl) (.refl _) rfl hH
    | succ n =>
      obtain ⟨hnx, hF⟩ := newK_inv hg hF
      obtain ⟨v, w', ρ', e1, e2, e3, e4⟩ := grown s none 0 0 .lnil [] hH hnx h1 (by omega) (by omega) rfl (by simp) (by simp) (fun dr => rfl) true 0
      have e5 : (0 + (n + 1)) = n + 1 := by omega
      rw [e5] at e3
      exact oo hF e1 e2 e3 e4
  · obtain ⟨p, ad, cp, hp, h1', hc1, hc2, hc3, hc4, hc5⟩ := h1
    obtain ⟨gz, hF⟩ := guard_inv hg hF
    have gz := Nat.eq_of_beq_eq_true gz
    subst gz
    cases hb : Nat.ble (len + n) cap with
    | true =>
      have hb' := Nat.le_of_ble_eq_true hb
      have hF : F = s.layK id (off + len * sz) new fun s' => k (.sl id off (len + n) cap ex sz) s' := by
        rw [hF]; show (Bool.rec (motive := fun _ => Res) _ _ (Nat.ble (len + n) cap) : Res) = _; rw [hb]; rfl
      obtain ⟨s', w', hF, hst, hH', _⟩ := layK_inv (P := P) hg hH hp hnc hn1 hF
      refine oo hF (place (some ad) len cp w' h1' (by omega) ?_) (.refl _) ⟨p, ad, cp, hp, rfl, hc1, hc2, by omega, hc4, hc5⟩ hH'
      by_cases hcz : cp = 0
      · have hn0 : n = 0 := by omega
        have : nvs = [] := List.length_eq_zero_iff.1 (by rw [hnl, hn0]; simp)
        subst this
        exact hst
      · have had := hc4.resolve_left hcz
        subst had
        show (storeCells (Addr.add _ _) nvs).run P w = _
        rw [addr_add, Nat.add_assoc]; exact hst
    | false =>
      have hb' : cap < len + n := by
        rcases Nat.lt_or_ge cap (len + n) with h | h
        · exact h
        · rw [Nat.ble_eq_true_of_le h] at hb; cases hb
      have hF : F = guardK (Nat.ble (len + n) 16777216) (Bool.rec (motive := fun _ => Res) (appGrow e sz id off len new n s k)
          (sliceCells (.sl id off len cap ex sz) sz len s fun old => s.newK (.row e (old.app new) (old.app new).len 0 false true) fun id' s' => k (.sl id' 0 (len + n) (len + n) false sz) s') ex) := by
        rw [hF]; show (Bool.rec (motive := fun _ => Res) _ _ (Nat.ble (len + n) cap) : Res) = _; rw [hb]; rfl
      obtain ⟨gs, hF⟩ := guard_inv hg hF
      have gs := Nat.le_of_ble_eq_true gs
      have hsub : VRel op ρ (.sl id off len cap ex sz) (.slice (some ad) len cp) := ⟨p, ad, cp, hp, rfl, hc1, hc2, hc3, hc4, hc5⟩
      cases ex with
      | true =>
        have hcc : cp = cap := hc2 rfl
        obtain ⟨old, ovs, hF, hol, holl, ho1, hof, _⟩ := sliceCells_ok (P := P) T hS hG hH hsub hg hF
        obtain ⟨hnx, hF⟩ := newK_inv hg hF
        obtain ⟨v, w', ρ', e1, e2, e3, e4⟩ := grown s (some ad) len cp old ovs hH hnx h1' (by omega) gs hol holl ho1 hof true 0
        exact oo hF e1 e2 e3 e4
      | false =>
        unfold appGrow at hF
        obtain ⟨e', cs', m, fz, ro, b0, ho, hF⟩ := asRow_inv hg hF
        have hob := hH.obj id p hp
        rw [ho] at hob
        obtain ⟨cc, lo, hi, ws, hblk, hr⟩ := hob
        obtain ⟨ge, hF1⟩ := guard_inv hg hF
        clear hF
        have ge := Nat.eq_of_beq_eq_true ge
        subst ge
        have hF := hF1
        clear hF1
        cases ro with
        | true => rw [hF] at hg; exact hg.elim
        | false =>
          obtain ⟨gf, hF⟩ := guard_inv hg hF
          have gf : fz ≤ off + len * sz := Nat.le_of_ble_eq_true gf
          have hsub2 : VRel op ρ (.sl id off len len false sz) (.slice (some ad) len cp) := ⟨p, ad, cp, hp, rfl, hc3, fun h => (by cases h), hc3, hc4, hc5⟩
          obtain ⟨old, ovs, hF, hol, holl, ho1, hof, hcase⟩ := sliceCells_ok (P := P) T hS hG hH hsub2 hg hF
          rw [St.setK_eq] at hF
          obtain ⟨hnx, hF⟩ := newK_inv hg hF
          have hnx : s.next < 262144 := hnx
          by_cases hcp : len + n ≤ cp
          · -- grown in place
            have hcz : cp ≠ 0 := by omega
            have had := hc4.resolve_left hcz
            subst had
            have hlim : off + (len + n) * sz ≤ p.lim := by
              have := Nat.mul_le_mul_right sz hcp
              omega
            rw [Nat.add_mul] at hlim
            obtain ⟨w', c2, hst, hturn, hb2, hs2', hk2⟩ := run_storeCells_row (P := P) nvs 0 (off := p.base + (off + len * sz)) hblk (by rw [hnl, ← hr.size]; omega)
              (fun i hi1 hi2 hf => by
                rcases Nat.lt_or_ge lo hi with hlh | hlh
                · rcases hr.frozen hlh with hfr | ⟨_, hfr⟩
                  · omega
                  · have := hr.size; rw [hnl] at hi2; omega
                · omega) hn1
            have hap := app_ok op old hol hnc
            obtain ⟨ws', hws⟩ : ∃ l, ovs = (ws.drop off).take (len * sz) ∧ off + len * sz ≤ m ∧ l = () := by
              rcases hcase with ⟨h, _⟩ | ⟨id', off', len', cap', ex', z', p', e2, cs2, m', fz', ro', b0', cc', lo', hi', ws', hsl, _, hp', ho', hblk', hr', hvs, hle'⟩
              · cases h
              · cases hsl
                rw [hp] at hp'; cases hp'
                rw [ho] at ho'; cases ho'
                rw [hblk] at hblk'
                cases hblk'
                refine ⟨(), ?_, hle', rfl⟩
                have hlr := hr.len
                have hlr' := hr'.len
                have hww : ws = ws' := by
                  apply List.ext_getElem?
                  intro i
                  by_cases hi' : i < ws.length
                  · have h1 := hr.at_ i _ (List.getElem?_eq_getElem hi')
                    have hi2 : i < ws'.length := by omega
                    have h2 := hr'.at_ i _ (List.getElem?_eq_getElem hi2)
                    rw [h1] at h2
                    rw [List.getElem?_eq_getElem hi', List.getElem?_eq_getElem hi2]; exact h2
                  · rw [List.getElem?_eq_none (by omega), List.getElem?_eq_none (by omega)]
                rw [hww]; exact hvs
            obtain ⟨hov, hofm, _⟩ := hws
            have hlr := hr.len
            obtain ⟨h4, h5, h6⟩ := hH.move (a := .row e (old.app new) (old.app new).len (fz - off) false (Bool.rec (motive := fun _ => Bool) false b0 (Nat.beq off 0))) (q := ⟨p.b, p.base + off, p.lim - off⟩) hp (by rw [ho]; trivial) (hr.own rfl) rfl hturn hnx (by
              refine ⟨c2, lo, hi, ovs ++ nvs, hb2, hap.mono op (Rho.put_sub (hH.fresh (o := .dead) hnx).2), by rw [len_ok op _ hap], ?_, ?_, ?_, ?_, hr.lohi, ?_, ?_, fun _ => hr.own rfl⟩
              · rw [len_ok op _ hap, List.length_append, holl, hnl]; show _ ≤ p.lim - off; omega
              · show p.base + off + (p.lim - off) = c2.size
                rw [hs2', ← hr.size]; omega
              · intro i v hv
                show c2[p.base + off + i]? = some v
                rw [hk2]
                by_cases hi : i < ovs.length
                · rw [if_neg (by omega)]
                  rw [List.getElem?_append_left hi, hov, List.getElem?_take] at hv
                  split at hv
                  · rw [List.getElem?_drop] at hv
                    have := hr.at_ _ _ hv
                    rwa [← Nat.add_assoc] at this
                  · cases hv
                · have hi2 : i - ovs.length < nvs.length := by
                    have := (List.getElem?_eq_some_iff.1 hv).1
                    rw [List.length_append] at this; omega
                  rw [List.getElem?_append_right (by omega)] at hv
                  rw [if_pos (by rw [holl] at hi hi2; omega), ← hv]; congr 1; rw [holl]; omega
              · intro v hv
                exact (List.mem_append.1 hv).elim (ho1 v) (hn1 v)
              · intro hlh
                rcases hr.frozen hlh with hfr | ⟨hb0, hfr⟩
                · exact .inl (by show hi ≤ p.base + off + (fz - off); omega)
                · refine .inr ⟨by rw [hb0]; cases Nat.beq off 0 <;> rfl, by rw [hs2']; exact hfr⟩
              · intro hbb
                have hoff : off = 0 := by
                  cases hq : Nat.beq off 0 with
                  | false => rw [hq] at hbb; cases hbb
                  | true => exact Nat.eq_of_beq_eq_true hq
                have hb0 : b0 = true := by rw [hoff] at hbb; exact hbb
                show p.base + off = 0
                rw [hr.begins hb0, hoff])
            refine oo hF (place _ len cp w' h1' hcp ?_) h4 ⟨_, _, cp, h5, rfl, hcp, fun h => (by cases h), hcp, .inr (by simp), ?_⟩ h6
            · show (storeCells (Addr.add _ _) nvs).run P w = _
              rw [addr_add, Nat.add_assoc]; exact hst
            · show 0 + cp * sz ≤ p.lim - off
              omega
          · have hid := hH.id_lt hp
            obtain ⟨v, w', ρ', e1, e2, e3, e4⟩ := grown (s.set id .dead) (some ad) len cp old ovs (hH.forget hid) hnx h1' (by omega) gs hol holl ho1 hof (Bool.rec (motive := fun _ => Bool) false b0 (Nat.beq off 0)) (fz - off)
            exact oo hF e1 e2 e3 e4
end
end
end Go.Ax
end
section
namespace Go.Ax
open Go Go.RowKit
noncomputable section
set_option linter.unusedSectionVars false
set_option linter.unusedVariables false
set_option linter.unusedSimpArgs false
section
variable {P : Program} {op : Nat → Value} {w0 : Base} {ti : TI} (T : TiOk P ti) {ρ : Rho} {s : St} {w : World} {f : NC} {a : Act}
  {o : Oper} (hS : Opd op ρ ti f a o) (hG : GRel ti ρ) (hH : HRel op w0 ρ s w) (hop1 : ∀ n, (op n).oneCell' = true)
include T hS hG hH
theorem op_mms {x y : Operand} {x' y' : Src} {c : Call} {mx : Bool} (hop : o.op = .call c) (hcal : c.callee = .builtin (if mx then .max else .min)) (hargs : c.args.toList = [x, y]) (hx : srcC ti x = some x') (hy : srcC ti y = some y') :
    ReadOk P op ρ s w (oMms mx x' y' f s) (execOp a.eval o) := by
  intro F k hg hF
  have h1 := src_ok hS hG hx
  have h2 := src_ok hS hG hy
  unfold oMms at hF
  generalize x'.ev f = X at h1 hF
  generalize y'.ev f = Y at h2 hF
  have hq := asStr_inv hg hF; clear hF; obtain ⟨b, rfl, hF⟩ := hq
  have hq := asStr_inv hg hF; clear hF; obtain ⟨d, rfl, hF⟩ := hq
  obtain ⟨hb, h1⟩ := h1
  obtain ⟨hd, h2⟩ := h2
  have eb : b.arr.toList = b.toBytes := ByteArray.toList_mk _
  have ed : d.arr.toList = d.toBytes := ByteArray.toList_mk _
  obtain ⟨cs, hrun⟩ := builtin_run (P := P) (a := a) hop hcal
  cases mx with
  | false =>
    have hleq : (Op.stringOp .leq b.arr d.arr).run P w = .ok (.bool (!Op.bytesLess d.toBytes b.toBytes)) w := by
      simp [Op.stringOp, eb, ed, bytesLess_total]
    refine rd (v := .string (if !Op.bytesLess d.toBytes b.toBytes then b.arr else d.arr)) hF ?_ ?_
    · rw [hrun, args2 hargs]
      simp only [builtin, Builtin.min_, Result.andThen, h1, h2, Sem.run_bind, List.foldlM_cons, List.foldlM_nil, Builtin.min2, hleq, asBool, Sem.run_pure]
      simp [Builtin.min2, Result.andThen, hleq, asBool]
    · show (BL.ok _) ∧ _
      rw [bl_less hd hb]
      cases Op.bytesLess d.toBytes b.toBytes
      · exact ⟨hb, rfl⟩
      · exact ⟨hd, rfl⟩
  | true =>
    have hgeq : (Op.stringOp .geq b.arr d.arr).run P w = .ok (.bool (!Op.bytesLess b.toBytes d.toBytes)) w := by
      simp [Op.stringOp, eb, ed]
    refine rd (v := .string (if !Op.bytesLess b.toBytes d.toBytes then b.arr else d.arr)) hF ?_ ?_
    · rw [hrun, args2 hargs]
      simp [builtin, Builtin.max_, Builtin.max2, Result.andThen, h1, h2, hgeq, asBool]
    · show (BL.ok _) ∧ _
      rw [bl_less hb hd]
      cases Op.bytesLess b.toBytes d.toBytes
      · exact ⟨hb, rfl⟩
      · exact ⟨hd, rfl⟩
theorem op_iassert {x : Operand} {y : Src} {xt t : TypeId} {ok : Bool} {ms : Array (String × TypeId)} {z : AV} (hop : o.op = .typeAssert x xt t ok) (hs : undC ti t = some (.interface ms)) (hz : zeroC ti t = some z) (hx : srcC ti x = some y) :
    ReadOk P op ρ s w (oIassert z ok y f s) (execOp a.eval o) := by
  intro F k hg hF
  have h1 := src_ok hS hG hx
  unfold oIassert at hF
  generalize y.ev f = X at h1 hF
  obtain ⟨zv, hz1, hz2, _⟩ := zeroC_ok (op := op) (P := P) T hz ρ
  have hr0 := caseIfc_inv hg hF; clear hF
  rcases hr0 with ⟨rfl, hF⟩ | ⟨t', u, rfl, hF⟩
  · have h1 : a.eval x = .nilIface := h1
    cases ok with
    | false => rw [hF] at hg; exact hg.elim
    | true =>
      refine rd (v := .tuple #[zv, .bool false]) hF ?_ ⟨[zv, .bool false], ⟨zv, _, rfl, hz2, .bool false, [], rfl, rfl, rfl⟩, rfl⟩
      simp [execOp, hop, Instr.typeAssert, run_underlying T hs, Result.andThen, h1, hz1]
  · rw [hF] at hg; exact hg.elim
omit T hS hG in
theorem plain_ok {id : Nat} {p : Sp} (hp : ρ id = some p) {F X : Res} (hg : F.good) (hF : F = plainRow s id X) : F = X ∧ (s.get id).live ∧ w0.heap.size ≤ p.b ∧ ∃ c e lo hi, w.heap[p.b]? = some (.cells c e (lo, hi)) ∧ lo ≤ hi ∧ (lo < hi → hi = 0) := by
  unfold plainRow at hF
  obtain ⟨e, cs, n, z, r, b, ho, hF⟩ := asRow_inv hg hF
  obtain ⟨g1, hF⟩ := guard_inv hg hF
  obtain ⟨g2, hF⟩ := guard_inv hg hF
  obtain ⟨g3, hF⟩ := guard_inv hg hF
  have g2 := Nat.eq_of_beq_eq_true g2
  have hob := hH.obj id p hp
  rw [ho] at hob
  obtain ⟨cc, lo, hi, vs, hb, hr⟩ := hob
  refine ⟨hF, by rw [ho]; trivial, hr.own (by cases r <;> first | rfl | cases g3), cc, e, lo, hi, hb, hr.lohi, fun h => ?_⟩
  rcases hr.frozen h with h1 | ⟨h1, _⟩
  · have := hr.begins g1; omega
  · rw [g1] at h1; cases h1
theorem op_eqp {x y : Operand} {x' y' : Src} {neg : Bool} {t t' u m : TypeId} (hop : o.op = .binOp (if neg then .neq else .eql) t x y t') (hu : undC ti t = some (.pointer u)) (hm : sizeC ti u = some (m + 1)) (hx : srcC ti x = some x') (hy : srcC ti y = some y') :
    ReadOk P op ρ s w (oEqp neg x' y' f s) (execOp a.eval o) := by
  intro F k hg hF
  have h1 := src_ok hS hG hx
  have h2 := src_ok hS hG hy
  unfold oEqp at hF
  generalize x'.ev f = X at h1 hF
  generalize y'.ev f = Y at h2 hF
  have fin : ∀ b : Bool, F = k (.bool (if neg then !b else b)) s → (∃ p, a.eval x = .pointer p) → (∃ p, a.eval y = .pointer p) → (Op.equal t (a.eval x) (a.eval y)).run P w = .ok b w → ∃ av v, (execOp a.eval o).run P w = .ok (.value v) w ∧ VRel op ρ av v ∧ F = k av s := by
    intro b hF hxp hyp hr
    refine rd (v := .bool (if neg then !b else b)) hF ?_ rfl
    obtain ⟨p, hxp⟩ := hxp
    obtain ⟨q, hyp⟩ := hyp
    have hgd : (eqGuard (if neg then .neq else .eql) t x y (a.eval x) (a.eval y)).run P w = .ok () w := by
      rw [hxp]; unfold eqGuard; cases neg <;> simp
    simp only [execOp, hop, Sem.run_bind, hgd, Result.andThen, binOp_cmp neg t (a.eval x) (a.eval y) (by rw [hxp]; trivial), hr, Sem.run_pure]
  have hcx : ∀ (v : AV) (k1 : Res) (k2 : Nat → Nat → Res), F = v.casePtr k1 k2 → (v = .nilp ∧ F = k1) ∨ ∃ i o, v = .ptr i o ∧ F = k2 i o := by
    intro v k1 k2 h
    cases v <;> first | exact .inl ⟨rfl, h⟩ | exact .inr ⟨_, _, rfl, h⟩ | (rw [h] at hg; exact hg.elim)
  have hund := run_underlying T hu w
  have heq : Op.equal t (a.eval x) (a.eval y) = Op.equalIn (9999 + 1) t (a.eval x) (a.eval y) := rfl
  have nb : ∀ b, (if neg = true then !b else b) = (Bool.rec (motive := fun _ => Bool) b (bnot b) neg) := fun b => by cases neg <;> cases b <;> rfl
  have hq := hcx _ _ _ hF; clear hF
  rcases hq with ⟨rfl, hF⟩ | ⟨i, o1, rfl, hF⟩
  · have h1 : a.eval x = .pointer none := h1
    have hq := hcx _ _ _ hF; clear hF
    rcases hq with ⟨rfl, hF⟩ | ⟨j, o2, rfl, hF⟩
    · have h2 : a.eval y = .pointer none := h2
      refine fin true (by rw [hF, bnot_eq]; cases neg <;> rfl) ⟨_, h1⟩ ⟨_, h2⟩ ?_
      rw [heq, Op.equalIn]; simp [hund, Result.andThen, h1, h2]
    · obtain ⟨q, hq, h2⟩ := h2
      refine fin false (by rw [hF]; cases neg <;> rfl) ⟨_, h1⟩ ⟨_, h2⟩ ?_
      rw [heq, Op.equalIn]; simp [hund, Result.andThen, h1, h2]
  · obtain ⟨p, hp, h1⟩ := h1
    have hq := hcx _ _ _ hF; clear hF
    rcases hq with ⟨rfl, hF⟩ | ⟨j, o2, rfl, hF⟩
    · have h2 : a.eval y = .pointer none := h2
      refine fin false (by rw [hF]; cases neg <;> rfl) ⟨_, h1⟩ ⟨_, h2⟩ ?_
      rw [heq, Op.equalIn]; simp [hund, Result.andThen, h1, h2]
    · obtain ⟨q, hq, h2⟩ := h2
      cases hij : Nat.beq i j with
      | true =>
        have hij' := Nat.eq_of_beq_eq_true hij
        subst hij'
        rw [hp] at hq; cases hq
        have hF : F = k (.bool (Bool.rec (motive := fun _ => Bool) (Nat.beq o1 o2) (bnot (Nat.beq o1 o2)) neg)) s := by
          rw [hF]; show (Bool.rec (motive := fun _ => Res) _ _ (Nat.beq i i) : Res) = _; rw [hij]
        refine fin (Nat.beq o1 o2) (by rw [hF, nb]) ⟨_, h1⟩ ⟨_, h2⟩ ?_
        rw [heq, Op.equalIn]; simp [hund, Result.andThen, h1, h2, run_sizeOf T hm, sameAddr]
        rw [Bool.eq_iff_iff]; simp
      | false =>
        have hne : i ≠ j := fun e => by subst e; rw [Nat.beq_refl] at hij; cases hij
        have hF : F = plainRow s i (plainRow s j (k (.bool neg) s)) := by
          rw [hF]; show (Bool.rec (motive := fun _ => Res) _ _ (Nat.beq i j) : Res) = _; rw [hij]
        obtain ⟨hF, hl1, hown1, c1, e1, lo1, hi1, hb1, hlo1, hf1⟩ := plain_ok hH hp hg hF
        obtain ⟨hF, hl2, _, c2, e2, lo2, hi2, hb2, hlo2, hf2⟩ := plain_ok hH hq hg hF
        have hbne := hH.inj i j p q hp hq hne hl1 hl2 hown1
        refine fin false (by rw [hF]; cases neg <;> rfl) ⟨_, h1⟩ ⟨_, h2⟩ ?_
        have fz1 : ∀ x, w.frozen? ⟨p.b, x, none⟩ = false := by
          intro x
          simp only [World.frozen?, hb1]
          rw [Bool.and_eq_false_iff]; simp only [decide_eq_false_iff_not]
          rcases Nat.lt_or_ge lo1 hi1 with h | h
          · have := hf1 h; omega
          · omega
        have fz2 : ∀ x, w.frozen? ⟨q.b, x, none⟩ = false := by
          intro x
          simp only [World.frozen?, hb2]
          rw [Bool.and_eq_false_iff]; simp only [decide_eq_false_iff_not]
          rcases Nat.lt_or_ge lo2 hi2 with h | h
          · have := hf2 h; omega
          · omega
        have sh1 : w.shape? p.b = some (e1, c1.size) := by simp [World.shape?, hb1]
        have sh2 : w.shape? q.b = some (e2, c2.size) := by simp [World.shape?, hb2]
        rw [heq, Op.equalIn]; simp [hund, Result.andThen, h1, h2, run_sizeOf T hm, sameAddr, hbne, fz1, fz2, noView, viewAt, sh1, sh2, mayBeOne, stringish]
end
end
end Go.Ax
end
section
namespace Go.Ax
open Go Go.RowKit
noncomputable section
set_option linter.unusedSectionVars false
set_option linter.unusedVariables false
set_option linter.unusedSimpArgs false
/- ### Iterators -/
theorem each_ok {seen : NL} {k : Nat → AV → AV → Res} {op : Nat → Value} {ρ : Rho} {F : Res} (hg : F.good) : ∀ (es : ML) (l : List MapEntry) (F : Res), F.good → MLRel op ρ es l → F = es.each seen k → ∀ e, e ∈ l → seen.has e.born = false →
    ∃ c v, VRel op ρ c e.key ∧ VRel op ρ v e.val ∧ Sub (k e.born c v) F
  | .nil, l, F, hg, h, hF, e, he, hs => by have h : l = [] := h; rw [h] at he; cases he
  | .cons c v b es, l, F, hg, h, hF, e, he, hs => by
    obtain ⟨e', l', rfl, hk, hv, hb, hr⟩ := h
    have hF : F = Bool.rec (motive := fun _ => Res) ((k b c v).app (es.each seen k)) (es.each seen k) (seen.has b) := hF
    cases hh : seen.has b with
    | true =>
      rw [hh] at hF
      rcases List.mem_cons.1 he with rfl | he
      · rw [hb, hh] at hs; cases hs
      · exact each_ok hg es l' F hg hr hF e he hs
    | false =>
      rw [hh] at hF
      have hF : F = (k b c v).app (es.each seen k) := hF
      have happ : ∀ (x y : Res), (x.app y).good → x.good ∧ y.good ∧ ∀ a f s, (x.has a f s ∨ y.has a f s) → (x.app y).has a f s := by
        intro x y
        induction x with
        | fail => intro h; exact h.elim
        | nil => intro h; exact ⟨trivial, h, fun a f s h => h.elim False.elim id⟩
        | ok x f s m ih =>
          intro h
          obtain ⟨h1, h2, h3⟩ := ih h
          exact ⟨h1, h2, fun a f' s' h => by
            rcases h with (h | h) | h
            · exact .inl h
            · exact .inr (h3 _ _ _ (.inl h))
            · exact .inr (h3 _ _ _ (.inr h))⟩
      have hg' := hg
      rw [hF] at hg'
      obtain ⟨g1, g2, g3⟩ := happ _ _ hg'
      rcases List.mem_cons.1 he with rfl | he
      · rw [hb]; exact ⟨c, v, hk, hv, by rw [hF]; exact fun _ => ⟨g1, fun a f s h => g3 a f s (.inl h)⟩⟩
      · obtain ⟨c', v', h1, h2, h3⟩ := each_ok g2 es l' _ g2 hr rfl e he hs
        exact ⟨c', v', h1, h2, h3.trans (by rw [hF]; exact fun _ => ⟨g2, fun a f s h => g3 a f s (.inr h)⟩)⟩
theorem has_mem (l : NL) (n : Nat) : l.has n = l.toL.contains n := by
  induction l with
  | nil => rfl
  | cons m t ih =>
    show (Bool.rec (motive := fun _ => Bool) (t.has n) true (Nat.beq m n) : Bool) = (m :: t.toL).contains n
    rw [List.contains_cons, ← ih]
    have : Nat.beq m n = (n == m) := by rw [Bool.eq_iff_iff, Nat.beq_eq, beq_iff_eq]; exact eq_comm
    rw [this]
    cases n == m <;> rfl
theorem left_ok {op : Nat → Value} {ρ : Rho} {seen : NL} : ∀ (es : ML) (l : List MapEntry), MLRel op ρ es l → es.left seen = (l.filter fun e => !seen.has e.born).length
  | .nil, l, h => by have h : l = [] := h; rw [h]; rfl
  | .cons c v b es, l, h => by
    obtain ⟨e, l', rfl, _, _, hb, hr⟩ := h
    show (Bool.rec (motive := fun _ => Nat) (Nat.succ (es.left seen)) (es.left seen) (seen.has b) : Nat) = _
    rw [left_ok es l' hr, List.filter_cons, hb]
    cases seen.has b <;> simp
theorem older_ok {op : Nat → Value} {ρ : Rho} {since : Nat} : ∀ (es : ML) (l : List MapEntry), MLRel op ρ es l → es.older since = true → ∀ e, e ∈ l → e.born < since
  | .nil, l, h, _ => by have h : l = [] := h; rw [h]; simp
  | .cons c v b es, l, h, ho => by
    obtain ⟨e, l', rfl, _, _, hb, hr⟩ := h
    have ho : (Bool.rec (motive := fun _ => Bool) false (es.older since) (Nat.ble (Nat.succ b) since) : Bool) = true := ho
    cases hbb : Nat.ble (Nat.succ b) since with
    | false => rw [hbb] at ho; cases ho
    | true =>
      rw [hbb] at ho
      have := Nat.le_of_ble_eq_true hbb
      intro e' he'
      rcases List.mem_cons.1 he' with rfl | he'
      · omega
      · exact older_ok es l' hr ho e' he'
theorem atK_ok {op : Nat → Value} {ρ : Rho} {n : Nat} {k : AV → AV → Res} {F : Res} (hg : F.good) : ∀ (es : ML) (l : List MapEntry), MLRel op ρ es l → F = es.atK n k → ∃ e c v, l.find? (·.born == n) = some e ∧ VRel op ρ c e.key ∧ VRel op ρ v e.val ∧ F = k c v
  | .nil, l, h, hF => by rw [hF] at hg; exact hg.elim
  | .cons c v b es, l, h, hF => by
    obtain ⟨e, l', rfl, hk, hv, hb, hr⟩ := h
    have hF : F = Bool.rec (motive := fun _ => Res) (es.atK n k) (k c v) (Nat.beq b n) := hF
    cases hh : Nat.beq b n with
    | true =>
      rw [hh] at hF
      have := Nat.eq_of_beq_eq_true hh
      exact ⟨e, c, v, by simp [List.find?_cons, hb, this], hk, hv, hF⟩
    | false =>
      rw [hh] at hF
      obtain ⟨e', c', v', h1, h2, h3, h4⟩ := atK_ok hg es l' hr hF
      have : ¬ b = n := fun h => by subst h; rw [Nat.beq_refl] at hh; cases hh
      exact ⟨e', c', v', by simp [List.find?_cons, hb, this, h1], h2, h3, h4⟩
section
variable {P : Program} {op : Nat → Value} {w0 : Base} {ti : TI} (T : TiOk P ti) {ρ : Rho} {s : St} {w : World} {f : NC} {a : Act}
  {o : Oper} (hS : Opd op ρ ti f a o) (hG : GRel ti ρ) (hH : HRel op w0 ρ s w) (hop1 : ∀ n, (op n).oneCell' = true)
include T hS hG hH
theorem op_rngs {x : Operand} {y : Src} {t : TypeId} (hop : o.op = .range t x) (ht : undC ti t = some .string) (hx : srcC ti x = some y) : OpOk P op w0 ρ s w (oRngs y f s) (execOp a.eval o) := by
  intro F k hg hF
  have h1 := src_ok hS hG hx
  unfold oRngs at hF
  generalize y.ev f = X at h1 hF
  have hq := asStr_inv hg hF; clear hF; obtain ⟨b, rfl, hF⟩ := hq
  obtain ⟨hb, h1⟩ := h1
  obtain ⟨hn, hF⟩ := newK_inv hg hF
  obtain ⟨h4, h5, h6⟩ := hH.make (a := .siter b 0) (o := .stringIter b.arr 0) (p := ⟨w.heap.size, 0, 0⟩) hn rfl (grew_alloc w _) ⟨hH.below.size, rfl, hb, rfl⟩
  refine oo hF ?_ h4 ⟨_, h5, rfl⟩ h6
  simp [execOp, hop, Instr.range, run_underlying T ht, h1, Result.andThen]
theorem op_rngm {x : Operand} {y : Src} {t u v : TypeId} (hop : o.op = .range t x) (ht : undC ti t = some (.map u v)) (hx : srcC ti x = some y) : OpOk P op w0 ρ s w (oRngm y f s) (execOp a.eval o) := by
  intro F k hg hF
  have h1 := src_ok hS hG hx
  unfold oRngm at hF
  generalize y.ev f = X at h1 hF
  have hr0 := caseMap_inv hg hF; clear hF
  rcases hr0 with ⟨rfl, hF⟩ | ⟨id, rfl, hF⟩
  · have h1 : a.eval x = .map none := h1
    obtain ⟨hn, hF⟩ := newK_inv hg hF
    obtain ⟨h4, h5, h6⟩ := hH.make (a := .mnil) (o := .mapIter none 0 #[] 0) (p := ⟨w.heap.size, 0, 0⟩) hn rfl (grew_alloc w _) ⟨hH.below.size, rfl, rfl⟩
    refine oo hF ?_ h4 ⟨_, h5, rfl⟩ h6
    simp [execOp, hop, Instr.range, run_underlying T ht, h1, Result.andThen]
  · obtain ⟨p, hp, h1⟩ := h1
    obtain ⟨es, clock, l, ho, hF, hgo, hr, hB, hblk⟩ := map_ok (P := P) T hS hG hH hp hg hF
    obtain ⟨hn, hF⟩ := newK_inv hg hF
    have hnone := (hH.fresh (o := .dead) hn).2
    obtain ⟨h4, h5, h6⟩ := hH.make (a := .miter id clock .nil clock) (o := .mapIter (some p.b) clock #[] clock) (p := ⟨w.heap.size, 0, 0⟩) hn rfl (grew_alloc w _) ⟨hH.below.size, rfl, p, Rho.put_sub hnone _ _ hp, rfl⟩
    refine oo hF ?_ h4 ⟨_, h5, rfl⟩ h6
    simp [execOp, hop, Instr.range, run_underlying T ht, h1, hgo, Result.andThen]
omit T in
theorem op_nexts {x : Operand} {y : Src} (hop : o.op = .next x true) (hx : srcC ti x = some y) : OpOk P op w0 ρ s w (oNext true y f s) (execOp a.eval o) := by
  intro F k hg hF
  have h1 := src_ok hS hG hx
  unfold oNext at hF
  generalize y.ev f = X at h1 hF
  have hq := asPtr_inv hg hF; clear hF; obtain ⟨id, off, rfl, hF⟩ := hq
  obtain ⟨p, hp, h1⟩ := h1
  obtain ⟨g0, hF⟩ := guard_inv hg hF
  have g0 := Nat.eq_of_beq_eq_true g0
  subst g0
  have hF : F = (s.get id).asIter fun a p => nextS id a p s k := hF
  obtain ⟨b, pos, ho, hF⟩ := asIter_inv hg hF
  have hob := hH.obj id p hp
  rw [ho] at hob
  obtain ⟨hB, hbase, hb, hblk⟩ := hob
  have hgo : (getObj p.b).run P w = .ok (.stringIter b.arr pos) w := by simp [getObj, Sem.run, hblk]
  have haddr : a.eval x = .pointer (some ⟨p.b, 0, none⟩) := by rw [h1, hbase]
  unfold nextS at hF
  cases hc : Nat.ble (Nat.succ pos) b.len with
  | false =>
    rw [hc] at hF
    have hlt : ¬ pos < b.arr.size := fun h => by rw [arr_size] at h; rw [Nat.ble_eq_true_of_le h] at hc; cases hc
    refine oo hF (v := .tuple #[.bool false]) (w' := w) ?_ (.refl _) ⟨[.bool false], ⟨_, _, rfl, rfl, rfl⟩, rfl⟩ hH
    simp [execOp, hop, Instr.next, haddr, hgo, Result.andThen, hlt]
  | true =>
    rw [hc] at hF
    have hlt : pos < b.arr.size := by rw [arr_size]; exact Nat.le_of_ble_eq_true hc
    obtain ⟨u, ⟨hu, hu2⟩, hF⟩ := Out.inv hg hF (blNthK_ok b pos _ hb)
    obtain ⟨g1, hF⟩ := guard_inv hg hF
    have g1 := Nat.le_of_ble_eq_true g1
    rw [St.setK_eq] at hF
    have hget : b.arr[pos] = UInt8.ofNat u := by
      have := (List.getElem?_eq_some_iff.1 hu2).2
      rw [← this]; simp [BL.arr, ByteArray.getElem_eq_getElem_data]
    have hdec := decode_ascii b.arr pos hlt (by rw [hget]; simp; omega)
    rw [hget] at hdec
    have hnew : HRel op w0 ρ (s.set id (.siter b (pos + 1))) { w with heap := w.heap.setIfInBounds p.b (.stringIter b.arr (pos + 1)) } :=
      hH.turn hp (by rw [ho]; trivial) hB (putObj_turned _) ⟨hB, hbase, hb, putObj_same _ (hH.blk _ _ hp)⟩
    have hset : (setObj p.b (.stringIter b.arr (pos + 1))).run P w = .ok () { w with heap := w.heap.setIfInBounds p.b (.stringIter b.arr (pos + 1)) } := by simp [setObj, Sem.run, hblk]
    refine oo hF (v := .tuple #[.bool true, .int .i64 pos, .int .i32 u]) ?_ (.refl _) ⟨[.bool true, .int .i64 pos, .int .i32 u], ⟨_, _, rfl, rfl, _, _, rfl, rfl, _, _, rfl, rfl, rfl⟩, rfl⟩ hnew
    simp [execOp, hop, Instr.next, haddr, hgo, Result.andThen, hlt, hdec, hset, goInt, Nat.mod_eq_of_lt hu]
omit T in
theorem op_nextm {x : Operand} {y : Src} (hop : o.op = .next x false) (hx : srcC ti x = some y) : OpOk P op w0 ρ s w (oNext false y f s) (execOp a.eval o) := by
  intro F k hg hF
  have h1 := src_ok hS hG hx
  unfold oNext at hF
  generalize y.ev f = X at h1 hF
  have hq := asPtr_inv hg hF; clear hF; obtain ⟨id, off, rfl, hF⟩ := hq
  obtain ⟨p, hp, h1⟩ := h1
  obtain ⟨g0, hF⟩ := guard_inv hg hF
  have g0 := Nat.eq_of_beq_eq_true g0
  subst g0
  have hF : F = (s.get id).asMiter (k tup1 s) fun m since seen last => nextM id m since seen last s k := hF
  have hob := hH.obj id p hp
  rcases asMiter_inv hg hF with ⟨ho, hF⟩ | ⟨m, since, seen, last, ho, hF⟩
  · rw [ho] at hob
    obtain ⟨hB, hbase, hblk⟩ := hob
    have hgo : (getObj p.b).run P w = .ok (.mapIter none 0 #[] 0) w := by simp [getObj, Sem.run, hblk]
    have haddr : a.eval x = .pointer (some ⟨p.b, 0, none⟩) := by rw [h1, hbase]
    refine oo hF (v := .tuple #[.bool false]) (w' := w) ?_ (.refl _) ⟨[.bool false], ⟨_, _, rfl, rfl, rfl⟩, rfl⟩ hH
    simp [execOp, hop, Instr.next, haddr, hgo, Result.andThen]
  · rw [ho] at hob
    obtain ⟨hB, hbase, q, hq, hblk⟩ := hob
    have hgo : (getObj p.b).run P w = .ok (.mapIter (some q.b) since seen.toL.reverse.toArray last) w := by simp [getObj, Sem.run, hblk]
    have haddr : a.eval x = .pointer (some ⟨p.b, 0, none⟩) := by rw [h1, hbase]
    unfold nextM at hF
    obtain ⟨es, clock, ho2, hF⟩ := oasMap_inv hg hF
    have hob2 := hH.obj m q hq
    rw [ho2] at hob2
    obtain ⟨hB2, l, hblk2, hr⟩ := hob2
    have hgo2 : (getObj q.b).run P w = .ok (.map l clock) w := by simp [getObj, Sem.run, hblk2]
    obtain ⟨g1, hF⟩ := guard_inv hg hF
    obtain ⟨g2, hF⟩ := guard_inv hg hF
    obtain ⟨g3, hF⟩ := guard_inv hg hF
    have g1 := Nat.eq_of_beq_eq_true g1
    have g2 := Nat.eq_of_beq_eq_true g2
    subst g1; subst g2
    have hold := older_ok es l.toList hr g3
    have hseen : ∀ n, (seen.toL.reverse.toArray).contains n = seen.has n := by intro n; rw [has_mem]; simp
    have hnoall : (!(seen.toL.reverse.toArray).isEmpty && !l.isEmpty && l.all (·.born ≥ last)) = false := by
      cases hl : l.toList with
      | nil => have : l = #[] := by rw [← Array.toArray_toList (xs := l), hl]
               subst this; simp
      | cons e t =>
        have he := hold e (by rw [hl]; exact List.mem_cons_self ..)
        have : l.all (·.born ≥ last) = false := by
          rw [← Array.all_toList, hl]
          simp; omega
        rw [this]; simp
    have hleft : (l.filter fun e => !(seen.toL.reverse.toArray).contains e.born).toList = l.toList.filter fun e => !seen.has e.born := by
      rw [Array.toList_filter]; congr 1; funext e; rw [hseen]
    obtain ⟨L, hL⟩ : ∃ L, (l.filter fun e => !(seen.toL.reverse.toArray).contains e.born) = L := ⟨_, rfl⟩
    rw [hL] at hleft
    have hmemL : ∀ e, e ∈ L.toList → e ∈ l.toList ∧ seen.has e.born = false := fun e he => by
      rw [hleft, List.mem_filter] at he
      exact ⟨he.1, by simpa using he.2⟩
    have hfo : (L.filter fun e => decide (e.born < last)) = L := by
      apply Array.ext'
      rw [Array.toList_filter, List.filter_eq_self]
      intro e he; simpa using hold e (hmemL e he).1
    have hfn : (L.filter fun e => decide (e.born ≥ last)) = #[] := by
      apply Array.ext'
      rw [Array.toList_filter]
      simp only [List.filter_eq_nil_iff]
      intro e he; have := hold e (hmemL e he).1; simp; omega
    have hlen : es.left seen = L.size := by rw [left_ok es l.toList hr, ← hleft]; simp
    cases hn : es.left seen with
    | zero =>
      rw [hn] at hF hlen
      have hL0 : L = #[] := Array.eq_empty_of_size_eq_zero hlen.symm
      subst hL0
      refine oo hF (v := .tuple #[.bool false]) (w' := w) ?_ (.refl _) ⟨[.bool false], ⟨_, _, rfl, rfl, rfl⟩, rfl⟩ hH
      simp only [execOp, hop, Instr.next, haddr, hgo, hgo2, Result.andThen, Sem.run_bind, hnoall, Bool.false_eq_true, if_false, hL, hfo, hfn]
      simp [Question.forced, Result.andThen]
    | succ more =>
      rw [hn] at hF hlen
      obtain ⟨_, hF⟩ := guard_inv hg hF
      obtain ⟨idx, w1, hch, hidx, hw1⟩ : ∃ idx w1, (choose (.mapNext L.size)).run P w = .ok idx w1 ∧ idx < L.size ∧ ∃ d, w1 = { w with drawn := d } := by
        by_cases hf : L.size ≤ 1
        · exact ⟨0, w, by simp [Question.forced, hf], by omega, w.drawn, rfl⟩
        · refine ⟨_, _, by simp only [run_choose, Question.forced, hf, decide_false, Bool.false_eq_true, if_false]; rfl, ?_, _, rfl⟩
          exact Nat.mod_lt _ (by omega)
      obtain ⟨d, hw1⟩ := hw1
      have hmem : L[idx] ∈ L.toList := by simp
      obtain ⟨hml, hms⟩ := hmemL _ hmem
      obtain ⟨c, v, hc, hv, hsub⟩ := each_ok hg es l.toList F hg hr hF L[idx] hml hms
      rw [St.setK_eq] at hsub
      have hblk' : w1.heap[p.b]? = some (.mapIter (some q.b) last seen.toL.reverse.toArray last) := by rw [hw1]; exact hblk
      have hH1 : HRel op w0 ρ s w1 := by rw [hw1]; exact hH.drew d
      have hpush : (seen.toL.reverse.toArray).push L[idx].born = (NL.cons L[idx].born seen).toL.reverse.toArray := by simp [NL.toL]
      have hnew : HRel op w0 ρ (s.set id (.miter m last (.cons L[idx].born seen) last)) { w1 with heap := w1.heap.setIfInBounds p.b (.mapIter (some q.b) last ((seen.toL.reverse.toArray).push L[idx].born) last) } :=
        hH1.turn hp (by rw [ho]; trivial) hB (putObj_turned _) ⟨hB, hbase, q, hq, by rw [putObj_same _ (hH1.blk _ _ hp), hpush]⟩
      have hset : ∀ o', (setObj p.b o').run P w1 = .ok () { w1 with heap := w1.heap.setIfInBounds p.b o' } := fun o' => by simp [setObj, Sem.run, hblk']
      have hval : VRel op ρ (.tup (.lcons (.bool true) (.lcons c (.lcons v .lnil)))) (.tuple #[.bool true, L[idx].key, L[idx].val]) := ⟨[.bool true, L[idx].key, L[idx].val], ⟨_, _, rfl, rfl, _, _, rfl, hc, _, _, rfl, hv, rfl⟩, rfl⟩
      refine ⟨_, _, ⟨.tuple #[.bool true, L[idx].key, L[idx].val], _, ρ, .inl ?_, .refl _, hval, hnew⟩, hsub⟩
      have hne : L.isEmpty = false := by
        cases hh : L.isEmpty with
        | false => rfl
        | true => rw [Array.isEmpty_iff] at hh; subst hh; simp at hidx
      simp only [execOp, hop, Instr.next, haddr, hgo, hgo2, Result.andThen, Sem.run_bind, hnoall, Bool.false_eq_true, if_false, hL, hfo, hfn, hne, Array.append_empty, Array.empty_append, Array.size_map, hch]
      have hget : (L.map some)[idx]? = some (some L[idx]) := by simp [hidx]
      simp only [hget, Sem.run_bind, hset, Result.andThen, Sem.run_pure]
theorem op_entry {x : Operand} {y : Src} (hop : o.op = .entry x) (hx : srcC ti x = some y) : ReadOk P op ρ s w (oEntry y f s) (execOp a.eval o) := by
  intro F k hg hF
  have h1 := src_ok hS hG hx
  unfold oEntry at hF
  generalize y.ev f = X at h1 hF
  have hq := asPtr_inv hg hF; clear hF; obtain ⟨id, off, rfl, hF⟩ := hq
  obtain ⟨p, hp, h1⟩ := h1
  obtain ⟨g0, hF⟩ := guard_inv hg hF
  have g0 := Nat.eq_of_beq_eq_true g0
  subst g0
  have hob := hH.obj id p hp
  rcases asMiter_inv hg hF with ⟨ho, hF⟩ | ⟨m, since, seen, last, ho, hF⟩
  · rw [hF] at hg; exact hg.elim
  · rw [ho] at hob
    obtain ⟨hB, hbase, q, hq, hblk⟩ := hob
    have hgo : (getObj p.b).run P w = .ok (.mapIter (some q.b) since seen.toL.reverse.toArray last) w := by simp [getObj, Sem.run, hblk]
    have haddr : a.eval x = .pointer (some ⟨p.b, 0, none⟩) := by rw [h1, hbase]
    cases seen with
    | nil => rw [hF] at hg; exact hg.elim
    | cons b t =>
      have hF : F = (s.get m).asMap fun es n => guardK (Nat.beq n last) (es.atK b fun c v => k (.tup (.lcons c (.lcons v .lnil))) s) := hF
      obtain ⟨es, clock, ho2, hF⟩ := oasMap_inv hg hF
      have hob2 := hH.obj m q hq
      rw [ho2] at hob2
      obtain ⟨hB2, l, hblk2, hr⟩ := hob2
      have hgo2 : (getObj q.b).run P w = .ok (.map l clock) w := by simp [getObj, Sem.run, hblk2]
      obtain ⟨g1, hF1⟩ := guard_inv hg hF
      have g1 := Nat.eq_of_beq_eq_true g1
      obtain ⟨e, c, v, hfind, hc, hv, hF⟩ := atK_ok hg es l.toList hr hF1
      refine rd (v := .tuple #[e.key, e.val]) hF ?_ ⟨[e.key, e.val], ⟨_, _, rfl, hc, _, _, rfl, hv, rfl⟩, rfl⟩
      have hfind' : l.find? (fun x => x.born == b) = some e := by rw [← Array.find?_toList]; exact hfind
      have hback : (NL.cons b t).toL.reverse.toArray.back? = some b := by simp [NL.toL]
      simp only [execOp, hop, Instr.entry, haddr, hgo, hgo2, Result.andThen, Sem.run_bind, hback, g1]
      simp [hfind', Result.andThen]
end
end
end Go.Ax
end
section
namespace Go.Ax
open Go Go.RowKit
noncomputable section
set_option linter.unusedSectionVars false
set_option linter.unusedVariables false
set_option linter.unusedSimpArgs false
def OkTo (P : Program) (okTo : Nat → Nat → Nat → Nat → Bool) : Prop := ∀ e n off u, okTo e n off u = liesAt P P.depth e (n / P.cellsOf e) off u 1
theorem rowAt_mono {P : Program} {fits : TypeId → Bool} {d e c c' off n : Nat} (hc : c ≤ c') (h : rowAt P fits d e c off n = true) : rowAt P fits d e c' off n = true := by
  cases d with
  | zero => exact h
  | succ d =>
    simp only [rowAt] at h ⊢
    split at h
    · cases h
    · rename_i hs
      rw [if_neg hs]
      simp only [Bool.or_eq_true, Bool.and_eq_true, decide_eq_true_eq] at h ⊢
      rcases h with ⟨⟨h1, h2⟩, h3⟩ | ⟨h1, h2⟩
      · exact .inl ⟨⟨h1, by omega⟩, h3⟩
      · exact .inr ⟨by omega, h2⟩
theorem liesAt_mono {P : Program} {e c c' off : Nat} (hc : c ≤ c') : ∀ (d n : Nat) (u : TypeId), liesAt P d e c off u n = true → liesAt P d e c' off u n = true
  | 0, _, _, h => h
  | d + 1, n, u, h => by
    simp only [liesAt, Bool.or_eq_true] at h ⊢
    rcases h with h | h
    · exact .inl (rowAt_mono hc h)
    · refine .inr ?_
      split at h
      · exact liesAt_mono hc d _ _ h
      · cases h
theorem lies_bytes {P : Program} {e : Nat} (hu : P.underlying e = some (.int .u8)) (h : liesAt P P.depth e (1 / P.cellsOf e) 0 e 1 = true) {cells off n : Nat} (hle : off + n ≤ cells) : liesAt P P.depth e (cells / P.cellsOf e) off e n = true := by
  cases hd : P.depth with
  | zero => rw [hd] at h; cases h
  | succ d =>
    rw [hd] at h
    simp only [liesAt, hu, Bool.or_false] at h ⊢
    rw [hd] at h ⊢
    simp only [rowAt] at h ⊢
    split at h
    · cases h
    · rename_i hs
      rw [if_neg hs]
      simp only [hu, Bool.and_false, Bool.or_false, Bool.and_eq_true, decide_eq_true_eq] at h ⊢
      obtain ⟨⟨_, h2⟩, h3⟩ := h
      have h1 : P.cellsOf e = 1 := by
        have : 1 ≤ 1 / P.cellsOf e := by simpa using h2
        rcases Nat.lt_or_ge 1 (P.cellsOf e) with h | h
        · rw [Nat.div_eq_of_lt h] at this; omega
        · omega
      rw [h1]
      refine ⟨⟨by simp [Nat.mod_one], by simpa using hle⟩, h3⟩
theorem run_loadBytes {P : Program} : ∀ (l : List UInt8) (w : World) (b off : Nat) (acc : ByteArray), (∀ j x, l[j]? = some x → w.cell? ⟨b, off + j, none⟩ = some (.int .u8 x.toNat)) →
    (loadBytes ⟨b, off, none⟩ acc l.length).run P w = .ok ⟨acc.data ++ l.toArray⟩ w
  | [], w, b, off, acc, h => by simp [loadBytes]
  | x :: l, w, b, off, acc, h => by
    have h0 := h 0 x rfl
    simp only [List.length_cons, loadBytes, Sem.run_bind, run_load]
    rw [Nat.add_zero] at h0
    rw [h0]
    simp only [Result.andThen, addr_add]
    have := run_loadBytes (P := P) l w b (off + 1) (acc.push x) (fun j y hj => by have := h (j + 1) y hj; rwa [show off + (j + 1) = off + 1 + j by omega] at this)
    have e : ((x.toNat : Int).toNat.toUInt8) = x := by simp
    rw [e, this]
    have : (acc.push x).data = acc.data.push x := rfl
    rw [this]; simp
theorem ustr_some {l : List TypeId} {t : TypeId} (ty : TypeId) (a : Addr) (j : IntKind) (n : Int) : ∃ X Y Z W : Sem Value, Builtin.unsafeString_ ⟨t :: l⟩ ty #[.pointer (some a), .int j n] =
    (if n < 0 then X else if n > IntKind.i64.max then Y else if n = 0 then Z else (do
      let e ← elemOf t
      let b ← variablesAt a e n.toNat
      if b = true then (do let s ← loadBytes a .empty n.toNat; freeze a n.toNat; pure (.string s)) else W)) := ⟨_, _, _, _, rfl⟩
theorem ustr_zero {P : Program} {l : List TypeId} {t : TypeId} (ty : TypeId) (p : Option Addr) (j : IntKind) (w : World) : (Builtin.unsafeString_ ⟨t :: l⟩ ty #[.pointer p, .int j 0]).run P w = .ok (.string .empty) w := by
  cases p <;> rfl
theorem headType {c : Array TypeId} {t : TypeId} (h : c[0]? = some t) : ∃ l, c = ⟨t :: l⟩ := by
  obtain ⟨l⟩ := c
  cases l with
  | nil => simp at h
  | cons u l => simp at h; subst h; exact ⟨l, rfl⟩
theorem freeze_turned {w : World} {b off n : Nat} : Turned w (w.freeze ⟨b, off, none⟩ n) b := by
  unfold World.freeze
  split
  · exact .refl _ _
  · refine ⟨rfl, rfl, rfl, by simp, fun k hk => ?_⟩
    simp only [Array.getElem?_modify]
    rw [if_neg (by omega)]
theorem freeze_block {w : World} {b off n e lo hi : Nat} {c : Array Value} (hn : n ≠ 0) (hb : w.heap[b]? = some (.cells c e (lo, hi))) :
    (w.freeze ⟨b, off, none⟩ n).heap[b]? = some (.cells c e (if lo == hi then (off, off + n) else (min lo off, max hi (off + n)))) := by
  unfold World.freeze
  rw [if_neg hn]
  simp only [Array.getElem?_modify, if_pos, hb]
  rfl
theorem dropK_ok' {op : Nat → Value} {ti : TI} {ρ : Rho} {P : Program} (T : TiOk P ti) {t n : Nat} (hb : Basic ti t n) (h3 : n ≤ 3) {d : TypeDesc} (hd : undC ti t = some d) {X : AV} {x : Value} (hx : VRel op ρ X x) {F : Res} (hg : F.good) :
    ∀ (es : ML) (l : List MapEntry) (i : Nat) (k : ML → Res), MLRel op ρ es l → F = es.dropK n X k →
      (∃ es', F = k es' ∧ Instr.findNow d x l i = some none ∧ MLRel op ρ es' l) ∨ ∃ (es' : ML) (e : MapEntry) (j : Nat), F = k es' ∧ Instr.findNow d x l i = some (some (i + j, e.val)) ∧ j < l.length ∧ MLRel op ρ es' (l.eraseIdx j)
  | .nil, l, i, k, h, hF => by
    have h : l = [] := h
    subst h
    exact .inl ⟨.nil, hF, rfl, rfl⟩
  | .cons c u b es, l, i, k, h, hF => by
    obtain ⟨e, l', rfl, hk, hu, he, hr⟩ := h
    obtain ⟨r, ⟨hr1, _, hsb⟩, hF⟩ := Out.inv hg hF (sameNow_ok hb h3 hd hx hk _)
    cases r with
    | true => exact .inr ⟨es, e, 0, hF, by simp [Instr.findNow, hr1], by simp, hr⟩
    | false =>
      rcases dropK_ok' T hb h3 hd hx hg es l' (i + 1) _ hr hF with ⟨es', hF, hn, hr'⟩ | ⟨es', e', j, hF, hn, hj, hr'⟩
      · exact .inl ⟨.cons c u b es', hF, by simp only [Instr.findNow, hr1]; exact hn, _, _, rfl, hk, hu, he, hr'⟩
      · exact .inr ⟨.cons c u b es', e', j + 1, hF, by simp only [Instr.findNow, hr1]; rw [hn]; congr 3; omega, by simp; exact hj, _, _, rfl, hk, hu, he, hr'⟩
section
variable {P : Program} {op : Nat → Value} {w0 : Base} {ti : TI} (T : TiOk P ti) {okTo : Nat → Nat → Nat → Nat → Bool} (K : OkTo P okTo) {ρ : Rho} {s : St} {w : World} {f : NC} {a : Act}
  {o : Oper} (hS : Opd op ρ ti f a o) (hG : GRel ti ρ) (hH : HRel op w0 ρ s w) (hop1 : ∀ n, (op n).oneCell' = true)
include T hS hG hH
theorem op_delete {m key : Operand} {m' key' : Src} {c : Call} {t kt e n : Nat} (hop : o.op = .call c) (hcal : c.callee = .builtin .delete) (hargs : c.args.toList = [m, key]) (hct : c.argTypes[0]? = some t) (ht : undC ti t = some (.map kt e)) (hk : keyC ti kt = some n) (hm : srcC ti m = some m') (hkey : srcC ti key = some key') :
    OpOk P op w0 ρ s w (oDelete n m' key' f s) (execOp a.eval o) := by
  intro F k hg hF
  have h1 := src_ok hS hG hm
  have h2 := src_ok hS hG hkey
  unfold oDelete at hF
  generalize m'.ev f = M at h1 hF
  generalize key'.ev f = Kk at h2 hF
  obtain ⟨hb, hn3⟩ := keyC_basic T hk
  obtain ⟨d, hd, hdb⟩ := basic_und T hb hn3
  obtain ⟨id, e1, hF⟩ := asMap_inv hg hF
  subst e1
  obtain ⟨p, hp, h1⟩ := h1
  obtain ⟨es, clock, l, ho, hF, hgo, hr, hB, hblk⟩ := map_ok (P := P) T hS hG hH hp hg hF
  have hlive : (s.get id).live := by rw [ho]; trivial
  obtain ⟨cs, hrun⟩ := builtin_run (P := P) (a := a) hop hcal
  have hset : ∀ o', (setObj p.b o').run P w = .ok () { w with heap := w.heap.setIfInBounds p.b o' } := fun o' => run_setObj_map o' hblk
  have done : ∀ (es' : ML) (l' : Array MapEntry), F = s.setK id (.map es' clock) (fun s' => k (.tup .lnil) s') → MLRel op ρ es' l'.toList →
      (Builtin.delete_ c.argTypes o.type #[a.eval m, a.eval key]).run P w = .ok (.tuple #[]) { w with heap := w.heap.setIfInBounds p.b (.map l' clock) } → ∃ av s', Gets P op w0 ρ (execOp a.eval o) w av s' ∧ Sub (k av s') F := by
    intro es' l' hF hr' hr2
    rw [St.setK_eq] at hF
    have hnew := hH.turn (o := .map es' clock) hp hlive hB (putObj_turned (.map l' clock)) ⟨hB, l', putObj_same _ (hH.blk _ _ hp), hr'⟩
    refine oo hF (v := .tuple #[]) ?_ (.refl _) ⟨[], rfl, rfl⟩ hnew
    rw [hrun, args2 hargs]
    simp [builtin, hr2, Result.andThen]
  rcases dropK_ok' T hb hn3 hd h2 hg es l.toList 0 _ hr hF with ⟨es', hF, hn, hr'⟩ | ⟨es', e', j, hF, hn, hj, hr'⟩
  · refine done es' l hF hr' ?_
    simp only [Builtin.delete_, hct, List.getElem?_toArray, List.getElem?_cons_zero, List.getElem?_cons_succ, Sem.run_bind, run_underlying T ht, Result.andThen, h1, hgo, run_checkKey T hd hdb, run_findKey T hd hn, hset, Sem.run_pure]
  · refine done es' (l.eraseIdxIfInBounds j) hF (by rw [Array.eraseIdxIfInBounds]; simp only [Array.length_toList] at hj; rw [dif_pos hj]; simpa using hr') ?_
    simp only [Builtin.delete_, hct, List.getElem?_toArray, List.getElem?_cons_zero, List.getElem?_cons_succ, Sem.run_bind, run_underlying T ht, Result.andThen, h1, hgo, run_checkKey T hd hdb, run_findKey T hd hn, hset, Sem.run_pure, Nat.zero_add]
include K
theorem op_cvp_to {x : Operand} {y : Src} {src dst t : TypeId} {n : Nat} (hop : o.op = .convert src dst x) (hs : undC ti src = some (.pointer t)) (hd : undC ti dst = some .unsafePointer) (hn : sizeC ti t = some (n + 1)) (hx : srcC ti x = some y) :
    ReadOk P op ρ s w (oCvp (fun _ _ _ => true) y f s) (execOp a.eval o) := by
  intro F k hg hF
  have h1 := src_ok hS hG hx
  unfold oCvp at hF
  generalize y.ev f = X at h1 hF
  obtain ⟨id, off, e1, hF⟩ := asPtr_inv hg hF
  subst e1
  obtain ⟨p, hp, h1⟩ := h1
  obtain ⟨te, c, m, z, r, b, ho, hF⟩ := asRow_inv hg hF
  have hob := hH.obj id p hp
  rw [ho] at hob
  obtain ⟨cc, lo, hi, vs, hb, hr⟩ := hob
  obtain ⟨g1, hF⟩ := guard_inv hg hF
  obtain ⟨g2, hF⟩ := guard_inv hg hF
  obtain ⟨g3, hF⟩ := guard_inv hg hF
  have g1 : off < m := Nat.le_of_ble_eq_true g1
  refine rd (v := .pointer (some ⟨p.b, p.base + off, none⟩)) hF ?_ ⟨p, hp, rfl⟩
  have hsh : w.shape? p.b = some (te, cc.size) := by simp [World.shape?, hb]
  have hlt : ¬ cc.size ≤ p.base + off := by have := hr.size; have := hr.le; omega
  simp [execOp, hop, convert, run_underlying T hs, run_underlying T hd, h1, Result.andThen, Conv.unsafePointer, Conv.seenAt, viewAt, hsh, cellsIn, hlt, run_sizeOf T hn]
theorem op_cvp_from {x : Operand} {y : Src} {src dst u : TypeId} {n : Nat} (hop : o.op = .convert src dst x) (hs : undC ti src = some .unsafePointer) (hd : undC ti dst = some (.pointer u)) (hn : sizeC ti u = some (n + 1)) (hx : srcC ti x = some y) :
    ReadOk P op ρ s w (oCvp (fun e n off => okTo e n off u) y f s) (execOp a.eval o) := by
  intro F k hg hF
  have h1 := src_ok hS hG hx
  unfold oCvp at hF
  generalize y.ev f = X at h1 hF
  obtain ⟨id, off, e1, hF⟩ := asPtr_inv hg hF
  subst e1
  obtain ⟨p, hp, h1⟩ := h1
  obtain ⟨te, c, m, z, r, b, ho, hF⟩ := asRow_inv hg hF
  have hob := hH.obj id p hp
  rw [ho] at hob
  obtain ⟨cc, lo, hi, vs, hb, hr⟩ := hob
  obtain ⟨g1, hF⟩ := guard_inv hg hF
  obtain ⟨g2, hF⟩ := guard_inv hg hF
  obtain ⟨g3, hF⟩ := guard_inv hg hF
  have g1 : off < m := Nat.le_of_ble_eq_true g1
  refine rd (v := .pointer (some ⟨p.b, p.base + off, none⟩)) hF ?_ ⟨p, hp, rfl⟩
  have hbase := hr.begins g2
  have hsh : w.shape? p.b = some (te, cc.size) := by simp [World.shape?, hb]
  have hl : liesAt P P.depth te (cc.size / P.cellsOf te) off u 1 = true := by
    have g3 : okTo te m off u = true := g3
    rw [K] at g3
    have h1 := hr.size
    have h2 := hr.le
    exact liesAt_mono (Nat.div_le_div_right (by omega)) _ _ _ g3
  simp [execOp, hop, convert, run_underlying T hs, run_underlying T hd, h1, Result.andThen, Conv.unsafePointer, Conv.seenAt, viewAt, hsh, run_sizeOf T hn, variablesAt, hbase, hl]
theorem op_ustr {x n : Operand} {x' n' : Src} {c : Call} {t e : Nat} (hop : o.op = .call c) (hcal : c.callee = .builtin .unsafeString) (hargs : c.args.toList = [x, n]) (hct : c.argTypes[0]? = some t) (ht : undC ti t = some (.pointer e)) (he : undC ti e = some (.int .u8)) (hok : okTo e 1 0 e = true) (hx : srcC ti x = some x') (hn : srcC ti n = some n') :
    OpOk P op w0 ρ s w (oUstr e x' n' f s) (execOp a.eval o) := by
  intro F k hg hF
  have h1 := src_ok hS hG hx
  unfold oUstr at hF
  generalize x'.ev f = X at h1 hF
  obtain ⟨j, m, hm, hF⟩ := intNat_src T hS hG hH hn hg hF
  obtain ⟨cs, hrun⟩ := builtin_run (P := P) (a := a) hop hcal
  have hcx : ∀ (v : AV) (k1 : Res) (k2 : Nat → Nat → Res), F = v.casePtr k1 k2 → (v = .nilp ∧ F = k1) ∨ ∃ i o, v = .ptr i o ∧ F = k2 i o := by
    intro v k1 k2 h
    cases v <;> first | exact .inl ⟨rfl, h⟩ | exact .inr ⟨_, _, rfl, h⟩ | (rw [h] at hg; exact hg.elim)
  have hu8 := T.und e
  cases m with
  | zero =>
    have hF : F = X.casePtr (k (.str .nil) s) fun _ _ => k (.str .nil) s := hF
    have hxp : (∃ p, a.eval x = .pointer p) ∧ F = k (.str .nil) s := by
      rcases hcx _ _ _ hF with ⟨rfl, hF⟩ | ⟨i, o1, rfl, hF⟩
      · exact ⟨⟨none, h1⟩, hF⟩
      · obtain ⟨p, hp, h1⟩ := h1; exact ⟨⟨_, h1⟩, hF⟩
    obtain ⟨⟨p, hxp⟩, hF⟩ := hxp
    refine oo hF (v := .string .empty) (w' := w) ?_ (.refl _) ⟨trivial, rfl⟩ hH
    rw [hrun, args2 hargs, hxp, hm]
    obtain ⟨tl, htl⟩ := headType hct
    have := ustr_zero (P := P) (l := tl) (t := t) o.type p j w
    rw [← htl] at this
    simp only [builtin, Sem.run_bind]
    rw [show ((0 : Nat) : Int) = 0 from rfl, this]
    rfl
  | succ m =>
    have hF : F = X.asPtr fun id off => (s.get id).asRow fun e' c t z r b => guardK (Nat.beq e e') (Bool.rec (motive := fun _ => Res)
      (guardK b (guardK (Nat.ble (m + 1) 16777216) (guardK (Nat.ble (Nat.add off (m + 1)) t) (c.dropK off fun d => d.takeK (m + 1) fun l => l.bytesK fun bs => s.setK id (.row e' c t (nmax z (Nat.add off (m + 1))) r b) fun s' => k (.str bs) s')))) .fail r) := hF
    obtain ⟨id, off, e1, hF1⟩ := asPtr_inv hg hF
    clear hF
    subst e1
    obtain ⟨p, hp, h1⟩ := h1
    obtain ⟨te, cs', n', z, r, b, ho, hF⟩ := asRow_inv hg hF1
    clear hF1
    have hob := hH.obj id p hp
    rw [ho] at hob
    obtain ⟨cc, lo, hi, vs, hb, hr⟩ := hob
    obtain ⟨ge, hF1⟩ := guard_inv hg hF
    clear hF
    have ge := Nat.eq_of_beq_eq_true ge
    subst ge
    cases r with
    | true => rw [hF1] at hg; exact hg.elim
    | false =>
      obtain ⟨gb, hF⟩ := guard_inv hg hF1
      clear hF1
      obtain ⟨gm, hF1⟩ := guard_inv hg hF
      clear hF
      have gm := Nat.le_of_ble_eq_true gm
      obtain ⟨g2, hF⟩ := guard_inv hg hF1
      clear hF1
      have hF1 := hF
      clear hF
      have g2 : off + (m + 1) ≤ n' := Nat.le_of_ble_eq_true g2
      obtain ⟨d, ⟨hd1, hd2⟩, hF⟩ := Out.inv hg hF1 (dropK_ok op cs' off _ hr.cells)
      clear hF1
      obtain ⟨l, ⟨hl1, hl2⟩, hF1⟩ := Out.inv hg hF (takeK_ok op d _ _ hd2)
      clear hF
      obtain ⟨bs, ⟨hbs, e2⟩, hF⟩ := Out.inv hg hF1 (bytesK_ok l _ hl2)
      clear hF1
      rw [St.setK_eq] at hF
      have hbase := hr.begins gb
      have hlen : bs.toBytes.length = m + 1 := by
        have h1 := congrArg List.length e2
        have h2 := hr.len
        simp at h1
        omega
      have hload := run_loadBytes (P := P) bs.toBytes w p.b (p.base + off) .empty (fun j x hj => by
        have h1 : ((vs.drop off).take (m + 1))[j]? = some (.int .u8 x.toNat) := by rw [e2]; simp [hj]
        rw [List.getElem?_take] at h1
        split at h1
        · rw [List.getElem?_drop] at h1
          rw [Nat.add_assoc]; exact hr.cell hb h1
        · cases h1)
      rw [hlen] at hload
      have hsh : w.shape? p.b = some (e, cc.size) := by simp [World.shape?, hb]
      have hue : P.underlying e = some (.int .u8) := by
        unfold undC at he
        split at he
        · rename_i te hte; injection he with he; rw [T.und e te hte, he]
        · cases he
      have hlies : liesAt P P.depth e (cc.size / P.cellsOf e) (p.base + off) e (m + 1) = true := by
        rw [K] at hok
        refine lies_bytes hue hok ?_
        have h1 := hr.size
        have h2 := hr.le
        omega
      have hnew : HRel op w0 ρ (s.set id (.row e cs' n' (nmax z (off + (m + 1))) false b)) (w.freeze ⟨p.b, p.base + off, none⟩ (m + 1)) := by
        refine hH.turn hp (by rw [ho]; trivial) (hr.own rfl) freeze_turned ?_
        have hmax : nmax z (off + (m + 1)) = max z (off + (m + 1)) := by
          unfold nmax
          cases hb : Nat.ble z (off + (m + 1)) with
          | true => have := Nat.le_of_ble_eq_true hb; show off + (m + 1) = _; omega
          | false => have : ¬ z ≤ off + (m + 1) := fun hh => by rw [Nat.ble_eq_true_of_le hh] at hb; cases hb
                     show z = _; omega
        have hloh := hr.lohi
        rw [freeze_block (Nat.succ_ne_zero m) hb]
        by_cases hlh : lo = hi
        · rw [if_pos (by simp [hlh])]
          exact ⟨cc, _, _, vs, rfl, { hr with lohi := by omega, frozen := fun _ => .inl (by rw [hmax]; omega) }⟩
        · rw [if_neg (by simp [hlh])]
          refine ⟨cc, _, _, vs, rfl, { hr with lohi := by omega, frozen := fun _ => .inl ?_ }⟩
          rcases hr.frozen (by omega) with h | ⟨h, _⟩
          · rw [hmax]; omega
          · rw [gb] at h; cases h
      refine oo hF (v := .string bs.arr) ?_ (.refl _) ⟨hbs, rfl⟩ hnew
      rw [hrun, args2 hargs, h1, hm]
      have hmx : ¬ (((m + 1 : Nat) : Int) > IntKind.i64.max) := by
        have : IntKind.i64.max = 9223372036854775807 := by decide
        rw [this]; omega
      obtain ⟨tl, htl⟩ := headType hct
      obtain ⟨X1, X2, X3, X4, heq⟩ := ustr_some (l := tl) (t := t) o.type ⟨p.b, p.base + off, none⟩ j ((m + 1 : Nat) : Int)
      rw [← htl] at heq
      have : (Builtin.unsafeString_ c.argTypes o.type #[.pointer (some ⟨p.b, p.base + off, none⟩), .int j ((m + 1 : Nat) : Int)]).run P w = .ok (.string bs.arr) (w.freeze ⟨p.b, p.base + off, none⟩ (m + 1)) := by
        rw [heq, if_neg (by omega), if_neg hmx, if_neg (by omega)]
        have harr : (⟨ByteArray.empty.data ++ bs.toBytes.toArray⟩ : ByteArray) = bs.arr := by simp [BL.arr]
        simp only [elemOf, Sem.run_bind, run_underlying T ht, Result.andThen, Sem.run_pure, variablesAt, run_program, run_shape, hsh, Int.toNat_natCast, hlies, if_true, hload, run_freeze, harr]
      simp only [builtin, Sem.run_bind, this, Result.andThen, Sem.run_pure]
end
end
end Go.Ax
end
section
namespace Go.Ax
open Go Go.RowKit
noncomputable section
set_option linter.unusedSectionVars false
set_option linter.unusedVariables false
set_option linter.unusedSimpArgs false
/- ### Every operation that is no call -/
def notCall : COp → Prop
  | .callf _ _ | .callv _ _ | .bad => False
  | _ => True
section
variable {P : Program} {op : Nat → Value} {w0 : Base} {ti : TI} (T : TiOk P ti) {okTo : Nat → Nat → Nat → Nat → Bool} (K : OkTo P okTo) (hop1 : ∀ n, (op n).oneCell' = true)
/-- What is shown of an operation, by its kind. -/
def Kept (P : Program) (op : Nat → Value) (w0 : Base) (ρ : Rho) (s : St) (w : World) (f : NC) (a : Act) (E : Env) (ih : IH) (o : Oper) (c : COp) : Prop :=
  (kindC c ≤ 1 ∧ ReadOk P op ρ s w (runOp c E ih f s) (execOp a.eval o)) ∨ (kindC c = 2 ∧ MadeOk P op w0.heap.size ρ s (runOp c E ih f s) (execOp a.eval o)) ∨ (kindC c = 3 ∧ OpOk P op w0 ρ s w (runOp c E ih f s) (execOp a.eval o))
variable {ρ : Rho} {s : St} {w : World} {f : NC} {a : Act} {o : Oper} (hS : Opd op ρ ti f a o) (hG : GRel ti ρ) (hH : HRel op w0 ρ s w) {E : Env} {ih : IH}
theorem Kept.r {c : COp} (hk : kindC c ≤ 1) (h : ReadOk P op ρ s w (runOp c E ih f s) (execOp a.eval o)) : Kept P op w0 ρ s w f a E ih o c := .inl ⟨hk, h⟩
theorem Kept.m {c : COp} (hk : kindC c = 2) (h : MadeOk P op w0.heap.size ρ s (runOp c E ih f s) (execOp a.eval o)) : Kept P op w0 ρ s w f a E ih o c := .inr (.inl ⟨hk, h⟩)
theorem Kept.e {c : COp} (hk : kindC c = 3) (h : OpOk P op w0 ρ s w (runOp c E ih f s) (execOp a.eval o)) : Kept P op w0 ρ s w f a E ih o c := .inr (.inr ⟨hk, h⟩)
theorem undC_of {t : Nat} {e : TE} {d : TypeDesc} (he : ti t = some e) (hd : e.und = d) : undC ti t = some d := by simp only [undC, he, hd]
include T K hop1 hS hG hH
theorem builtin_kept {c : Call} {b : Builtin} {d : COp} (hop : o.op = .call c) (hcal : c.callee = .builtin b) (hc : builtinC ti okTo c b = some d) : Kept P op w0 ρ s w f a E ih o d := by
  unfold builtinC at hc
  split at hc
  · cases hc
  · rename_i t hct
    split at hc
    · rename_i x hu hargs
      split at hc
      · rename_i y hx; cases hc; exact .r (Nat.zero_le _) (op_lens T hS hG hH hop hcal hargs hct hu hx)
      · cases hc
    · rename_i e x hu hargs
      split at hc
      · rename_i y hx; cases hc; exact .r (Nat.zero_le _) (op_lenl T hS hG hH hop hcal hargs hct hu hx)
      · cases hc
    · rename_i u v x hu hargs
      split at hc
      · rename_i y hx; cases hc; exact .r (Nat.le_refl _) (op_lenm T hS hG hH hop hcal hargs hct hu hx)
      · cases hc
    · rename_i n e x hu hargs
      cases hc; exact .r (Nat.zero_le _) (op_lenarr T hS hG hH hop hcal hargs hct hu)
    · rename_i e x hu hargs
      split at hc
      · rename_i y hx; cases hc; exact .r (Nat.zero_le _) (op_cap T hS hG hH hop hcal hargs hct hu hx)
      · cases hc
    · rename_i e x y hu hargs
      split at hc
      · cases hc
      · rename_i d1 n sx sy hnt hd1 hn hx hy
        split at hc
        · rename_i te he
          split at hc
          · rename_i hby
            split at hc
            · rename_i z hz
              split at hc
              · rename_i hzl
                cases hc
                have hsz : te.info.size = n + 1 := by simp only [sizeC, he] at hn; injection hn
                refine .e rfl (op_append T hS hG hH hop hcal hargs hct hu (t1 := c.argTypes.getD 1 0) (d1 := d1) ?_ he hsz (Nat.succ_pos _) hby hz hzl hx hy)
                cases h1 : c.argTypes[1]? with
                | none => exact .inl rfl
                | some t1 =>
                  have e1 : c.argTypes.getD 1 0 = t1 := by simp [Array.getD_eq_getD_getElem?, h1]
                  refine .inr ⟨by rw [e1], hd1, fun k hk => ?_⟩
                  subst hk
                  exact hnt k rfl
              · cases hc
            · cases hc
          · cases hc
        · cases hc
      · cases hc
    · rename_i e x y hu hargs
      split at hc
      · rename_i n sx sy hn hx hy; cases hc; exact .e rfl (op_copy T hS hG hH hop hcal hargs hct hu hn hx hy)
      · cases hc
    · rename_i e x hu hargs
      split at hc
      · rename_i te z sx he hz hx
        split at hc
        · cases hc
        · rename_i hz0; cases hc; exact .e rfl (op_clear T hS hG hH hop hcal hargs hct hu hz hz0 hx)
      · cases hc
    · rename_i k x y hu hargs
      split at hc
      · rename_i sx sy hx hy; cases hc; exact .r (Nat.zero_le _) (op_minmax T hS hG hH (mx := false) hop hcal hargs hx hy)
      · cases hc
    · rename_i k x y hu hargs
      split at hc
      · rename_i sx sy hx hy; cases hc; exact .r (Nat.zero_le _) (op_minmax T hS hG hH (mx := true) hop hcal hargs hx hy)
      · cases hc
    · rename_i x y hu hargs
      split at hc
      · rename_i sx sy hx hy; cases hc; exact .r (Nat.zero_le _) (op_mms T hS hG hH (mx := false) hop hcal hargs hx hy)
      · cases hc
    · rename_i x y hu hargs
      split at hc
      · rename_i sx sy hx hy; cases hc; exact .r (Nat.zero_le _) (op_mms T hS hG hH (mx := true) hop hcal hargs hx hy)
      · cases hc
    · rename_i k v m x hu hargs
      split at hc
      · rename_i n sm sx hk hm hx; cases hc; exact .e rfl (op_delete T hS hG hH hop hcal hargs hct hu hk hm hx)
      · cases hc
    · rename_i x hargs
      split at hc
      · rename_i y hx; cases hc; exact .e rfl ((op_sdata T hS hG hH hop1 hop hcal hargs hx).toOp hH)
      · cases hc
    · rename_i e x n hu hargs
      split at hc
      · rename_i sx sn hx hn
        split at hc
        · rename_i hu8
          split at hc
          · rename_i hok; cases hc; exact .e rfl (op_ustr T K hS hG hH hop hcal hargs hct hu hu8 hok hx hn)
          · cases hc
        · cases hc
      · cases hc
    · cases hc
theorem conv_kept {src dst : TypeId} {x : Operand} {d : COp} (hop : o.op = .convert src dst x) (hc : convC ti okTo src dst x = some d) : Kept P op w0 ρ s w f a E ih o d := by
  unfold convC at hc
  split at hc
  · rename_i k1 k y hs hd hx; cases hc; exact .r (Nat.zero_le _) (op_cvi T hS hG hH hop hs hd hx)
  · rename_i y hs hd hx; cases hc; exact .r (Nat.zero_le _) (op_cvs T hS hG hH hop hs hd hx)
  · rename_i e y hs hd hx
    split at hc
    · rename_i he; cases hc; exact .m rfl (op_s2b T hS hG hop1 hop hs hd he hx)
    · cases hc
  · rename_i e y hs hd hx
    split at hc
    · rename_i he; cases hc; exact .r (Nat.le_refl _) (op_b2s T hS hG hH hop hs hd he hx)
    · cases hc
  · rename_i t y hs hd hx
    split at hc
    · rename_i n hn; cases hc; exact .e rfl ((op_cvp_to T K hS hG hH hop hs hd hn hx).toOp hH)
    · cases hc
  · rename_i u y hs hd hx
    split at hc
    · rename_i n hn; cases hc; exact .e rfl ((op_cvp_from T K hS hG hH hop hs hd hn hx).toOp hH)
    · cases hc
  · cases hc
theorem cop_kept {c : COp} (hc : copC ti okTo o.op = some c) (hnc : notCall c) : Kept P op w0 ρ s w f a E ih o c := by
  have two : ∀ {t : Nat} {d : TypeDesc}, undC ti t = some d → ∃ e, ti t = some e ∧ e.und = d := by
    intro t d h
    unfold undC at h
    split at h
    · rename_i e he; injection h with h; exact ⟨e, he, h⟩
    · cases h
  have hcop : ∀ x, o.op = x → copC ti okTo x = some c := fun x h => by rw [← h]; exact hc
  cases hop : o.op with
  | move x =>
    have hc := hcop _ hop
    simp only [copC] at hc
    split at hc
    · rename_i y hx; cases hc; exact .r (Nat.zero_le _) (op_mv T hS hG hH (.inl hop) hx)
    · cases hc
  | assign x =>
    have hc := hcop _ hop
    simp only [copC] at hc
    split at hc
    · rename_i y hx; cases hc; exact .r (Nat.zero_le _) (op_mv T hS hG hH (.inr hop) hx)
    · cases hc
  | pick x y z =>
    have hc := hcop _ hop
    simp only [copC] at hc
    split at hc
    · rename_i c' x' y' h1 h2 h3; cases hc; exact .r (Nat.zero_le _) (op_pick T hS hG hH hop h1 h2 h3)
    · cases hc
  | alloc e =>
    have hc := hcop _ hop
    simp only [copC] at hc
    split at hc
    · rename_i z hz; cases hc; exact .m rfl (op_alloc T hS hG hop1 hop hz)
    · cases hc
  | box e x =>
    have hc := hcop _ hop
    simp only [copC] at hc
    split at hc
    · rename_i y hx; cases hc; exact .m rfl (op_box T hS hG hop1 hop hx)
    · cases hc
  | build t ps =>
    have hc := hcop _ hop
    simp only [copC] at hc
    split at hc
    · rename_i fs z hu hz
      split at hc
      · rename_i hall
        split at hc
        · rename_i l hl; cases hc; exact .r (Nat.zero_le _) (op_build_struct T hS hG hop1 hop hu hz hall hl)
        · cases hc
      · cases hc
    · rename_i m e z hu hz
      split at hc
      · rename_i n hn
        split at hc
        · rename_i l hl; cases hc; exact .r (Nat.zero_le _) (op_build_array T hS hG hop1 hop hu hz hn hl)
        · cases hc
      · cases hc
    · cases hc
  | buildSlice t len ps =>
    have hc := hcop _ hop
    simp only [copC] at hc
    split at hc
    · rename_i e hu
      split at hc
      · rename_i z n hz hn
        split at hc
        · rename_i hle
          split at hc
          · rename_i l hl; cases hc; exact .m rfl (op_bsl T hS hG hop1 hop hu hz hn hle.1 hle.2 hl)
          · cases hc
        · cases hc
      · cases hc
    · cases hc
  | load t x =>
    have hc := hcop _ hop
    simp only [copC] at hc
    split at hc
    · rename_i e y he hx
      split at hc
      · rename_i ha; cases hc; exact .r (Nat.le_refl _) (op_ldn T hS hG hH hop he ha hx)
      · rename_i ha; cases hc; exact .r (Nat.le_refl _) (op_ld1 T hS hG hH hop he (by simpa using ha) hx)
    · cases hc
  | store t x v =>
    have hc := hcop _ hop
    simp only [copC] at hc
    split at hc
    · rename_i n y u hn hx hv; cases hc; exact .e rfl (op_st T hS hG hH hop1 hop hn hx hv)
    · cases hc
  | nilCheck x =>
    have hc := hcop _ hop
    simp only [copC] at hc
    split at hc
    · rename_i y hx; cases hc; exact .r (Nat.zero_le _) (op_nilck T hS hG hH hop hx)
    · cases hc
  | binOp b t x y t' =>
    have hc := hcop _ hop
    simp only [copC] at hc
    split at hc
    · rename_i k x' y' hu hx hy; cases hc; exact .r (Nat.zero_le _) (op_bin T hS hG hH hop hx hy)
    · rename_i x' y' hu hx hy; cases hc; exact .r (Nat.zero_le _) (op_bin T hS hG hH hop hx hy)
    · rename_i ms x' y' hu hx hy
      split at hc
      · cases hc; exact .r (Nat.zero_le _) (op_eqifc T hS hG hH (neg := false) hop hu hx hy)
      · cases hc; exact .r (Nat.zero_le _) (op_eqifc T hS hG hH (neg := true) hop hu hx hy)
      · cases hc
    · rename_i u x' y' hu hx hy
      split at hc
      · rename_i n hm; cases hc; exact .r (Nat.le_refl _) (op_eqp T hS hG hH (neg := false) hop hu hm hx hy)
      · rename_i n hm; cases hc; exact .r (Nat.le_refl _) (op_eqp T hS hG hH (neg := true) hop hu hm hx hy)
      · cases hc
    · rename_i d x' y' hni hns hif hpt hu hx hy
      obtain ⟨e, he, hd⟩ := two hu
      subst hd
      split at hc
      · rename_i p hp; cases hc; exact .r (Nat.zero_le _) (op_eq T hS hG hH (neg := false) hop he (fun ms h => hif ms h) (fun k h => hni k h) (fun h => hns h) hp hx hy)
      · rename_i p hp; cases hc; exact .r (Nat.zero_le _) (op_eq T hS hG hH (neg := true) hop he (fun ms h => hif ms h) (fun k h => hni k h) (fun h => hns h) hp hx hy)
      · cases hc
    · cases hc
  | unOp u t x =>
    have hc := hcop _ hop
    simp only [copC] at hc
    split at hc
    · rename_i y hx; cases hc; exact .r (Nat.zero_le _) (op_un T hS hG hH hop hx)
    · cases hc
  | convert src dst x =>
    have hc := hcop _ hop
    simp only [copC] at hc
    exact conv_kept T K hop1 hS hG hH hop hc
  | makeInterface t x =>
    have hc := hcop _ hop
    simp only [copC] at hc
    split at hc
    · cases hc
    · rename_i d y hni hu hx; cases hc; exact .r (Nat.zero_le _) (op_mkifc T hS hG hH hop hu (fun ms h => hni ms h) hx)
    · cases hc
  | makeFunc g xs cs =>
    have hc := hcop _ hop
    simp only [copC] at hc
    split at hc
    · rename_i g' x y hx hy; cases hc; exact .r (Nat.zero_le _) (op_mkfn T hS hG hH hop hx hy)
    · cases hc
  | makeMap t r =>
    have hc := hcop _ hop
    cases r with
    | none => simp only [copC] at hc; cases hc; exact .m rfl (op_mkmap (f := f) hop)
    | some r => simp only [copC] at hc; cases hc
  | makeSlice t l c' =>
    have hc := hcop _ hop
    simp only [copC] at hc
    split at hc
    · rename_i e hu
      split at hc
      · rename_i te z l' c2 he hz hl hcc
        split at hc
        · cases hc
        · rename_i hsz
          cases hc
          exact .m rfl (op_mksl T hS hG hop1 hop hu he hz (fun h => hsz (.inl h)) (Classical.byContradiction fun h => hsz (.inr h)) hl hcc)
      · cases hc
    · cases hc
  | slice t x lo hi mx =>
    have hc := hcop _ hop
    simp only [copC] at hc
    split at hc
    · rename_i x' lo' hi' hu hx hl hh hm
      cases hc
      have hmx : mx = none := by
        cases mx with
        | none => rfl
        | some m => simp only [osrcC] at hm; split at hm <;> cases hm
      subst hmx
      exact .r (Nat.zero_le _) (op_slstr T hS hG hH hop hu hx hl hh)
    · rename_i e x' lo' hi' mx' hu hx hl hh hm
      split at hc
      · rename_i n hn
        split at hc
        · cases hc
        · rename_i hmh
          cases hc
          refine .r (Nat.zero_le _) (op_slsl T hS hG hH hop hu hn hx hl hh hm fun h => ?_)
          cases mx with
          | none => cases h
          | some m =>
            cases hi with
            | some v => rfl
            | none =>
              simp only [osrcC] at hm hh
              cases hh
              split at hm
              · cases hm; exact (hmh _ rfl rfl).elim
              · cases hm
      · cases hc
    · cases hc
  | fieldAddr t x i =>
    have hc := hcop _ hop
    simp only [copC] at hc
    split at hc
    · rename_i fs y hu hx
      split at hc
      · rename_i off n hf; cases hc; exact .r (Nat.zero_le _) (op_faddr T hS hG hH hop hu hf hx)
      · cases hc
    · cases hc
  | field t x i =>
    have hc := hcop _ hop
    simp only [copC] at hc
    split at hc
    · rename_i fs y hu hx
      split at hc
      · rename_i fl hf
        split at hc
        · rename_i e he; cases hc; exact .r (Nat.zero_le _) (op_fld T hS hG hH hop hu hf he hx)
        · cases hc
      · cases hc
    · cases hc
  | indexAddr t x i =>
    have hc := hcop _ hop
    simp only [copC] at hc
    split at hc
    · rename_i e y z hu hx hi
      split at hc
      · rename_i n hn; cases hc; exact .r (Nat.zero_le _) (op_ixsl T hS hG hH hop hu hn hx hi)
      · cases hc
    · rename_i m e y z hu hx hi
      split at hc
      · rename_i n hn; cases hc; exact .r (Nat.zero_le _) (op_ixarr T hS hG hH hop hu hn hx hi)
      · cases hc
    · cases hc
  | index t x i =>
    have hc := hcop _ hop
    simp only [copC] at hc
    split at hc
    · rename_i y z hu hx hi; cases hc; exact .r (Nat.zero_le _) (op_ixstr T hS hG hH hop hu hx hi)
    · cases hc
  | lookup t m k ok =>
    have hc := hcop _ hop
    simp only [copC] at hc
    split at hc
    · rename_i kt e hu
      split at hc
      · rename_i p z m' k' hk hz hm hkey; cases hc; exact .r (Nat.le_refl _) (op_lookup T hS hG hH hop hu hk hz hm hkey)
      · cases hc
    · cases hc
  | mapUpdate t m k v =>
    have hc := hcop _ hop
    simp only [copC] at hc
    split at hc
    · rename_i kt e hu
      split at hc
      · rename_i p m' k' v' hk hm hkey hv; cases hc; exact .e rfl (op_mapset T hS hG hH (.inl hop) hu hk hm hkey hv)
      · cases hc
    · cases hc
  | insert t m k v =>
    have hc := hcop _ hop
    simp only [copC] at hc
    split at hc
    · rename_i kt e hu
      split at hc
      · rename_i p m' k' v' hk hm hkey hv; cases hc; exact .e rfl (op_mapset T hS hG hH (.inr hop) hu hk hm hkey hv)
      · cases hc
    · cases hc
  | range t x =>
    have hc := hcop _ hop
    simp only [copC] at hc
    split at hc
    · rename_i y hu hx; cases hc; exact .e rfl (op_rngs T hS hG hH hop hu hx)
    · rename_i u v y hu hx; cases hc; exact .e rfl (op_rngm T hS hG hH hop hu hx)
    · cases hc
  | next x str =>
    have hc := hcop _ hop
    simp only [copC] at hc
    split at hc
    · rename_i y hx
      cases hc
      cases str with
      | true => exact .e rfl (op_nexts hS hG hH hop hx)
      | false => exact .e rfl (op_nextm hS hG hH hop hx)
    · cases hc
  | entry x =>
    have hc := hcop _ hop
    simp only [copC] at hc
    split at hc
    · rename_i y hx; cases hc; exact .e rfl ((op_entry T hS hG hH hop hx).toOp hH)
    · cases hc
  | typeAssert x xt t ok =>
    have hc := hcop _ hop
    simp only [copC] at hc
    split at hc
    · rename_i ms z y hu hz hx; cases hc; exact .r (Nat.zero_le _) (op_iassert T hS hG hH hop hu hz hx)
    · rename_i d z y hni hu hz hx; cases hc; exact .r (Nat.zero_le _) (op_tassert T hS hG hH hop hu (fun ms h => hni ms h) hz hx)
    · cases hc
  | extract x i =>
    have hc := hcop _ hop
    simp only [copC] at hc
    split at hc
    · rename_i y hx; cases hc; exact .r (Nat.zero_le _) (op_extract T hS hG hH hop hx)
    · cases hc
  | call cl =>
    have hc := hcop _ hop
    simp only [copC] at hc
    split at hc
    · rename_i b hb; exact builtin_kept T K hop1 hS hG hH hop hb hc
    · split at hc
      · cases hc; exact hnc.elim
      · cases hc
    · split at hc
      · cases hc; exact hnc.elim
      · cases hc
    · cases hc
  | _ => have hc := hcop _ hop; simp only [copC] at hc; cases hc
end
end
end Go.Ax
end
