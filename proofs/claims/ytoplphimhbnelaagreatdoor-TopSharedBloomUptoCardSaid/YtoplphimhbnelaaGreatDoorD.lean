/-
  The reckoner is sound, third part: regions that draw their order, code, loops, calls, defers, ranges over functions.
-/
import Derived.Test.YtoplphimhbnelaaGreatDoorC
import Derived.RangeFuncRecord
import Derived.RangeFuncLeaves
import Derived.OrdersIn
set_option linter.all false
set_option linter.unusedVariables false
set_option linter.unusedSimpArgs false
section
namespace Go.Ax
open Go Go.RowKit
noncomputable section
set_option linter.unusedSectionVars false
set_option linter.unusedVariables false
set_option linter.unusedSimpArgs false
/- ### Outcomes put together -/
theorem app_good : ∀ (x y : Res), (x.app y).good → x.good ∧ y.good ∧ ∀ a f s, (x.has a f s ∨ y.has a f s) → (x.app y).has a f s
  | .fail, _, h => h.elim
  | .nil, _, h => ⟨trivial, h, fun _ _ _ h => h.elim False.elim id⟩
  | .ok x f s m, y, h => by
    obtain ⟨h1, h2, h3⟩ := app_good m y h
    exact ⟨h1, h2, fun a f' s' h => by
      rcases h with (h | h) | h
      · exact .inl h
      · exact .inr (h3 _ _ _ (.inl h))
      · exact .inr (h3 _ _ _ (.inr h))⟩
theorem sub_app_l {x y : Res} : Sub x (x.app y) := fun g => ⟨(app_good x y g).1, fun a f s h => (app_good x y g).2.2 _ _ _ (.inl h)⟩
theorem sub_app_r {x y : Res} : Sub y (x.app y) := fun g => ⟨(app_good x y g).2.1, fun a f s h => (app_good x y g).2.2 _ _ _ (.inr h)⟩
theorem bind_good {g : Ex → Fr → St → Res} : ∀ (r : Res), (r.bind g).good → r.good ∧ ∀ x f s, r.has x f s → Sub (g x f s) (r.bind g)
  | .fail, h => h.elim
  | .nil, h => ⟨trivial, fun _ _ _ h => h.elim⟩
  | .ok x f s .nil, h => ⟨trivial, fun x' f' s' h' => by
      rcases h' with ⟨rfl, rfl, rfl⟩ | h'
      · exact .refl _
      · exact h'.elim⟩
  | .ok x f s .fail, h => h.elim
  | .ok x f s (.ok x2 f2 s2 m), h => by
    have h : ((g x f s).app ((Res.ok x2 f2 s2 m).bind g)).good := h
    obtain ⟨h1, h2, h3⟩ := app_good _ _ h
    obtain ⟨g1, g2⟩ := bind_good (.ok x2 f2 s2 m) h2
    refine ⟨g1, fun x' f' s' h' => ?_⟩
    show Sub (g x' f' s') ((g x f s).app ((Res.ok x2 f2 s2 m).bind g))
    rcases h' with ⟨rfl, rfl, rfl⟩ | h'
    · exact sub_app_l
    · exact (g2 _ _ _ h').trans sub_app_r
/- ### Frames -/
def exOf : Ex → Exit
  | .normal => .normal
  | .exit n => .exit n
  | .goto l => .goto l
  | .ret => .ret
def DRel (P : Program) (op : Nat → Value) (ρ : Rho) : DL → List Deferred → Prop
  | .nil, l => l = []
  | .call f a t, l => ∃ d l' v vs, l = d :: l' ∧ VRel op ρ f v ∧ LRel op ρ a vs ∧ (∀ w, (Deferred.ofValue v vs.toArray).run P w = .ok d w) ∧ DRel P op ρ t l'
  | .mark id t, l => ∃ l' p, l = { target := .collected p.b, args := #[] } :: l' ∧ ρ id = some p ∧ DRel P op ρ t l'
theorem DRel.mono {P : Program} {op : Nat → Value} {ρ ρ' : Rho} (h : ρ.sub ρ') : ∀ {d : DL} {l : List Deferred}, DRel P op ρ d l → DRel P op ρ' d l
  | .nil, _, hl => hl
  | .call _ _ _, _, ⟨d, l', v, vs, h1, h2, h3, h4, h5⟩ => ⟨d, l', v, vs, h1, h2.mono op h, h3.mono op h, h4, h5.mono h⟩
  | .mark _ _, _, ⟨l', p, h1, h2, h3⟩ => ⟨l', p, h1, h _ _ h2, h3.mono h⟩
structure FrOk (P : Program) (op : Nat → Value) (ρ : Rho) (rd : Bool) (nt : Nat) (f : Fr) (a : Act) : Prop where
  slots : SRel op ρ f.s a.tmps
  defers : DRel P op ρ f.d a.defers
  erd : f.rd = rd
  ent : f.nt = nt
  size : nt ≤ a.tmps.size
  small : nt ≤ 512
theorem FrOk.mono {P : Program} {op : Nat → Value} {ρ ρ' : Rho} {rd : Bool} {nt : Nat} {f : Fr} {a : Act} (h : ρ.sub ρ') (hf : FrOk P op ρ rd nt f a) : FrOk P op ρ' rd nt f a :=
  ⟨hf.slots.mono h, hf.defers.mono h, hf.erd, hf.ent, hf.size, hf.small⟩
/-- The wide fence, in a round or not. -/
def Fc (r : Option Nat) : Fence := { Fence.wide with round := r }
section
variable (P : Program) (op : Nat → Value) (w0 : Base)
/-- Where the walk of code may come out. -/
def Post (ρ0 : Rho) (rd : Bool) (nt : Nat) (r : Res) : Exit → Act → World → Prop := fun e a w =>
  ∃ x f s ρ, r.has x f s ∧ ρ0.sub ρ ∧ HRel op w0 ρ s w ∧ FrOk P op ρ rd nt f a ∧ exOf x = e
/-- Outcomes that say less. -/
def Wk (a b : Res) : Prop := b.good → a.good ∧ ∀ x f s, a.has x f s → ∀ ρ w rd nt act, HRel op w0 ρ s w → FrOk P op ρ rd nt f act → ∃ f' s', b.has x f' s' ∧ HRel op w0 ρ s' w ∧ FrOk P op ρ rd nt f' act
variable {P op w0}
theorem Sub.wk {a b : Res} (h : Sub a b) : Wk P op w0 a b := fun g => ⟨(h g).1, fun x f s hh ρ w rd nt act h1 h2 => ⟨f, s, (h g).2 _ _ _ hh, h1, h2⟩⟩
theorem Wk.refl (a : Res) : Wk P op w0 a a := (Sub.refl a).wk
theorem Wk.trans {a b c : Res} (h : Wk P op w0 a b) (k : Wk P op w0 b c) : Wk P op w0 a c := fun g => by
  obtain ⟨g1, k1⟩ := k g
  obtain ⟨g2, h1⟩ := h g1
  refine ⟨g2, fun x f s hh ρ w rd nt act r1 r2 => ?_⟩
  obtain ⟨f', s', h2, h3, h4⟩ := h1 x f s hh ρ w rd nt act r1 r2
  exact k1 x f' s' h2 ρ w rd nt act h3 h4
theorem Post.wk {ρ0 : Rho} {rd : Bool} {nt : Nat} {a b : Res} (h : Wk P op w0 a b) (g : b.good) {e : Exit} {act : Act} {w : World} (hp : Post P op w0 ρ0 rd nt a e act w) : Post P op w0 ρ0 rd nt b e act w := by
  obtain ⟨x, f, s, ρ, h1, h2, h3, h4, h5⟩ := hp
  obtain ⟨f', s', k1, k2, k3⟩ := (h g).2 x f s h1 ρ w rd nt act h3 h4
  exact ⟨x, f', s', ρ, k1, h2, k2, k3, h5⟩
theorem Post.rho {ρ0 ρ1 : Rho} {rd : Bool} {nt : Nat} {a : Res} (h : ρ0.sub ρ1) {e : Exit} {act : Act} {w : World} (hp : Post P op w0 ρ1 rd nt a e act w) : Post P op w0 ρ0 rd nt a e act w := by
  obtain ⟨x, f, s, ρ, h1, h2, h3, h4, h5⟩ := hp
  exact ⟨x, f, s, ρ, h1, h.trans h2, h3, h4, h5⟩
theorem Post.one {ρ0 ρ : Rho} {rd : Bool} {nt : Nat} {x : Ex} {f : Fr} {s : St} {act : Act} {w : World} {e : Exit} (hs : ρ0.sub ρ) (h1 : HRel op w0 ρ s w) (h2 : FrOk P op ρ rd nt f act) (he : exOf x = e) : Post P op w0 ρ0 rd nt (.ok x f s .nil) e act w :=
  ⟨x, f, s, ρ, .inl ⟨rfl, rfl, rfl⟩, hs, h1, h2, he⟩
end
/- ### Slots written -/
theorem dstK_ok {op : Nat → Value} {ρ : Rho} {nt : Nat} {d : Option Tmp} {D : Dst} (hd : dstC nt d = some D) {v : AV} {u : Value} (hv : VRel op ρ v u ∨ v = .top) {f : NC} {a : Act} (hf : SRel op ρ f a.tmps) (hn : nt ≤ a.tmps.size) {F : Res} {k : NC → Res} (hF : F = D.setK v f k) :
    ∃ f', F = k f' ∧ SRel op ρ f' (a.put d u).tmps ∧ nt ≤ (a.put d u).tmps.size ∧ (a.put d u).defers = a.defers := by
  cases d with
  | none => cases hd; exact ⟨f, hF, hf, hn, rfl⟩
  | some t =>
    simp only [dstC] at hd
    split at hd
    · rename_i ht
      cases hd
      have hF : F = NC.setK (fpath t) v f k := hF
      rw [NC.setK_eq] at hF
      refine ⟨_, hF, fun i hi => ?_, by simpa [Act.put] using hn, rfl⟩
      simp only [Act.put]
      by_cases e : i = t
      · subst e
        rw [NC.get_same]
        have : i < a.tmps.size := Nat.lt_of_lt_of_le ht.1 hn
        simp only [Array.getD_eq_getD_getElem?, Array.getElem?_setIfInBounds, if_pos, this, Option.getD_some]
        rcases hv with hv | rfl
        · exact hv
        · trivial
      · rw [NC.get_other _ _ _ _ (fun h => e (fpath_inj hi ht.2 h))]
        have := hf i hi
        simp only [Array.getD_eq_getD_getElem?, Array.getElem?_setIfInBounds] at this ⊢
        rw [if_neg (Ne.symm e)]; exact this
    · cases hd
end
end Go.Ax
end
section
namespace Go.Ax
open Go Go.RowKit
noncomputable section
set_option linter.unusedSectionVars false
set_option linter.unusedVariables false
set_option linter.unusedSimpArgs false
/- ### Calls -/
variable {P : Program} {op : Nat → Value} {w0 : Base} {ti : TI} (T : TiOk P ti)
/-- What a call hands back, and what it leaves. -/
def Rets (op : Nat → Value) (w0 : Base) (ρ : Rho) (k : AV → St → Res) (F : Res) (v : Value) (w : World) : Prop :=
  ∃ av s ρ', Sub (k av s) F ∧ ρ.sub ρ' ∧ VRel op ρ' av v ∧ HRel op w0 ρ' s w
def CallsTo (P : Program) (g : FuncId) (args : Array Value) (w : World) (R : Value → World → Prop) : Prop :=
  CallsIn Fence.wide 0 P g args w fun e w' => ∃ v, e = .returned v ∧ R v w'
/-- What is shown of the walk of code. -/
def LoopWp (F : Fence) (P : Program) (c : Code) (Q : Exit → Act → World → Prop) (a : Act) (w : World) : Prop :=
  ∀ (b : Frame) (k : List Item) (cs : List Frame), b.roundOf = F.round → F.fn b.fn → F.room (cs.length + 1 + 0) →
    ∃ e a' w', Q e a' w' ∧ ArrivesIn (Machine.fenced P F) P (lone (b.atR a (.code c :: .inLoop c :: k)) cs w) b k cs e a' w'
structure IhOk (P : Program) (op : Nat → Value) (ti : TI) (ih : IH) : Prop where
  code : ∀ (w0 : Base) c f s a w ρ rd nt r, (ih c f s).good → HRel op w0 ρ s w → FrOk P op ρ rd nt f a → GRel ti ρ → rd = Option.isSome r → c.wpIn (Fc r) 0 P (Post P op w0 ρ rd nt (ih c f s)) a w
  loop : ∀ (w0 : Base) c f s a w ρ rd nt r, (ih (.loop c) f s).good → HRel op w0 ρ s w → FrOk P op ρ rd nt f a → GRel ti ρ → rd = Option.isSome r → LoopWp (Fc r) P c (Post P op w0 ρ rd nt (ih (.loop c) f s)) a w
def resOf (tmps : Array Value) (x : ResultVar) : Sem Value := match x with
  | .tmp t => pure (tmps.getD t undef)
  | .cell a t => do loadVar t (← asAddr (tmps.getD a undef))
theorem results_eq (fn : Func) (tmps : Array Value) : results fn tmps = (do let vs ← fn.results.mapM (resOf tmps); pure (if h : vs.size = 1 then vs[0] else .tuple vs)) := rfl
section
variable {ρ : Rho} {s : St} {w : World}
include T in
/-- What a function hands back. -/
theorem results_ok (hH : HRel op w0 ρ s w) {f : NC} {tmps : Array Value} (hf : SRel op ρ f tmps) : ∀ (rs : List ResultVar) {res : RL} {F : Res} {K : AV → Res}, F.good → resC ti rs = some res → F = res.evK f s K →
    ∃ l vs, F = K l ∧ LRel op ρ l vs ∧ (rs.mapM (resOf tmps)).run P w = .ok vs w
  | [], res, F, K, hg, hr, hF => by cases hr; exact ⟨.lnil, [], hF, rfl, by simp⟩
  | .tmp t :: rs, res, F, K, hg, hr, hF => by
    simp only [resC] at hr
    split at hr
    · rename_i ht
      split at hr
      · rename_i r hr'
        cases hr
        obtain ⟨l, vs, hF, hl, hrun⟩ := results_ok hH hf rs (K := fun l => K (.lcons (NC.get (fpath t) f) l)) hg hr' hF
        refine ⟨_, _, hF, (LRel.cons op).2 ⟨_, vs, rfl, hf t ht, hl⟩, ?_⟩
        rw [List.mapM_cons]; simp [resOf, hrun, Result.andThen]
      · cases hr
    · cases hr
  | .cell a t :: rs, res, F, K, hg, hr, hF => by
    simp only [resC] at hr
    split at hr
    · rename_i ha
      split at hr
      · rename_i e r he hr'
        cases hr
        have hF : F = (NC.get (fpath a) f).asPtr fun id off => (s.get id).asRow fun _ c m _ _ _ => guardK (Nat.ble (Nat.add off (Bool.rec (motive := fun _ => Nat) 1 e.info.size (isAggD e.und))) m) (partK (isAggD e.und) off e.info.size c fun v => r.evK f s fun l => K (.lcons v l)) := hF
        have hv := hf a ha
        generalize NC.get (fpath a) f = X at hv hF
        obtain ⟨id, off, e1, hF⟩ := asPtr_inv hg hF
        subst e1
        obtain ⟨p, hp, hv⟩ := hv
        obtain ⟨te, c, m, z, ro, b, ho, hF⟩ := asRow_inv hg hF
        have hob := hH.obj id p hp
        rw [ho] at hob
        obtain ⟨cc, lo, hi, vs, hb, hrow⟩ := hob
        obtain ⟨g1, hF⟩ := guard_inv hg hF
        have g1 := Nat.le_of_ble_eq_true g1
        have key : ∃ u v, F = (r.evK f s fun l => K (.lcons u l)) ∧ VRel op ρ u v ∧ (loadVar t ⟨p.b, p.base + off, none⟩).run P w = .ok v w := by
          cases hag : isAggD e.und with
          | true =>
            rw [hag] at hF g1
            have hF : F = c.dropK off fun d => d.takeK e.info.size fun l => (fun v => r.evK f s fun l => K (.lcons v l)) (.agg l) := hF
            obtain ⟨d, ⟨hd1, hd2⟩, hF⟩ := Out.inv hg hF (dropK_ok op c off _ hrow.cells)
            obtain ⟨l, ⟨hl1, hl2⟩, hF⟩ := Out.inv hg hF (takeK_ok op d _ _ hd2)
            refine ⟨.agg l, .agg ((vs.drop off).take e.info.size).toArray, hF, ⟨_, hl2, fun v hv => hrow.one v (List.mem_of_mem_drop (List.mem_of_mem_take hv)), rfl⟩, ?_⟩
            have g1 : off + e.info.size ≤ m := g1
            have hlen : ((vs.drop off).take e.info.size).length = e.info.size := by have := hrow.len; simp; omega
            have hload := run_loadCells_list (P := P) w ⟨p.b, p.base + off, none⟩ ((vs.drop off).take e.info.size) (fun j v hj => by
              rw [addr_add, Nat.add_assoc]
              refine hrow.cell hb ?_
              rw [List.getElem?_take] at hj
              split at hj
              · rwa [List.getElem?_drop] at hj
              · cases hj)
            rw [hlen] at hload
            simp [loadVar, run_isAgg T he, hag, run_size T he, hload, Result.andThen]
          | false =>
            rw [hag] at hF
            have hF : F = c.nthK off fun v => r.evK f s fun l => K (.lcons v l) := hF
            obtain ⟨u, ⟨v, hv, hu⟩, hF⟩ := Out.inv hg hF (nthK_ok op c off _ hrow.cells)
            refine ⟨u, v, hF, hu, ?_⟩
            simp [loadVar, run_isAgg T he, hag, hrow.cell hb hv, Result.andThen]
        obtain ⟨u, v, hF, hu, hload⟩ := key
        obtain ⟨l, vs', hF, hl, hrun⟩ := results_ok hH hf rs (K := fun l => K (.lcons u l)) hg hr' hF
        refine ⟨_, _, hF, (LRel.cons op).2 ⟨v, vs', rfl, hu, hl⟩, ?_⟩
        rw [List.mapM_cons]; simp [resOf, hv, asAddr, hload, hrun, Result.andThen]
      · cases hr
    · cases hr
theorem handBack_ok {l : AV} {vs : List Value} (h : LRel op ρ l vs) : VRel op ρ l.handBack (if h : vs.toArray.size = 1 then vs.toArray[0] else .tuple vs.toArray) := by
  cases l with
  | lnil => have h : vs = [] := h; subst h; exact ⟨[], rfl, rfl⟩
  | lcons a t =>
    obtain ⟨v, l', rfl, hv, ht⟩ := (LRel.cons op).1 h
    cases t with
    | lnil => have ht : l' = [] := ht; subst ht; exact hv
    | lcons b t' =>
      obtain ⟨u, l2, rfl, hu, ht'⟩ := (LRel.cons op).1 ht
      rw [dif_neg (by simp)]
      exact ⟨v :: u :: l2, (LRel.cons op).2 ⟨v, _, rfl, hv, (LRel.cons op).2 ⟨u, _, rfl, hu, ht'⟩⟩, rfl⟩
    | _ => simp [LRel] at ht
  | _ => simp [LRel] at h
include T in
theorem results_run (hH : HRel op w0 ρ s w) {f : NC} {tmps : Array Value} (hf : SRel op ρ f tmps) {fn : Func} {res : RL} {F : Res} {K : AV → Res} (hg : F.good) (hr : resC ti fn.results.toList = some res) (hF : F = res.evK f s fun l => K l.handBack) :
    ∃ av v, F = K av ∧ VRel op ρ av v ∧ (results fn tmps).run P w = .ok v w := by
  obtain ⟨l, vs, hF, hl, hrun⟩ := results_ok (P := P) T hH hf fn.results.toList (K := fun l => K l.handBack) hg hr hF
  refine ⟨_, _, hF, handBack_ok hl, ?_⟩
  rw [results_eq]
  rw [← Array.toList_mapM] at hrun
  simp only [Sem.run_map] at hrun
  simp only [Sem.run_bind]
  generalize hm : Sem.run P (Array.mapM (resOf tmps) fn.results) w = R at hrun ⊢
  cases R with
  | halt x w' => cases hrun
  | ok arr w' =>
    simp only [Result.andThen, Result.ok.injEq] at hrun
    obtain ⟨e1, e2⟩ := hrun
    subst e2
    have : arr = vs.toArray := Array.ext' (by rw [e1])
    subst this
    rfl
/-- The slots that a call begins with. -/
theorem argsK_ok : ∀ (l : AV) {vs : List Value} (i : Nat) {f : NC} {tmps : Array Value} {F : Res} {k : NC → Res}, LRel op ρ l vs → i + vs.length ≤ 512 → SRel op ρ f tmps → (∀ j v, vs[j]? = some v → tmps[i + j]? = some v) → F = argsK l i f k → ∃ f', F = k f' ∧ SRel op ρ f' tmps := by
  intro l
  induction l with
  | lnil => intro vs i f tmps F k h _ hf _ hF; exact ⟨f, hF, hf⟩
  | lcons a t _ it =>
    intro vs i f tmps F k h hle hf hv hF
    obtain ⟨v, l', rfl, ha, ht⟩ := (LRel.cons op).1 h
    have hF : F = NC.setK (fpath i) a f fun f' => argsK t (Nat.succ i) f' k := hF
    rw [NC.setK_eq] at hF
    simp at hle
    refine it (i + 1) ht (by omega) ?_ (fun j u hj => by have := hv (j + 1) u (by simpa using hj); rwa [show i + (j + 1) = i + 1 + j by omega] at this) hF
    intro m hm
    by_cases e : m = i
    · subst e
      rw [NC.get_same]
      have := hv 0 v rfl
      simp only [Array.getD_eq_getD_getElem?, Nat.add_zero] at this ⊢
      rw [this]; exact ha
    · rw [NC.get_other _ _ _ _ (fun h => e (fpath_inj hm (by omega) h))]; exact hf m hm
  | _ => intro vs i f tmps F k h; simp [LRel] at h
end
end
end Go.Ax
end
section
namespace Go.Ax
open Go Go.RowKit
noncomputable section
set_option linter.unusedSectionVars false
set_option linter.unusedVariables false
set_option linter.unusedSimpArgs false
variable {P : Program} {op : Nat → Value} {w0 : Base} {ti : TI}
/-- A call as it begins: it is done at once, or entered. -/
def CallDone (P : Program) (g : FuncId) (args : Array Value) (w : World) (R : Value → World → Prop) : Prop :=
  (∃ v w', (callFunc g args).run P w = .ok (.value v) w' ∧ R v w') ∨ ((callFunc g args).run P w = .ok (.enter g args) w ∧ CallsTo P g args w R)
def ExtOk (P : Program) (op : Nat → Value) (ti : TI) (g : Nat) (run : AV → St → (AV → St → Res) → Res) : Prop :=
  ∀ (w0 : Base) ρ s w c vs F k, F.good → F = run c s k → LRel op ρ c vs → GRel ti ρ → HRel op w0 ρ s w → CallDone P g vs.toArray w (Rets op w0 ρ k F)
def HushOk (P : Program) (g : FuncId) : Prop := ∀ args w, (callFunc g args).run P w = .ok (.enter g args) w ∧ CallsDIn Fence.wide 0 P g args .returning w fun e u w' => (∃ v, e = .returned v) ∧ u = .returning ∧ w' = w
structure EnvOk (P : Program) (op : Nat → Value) (ti : TI) (okTo : Nat → Nat → Nat → Nat → Bool) (E : Env) : Prop where
  reg : E.reg = regC ti okTo
  fn : ∀ g body res nt flag, E.fn g = .go body res nt flag → ∃ fn, P.funcs[g]? = some fn ∧ fn.body = some body ∧ resC ti fn.results.toList = some res ∧ fn.ntmps = nt ∧ nt ≤ 512 ∧ fn.name ≠ "runtime.NumGoroutine"
  ext : ∀ g run, E.fn g = .ext run → ExtOk P op ti g run
  hush : ∀ g, E.fn g = .hush → HushOk P g
theorem run_callFunc {g : Nat} {fn : Func} {c : Code} (hf : P.funcs[g]? = some fn) (hb : fn.body = some c) (hn : fn.name ≠ "runtime.NumGoroutine") (args : Array Value) (w : World) : (callFunc g args).run P w = .ok (.enter g args) w := by
  simp [callFunc, hf, hn, hb, Result.andThen]
theorem tmps_ok {ρ : Rho} {l : AV} {vs : List Value} (h : LRel op ρ l vs) {nt : Nat} {F : Res} (hg : F.good) {k : NC → Res} (hF : F = guardK (Nat.ble l.len 512) (argsK l 0 zc k)) :
    ∃ f, F = k f ∧ SRel op ρ f (vs.toArray ++ Array.replicate (nt - vs.toArray.size) undef) ∧ nt ≤ (vs.toArray ++ Array.replicate (nt - vs.toArray.size) undef).size := by
  obtain ⟨g1, hF⟩ := guard_inv hg hF
  have g1 := Nat.le_of_ble_eq_true g1
  rw [len_ok op l h] at g1
  obtain ⟨f, hF, hf⟩ := argsK_ok (tmps := vs.toArray ++ Array.replicate (nt - vs.toArray.size) undef) l 0 h (by omega) (fun i hi => by rw [zc_get]; trivial) (fun j v hj => by
    rw [Nat.zero_add, Array.getElem?_append_left (by simpa using (List.getElem?_eq_some_iff.1 hj).1)]
    simpa using hj) hF
  exact ⟨f, hF, hf, by simp; omega⟩
section
variable (T : TiOk P ti) {okTo : Nat → Nat → Nat → Nat → Bool} {E : Env} (EO : EnvOk P op ti okTo E) {ih : IH} (IOk : IhOk P op ti ih)
include T EO IOk
/-- The body of a function that defers nothing (or nothing that is left). -/
theorem defer_ok {ρ : Rho} {s : St} {w : World} {g : Nat} {l : AV} {vs : List Value} (hG : GRel ti ρ) (hH : HRel op w0 ρ s w) (hl : LRel op ρ l vs) {F : Res} (hg : F.good) {k : AV → St → Res} (hF : F = deferK (E.fn g) ih l s k) :
    (callFunc g vs.toArray).run P w = .ok (.enter g vs.toArray) w ∧ CallsDIn Fence.wide 0 P g vs.toArray .returning w fun e u w' => u = .returning ∧ ∃ v, e = .returned v ∧ ∃ av s' ρ', Sub (k av s') F ∧ ρ.sub ρ' ∧ HRel op w0 ρ' s' w' := by
  cases hfn : E.fn g with
  | bad => rw [hfn] at hF; rw [hF] at hg; exact hg.elim
  | ext run => rw [hfn] at hF; rw [hF] at hg; exact hg.elim
  | hush =>
    rw [hfn] at hF
    have hF : F = k .top s := hF
    obtain ⟨h1, h2⟩ := EO.hush g hfn vs.toArray w
    refine ⟨h1, h2.mono fun e u w' ⟨⟨v, hv⟩, hu, hw⟩ => ⟨hu, v, hv, .top, s, ρ, by rw [hF]; exact .refl _, .refl _, by rw [hw]; exact hH⟩⟩
  | go body res nt flag =>
    rw [hfn] at hF
    have hF : F = guardK (Nat.beq flag 0) (guardK (Nat.ble l.len 512) (argsK l 0 zc fun f => (ih body ⟨f, .nil, false, nt⟩ s).bind fun x f' s' => guardK (isEnd x) (guardK f'.d.isNil (res.evK f'.s s' fun _ => k .top s')))) := hF
    obtain ⟨fn, hf, hb, hres, hnt, hnt2, hname⟩ := EO.fn g body res nt flag hfn
    obtain ⟨_, hF⟩ := guard_inv hg hF
    obtain ⟨f, hF, hfr, hsz⟩ := tmps_ok (nt := nt) hl hg hF
    refine ⟨run_callFunc hf hb hname _ _, CallsDIn.mono (callsDIn_of_wp (R := fun e w' => ∃ v, e = .returned v ∧ ∃ av s' ρ', Sub (k av s') F ∧ ρ.sub ρ' ∧ HRel op w0 ρ' s' w') hf hb trivial ?_) fun e u' w' h => ⟨h.1, h.2⟩⟩
    rw [hnt]
    rw [hF] at hg
    obtain ⟨g1, g2⟩ := bind_good _ hg
    refine wpIn_mono (IOk.code w0 body ⟨f, .nil, false, nt⟩ s { tmps := vs.toArray ++ Array.replicate (nt - vs.toArray.size) undef, defers := [] } w ρ false nt none g1 hH ⟨hfr, rfl, rfl, rfl, hsz, hnt2⟩ hG rfl) ?_
    rintro e a' w' ⟨x, f', s', ρ', hhas, hsub, hH', hfo, rfl⟩
    have hs := g2 x f' s' hhas
    have hgood := (hs hg).1
    obtain ⟨ge, hF2⟩ := guard_inv hgood rfl
    rw [hF2] at hgood hs
    obtain ⟨gd, hF3⟩ := guard_inv hgood rfl
    rw [hF3] at hgood hs
    obtain ⟨av, v, hF4, _, hrun⟩ := results_run (P := P) T hH' hfo.slots (K := fun _ => k .top s') hgood hres rfl
    have hd : a'.defers = [] := by
      have := hfo.defers
      cases hdd : f'.d with
      | nil => rw [hdd] at this; exact this
      | call => rw [hdd] at gd; cases gd
      | mark => rw [hdd] at gd; cases gd
    have hout : ∃ v, (results fn a'.tmps).run P w' = .ok v w' ∧ ∃ v', Ending.returned v = .returned v' ∧ ∃ av s'' ρ'', Sub (k av s'') F ∧ ρ.sub ρ'' ∧ HRel op w0 ρ'' s'' w' :=
      ⟨v, hrun, v, rfl, .top, s', ρ', by rw [hF]; rw [hF4] at hs; exact hs, hsub, hH'⟩
    cases x with
    | normal => exact ⟨hd, hout⟩
    | ret => exact ⟨hd, hout⟩
    | exit n => cases ge
    | goto n => cases ge
/-- A frame on its way out. -/
theorem leaves_ok {fn : Func} {tmps : Array Value} {f : NC} {res : RL} {F0 : Res} {k : AV → St → Res} {ρ0 : Rho} (hres : resC ti fn.results.toList = some res) (hg0 : F0.good) : ∀ (d : DL) {ds : List Deferred} {ρ : Rho} {s : St} {w : World} {F : Res}, ρ0.sub ρ → GRel ti ρ → HRel op w0 ρ s w → SRel op ρ f tmps → DRel P op ρ d ds → F.good → Sub F F0 →
    F = d.runK (cv1 E ih) s (fun s2 => res.evK f s2 fun l => k l.handBack s2) → LeavesInM Fence.wide 0 P fn tmps (fun e w' => ∃ v, e = .returned v ∧ Rets op w0 ρ0 k F0 v w') ds .returning w
  | .nil, ds, ρ, s, w, F, hs0, hG, hH, hf, hd, hg, hs, hF => by
    have hd : ds = [] := hd
    subst hd
    obtain ⟨av, v, hF, hv, hrun⟩ := results_run (P := P) T hH hf (K := fun v => k v s) hg hres hF
    exact ⟨v, hrun, v, rfl, av, s, ρ, by rw [hF] at hs; exact hs, hs0, hv, hH⟩
  | .call fv al t, ds, ρ, s, w, F, hs0, hG, hH, hf, hd, hg, hs, hF => by
    obtain ⟨d, ds', v, vs, rfl, hv, ha, hof, ht⟩ := hd
    have hF : F = cv1 E ih fv al s fun _ s' => t.runK (cv1 E ih) s' (fun s2 => res.evK f s2 fun l => k l.handBack s2) := hF
    unfold cv1 at hF
    obtain ⟨fg, x, c, e1, hF⟩ := asFn_inv hg hF
    subst e1
    cases fg with
    | func g =>
      obtain ⟨g', xs, cs, hfr, hx, hc, rfl⟩ := hv
      have hfr : g' = .func g := hfr
      subst hfr
      have hF : F = deferK (E.fn g) ih (x.app (al.app c)) s fun _ s' => t.runK (cv1 E ih) s' (fun s2 => res.evK f s2 fun l => k l.handBack s2) := hF
      have hall := app_ok op x hx (app_ok op al ha hc)
      obtain ⟨h1, h2⟩ := defer_ok T EO IOk hG hH hall hg hF
      have hd' : d = { target := .fn (.func g) cs.toArray, args := xs.toArray ++ vs.toArray } := by
        have := hof w
        simp only [Deferred.ofValue, Sem.run_pure, Result.ok.injEq] at this
        exact this.1.symm
      subst hd'
      have hargs : xs.toArray ++ vs.toArray ++ cs.toArray = (xs ++ (vs ++ cs)).toArray := by simp
      refine ⟨by simp, .inr ⟨fun h => (by cases h), .func g, cs.toArray, g, (xs ++ (vs ++ cs)).toArray, rfl, ?_, fun _ _ => trivial, h2.mono ?_⟩⟩
      · show (callFunc g (xs.toArray ++ vs.toArray ++ cs.toArray)).run P w = _
        rw [hargs]; exact h1
      · rintro e u' w' ⟨rfl, v', rfl, av, s', ρ', hs2, hsub, hH'⟩
        exact leaves_ok hres hg0 t (hs0.trans hsub) (hG.mono hsub) hH' (hf.mono hsub) (ht.mono hsub) (hs2 hg).1 (hs2.trans hs) rfl
    | _ => rw [hF] at hg; exact hg.elim
  | .mark id t, ds, ρ, s, w, F, hs0, hG, hH, hf, hd, hg, hs, hF => by
    obtain ⟨ds', p, rfl, hp, ht⟩ := hd
    obtain ⟨g1, hF⟩ := guard_inv hg hF
    rw [St.setK_eq] at hF
    have ho : s.get id = .dfr := by
      cases hgo : s.get id with
      | dfr => rfl
      | _ => rw [hgo] at g1; cases g1
    have hob := hH.obj id p hp
    rw [ho] at hob
    obtain ⟨hB, hblk⟩ := hob
    have htake := run_takeDeferred (P := P) hblk
    have hnew : HRel op w0 ρ (s.set id .dead) (w.putObj p.b (.deferred none)) := hH.turn hp (by rw [ho]; trivial) hB (putObj_turned _) trivial
    exact ⟨by simp, .inl ⟨p.b, _, rfl, htake, leaves_ok hres hg0 t hs0 hG hnew hf ht hg hs hF⟩⟩
/-- A call of a function with a body. -/
theorem goK_ok {ρ : Rho} {s : St} {w : World} {g : Nat} {body : Code} {res : RL} {nt flag : Nat} (hfn : E.fn g = .go body res nt flag) (hG : GRel ti ρ) (hH : HRel op w0 ρ s w) {f : NC} {args : Array Value} (hf : SRel op ρ f (args ++ Array.replicate (nt - args.size) undef)) (hsz : nt ≤ (args ++ Array.replicate (nt - args.size) undef).size)
    {F : Res} (hg : F.good) {k : AV → St → Res} (hF : F = goK ih (cv1 E ih) body res nt f s k) : CallsTo P g args w (Rets op w0 ρ k F) := by
  obtain ⟨fn, hfp, hb, hres, hnt, hnt2, hname⟩ := EO.fn g body res nt flag hfn
  refine callsIn_of_wp_marks hfp hb trivial ?_
  rw [hnt]
  have hg0 := hg
  rw [hF] at hg
  unfold goK at hg
  obtain ⟨g1, g2⟩ := bind_good _ hg
  refine wpIn_mono (IOk.code w0 body ⟨f, .nil, false, nt⟩ s { tmps := args ++ Array.replicate (nt - args.size) undef, defers := [] } w ρ false nt none g1 hH ⟨hf, rfl, rfl, rfl, hsz, hnt2⟩ hG rfl) ?_
  rintro e a' w' ⟨x, f', s', ρ', hhas, hsub, hH', hfo, rfl⟩
  have hs := g2 x f' s' hhas
  have hgood := (hs hg).1
  obtain ⟨ge, hF2⟩ := guard_inv hgood rfl
  rw [hF2] at hgood hs
  have hl := leaves_ok (k := k) (F0 := F) T EO IOk hres hg0 f'.d hsub (hG.mono hsub) hH' hfo.slots hfo.defers hgood (by rw [hF]; exact hs) rfl
  cases x with
  | normal => exact hl
  | ret => exact hl
  | exit n => cases ge
  | goto n => cases ge
end
end
end Go.Ax
end
section
namespace Go.Ax
open Go Go.RowKit
noncomputable section
set_option linter.unusedSectionVars false
set_option linter.unusedVariables false
set_option linter.unusedSimpArgs false
/- ### What is spelled alike is one -/
theorem and_inv {a b : Bool} (h : (Bool.rec (motive := fun _ => Bool) false b a : Bool) = true) : a = true ∧ b = true := by
  cases a with
  | false => cases h
  | true => exact ⟨rfl, h⟩
theorem sameBool_eq {a b : Bool} (h : sameBool a b = true) : a = b := by cases a <;> cases b <;> first | rfl | cases h
theorem bleq_eq : ∀ {x y : BL}, BL.eq x y = true → x = y := by
  intro x
  induction x with
  | nil => intro y h; cases y with
    | nil => rfl
    | cons b t => cases h
  | cons b t ih => intro y h; cases y with
    | nil => cases h
    | cons c u =>
      obtain ⟨h1, h2⟩ := and_inv (b := t.eq u) h
      rw [Nat.eq_of_beq_eq_true h1, ih h2]
theorem sameFn_eq {f g : Fn} (h : sameFn f g = true) : f = g := by
  cases f <;> cases g <;> first | cases h | skip
  rename_i i j
  rw [Nat.eq_of_beq_eq_true (show Nat.beq i j = true from h)]
theorem ieq_inv {a b : Int} (h : ieq a b = true) : a = b := by rw [ieq_eq] at h; exact eq_of_beq h
theorem beq_eq : ∀ {x y : AV}, AV.beq x y = true → x = y := by
  intro x
  induction x with
  | top => intro y h; cases y <;> first | rfl | cases h
  | bool b => intro y h; cases y <;> first | cases h | skip
              rw [sameBool_eq h]
  | int k n => intro y h; cases y <;> first | cases h | skip
               rename_i j m
               obtain ⟨h1, h2⟩ := and_inv (b := ieq n m) h
               rw [sameKind_eq h1, ieq_inv h2]
  | str s => intro y h; cases y <;> first | cases h | skip
             rw [bleq_eq h]
  | nilp => intro y h; cases y <;> first | rfl | cases h
  | ptr i o => intro y h; cases y <;> first | cases h | skip
               rename_i j p
               obtain ⟨h1, h2⟩ := and_inv (b := Nat.beq o p) h
               rw [Nat.eq_of_beq_eq_true h1, Nat.eq_of_beq_eq_true h2]
  | nils => intro y h; cases y <;> first | rfl | cases h
  | sl a b c d e f =>
    intro y h; cases y <;> first | cases h | skip
    rename_i a' b' c' d' e' f'
    obtain ⟨h1, h⟩ := and_inv (b := Bool.rec (motive := fun _ => Bool) false (Bool.rec (motive := fun _ => Bool) false (Bool.rec (motive := fun _ => Bool) false (Bool.rec (motive := fun _ => Bool) false (Nat.beq f f') (sameBool e e')) (Nat.beq d d')) (Nat.beq c c')) (Nat.beq b b')) h
    obtain ⟨h2, h⟩ := and_inv h
    obtain ⟨h3, h⟩ := and_inv h
    obtain ⟨h4, h⟩ := and_inv h
    obtain ⟨h5, h6⟩ := and_inv h
    rw [Nat.eq_of_beq_eq_true h1, Nat.eq_of_beq_eq_true h2, Nat.eq_of_beq_eq_true h3, Nat.eq_of_beq_eq_true h4, sameBool_eq h5, Nat.eq_of_beq_eq_true h6]
  | nilm => intro y h; cases y <;> first | rfl | cases h
  | map i => intro y h; cases y <;> first | cases h | skip
             rw [Nat.eq_of_beq_eq_true h]
  | fn f x c ix ic =>
    intro y h; cases y <;> first | cases h | skip
    rename_i f' x' c'
    obtain ⟨h1, h⟩ := and_inv (b := Bool.rec (motive := fun _ => Bool) false (c.beq c') (x.beq x')) h
    obtain ⟨h2, h3⟩ := and_inv h
    rw [sameFn_eq h1, ix h2, ic h3]
  | nilf => intro y h; cases y <;> first | rfl | cases h
  | ifc t v ih => intro y h; cases y <;> first | cases h | skip
                  rename_i t' v'
                  obtain ⟨h1, h2⟩ := and_inv (b := v.beq v') h
                  rw [Nat.eq_of_beq_eq_true h1, ih h2]
  | nili => intro y h; cases y <;> first | rfl | cases h
  | agg c ih => intro y h; cases y <;> first | cases h | skip
                rw [ih h]
  | tup c ih => intro y h; cases y <;> first | cases h | skip
                rw [ih h]
  | opq n => intro y h; cases y <;> first | cases h | skip
             rw [Nat.eq_of_beq_eq_true h]
  | lnil => intro y h; cases y <;> first | rfl | cases h
  | lcons a t ia it => intro y h; cases y <;> first | cases h | skip
                       rename_i a' t'
                       obtain ⟨h1, h2⟩ := and_inv (b := t.beq t') h
                       rw [ia h1, it h2]
theorem mlbeq_eq : ∀ {x y : ML}, ML.beq x y = true → x = y := by
  intro x
  induction x with
  | nil => intro y h; cases y <;> first | rfl | cases h
  | cons k v b t ih =>
    intro y h
    cases y with
    | nil => cases h
    | cons k' v' b' t' =>
      obtain ⟨h1, h⟩ := and_inv (b := Bool.rec (motive := fun _ => Bool) false (Bool.rec (motive := fun _ => Bool) false (t.beq t') (Nat.beq b b')) (v.beq v')) h
      obtain ⟨h2, h⟩ := and_inv h
      obtain ⟨h3, h4⟩ := and_inv h
      rw [beq_eq h1, beq_eq h2, Nat.eq_of_beq_eq_true h3, ih h4]
theorem join_cases (x y : Obj) : x.join y = .dead ∨ (x.join y = x ∧ x = y) := by
  cases x with
  | row e c n z r b =>
    cases y with
    | row e' c' n' z' r' b' =>
      have e0 : (Obj.row e c n z r b).join (.row e' c' n' z' r' b') = Bool.rec (motive := fun _ => Obj) .dead (.row e c n z r b) (Bool.rec (motive := fun _ => Bool) false (Bool.rec (motive := fun _ => Bool) false (Bool.rec (motive := fun _ => Bool) false (Bool.rec (motive := fun _ => Bool) false (Bool.rec (motive := fun _ => Bool) false (AV.beq c c') (sameBool b b')) (sameBool r r')) (Nat.beq z z')) (Nat.beq n n')) (Nat.beq e e')) := rfl
      rw [e0]
      generalize hb : (Bool.rec (motive := fun _ => Bool) false (Bool.rec (motive := fun _ => Bool) false (Bool.rec (motive := fun _ => Bool) false (Bool.rec (motive := fun _ => Bool) false (Bool.rec (motive := fun _ => Bool) false (AV.beq c c') (sameBool b b')) (sameBool r r')) (Nat.beq z z')) (Nat.beq n n')) (Nat.beq e e') : Bool) = B
      cases B with
      | false => exact .inl rfl
      | true =>
        obtain ⟨h1, h⟩ := and_inv hb
        obtain ⟨h2, h⟩ := and_inv h
        obtain ⟨h3, h⟩ := and_inv h
        obtain ⟨h4, h⟩ := and_inv h
        obtain ⟨h5, h6⟩ := and_inv h
        exact .inr ⟨rfl, by rw [Nat.eq_of_beq_eq_true h1, Nat.eq_of_beq_eq_true h2, Nat.eq_of_beq_eq_true h3, sameBool_eq h4, sameBool_eq h5, beq_eq h6]⟩
    | _ => exact .inl rfl
  | map e n =>
    cases y with
    | map e' n' =>
      have e0 : (Obj.map e n).join (.map e' n') = Bool.rec (motive := fun _ => Obj) .dead (.map e n) (Bool.rec (motive := fun _ => Bool) false (ML.beq e e') (Nat.beq n n')) := rfl
      rw [e0]
      generalize hb : (Bool.rec (motive := fun _ => Bool) false (ML.beq e e') (Nat.beq n n') : Bool) = B
      cases B with
      | false => exact .inl rfl
      | true =>
        obtain ⟨h1, h2⟩ := and_inv hb
        exact .inr ⟨rfl, by rw [Nat.eq_of_beq_eq_true h1, mlbeq_eq h2]⟩
    | _ => exact .inl rfl
  | _ => exact .inl rfl
theorem avjoin_cases (x y : AV) : x.join y = .top ∨ (x.join y = x ∧ x = y) := by
  show (Bool.rec (motive := fun _ => AV) .top x (AV.beq x y) : AV) = _ ∨ _
  cases h : AV.beq x y with
  | false => exact .inl rfl
  | true => exact .inr ⟨by show (Bool.rec (motive := fun _ => AV) .top x (AV.beq x y) : AV) = _; rw [h], beq_eq h⟩
theorem ncjoin_get (p : P3) (x y : NC) : NC.get p (x.join y) = (NC.get p x).join (NC.get p y) := by
  obtain ⟨a, b, c⟩ := p
  have h1 : NC.sel a (x.join y) = (NC.sel a x).join (NC.sel a y) := by cases a <;> rfl
  have h2 : ∀ x y : NB, NB.sel b (x.join y) = (NB.sel b x).join (NB.sel b y) := by intro x y; cases b <;> rfl
  have h3 : ∀ x y : NA, NA.sel c (x.join y) = (NA.sel c x).join (NA.sel c y) := by intro x y; cases c <;> rfl
  simp only [NC.get, h1, h2, h3]
theorem nlapp_toL (x y : NL) : (x.app y).toL = x.toL ++ y.toL := by
  induction x with
  | nil => rfl
  | cons n t ih => show n :: (t.app y).toL = _; rw [ih]; rfl
theorem joinHeap_ok : ∀ (l : NL) (h a b : HE) {F : Res} {k : HE → Res}, F = joinHeap l h a b k → ∃ h', F = k h' ∧ ∀ id, id < 262144 →
    (HE.get (hpath id) h' = (HE.get (hpath id) a).join (HE.get (hpath id) b) ∧ ∃ n, n ∈ l.toL ∧ hpath n = hpath id) ∨ (HE.get (hpath id) h' = HE.get (hpath id) h ∧ ∀ n, n ∈ l.toL → hpath n ≠ hpath id)
  | .nil, h, a, b, F, k, hF => ⟨h, hF, fun id _ => .inr ⟨rfl, by simp [NL.toL]⟩⟩
  | .cons n t, h, a, b, F, k, hF => by
    have hF : F = HE.setK (hpath n) ((HE.get (hpath n) a).join (HE.get (hpath n) b)) h fun h' => joinHeap t h' a b k := hF
    rw [HE.setK_eq] at hF
    obtain ⟨h', hF, hk⟩ := joinHeap_ok t _ a b hF
    refine ⟨h', hF, fun id hid => ?_⟩
    rcases hk id hid with ⟨h1, m, hm, e⟩ | ⟨h1, h2⟩
    · exact .inl ⟨h1, m, List.mem_cons_of_mem _ hm, e⟩
    · by_cases e : hpath id = hpath n
      · refine .inl ⟨?_, n, List.mem_cons_self .., e.symm⟩
        rw [e] at h1 ⊢; rw [HE.get_same] at h1; exact h1
      · rw [HE.get_other _ _ _ _ e] at h1
        refine .inr ⟨h1, fun m hm => ?_⟩
        rcases List.mem_cons.1 hm with rfl | hm
        · exact fun h => e h.symm
        · exact h2 m hm
theorem nmax2_eq (a b : Nat) : nmax2 a b = max a b := by
  unfold nmax2
  cases h : Nat.ble a b with
  | true => have := Nat.le_of_ble_eq_true h; show b = _; omega
  | false => have : ¬ a ≤ b := fun hh => by rw [Nat.ble_eq_true_of_le hh] at h; cases h
             show a = _; omega
theorem sameEx_eq {x y : Ex} (h : sameEx x y = true) : x = y := by
  cases x <;> cases y <;> first | rfl | cases h | (rename_i n m; rw [Nat.eq_of_beq_eq_true (show Nat.beq n m = true from h)])
variable {P : Program} {op : Nat → Value} {w0 : Base}
theorem isNil_eq {d : DL} (h : d.isNil = true) : d = .nil := by cases d <;> first | rfl | cases h
theorem SRel.joinl {ρ : Rho} {f g : NC} {t : Array Value} (h : SRel op ρ f t) : SRel op ρ (f.join g) t := fun i hi => by
  rw [ncjoin_get]
  rcases avjoin_cases (NC.get (fpath i) f) (NC.get (fpath i) g) with e | ⟨e, _⟩
  · rw [e]; trivial
  · rw [e]; exact h i hi
theorem SRel.joinr {ρ : Rho} {f g : NC} {t : Array Value} (h : SRel op ρ g t) : SRel op ρ (f.join g) t := fun i hi => by
  rw [ncjoin_get]
  rcases avjoin_cases (NC.get (fpath i) f) (NC.get (fpath i) g) with e | ⟨e, e2⟩
  · rw [e]; trivial
  · rw [e, e2]; exact h i hi
/-- A state that says less. -/
theorem HRel.less {ρ : Rho} {s s' : St} {w : World} (h : HRel op w0 ρ s w) (hn : s.next ≤ s'.next) (hle : s'.next ≤ 262144) (hg : ∀ id, id < 262144 → s'.get id = .dead ∨ s'.get id = s.get id) (hm : MdOk w0.mb s') : HRel op w0 ρ s' w where
  next := hle
  lt i p hp := Nat.lt_of_lt_of_le (h.lt i p hp) hn
  blk := h.blk
  obj i p hp := by
    rcases hg i (h.id_lt hp) with e | e
    · rw [e]; trivial
    · rw [e]; exact h.obj i p hp
  inj i j p q hi hj hne hli hlj hBi := by
    refine h.inj i j p q hi hj hne ?_ ?_ hBi
    · rcases hg i (h.id_lt hi) with e | e
      · rw [e] at hli; exact hli.elim
      · rwa [e] at hli
    · rcases hg j (h.id_lt hj) with e | e
      · rw [e] at hlj; exact hlj.elim
      · rwa [e] at hlj
  below := h.below
  md := hm
  res id hid := ⟨(h.res id hid).1, Nat.lt_of_lt_of_le (h.res id hid).2 hn⟩
  keep := ⟨h.keep.1, fun i p hp hli hB => by
    rcases hg i (h.id_lt hp) with e | e
    · rw [e] at hli; exact hli.elim
    · rw [e] at hli; exact h.keep.2 i p hp hli hB⟩
theorem joinSt_ok {base : HE} (hb : w0.mb = some base) {j : Bool} {x y : St} {F : Res} (hg : F.good) {k : St → Res} (hF : F = joinSt base j x y k) :
    ∃ s, F = k s ∧ ∀ ρ w, (HRel op w0 ρ x w ∨ HRel op w0 ρ y w) → HRel op w0 ρ s w := by
  unfold joinSt at hF
  obtain ⟨xh, xn, xm⟩ := x
  obtain ⟨yh, yn, ym⟩ := y
  cases xm with
  | off => rw [hF] at hg; exact hg.elim
  | on b1 l1 j1 =>
    cases ym with
    | off => rw [hF] at hg; exact hg.elim
    | on b2 l2 j2 =>
      obtain ⟨g1, hF⟩ := guard_inv hg hF
      have g1 : nmax2 xn yn ≤ 262144 := Nat.le_of_ble_eq_true g1
      obtain ⟨h', hF, hk⟩ := joinHeap_ok _ _ _ _ hF
      refine ⟨_, hF, fun ρ w hxy => ?_⟩
      have hmd : MdOk w0.mb ⟨h', nmax2 xn yn, .on base (l1.app l2) j⟩ := by
        rw [hb]
        refine ⟨rfl, fun id hid hn => ?_⟩
        rcases hk id hid with ⟨_, n, hn1, e⟩ | ⟨e, _⟩
        · exact absurd e (hn n hn1)
        · exact e
      rcases hxy with h | h
      · have hm := h.md
        rw [hb] at hm
        obtain ⟨e1, hm⟩ := hm
        refine h.less (by show xn ≤ nmax2 xn yn; rw [nmax2_eq]; exact Nat.le_max_left _ _) g1 (fun id hid => ?_) hmd
        rcases hk id hid with ⟨e, _⟩ | ⟨e, hn⟩
        · rcases join_cases (HE.get (hpath id) xh) (HE.get (hpath id) yh) with e2 | ⟨e2, _⟩
          · exact .inl (e.trans e2)
          · exact .inr (e.trans e2)
        · rw [nlapp_toL] at hn
          refine .inr (e.trans ?_)
          have := hm id hid (fun n hh => hn n (List.mem_append_left _ hh))
          rw [← e1]; exact this.symm
      · have hm := h.md
        rw [hb] at hm
        obtain ⟨e1, hm⟩ := hm
        refine h.less (by show yn ≤ nmax2 xn yn; rw [nmax2_eq]; exact Nat.le_max_right _ _) g1 (fun id hid => ?_) hmd
        rcases hk id hid with ⟨e, _⟩ | ⟨e, hn⟩
        · rcases join_cases (HE.get (hpath id) xh) (HE.get (hpath id) yh) with e2 | ⟨e2, e3⟩
          · exact .inl (e.trans e2)
          · exact .inr (e.trans (e2.trans e3))
        · rw [nlapp_toL] at hn
          refine .inr (e.trans ?_)
          have := hm id hid (fun n hh => hn n (List.mem_append_right _ hh))
          rw [← e1]; exact this.symm
theorem join1_ok {base : HE} (hb : w0.mb = some base) {j : Bool} : ∀ (r : Res) (x0 : Ex) (f0 : Fr) (s0 : St), (r.join1 base j x0 f0 s0).good → r.good ∧ ∀ x f s, (r.has x f s ∨ (x = x0 ∧ f = f0 ∧ s = s0)) → ∀ ρ w rd nt act, HRel op w0 ρ s w → FrOk P op ρ rd nt f act →
    ∃ f' s', (r.join1 base j x0 f0 s0).has x f' s' ∧ HRel op w0 ρ s' w ∧ FrOk P op ρ rd nt f' act
  | .fail, x0, f0, s0, hg => hg.elim
  | .nil, x0, f0, s0, hg => ⟨trivial, fun x f s h ρ w rd nt act h1 h2 => by
      rcases h with h | ⟨rfl, rfl, rfl⟩
      · exact h.elim
      · exact ⟨f, s, .inl ⟨rfl, rfl, rfl⟩, h1, h2⟩⟩
  | .ok x1 f1 s1 m, x0, f0, s0, hg => by
    obtain ⟨F, hF⟩ : ∃ F, F = (Res.ok x1 f1 s1 m).join1 base j x0 f0 s0 := ⟨_, rfl⟩
    rw [← hF] at hg ⊢
    have hF : F = guardK (sameEx x1 x0) (guardK f1.d.isNil (guardK f0.d.isNil (guardK (sameBool f1.rd f0.rd) (guardK (Nat.beq f1.nt f0.nt) (joinSt base j s0 s1 fun s' => m.join1 base j x0 ⟨f0.s.join f1.s, .nil, f0.rd, f0.nt⟩ s'))))) := hF
    obtain ⟨g1, hF⟩ := guard_inv hg hF
    obtain ⟨g2, hF⟩ := guard_inv hg hF
    obtain ⟨g3, hF⟩ := guard_inv hg hF
    obtain ⟨g4, hF⟩ := guard_inv hg hF
    obtain ⟨g5, hF⟩ := guard_inv hg hF
    have g1 := sameEx_eq g1
    have g2 := isNil_eq g2
    have g3 := isNil_eq g3
    have g4 := sameBool_eq g4
    have g5 := Nat.eq_of_beq_eq_true g5
    obtain ⟨s', hF, hj⟩ := joinSt_ok (op := op) hb hg hF
    have hg' := hg
    rw [hF] at hg'
    obtain ⟨k1, k2⟩ := join1_ok hb m x0 ⟨f0.s.join f1.s, .nil, f0.rd, f0.nt⟩ s' hg'
    refine ⟨k1, fun x f s h ρ w rd nt act h1 h2 => ?_⟩
    rw [hF]
    rcases h with (⟨rfl, rfl, rfl⟩ | h) | ⟨rfl, rfl, rfl⟩
    · subst g1
      refine k2 _ _ _ (.inr ⟨rfl, rfl, rfl⟩) ρ w rd nt act (hj ρ w (.inr h1)) ⟨h2.slots.joinr, ?_, ?_, ?_, h2.size, h2.small⟩
      · have := h2.defers; rw [g2] at this; exact this
      · show f0.rd = rd; rw [← g4]; exact h2.erd
      · show f0.nt = nt; rw [← g5]; exact h2.ent
    · exact k2 x f s (.inl h) ρ w rd nt act h1 h2
    · refine k2 _ _ _ (.inr ⟨rfl, rfl, rfl⟩) ρ w rd nt act (hj ρ w (.inl h1)) ⟨h2.slots.joinl, ?_, h2.erd, h2.ent, h2.size, h2.small⟩
      have := h2.defers; rw [g3] at this; exact this
theorem join_ok {base : HE} (hb : w0.mb = some base) (j : Bool) (r : Res) : Wk P op w0 r (r.join base j) := by
  intro hg
  cases r with
  | fail => exact hg.elim
  | nil => exact ⟨trivial, fun x f s h => h.elim⟩
  | ok x0 f0 s0 m =>
    obtain ⟨k1, k2⟩ := join1_ok (P := P) (op := op) hb m x0 f0 s0 hg
    refine ⟨k1, fun x f s h => k2 x f s ?_⟩
    rcases h with ⟨rfl, rfl, rfl⟩ | h
    · exact .inr ⟨rfl, rfl, rfl⟩
    · exact .inl h
theorem settle_ok {s : St} (hm : MdOk w0.mb s) (r : Res) : Wk P op w0 r (r.settle s.md) := by
  unfold Res.settle
  cases hmd : s.md with
  | off => exact .refl _
  | on base l j =>
    have : w0.mb = some base := by
      unfold MdOk at hm
      rw [hmd] at hm
      cases hmb : w0.mb with
      | none => rw [hmb] at hm; exact hm.elim
      | some b => rw [hmb] at hm; rw [hm.1]
    cases j with
    | false => exact .refl _
    | true => exact join_ok this true r
end
end Go.Ax
end
section
namespace Go.Ax
open Go Go.RowKit
noncomputable section
set_option linter.unusedSectionVars false
set_option linter.unusedVariables false
set_option linter.unusedSimpArgs false
variable {P : Program} {op : Nat → Value} {w0 : Base} {ti : TI}
/- ### Calls of functions and function values -/
theorem HRel.start {ρ : Rho} {s : St} {w : World} (h : HRel op w0 ρ s w) (j : Bool) : HRel op { w0 with mb := some s.heap } ρ (s.with (.on s.heap .nil j)) w := by
  obtain ⟨hp, n, m⟩ := s
  exact ⟨h.next, h.lt, h.blk, h.obj, h.inj, h.below, ⟨rfl, fun id _ _ => rfl⟩, h.res, h.keep⟩
theorem HRel.stop {ρ : Rho} {s : St} {w : World} {b : HE} (hm : w0.mb = none) (h : HRel op { w0 with mb := some b } ρ s w) : HRel op w0 ρ (s.with .off) w := by
  obtain ⟨hp, n, m⟩ := s
  exact ⟨h.next, h.lt, h.blk, h.obj, h.inj, h.below, by show MdOk w0.mb _; rw [hm]; trivial, h.res, h.keep⟩
theorem isOn_mb {s : St} (hm : MdOk w0.mb s) (h : s.md.isOn = false) : w0.mb = none := by
  unfold MdOk at hm
  cases hmd : s.md with
  | on => rw [hmd] at h; cases h
  | off => rw [hmd] at hm
           cases hmb : w0.mb with
           | none => rfl
           | some b => rw [hmb] at hm; exact hm.elim
theorem Rets.sub {ρ : Rho} {k : AV → St → Res} {F F' : Res} (h : Sub F F') {v : Value} {w : World} (hr : Rets op w0 ρ k F v w) : Rets op w0 ρ k F' v w :=
  let ⟨av, s, ρ', h1, h2⟩ := hr; ⟨av, s, ρ', h1.trans h, h2⟩
section
variable (T : TiOk P ti) {okTo : Nat → Nat → Nat → Nat → Bool} {E : Env} (EO : EnvOk P op ti okTo E) {ih : IH} (IOk : IhOk P op ti ih)
include T EO IOk
theorem callK_ok {ρ : Rho} {s : St} {w : World} {g : Nat} {l : AV} {vs : List Value} (hG : GRel ti ρ) (hH : HRel op w0 ρ s w) (hl : LRel op ρ l vs) {F : Res} (hg : F.good) {k : AV → St → Res} (hF : F = callK (E.fn g) ih (cv1 E ih) l s k) :
    CallDone P g vs.toArray w (Rets op w0 ρ k F) := by
  cases hfn : E.fn g with
  | bad => rw [hfn] at hF; rw [hF] at hg; exact hg.elim
  | hush => rw [hfn] at hF; rw [hF] at hg; exact hg.elim
  | ext run => rw [hfn] at hF; exact EO.ext g run hfn w0 ρ s w l vs F k hg hF hl hG hH
  | go body res nt flag =>
    rw [hfn] at hF
    obtain ⟨fn, hfp, hb, hres, hnt, hnt2, hname⟩ := EO.fn g body res nt flag hfn
    refine .inr ⟨run_callFunc hfp hb hname _ _, ?_⟩
    have hF : F = guardK (Nat.ble l.len 512) (argsK l 0 zc fun f => Nat.rec (motive := fun _ => Res) (goK ih (cv1 E ih) body res nt f s k) (fun _ _ => joinedK flag (goK ih (cv1 E ih) body res nt f) s k) flag) := hF
    obtain ⟨f, hF, hfr, hsz⟩ := tmps_ok (nt := nt) hl hg hF
    cases flag with
    | zero => exact goK_ok T EO IOk hfn hG hH hfr hsz hg hF
    | succ flag =>
      have hF : F = joinedK (flag + 1) (goK ih (cv1 E ih) body res nt f) s k := hF
      unfold joinedK at hF
      cases hon : s.md.isOn with
      | true =>
        rw [hon] at hF
        exact goK_ok T EO IOk hfn hG hH hfr hsz hg hF
      | false =>
        rw [hon] at hF
        have hmb := isOn_mb hH.md hon
        obtain ⟨jf, hjf⟩ : ∃ jf, Nat.beq (flag + 1) 1 = jf := ⟨_, rfl⟩
        obtain ⟨R1, hR1⟩ : ∃ R1, R1 = goK ih (cv1 E ih) body res nt f (s.with (.on s.heap .nil jf)) frameOf := ⟨_, rfl⟩
        have hF : F = (R1.join s.heap jf).bind fun _ f s' => k (NC.get (fpath 0) f.s) (s'.with .off) := by rw [hF, hR1, ← hjf]
        have hg' := hg
        rw [hF] at hg'
        obtain ⟨g1, g2⟩ := bind_good _ hg'
        have hw := join_ok (P := P) (op := op) (w0 := { w0 with mb := some s.heap }) (base := s.heap) rfl jf R1 g1
        obtain ⟨hgR, hjoin⟩ := hw
        refine CallsIn.mono (goK_ok (w0 := { w0 with mb := some s.heap }) T EO IOk hfn hG (hH.start jf) hfr hsz hgR hR1) ?_
        rintro e w' ⟨v, rfl, av, s2, ρ', hs, hsub, hv, hH'⟩
        have hfo : frameOf av s2 = .ok .ret ⟨NC.setS (fpath 0) av zc, .nil, false, 0⟩ s2 .nil := by unfold frameOf; rw [NC.setK_eq]
        rw [hfo] at hs
        have hhas := (hs hgR).2 .ret _ s2 (.inl ⟨rfl, rfl, rfl⟩)
        obtain ⟨f', s3, hh, hH3, hfok⟩ := hjoin _ _ _ hhas ρ' w' false 0 { tmps := #[v], defers := [] } hH' ⟨fun i hi => by
          by_cases e : i = 0
          · subst e; rw [NC.get_same]; exact hv
          · rw [NC.get_other _ _ _ _ (fun h => e (fpath_inj hi (by decide) h)), zc_get]; trivial, rfl, rfl, rfl, Nat.zero_le _, Nat.zero_le _⟩
        refine ⟨v, rfl, NC.get (fpath 0) f'.s, s3.with .off, ρ', ?_, hsub, hfok.slots 0 (by decide), hH3.stop hmb⟩
        rw [hF]; exact g2 _ _ _ hh
end
theorem under_ok : ∀ (l : NL) {n : Nat}, l.under n = true → ∀ m, m ∈ l.toL → m < n
  | .nil, n, h => by intro m hm; cases hm
  | .cons a t, n, h => by
    obtain ⟨h1, h2⟩ := and_inv (b := t.under n) h
    intro m hm
    rcases List.mem_cons.1 hm with rfl | hm
    · exact Nat.le_of_ble_eq_true h1
    · exact under_ok t h2 m hm
theorem paramsK_ok {ρ : Rho} {nt : Nat} : ∀ (ps : NL) {a : AV} {vs : List Value} {f : NC} {tmps : Array Value} {F : Res} {k : NC → Res}, F.good → LRel op ρ a vs → SRel op ρ f tmps → nt ≤ tmps.size → nt ≤ 512 → (∀ m, m ∈ ps.toL → m < nt) → F = paramsK ps a f k →
    ∃ f', F = k f' ∧ vs.length = ps.toL.length ∧ SRel op ρ f' ((ps.toL.zip vs).foldl (fun t (p, v) => t.setIfInBounds p v) tmps) ∧ nt ≤ ((ps.toL.zip vs).foldl (fun t (p, v) => t.setIfInBounds p v) tmps).size
  | .nil, a, vs, f, tmps, F, k, hg, ha, hf, hn, h5, hu, hF => by
    have hF : F = a.uncons (k f) fun _ _ => .fail := hF
    rcases uncons_ok op ha (k f) (fun _ _ => .fail) with ⟨rfl, e⟩ | ⟨_, _, _, _, _, _, _, e⟩
    · exact ⟨f, hF.trans e, rfl, hf, hn⟩
    · rw [hF, e] at hg; exact hg.elim
  | .cons n ps, a, vs, f, tmps, F, k, hg, ha, hf, hn, h5, hu, hF => by
    have hF : F = a.uncons .fail fun h t => NC.setK (fpath n) h f fun f' => paramsK ps t f' k := hF
    rcases uncons_ok op ha .fail (fun h t => NC.setK (fpath n) h f fun f' => paramsK ps t f' k) with ⟨rfl, e⟩ | ⟨b, t, v, l, rfl, hv, ht, e⟩
    · rw [hF, e] at hg; exact hg.elim
    · have hF := hF.trans e
      rw [NC.setK_eq] at hF
      have hnlt : n < nt := hu n (List.mem_cons_self ..)
      have hf' : SRel op ρ (NC.setS (fpath n) b f) (tmps.setIfInBounds n v) := by
        intro i hi
        by_cases e : i = n
        · subst e
          rw [NC.get_same]
          have : i < tmps.size := by omega
          simp only [Array.getD_eq_getD_getElem?, Array.getElem?_setIfInBounds, if_pos, this, Option.getD_some]
          exact hv
        · rw [NC.get_other _ _ _ _ (fun h => e (fpath_inj hi (by omega) h))]
          have := hf i hi
          simp only [Array.getD_eq_getD_getElem?, Array.getElem?_setIfInBounds] at this ⊢
          rw [if_neg (Ne.symm e)]; exact this
      obtain ⟨f', hF, h1, h2, h3⟩ := paramsK_ok ps hg ht hf' (by simpa using hn) h5 (fun m hm => hu m (List.mem_cons_of_mem _ hm)) hF
      exact ⟨f', hF, by simp [NL.toL, h1], h2, h3⟩
/-- How a round is left. -/
theorem jumpOf_ok {x : Ex} : (jumpOf x).toO = (match x with | .normal => none | .exit n => some (.exit n) | .goto l => some (.goto l) | .ret => some .ret) := by cases x <;> rfl
section
variable (T : TiOk P ti) {okTo : Nat → Nat → Nat → Nat → Bool} {E : Env} (EO : EnvOk P op ti okTo E) {ih : IH} (IOk : IhOk P op ti ih)
include IOk
theorem roundK_ok {ρ : Rho} {s : St} {w : World} {id : Nat} {p : Sp} (hp : ρ id = some p) (hG : GRel ti ρ) (hH : HRel op w0 ρ s w) {l : AV} {vs : List Value} (hl : LRel op ρ l vs) {F : Res} (hg : F.good) {k : AV → St → Res} (hF : F = roundK ih id l s k) :
    ∃ fn tmps assign body, (Instr.yield p.b vs.toArray).run P w = .ok (.round p.b fn tmps assign body) w ∧ RoundIn Fence.wide 0 P p.b fn tmps assign body w (fun e w' => ∃ v, e = .returned v ∧ Rets op w0 ρ k F v w') := by
  unfold roundK at hF
  obtain ⟨ready, pend, f, nt, ps, asg, body, ho, hF⟩ := asLoop_inv hg hF
  have hob := hH.obj id p hp
  rw [ho] at hob
  obtain ⟨hB, L, hblk, hst, hpe, hsl, hnt, hps, hasg, hbody, h512⟩ := hob
  obtain ⟨g1, hF1⟩ := guard_inv hg hF
  clear hF
  obtain ⟨g2, hF⟩ := guard_inv hg hF1
  clear hF1
  subst g1
  obtain ⟨f1, hF, hlen, hf1, hsz⟩ := paramsK_ok (op := op) ps hg hl hsl hnt h512 (under_ok ps g2) hF
  have hsize : vs.toArray.size = L.params.size := by
    rw [List.size_toArray, hlen, ← hps]; simp
  have hy := run_yield (P := P) hblk hsize
  have htm : (L.params.zip vs.toArray).foldl (fun tmps (t, a) => tmps.setIfInBounds t a) L.tmps = (ps.toL.zip vs).foldl (fun t (p, v) => t.setIfInBounds p v) L.tmps := by
    rw [← Array.foldl_toList, Array.toList_zip, hps]
  rw [htm] at hy
  refine ⟨_, _, _, _, hy, roundIn_of_wpIn trivial ?_⟩
  rw [hasg, hbody]
  have hg' := hg
  rw [hF] at hg'
  obtain ⟨k1, k2⟩ := bind_good _ hg'
  refine wpIn_mono (IOk.code w0 asg ⟨f1, .nil, true, nt⟩ s { tmps := (ps.toL.zip vs).foldl (fun t (p, v) => t.setIfInBounds p v) L.tmps, defers := [] } w ρ true nt (some p.b) k1 hH ⟨hf1, rfl, rfl, rfl, hsz, h512⟩ hG rfl) ?_
  rintro e a1 w1 ⟨x, f2, s2, ρ2, hhas, hsub2, hH2, hfo2, rfl⟩
  have hs := k2 x f2 s2 hhas
  rw [← hF] at hs
  obtain ⟨F2, hF2⟩ : ∃ F2, F2 = roundBody ih id body x f2 s2 k := ⟨_, rfl⟩
  rw [← hF2] at hs
  have hgood : F2.good := (hs hg).1
  unfold roundBody at hF2
  obtain ⟨gx, hF2⟩ := guard_inv hgood hF2
  obtain ⟨gd, hF2⟩ := guard_inv hgood hF2
  obtain ⟨ready2, pend2, f', nt', ps', asg', body', ho2, hF2⟩ := asLoop_inv hgood hF2
  obtain ⟨gr, hF3⟩ := guard_inv hgood hF2
  clear hF2
  subst gr
  have hF2 := hF3
  clear hF3
  have hx : x = .normal := by cases x <;> first | rfl | cases gx
  subst hx
  have hp2 := hsub2 _ _ hp
  have hob2 := hH2.obj id p hp2
  rw [ho2] at hob2
  obtain ⟨_, L2, hblk2, hst2, hpe2, hsl2, hnt2, hps2, hasg2, hbody2, h5122⟩ := hob2
  cases pend2 with
  | some c => rw [hF2] at hgood; exact hgood.elim
  | none =>
    have hF2 : F2 = s2.setK id (.loop false .none f' nt' ps' asg' body') fun s3 => (ih body f2 s3).bind fun x f4 s4 => roundEnd id x f4 s4 k := hF2
    rw [St.setK_eq] at hF2
    have hbr := run_beginRound (P := P) hblk2 hst2
    refine ⟨_, hbr, ?_⟩
    have hlive2 : (s2.get id).live := by rw [ho2]; trivial
    have hH3 : HRel op w0 ρ2 (s2.set id (.loop false .none f' nt' ps' asg' body')) (w1.putObj p.b (.loop { L2 with state := .busy })) :=
      hH2.turn hp2 hlive2 hB (putObj_turned _) ⟨hB, { L2 with state := .busy }, putObj_same _ (hH2.blk _ _ hp2), rfl, hpe2, hsl2, hnt2, hps2, hasg2, hbody2, h5122⟩
    have hg2 := hgood
    rw [hF2] at hg2
    obtain ⟨m1, m2⟩ := bind_good _ hg2
    refine wpIn_mono (IOk.code w0 body f2 _ a1 _ ρ2 true nt (some p.b) m1 hH3 hfo2 (hG.mono hsub2) rfl) ?_
    rintro e a3 w3 ⟨x, f4, s4, ρ4, hhas4, hsub4, hH4, hfo4, rfl⟩
    have hs4 := m2 x f4 s4 hhas4
    rw [← hF2] at hs4
    obtain ⟨F4, hF4⟩ : ∃ F4, F4 = roundEnd id x f4 s4 k := ⟨_, rfl⟩
    rw [← hF4] at hs4
    have hgood4 : F4.good := (hs4 hgood).1
    unfold roundEnd at hF4
    obtain ⟨gd4, hF4⟩ := guard_inv hgood4 hF4
    obtain ⟨r4, pd4, f5, nt5, ps5, asg5, body5, ho4, hF4⟩ := asLoop_inv hgood4 hF4
    rw [St.setK_eq] at hF4
    have hp4 := hsub4 _ _ hp2
    have hob4 := hH4.obj id p hp4
    rw [ho4] at hob4
    obtain ⟨_, L4, hblk4, hst4, hpe4, hsl4, hnt4, hps4, hasg4, hbody4, h5124⟩ := hob4
    have hlive4 : (s4.get id).live := by rw [ho4]; trivial
    have fin : ∀ (jump : Option Code) (b : Bool), jump = (jumpOf x).toO → b = isNormal x → jump.isNone = b → ∃ v w', (Instr.endRound p.b jump).run P w3 = .ok v w' ∧ ∃ v', Ending.returned v = .returned v' ∧ Rets op w0 ρ k F v' w' := by
      intro jump b hj hb hjb
      have her := run_endRound (P := P) jump hblk4
      refine ⟨_, _, her, _, rfl, .bool (isNormal x), _, ρ4, ?_, hsub2.trans hsub4, ?_, hH4.turn (o := .loop (isNormal x) (jumpOf x) f5 nt5 ps5 asg5 body5) hp4 hlive4 hB (putObj_turned _) ⟨hB, { L4 with state := if jump.isNone then .ready else .done, pending := jump }, putObj_same _ (hH4.blk _ _ hp4), ?_, hj, hsl4, hnt4, hps4, hasg4, hbody4, h5124⟩⟩
      · rw [hF4] at hs4; exact hs4.trans hs
      · show Value.bool _ = .bool _; rw [hjb, hb]
      · show (if jump.isNone = true then LoopState.ready else .done) = _
        rw [hjb, hb, ← hj]
        cases hn : isNormal x with
        | true => rfl
        | false =>
          rw [hb, hn] at hjb
          cases jump with
          | none => cases hjb
          | some c => rfl
    cases x with
    | normal => exact fin none true rfl rfl rfl
    | ret => exact fin (some .ret) false rfl rfl rfl
    | exit n => exact fin (some (.exit n)) false rfl rfl rfl
    | goto n => exact fin (some (.goto n)) false rfl rfl rfl
end
end
end Go.Ax
end
section
namespace Go.Ax
open Go Go.RowKit
noncomputable section
set_option linter.unusedSectionVars false
set_option linter.unusedVariables false
set_option linter.unusedSimpArgs false
variable {P : Program} {op : Nat → Value} {w0 : Base} {ti : TI}
/- ### Operations in the walk -/
theorem callsTo_in {g : FuncId} {args : Array Value} {w : World} {R : Value → World → Prop} (h : CallsTo P g args w R) (r : Option Nat) : CallsIn (Fc r) 0 P g args w fun e w' => ∃ v, e = .returned v ∧ R v w' := h
theorem roundIn_in {l : Nat} {fn : FuncId} {tmps : Array Value} {asg body : Code} {w : World} {R : Ending → World → Prop} (h : RoundIn Fence.wide 0 P l fn tmps asg body w R) (r : Option Nat) : RoundIn (Fc r) 0 P l fn tmps asg body w R := h
section
variable (T : TiOk P ti) {okTo : Nat → Nat → Nat → Nat → Bool} (K : OkTo P okTo) (hop1 : ∀ n, (op n).oneCell' = true) {E : Env} (EO : EnvOk P op ti okTo E) {ih : IH} (IOk : IhOk P op ti ih)
/-- What runs on behind an operation. -/
def Next (op : Nat → Value) (w0 : Base) (ρ : Rho) (k : AV → St → Res) (F : Res) (a : Act) (dst : Option Tmp) (K : Act → World → Prop) : Prop :=
  ∀ av s' v w' ρ', Sub (k av s') F → ρ.sub ρ' → VRel op ρ' av v → HRel op w0 ρ' s' w' → K (a.put dst v) w'
include T EO IOk
/-- A call of a function value. -/
theorem callv_ok {ρ : Rho} {s : St} {w : World} {a : Act} {o : Oper} {c : Call} (hop : o.op = .call c) {f : Operand} (hcal : c.callee = .value f) {r : Option Nat} (hG : GRel ti ρ) (hH : HRel op w0 ρ s w) {fv al : AV} {vs : List Value} (hf : VRel op ρ fv (a.eval f)) (hl : LRel op ρ al vs) (hvs : (c.args.map a.eval) = vs.toArray)
    {F : Res} (hg : F.good) {k : AV → St → Res} (hF : F = callvK E ih (cv1 E ih) fv al s k) {K' : Act → World → Prop} {Q : Exit → Act → World → Prop} (hn : Next op w0 ρ k F a o.dst K') : o.wpIn (Fc r) 0 P a w K' Q := by
  refine ⟨fun _ _ => trivial, ?_⟩
  rw [Oper.semAt_eq _ _ _ (fun c h => by rw [hop] at h; cases h)]
  unfold callvK at hF
  obtain ⟨g, x, cc, e1, hF⟩ := asFn_inv hg hF
  subst e1
  obtain ⟨g', xs, cs, hfr, hx, hc, hv⟩ := hf
  have hexec : (execOp a.eval o).run P w = (invoke (.fn g' cs.toArray) (xs.toArray ++ vs.toArray)).run P w := by
    simp only [execOp, hop, resolve, hcal, hv, Deferred.ofValue, hvs, Sem.run_bind, Sem.run_pure, Result.andThen]
  rw [hexec]
  cases g with
  | func g =>
    have hfr : g' = .func g := hfr
    subst hfr
    have hF : F = callK (E.fn g) ih (cv1 E ih) (x.app (al.app cc)) s k := hF
    have hall := app_ok op x hx (app_ok op al hl hc)
    have hargs : xs.toArray ++ vs.toArray ++ cs.toArray = (xs ++ (vs ++ cs)).toArray := by simp
    have hinv : (invoke (.fn (.func g) cs.toArray) (xs.toArray ++ vs.toArray)).run P w = (callFunc g (xs ++ (vs ++ cs)).toArray).run P w := by
      show (callFunc g (xs.toArray ++ vs.toArray ++ cs.toArray)).run P w = _; rw [hargs]
    rw [hinv]
    rcases callK_ok T EO IOk hG hH hall hg hF with ⟨v, w', hr, av, s', ρ', h1, h2, h3, h4⟩ | ⟨hr, hc⟩
    · rw [hr, Oper.uponIn_value]; exact hn av s' v w' ρ' h1 h2 h3 h4
    · rw [hr, Oper.uponIn_enter]
      refine ⟨fun h => (by cases h), (callsTo_in hc r).mono ?_⟩
      rintro e w' ⟨v, rfl, av, s', ρ', h1, h2, h3, h4⟩
      exact hn av s' v w' ρ' h1 h2 h3 h4
  | yield l =>
    obtain ⟨p, hp, hfr⟩ := hfr
    subst hfr
    have hF : F = x.uncons (roundK ih l al s k) fun _ _ => .fail := hF
    rcases uncons_ok op hx (roundK ih l al s k) (fun _ _ => .fail) with ⟨rfl, e⟩ | ⟨_, _, _, _, _, _, _, e⟩
    · obtain ⟨fn, tmps, asg, body, hy, hround⟩ := roundK_ok IOk hp hG hH hl hg (hF.trans e)
      have hinv : (invoke (.fn (.yield p.b) cs.toArray) (([] : List Value).toArray ++ vs.toArray)).run P w = (Instr.yield p.b vs.toArray).run P w := by
        show (Instr.yield p.b (([] : List Value).toArray ++ vs.toArray)).run P w = _; congr 2; simp
      rw [hinv, hy, Oper.uponIn_round]
      refine ⟨fun h => (by cases h), (roundIn_in hround r).mono ?_⟩
      rintro e w' ⟨v, rfl, av, s', ρ', h1, h2, h3, h4⟩
      exact hn av s' v w' ρ' h1 h2 h3 h4
    · rw [hF, e] at hg; exact hg.elim
  | _ => rw [hF] at hg; exact hg.elim
include K hop1
/-- Every operation, in the walk. -/
theorem oper_ok {ρ : Rho} {s : St} {w : World} {f : NC} {a : Act} {o : Oper} {c : COp} {r : Option Nat} (hc : copC ti okTo o.op = some c) (hS : Opd op ρ ti f a o) (hG : GRel ti ρ) (hH : HRel op w0 ρ s w)
    {F : Res} (hg : F.good) {k : AV → St → Res} (hF : F = runOp c E ih f s k) {K' : Act → World → Prop} {Q : Exit → Act → World → Prop} (hn : Next op w0 ρ k F a o.dst K') : o.wpIn (Fc r) 0 P a w K' Q := by
  have plain : notCall c → o.wpIn (Fc r) 0 P a w K' Q := by
    intro hnc
    have hnd : ∀ c', o.op ≠ .defer c' := fun c' h => by rw [h] at hc; simp only [copC] at hc; cases hc
    have hok : OpOk P op w0 ρ s w (runOp c E ih f s) (execOp a.eval o) := by
      rcases cop_kept (E := E) (ih := ih) T K hop1 hS hG hH hc hnc with ⟨_, h⟩ | ⟨_, h⟩ | ⟨_, h⟩
      · exact h.toOp hH
      · exact h.toOp hH
      · exact h
    obtain ⟨av, s', ⟨v, w', ρ', hr, h2, h3, h4⟩, h1⟩ := hok F k hg hF
    refine ⟨fun _ _ => trivial, ?_⟩
    rw [Oper.semAt_eq _ _ _ hnd]
    rcases hr with hr | ⟨hr, rfl⟩
    · rw [hr, Oper.uponIn_value]; exact hn av s' v w' ρ' h1 h2 h3 h4
    · rw [hr, Oper.uponIn_skip]; exact hn av s' undef w' ρ' h1 h2 h3 h4
  cases c with
  | bad => rw [hF] at hg; exact hg.elim
  | callf g args =>
    -- a call of a function by its name
    have hcl : ∃ cl, o.op = .call cl ∧ cl.callee = .value (.func g) ∧ srcsC ti cl.args.toList = some args := by
      cases hop : o.op with
      | call cl =>
        rw [hop] at hc
        simp only [copC] at hc
        split at hc
        · rename_i b hb
          unfold builtinC at hc
          repeat' (split at hc) <;> first | cases hc | skip
          all_goals (try cases hc)
        · rename_i g' hcal
          split at hc
          · rename_i l hl; cases hc; exact ⟨cl, rfl, hcal, hl⟩
          · cases hc
        · split at hc <;> cases hc
        · cases hc
      | makeMap t rv =>
        rw [hop] at hc
        cases rv with
        | none => simp only [copC] at hc; cases hc
        | some v => simp only [copC] at hc; cases hc
      | convert s d x =>
        rw [hop] at hc
        simp only [copC, convC] at hc
        repeat' (split at hc) <;> first | cases hc | skip
        all_goals (try cases hc)
      | _ =>
        rw [hop] at hc
        simp only [copC] at hc
        repeat' (split at hc)
        all_goals (try cases hc)
    obtain ⟨cl, hop, hcal, hargs⟩ := hcl
    have hF : F = args.evK f fun l => callK (E.fn g) ih (cv1 E ih) l s k := hF
    obtain ⟨al, hal, hF⟩ := srcs_ok hS hG cl.args.toList hargs hF (fun x hx => by rw [hop]; simp only [Op.operands, Call.operands, Array.toList_append, List.mem_append]; exact .inr hx)
    refine callv_ok (fv := .fn (.func g) .lnil .lnil) (al := al) (vs := cl.args.toList.map a.eval) T EO IOk hop hcal hG hH ⟨.func g, [], [], rfl, rfl, rfl, rfl⟩ hal (by rw [← Array.toList_map, Array.toArray_toList]) hg ?_ hn
    have happ : al.app .lnil = al := by
      have : ∀ (x : AV) {vs : List Value}, LRel op ρ x vs → x.app .lnil = x := by
        intro x
        induction x with
        | lnil => intro vs h; rfl
        | lcons a t _ it => intro vs h; obtain ⟨v, l', _, _, ht⟩ := (LRel.cons op).1 h; show AV.lcons a (t.app .lnil) = _; rw [it ht]
        | _ => intro vs h; simp [LRel] at h
      exact this al hal
    rw [hF]
    show _ = callK (E.fn g) ih (cv1 E ih) (AV.app .lnil (al.app .lnil)) s k
    rw [happ]; rfl
  | callv fs args =>
    have hcl : ∃ cl fo, o.op = .call cl ∧ cl.callee = .value fo ∧ srcC ti fo = some fs ∧ srcsC ti cl.args.toList = some args := by
      cases hop : o.op with
      | call cl =>
        rw [hop] at hc
        simp only [copC] at hc
        split at hc
        · rename_i b hb
          unfold builtinC at hc
          repeat' (split at hc) <;> first | cases hc | skip
          all_goals (try cases hc)
        · split at hc <;> cases hc
        · rename_i f' hnf hcal
          split at hc
          · rename_i x l hx hl; cases hc; exact ⟨cl, f', rfl, hcal, hx, hl⟩
          · cases hc
        · cases hc
      | makeMap t rv =>
        rw [hop] at hc
        cases rv with
        | none => simp only [copC] at hc; cases hc
        | some v => simp only [copC] at hc; cases hc
      | convert s d x =>
        rw [hop] at hc
        simp only [copC, convC] at hc
        repeat' (split at hc) <;> first | cases hc | skip
        all_goals (try cases hc)
      | _ =>
        rw [hop] at hc
        simp only [copC] at hc
        repeat' (split at hc)
        all_goals (try cases hc)
    obtain ⟨cl, fo, hop, hcal, hfo, hargs⟩ := hcl
    have hF : F = args.evK f fun l => callvK E ih (cv1 E ih) (fs.ev f) l s k := hF
    obtain ⟨al, hal, hF⟩ := srcs_ok hS hG cl.args.toList hargs hF (fun x hx => by rw [hop]; simp only [Op.operands, Call.operands, Array.toList_append, List.mem_append]; exact .inr hx)
    exact callv_ok T EO IOk hop hcal hG hH (hS fo (by rw [hop]; simp [Op.operands, Call.operands, hcal]) fs hfo) hal (by rw [← Array.toList_map, Array.toArray_toList]) hg hF hn
  | _ => exact plain trivial
end
end
end Go.Ax
end
section
namespace Go.Ax
open Go Go.RowKit
noncomputable section
set_option linter.unusedSectionVars false
set_option linter.unusedVariables false
set_option linter.unusedSimpArgs false
variable {P : Program} {op : Nat → Value} {w0 : Base} {ti : TI}
/- ### Guards, and regions in their order -/
def boolOf : Value → Option Bool
  | .bool b => some b
  | _ => none
theorem bool_known {ρ : Rho} {A : AV} {v : Value} (h : VRel op ρ A v) (hk : A.known = true) (w : Bool) : A.boolIs w = (boolOf v == some w) := by
  cases A with
  | bool b => have h : v = .bool b := h; subst h; cases b <;> cases w <;> rfl
  | top => cases hk
  | opq n => cases hk
  | lnil => cases hk
  | lcons a b => cases hk
  | int k n => have h : v = .int k n := h; subst h; rfl
  | str s => obtain ⟨_, rfl⟩ := h; rfl
  | nilp => have h : v = .pointer none := h; subst h; rfl
  | ptr i o => obtain ⟨_, _, rfl⟩ := h; rfl
  | nils => have h : v = .slice none 0 0 := h; subst h; rfl
  | sl a b c d e f => obtain ⟨_, _, _, _, rfl, _⟩ := h; rfl
  | nilm => have h : v = .map none := h; subst h; rfl
  | map i => obtain ⟨_, _, rfl⟩ := h; rfl
  | fn f x c => obtain ⟨_, _, _, _, _, _, rfl⟩ := h; rfl
  | nilf => have h : v = .nilFunc := h; subst h; rfl
  | ifc t x => obtain ⟨_, _, rfl⟩ := h; rfl
  | nili => have h : v = .nilIface := h; subst h; rfl
  | agg cs => obtain ⟨_, _, _, rfl⟩ := h; rfl
  | tup cs => obtain ⟨_, _, rfl⟩ := h; rfl
theorem grd_ok {ρ : Rho} {f : NC} {a : Act} {ops : Array Oper} {o : Oper} {g : Grd} (hg : grdC ops.toList o.guard = some g) (hS : SRel op ρ f a.tmps) (hs : g.sure f = true) : g.ok f = Region.wanted o (yielded ops a.tmps) := by
  unfold Region.wanted
  cases hgd : o.guard with
  | none => rw [hgd] at hg; cases hg; rfl
  | some jw =>
    obtain ⟨j, w⟩ := jw
    rw [hgd] at hg
    simp only [grdC] at hg
    split at hg
    · rename_i o' ho'
      split at hg
      · rename_i t ht
        split at hg
        · rename_i ht5
          cases hg
          have hv := hS t ht5
          have hs : (NC.get (fpath t) f).known = true := hs
          show (NC.get (fpath t) f).boolIs w = _
          rw [bool_known hv hs w]
          have ho2 : ops[j]? = some o' := by rw [← Array.getElem?_toList]; exact ho'
          simp only [yielded, ho2, Option.bind_some, ht, Array.getD_eq_getD_getElem?]
          cases ht3 : a.tmps[t]? with
          | none => simp [boolOf, undef]
          | some v => cases v <;> simp [boolOf]
        · cases hg
      · cases hg
    · cases hg
theorem undef_rel {ρ : Rho} : VRel op ρ undefA undef := ⟨[], rfl, rfl⟩
section
variable (T : TiOk P ti) {okTo : Nat → Nat → Nat → Nat → Bool} (K : OkTo P okTo) (hop1 : ∀ n, (op n).oneCell' = true) {E : Env} (EO : EnvOk P op ti okTo E) {ih : IH} (IOk : IhOk P op ti ih)
include T K hop1 EO IOk
/-- One operation, in its order. -/
theorem co_ok {ops : Array Oper} {o : Oper} {ρ : Rho} {s : St} {w : World} {f : Fr} {a : Act} {rd : Bool} {nt i bef : Nat} {r : Option Nat} (hG : GRel ti ρ) (hH : HRel op w0 ρ s w) (hfo : FrOk P op ρ rd nt f a) (hr : rd = r.isSome)
    {F : Res} (hg : F.good) {k : Fr → St → Res} (hF : F = runCO (coC ti okTo nt ops.toList i bef o) E ih f s k) {K' : Act → World → Prop} {Q : Exit → Act → World → Prop}
    (hn : ∀ f' s' a' w' ρ', Sub (k f' s') F → ρ.sub ρ' → HRel op w0 ρ' s' w' → FrOk P op ρ' rd nt f' a' → K' a' w') :
    (if Region.wanted o (yielded ops a.tmps) then o.wpIn (Fc r) 0 P a w K' Q else (∀ f, o.about P w a.eval = some f → (Fc r).fn f) ∧ K' (a.put o.dst undef) w) := by
  obtain ⟨fs, fd, frd, fnt⟩ := f
  obtain ⟨hS, hD, erd, ent, hsz, h512⟩ := hfo
  have erd : frd = rd := erd
  have ent : fnt = nt := ent
  subst erd
  subst ent
  have hS : SRel op ρ fs a.tmps := hS
  have hD : DRel P op ρ fd a.defers := hD
  unfold coC at hF
  split at hF
  · rename_i d g hd hgd
    -- what follows the writing of a slot
    have step : ∀ {ρ' : Rho} {s' : St} {w' : World} {A : AV} {v : Value} {X : Res} {k2 : Fr → St → Res} {fd' : DL} {a2 : Act}, ρ.sub ρ' → VRel op ρ' A v → HRel op w0 ρ' s' w' → a2.tmps = a.tmps → DRel P op ρ' fd' a2.defers → Sub X F → X = (d.setK A fs fun f' => k ⟨f', fd', frd, fnt⟩ s') → K' (a2.put o.dst v) w' := by
      intro ρ' s' w' A v X k2 fd' a2 hsub hv hH' ht hd' hsX hX
      obtain ⟨f', hX2, h1, h2, h3⟩ := dstK_ok (op := op) (a := a2) hd (.inl hv) (f := fs) (by rw [ht]; exact hS.mono hsub) (by rw [ht]; exact hsz) hX
      exact hn ⟨f', fd', frd, fnt⟩ s' _ w' ρ' (by rw [← hX2]; exact hsX) hsub hH' ⟨h1, by rw [h3]; exact hd', rfl, rfl, h2, h512⟩
    have about : ∀ f, o.about P w a.eval = some f → (Fc r).fn f := fun _ _ => trivial
    have general : ∀ (c : COp) (n1 : Nat), (copC ti okTo o.op = some c ∨ c = .bad) → F = runCO (.mk d g c i bef n1) E ih ⟨fs, fd, frd, fnt⟩ s k → (if Region.wanted o (yielded ops a.tmps) then o.wpIn (Fc r) 0 P a w K' Q else (∀ f, o.about P w a.eval = some f → (Fc r).fn f) ∧ K' (a.put o.dst undef) w) := by
      intro c n1 hc hF
      have hF : F = guardK (g.sure fs) (Bool.rec (motive := fun _ => Res) (d.setK undefA fs fun f' => k ⟨f', fd, frd, fnt⟩ s) (runOp c E ih fs s fun v s' => d.setK v fs fun f' => k ⟨f', fd, frd, fnt⟩ s') (g.ok fs)) := hF
      obtain ⟨gs, hF⟩ := guard_inv hg hF
      have hw := grd_ok (op := op) hgd hS gs
      rw [← hw]
      cases hok : g.ok fs with
      | false =>
        rw [hok] at hF
        rw [if_neg (by decide)]
        exact ⟨about, step (k2 := k) (.refl _) undef_rel hH rfl hD (.refl _) hF⟩
      | true =>
        rw [hok] at hF
        rw [if_pos rfl]
        rcases hc with hc | rfl
        · refine oper_ok T K hop1 EO IOk hc (Opd.of hS hG o) hG hH hg hF ?_
          intro av s' v w' ρ' hsub hsr hv hH'
          exact step (k2 := k) hsr hv hH' rfl (hD.mono hsr) hsub rfl
        · rw [hF] at hg; exact hg.elim
    split at hF
    · rename_i c hop
      split at hF
      · rename_i fo hcal
        split at hF
        · rename_i x l hx hl
          have hF : F = guardK (bnot frd) (guardK (g.sure fs) (Bool.rec (motive := fun _ => Res) (d.setK undefA fs fun f' => k ⟨f', fd, frd, fnt⟩ s) (l.evK fs fun l => (x.ev fs).asFn fun _ _ _ => d.setK undefA fs fun f' => k ⟨f', .call (x.ev fs) l fd, frd, fnt⟩ s) (g.ok fs))) := hF
          obtain ⟨gr, hF⟩ := guard_inv hg hF
          obtain ⟨gs, hF⟩ := guard_inv hg hF
          have hw := grd_ok (op := op) hgd hS gs
          rw [← hw]
          cases hok : g.ok fs with
          | false =>
            rw [hok] at hF
            rw [if_neg (by decide)]
            exact ⟨about, step (k2 := k) (.refl _) undef_rel hH rfl hD (.refl _) hF⟩
          | true =>
            rw [hok] at hF
            rw [if_pos rfl]
            have hrn : r = none := by
              cases r with
              | none => rfl
              | some l => rw [hr] at gr; cases gr
            subst hrn
            obtain ⟨al, hal, hF⟩ := srcs_ok (o := o) (Opd.of hS hG o) hG c.args.toList hl hF (fun x hx => by rw [hop]; simp only [Op.operands, Call.operands, Array.toList_append, List.mem_append]; exact .inr hx)
            have hxv := src_rel hS hG hx
            obtain ⟨gf, gx, gc, ex, hF⟩ := asFn_inv hg hF
            have hxv' := hxv
            rw [ex] at hxv'
            obtain ⟨g', xs, cs, hfr, hxs, hcs, hv⟩ := hxv'
            refine ⟨about, ?_⟩
            show o.uponIn (Fc none) 0 P a K' Q ((execOp a.eval o).run P w)
            have hres : ∀ w, (Deferred.ofValue (a.eval fo) (c.args.toList.map a.eval).toArray).run P w = .ok { target := .fn g' cs.toArray, args := xs.toArray ++ (c.args.toList.map a.eval).toArray } w := by
              intro w; rw [hv]; rfl
            have hexec : (execOp a.eval o).run P w = .ok (.defer { target := .fn g' cs.toArray, args := xs.toArray ++ (c.args.toList.map a.eval).toArray }) w := by
              have hma : c.args.map a.eval = (c.args.toList.map a.eval).toArray := by rw [← Array.toList_map, Array.toArray_toList]
              simp only [execOp, hop, resolve, hcal, Sem.run_bind, hma, hres, Result.andThen, Sem.run_pure]
            rw [hexec, Oper.uponIn_defer]
            refine step (k2 := k) (a2 := { a with defers := { target := .fn g' cs.toArray, args := xs.toArray ++ (c.args.toList.map a.eval).toArray } :: a.defers }) (.refl _) undef_rel hH rfl ?_ (.refl _) hF
            exact ⟨_, a.defers, a.eval fo, c.args.toList.map a.eval, rfl, hxv, hal, hres, hD⟩
        · exact general .bad 3 (.inr rfl) hF
      · exact general .bad 3 (.inr rfl) hF
    · split at hF
      · rename_i c hc
        exact general c _ (.inl hc) hF
      · exact general .bad 3 (.inr rfl) hF
  · have hF : F = guardK true .fail := hF
    rw [hF] at hg; exact hg.elim
/-- A region in its order. -/
theorem line_ok {ops : Array Oper} {ρ0 : Rho} {F0 : Res} (hg0 : F0.good) {rd : Bool} {nt : Nat} {r : Option Nat} (hr : rd = r.isSome) : ∀ (l : List Oper) (k : Nat), (∀ j, l[j]? = ops[k + j]?) → ∀ {ρ : Rho} {s : St} {w : World} {f : Fr} {a : Act}, ρ0.sub ρ → GRel ti ρ → HRel op w0 ρ s w → FrOk P op ρ rd nt f a →
    Sub (runOps (lineC ti okTo nt ops.toList l) E ih f s) F0 → wpOpsIn (Fc r) 0 P ops (Post P op w0 ρ0 rd nt F0) (List.range' k l.length) a w
  | [], k, hk, ρ, s, w, f, a, hs0, hG, hH, hfo, hsub => by
    show Post P op w0 ρ0 rd nt F0 .normal a w
    exact ⟨.normal, f, s, ρ, (hsub hg0).2 _ _ _ (.inl ⟨rfl, rfl, rfl⟩), hs0, hH, hfo, rfl⟩
  | o :: l, k, hk, ρ, s, w, f, a, hs0, hG, hH, hfo, hsub => by
    have ho : ops[k]? = some o := by have := hk 0; simpa using this.symm
    have hrest : ∀ j, l[j]? = ops[k + 1 + j]? := fun j => by have := hk (j + 1); rw [List.getElem?_cons_succ] at this; rw [this]; congr 1; omega
    rw [List.length_cons, List.range'_succ]
    simp only [wpOpsIn, ho]
    have hgood := (hsub hg0).1
    refine co_ok T K hop1 EO IOk (k := fun f s => runOps (lineC ti okTo nt ops.toList l) E ih f s) hG hH hfo hr hgood rfl ?_
    intro f' s' a' w' ρ' h1 h2 h3 h4
    exact line_ok hg0 hr l (k + 1) hrest (hs0.trans h2) (hG.mono h2) h3 h4 (h1.trans hsub)
end
end
end Go.Ax
end
section
namespace Go.Ax
open Go Go.RowKit
noncomputable section
set_option linter.unusedSectionVars false
set_option linter.unusedVariables false
set_option linter.unusedSimpArgs false
variable {P : Program} {op : Nat → Value} {w0 : Base} {ti : TI}
/- ### Code -/
/-- What is left to show of regions in whatever order. -/
def DrawnOk (P : Program) (op : Nat → Value) (ti : TI) (E : Env) (ih : IH) : Prop := ∀ (w0 : Base) (id : Nat) (ops : Array Oper) (f : Fr) (s : St) (a : Act) (w : World) (ρ : Rho) (rd : Bool) (nt : Nat) (r : Option Nat),
  (mRegion id ops true E ih f s).good → HRel op w0 ρ s w → FrOk P op ρ rd nt f a → GRel ti ρ → rd = Option.isSome r → (Code.region id ops true).wpIn (Fc r) 0 P (Post P op w0 ρ rd nt (mRegion id ops true E ih f s)) a w
theorem nats_toL : ∀ (l : List Nat), (nats l).toL = l
  | [] => rfl
  | n :: l => by show n :: (nats l).toL = _; rw [nats_toL l]
theorem srcOf_ok {ρ : Rho} {fs : NC} {a : Act} (hS : SRel op ρ fs a.tmps) {g : Operand} (h : smallOp g = true) : VRel op ρ ((srcOf g).ev fs) (a.eval g) := by
  cases g with
  | tmp t => exact hS t (Nat.le_of_ble_eq_true h)
  | const v => trivial
  | global g => trivial
  | func g => exact ⟨.func g, [], [], rfl, rfl, rfl, rfl⟩
section
variable (T : TiOk P ti) {okTo : Nat → Nat → Nat → Nat → Bool} (K : OkTo P okTo) (hop1 : ∀ n, (op n).oneCell' = true) {E : Env} (EO : EnvOk P op ti okTo E) {ih : IH} (IOk : IhOk P op ti ih)
include T K hop1 EO IOk
theorem region_ok {id : Nat} {ops : Array Oper} {f : Fr} {s : St} {a : Act} {w : World} {ρ : Rho} {rd : Bool} {nt : Nat} {r : Option Nat} (hg : (mRegion id ops false E ih f s).good) (hH : HRel op w0 ρ s w) (hfo : FrOk P op ρ rd nt f a) (hG : GRel ti ρ) (hr : rd = Option.isSome r) :
    (Code.region id ops false).wpIn (Fc r) 0 P (Post P op w0 ρ rd nt (mRegion id ops false E ih f s)) a w := by
  obtain ⟨fs, fd, frd, fnt⟩ := f
  have ent : fnt = nt := hfo.ent
  subst ent
  have hF : mRegion id ops false E ih ⟨fs, fd, frd, fnt⟩ s = RegC.rec (motive := fun _ => Res) .fail (fun l => runOps l E ih ⟨fs, fd, frd, fnt⟩ s) (fun l => runDrawn l E ih fs s .nil fun f' s' => .ok .normal ⟨f', fd, frd, fnt⟩ s' .nil)
    (fun l m x v m' x' v' => runDrawn l E ih fs s .nil fun f' s' => runPair m x v m' x' v' f' s' fun s2 => .ok .normal ⟨f', fd, frd, fnt⟩ s2 .nil) (E.reg ops false fnt) := rfl
  rw [EO.reg] at hF
  have hF : mRegion id ops false E ih ⟨fs, fd, frd, fnt⟩ s = runOps (lineC ti okTo fnt ops.toList ops.toList) E ih ⟨fs, fd, frd, fnt⟩ s := by rw [hF]; rfl
  refine wpIn_region ?_
  have h1 := line_ok (ops := ops) T K hop1 EO IOk hg hr ops.toList 0 (fun j => by simp) (.refl _) hG hH hfo (by rw [hF]; exact .refl _)
  rw [List.range_eq_range']
  simpa using h1
theorem range_ok {g : Operand} {ps : Array Tmp} {asg body : Code} {ca cb : CK} {f : Fr} {s : St} {a : Act} {w : World} {ρ : Rho} {rd : Bool} {nt : Nat} {r : Option Nat} (hg : (mRange g ps asg body ca cb E ih f s).good) (hH : HRel op w0 ρ s w) (hfo : FrOk P op ρ rd nt f a) (hG : GRel ti ρ) (hr : rd = Option.isSome r) :
    (Code.rangeFunc g ps asg body).wpIn (Fc r) 0 P (Post P op w0 ρ rd nt (mRange g ps asg body ca cb E ih f s)) a w := by
  obtain ⟨fs, fd, frd, fnt⟩ := f
  obtain ⟨hS, hD, erd, ent, hsz, h512⟩ := hfo
  have erd : frd = rd := erd
  have ent : fnt = nt := ent
  subst erd
  subst ent
  have hS : SRel op ρ fs a.tmps := hS
  have hD : DRel P op ρ fd a.defers := hD
  obtain ⟨F, hF⟩ : ∃ F, F = mRange g ps asg body ca cb E ih ⟨fs, fd, frd, fnt⟩ s := ⟨_, rfl⟩
  rw [← hF] at hg ⊢
  obtain ⟨kk, hkk⟩ : ∃ kk : Nat → Nat → AV → St → Res, kk = fun r l _ s3 => (s3.get l).asLoop
    fun ready pend _ _ _ _ _ => s3.setK l .dead fun s4 => OC.rec (motive := fun _ => Res) (guardK ready (.ok .normal ⟨fs, .mark r fd, frd, fnt⟩ s4 .nil)) (fun c => ih c ⟨fs, .mark r fd, frd, fnt⟩ s4) pend := ⟨_, rfl⟩
  have hF : F = guardK (bnot frd) (guardK ((nats ps.toList).under fnt) (guardK (smallOp g) (s.newK .dfr fun r s1 => s1.newK (.loop true .none fs fnt (nats ps.toList) asg body) fun l s2 =>
    rangeK E ih ((srcOf g).ev fs) (.lcons (.fn (.yield l) .lnil .lnil) .lnil) s2 (kk r l)))) := by rw [hF, hkk]; rfl
  obtain ⟨gr, hF⟩ := guard_inv hg hF
  obtain ⟨gu, hF⟩ := guard_inv hg hF
  obtain ⟨gs, hF⟩ := guard_inv hg hF
  obtain ⟨hn1, hF⟩ := newK_inv hg hF
  obtain ⟨hn2, hF⟩ := newK_inv hg hF
  have hrn : r = none := by
    cases r with
    | none => rfl
    | some l => rw [hr] at gr; cases gr
  subst hrn
  have hB0 := hH.below.size
  obtain ⟨hs1, hp1, hH1⟩ := hH.make (a := .dfr) (p := ⟨w.heap.size, 0, 0⟩) hn1 rfl (grew_alloc w (.deferred (some []))) ⟨hB0, rfl⟩
  refine wpIn_rangeFunc fun fn _ => ?_
  obtain ⟨L, hL⟩ : ∃ L : Loop, L = { state := .ready, pending := none, fn := fn, tmps := a.tmps, params := ps, assign := asg, body := body, defers := w.heap.size } := ⟨_, rfl⟩
  obtain ⟨ρ1, hρ1⟩ : ∃ ρ1, ρ1 = ρ.put s.next ⟨w.heap.size, 0, 0⟩ := ⟨_, rfl⟩
  rw [← hρ1] at hs1 hp1 hH1
  have hsz1 : (w.alloc (.deferred (some []))).heap.size = w.heap.size + 1 := World.size_alloc _ _
  obtain ⟨hs2, hp2, hH2⟩ := hH1.make (a := .loop true .none fs fnt (nats ps.toList) asg body) (p := ⟨(w.alloc (.deferred (some []))).heap.size, 0, 0⟩) hn2 rfl (grew_alloc _ (.loop L))
    ⟨by show _ ≤ (w.alloc (.deferred (some []))).heap.size; omega, L, rfl, by rw [hL]; rfl, by rw [hL]; rfl, by rw [hL]; exact (hS.mono hs1).mono (Rho.put_sub (hH1.fresh (o := .dead) hn2).2), by rw [hL]; exact hsz, by rw [hL, nats_toL], by rw [hL], by rw [hL], h512⟩
  obtain ⟨ρ2, hρ2⟩ : ∃ ρ2, ρ2 = ρ1.put (s.add .dfr).next ⟨(w.alloc (.deferred (some []))).heap.size, 0, 0⟩ := ⟨_, rfl⟩
  rw [← hρ2] at hs2 hp2 hH2
  have hs02 := hs1.trans hs2
  -- the call
  unfold rangeK at hF
  have hgv := (srcOf_ok hS gs).mono op hs02
  obtain ⟨gf, gx, gc, ex, hF⟩ := asFn_inv hg hF
  rw [ex] at hgv
  obtain ⟨g', xs, cs, hfr, hxs, hcs, hv⟩ := hgv
  cases gf with
  | func gid =>
    have hfr : g' = .func gid := hfr
    subst hfr
    have hF : F = guardK (isGo (E.fn gid)) (callK (E.fn gid) ih (cv1 E ih) (gx.app ((AV.lcons (.fn (.yield (s.add .dfr).next) .lnil .lnil) .lnil).app gc)) ((s.add .dfr).add (.loop true .none fs fnt (nats ps.toList) asg body)) (kk s.next (s.add .dfr).next)) := hF
    obtain ⟨gg, hF⟩ := guard_inv hg hF
    have harg : LRel op ρ2 (AV.lcons (.fn (.yield (s.add .dfr).next) .lnil .lnil) .lnil) [Value.func (.yield (w.heap.size + 1)) #[] #[]] :=
      (LRel.cons op).2 ⟨_, [], rfl, ⟨.yield (w.heap.size + 1), [], [], ⟨_, hp2, by rw [hsz1]⟩, rfl, rfl, rfl⟩, rfl⟩
    have hall := app_ok op gx hxs (app_ok op _ harg hcs)
    have hG2 := hG.mono hs02
    obtain ⟨bd, rs, nt', flag, hfn⟩ : ∃ bd rs nt' flag, E.fn gid = .go bd rs nt' flag := by
      cases h : E.fn gid with
      | go bd rs nt' flag => exact ⟨_, _, _, _, rfl⟩
      | _ => rw [h] at gg; cases gg
    obtain ⟨fn', hfp, hb', _, _, _, hname⟩ := EO.fn gid bd rs nt' flag hfn
    have henter := run_callFunc (P := P) hfp hb' hname
    have hcall := callK_ok T EO IOk hG2 hH2 hall hg hF
    rcases hcall with ⟨v, w', hr', _⟩ | ⟨_, hcalls⟩
    · rw [henter] at hr'; cases hr'
    · refine ⟨w.heap.size + 1, [{ target := .collected w.heap.size, args := #[] }], (w.alloc (.deferred (some []))).alloc (.loop L), { target := .fn (.func gid) cs.toArray, args := xs.toArray ++ #[.func (.yield (w.heap.size + 1)) #[] #[]] }, (w.alloc (.deferred (some []))).alloc (.loop L), gid, (xs ++ ([Value.func (.yield (w.heap.size + 1)) #[] #[]] ++ cs)).toArray, (w.alloc (.deferred (some []))).alloc (.loop L), ?_, ?_, fun _ _ => trivial, ?_, fun h => (by cases h), (callsTo_in hcalls none).mono ?_⟩
      · rw [hL]; exact run_enterLoop_outer fn a.tmps ps asg body
      · have hm : (rangeCall g (w.heap.size + 1)).args.map a.eval = #[.func (.yield (w.heap.size + 1)) #[] #[]] := by simp only [rangeCall, List.map_toArray, List.map_cons, List.map_nil]; rfl
        have : (resolve a.eval (rangeCall g (w.heap.size + 1)) 0) = Deferred.ofValue (a.eval g) ((rangeCall g (w.heap.size + 1)).args.map a.eval) := rfl
        rw [this, hm, hv]; rfl
      · show (callFunc gid ((xs.toArray ++ #[.func (.yield (w.heap.size + 1)) #[] #[]]) ++ cs.toArray)).run P _ = _
        have : (xs.toArray ++ #[Value.func (.yield (w.heap.size + 1)) #[] #[]]) ++ cs.toArray = (xs ++ ([Value.func (.yield (w.heap.size + 1)) #[] #[]] ++ cs)).toArray := by simp
        rw [this]; exact henter _ _
      · rintro e w3 ⟨v, rfl, av, s3, ρ3, hsub, hs23, _, hH3⟩
        have hp3 := hs23 _ _ hp2
        have hgood : (kk s.next (s.add .dfr).next av s3).good := (hsub hg).1
        obtain ⟨F3, hF3⟩ : ∃ F3, F3 = kk s.next (s.add .dfr).next av s3 := ⟨_, rfl⟩
        rw [← hF3] at hgood hsub
        rw [hkk] at hF3
        obtain ⟨ready, pend, f', nt'', ps', asg', body', ho, hF3⟩ := asLoop_inv hgood hF3
        rw [St.setK_eq] at hF3
        have hob := hH3.obj _ _ hp3
        rw [ho] at hob
        obtain ⟨hB3, L3, hblk, hst, hpe, _⟩ := hob
        have hblk : w3.heap[w.heap.size + 1]? = some (.loop L3) := by rw [← hsz1]; exact hblk
        have hnew : HRel op w0 ρ3 (s3.set (s.add .dfr).next .dead) (w3.putObj (w.heap.size + 1) (.loop { L3 with state := .exhausted })) := by
          have := hH3.turn (o := .dead) hp3 (by rw [ho]; trivial) hB3 (w' := w3.putObj (w.heap.size + 1) (.loop { L3 with state := .exhausted })) (by rw [← hsz1]; exact putObj_turned _) trivial
          exact this
        have hs03 := hs02.trans hs23
        have hfo' : FrOk P op ρ3 frd fnt ⟨fs, .mark s.next fd, frd, fnt⟩ { a with defers := [{ target := .collected w.heap.size, args := #[] }] ++ a.defers } :=
          ⟨hS.mono hs03, ⟨a.defers, ⟨w.heap.size, 0, 0⟩, rfl, hs23 _ _ (hs2 _ _ hp1), hD.mono hs03⟩, rfl, rfl, hsz, h512⟩
        cases pend with
        | none =>
          obtain ⟨grd, hF3⟩ := guard_inv hgood hF3
          refine ⟨L3.pending, _, run_endLoop hblk (by rw [hst, grd]; simp), ?_⟩
          have : L3.pending = none := hpe
          rw [this] at hnew ⊢
          exact Post.wk (Sub.wk (by rw [← hF3]; exact hsub)) hg (Post.one hs03 hnew hfo' rfl)
        | some c =>
          have hF3 : F3 = ih c ⟨fs, .mark s.next fd, frd, fnt⟩ (s3.set (s.add .dfr).next .dead) := hF3
          refine ⟨L3.pending, _, run_endLoop hblk (by rw [hst]; cases ready <;> simp [OC.toO]), ?_⟩
          have : L3.pending = some c := hpe
          rw [this] at hnew ⊢
          rw [hF3] at hgood hsub
          refine wpIn_mono (IOk.code w0 c _ _ _ _ ρ3 frd fnt none hgood hnew hfo' (hG.mono hs03) hr) ?_
          intro e a' w' hp
          exact Post.wk hsub.wk hg (hp.rho hs03)
  | _ => rw [hF] at hg; exact hg.elim
/-- Code over which one runs, in the machine. -/
theorem code_ok (DO : DrawnOk P op ti E ih) (w0 : Base) : ∀ (c : Code) {f : Fr} {s : St} {a : Act} {w : World} {ρ : Rho} {rd : Bool} {nt : Nat} {r : Option Nat}, (code c E ih f s).good → HRel op w0 ρ s w → FrOk P op ρ rd nt f a → GRel ti ρ → rd = Option.isSome r →
    c.wpIn (Fc r) 0 P (Post P op w0 ρ rd nt (code c E ih f s)) a w := by
  intro c f s a w ρ rd nt r hg hH hfo hG hr
  cases c with
  | skip => exact wpIn_skip (Post.one (.refl _) hH hfo rfl)
  | label l => exact wpIn_label (Post.one (.refl _) hH hfo rfl)
  | exit n => exact wpIn_exit (Post.one (.refl _) hH hfo rfl)
  | goto l => exact wpIn_goto (Post.one (.refl _) hH hfo rfl)
  | ret => exact wpIn_ret (Post.one (.refl _) hH hfo rfl)
  | refuse why => exact hg.elim
  | region id ops draw =>
    cases draw with
    | false => exact region_ok T K hop1 EO IOk hg hH hfo hG hr
    | true => exact DO w0 id ops f s a w ρ rd nt r hg hH hfo hG hr
  | rangeFunc g ps asg body => exact range_ok (ca := fun _ _ _ _ => .fail) (cb := fun _ _ _ _ => .fail) T K hop1 EO IOk hg hH hfo hG hr
  | seq x y =>
    obtain ⟨F, hF⟩ : ∃ F, F = code (.seq x y) E ih f s := ⟨_, rfl⟩
    rw [← hF] at hg ⊢
    have hF : F = (ih x f s).bind fun x f s => Bool.rec (motive := fun _ => Res) (.ok x f s .nil) (ih y f s) (isNormal x) := hF
    have hg' := hg
    rw [hF] at hg'
    obtain ⟨g1, g2⟩ := bind_good _ hg'
    refine wpIn_seq (wpIn_mono (IOk.code w0 x f s a w ρ rd nt r g1 hH hfo hG hr) ?_)
    rintro e a' w' ⟨x', f', s', ρ', hhas, hsub, hH', hfo', rfl⟩
    have hs := g2 _ _ _ hhas
    rw [← hF] at hs
    cases x' with
    | normal =>
      exact wpIn_mono (IOk.code w0 y f' s' a' w' ρ' rd nt r (hs hg).1 hH' hfo' (hG.mono hsub) hr) fun e a2 w2 hp => (hp.wk hs.wk hg).rho hsub
    | exit n => exact Post.wk (Sub.wk hs) hg (Post.one hsub hH' hfo' rfl)
    | goto n => exact Post.wk (Sub.wk hs) hg (Post.one hsub hH' hfo' rfl)
    | ret => exact Post.wk (Sub.wk hs) hg (Post.one hsub hH' hfo' rfl)
  | cond c x y =>
    cases c with
    | tmp t =>
      obtain ⟨F, hF⟩ : ∃ F, F = code (.cond (.tmp t) x y) E ih f s := ⟨_, rfl⟩
      rw [← hF] at hg ⊢
      have hF : F = guardK (Nat.ble (Nat.succ t) 512) ((NC.get (fpath t) f.s).asBool fun t => ih (Bool.rec (motive := fun _ => Code) y x t) f s) := hF
      obtain ⟨gt, hF⟩ := guard_inv hg hF
      obtain ⟨b, hb, hF⟩ := asBool_inv hg hF
      have hv := hfo.slots t (Nat.le_of_ble_eq_true gt)
      rw [hb] at hv
      refine wpIn_cond (t := b) hv ?_
      rw [hF] at hg ⊢
      cases b with
      | true => exact IOk.code w0 x f s a w ρ rd nt r hg hH hfo hG hr
      | false => exact IOk.code w0 y f s a w ρ rd nt r hg hH hfo hG hr
    | const v =>
      cases v with
      | bool b =>
        refine wpIn_cond (t := b) rfl ?_
        cases b with
        | true => exact IOk.code w0 x f s a w ρ rd nt r hg hH hfo hG hr
        | false => exact IOk.code w0 y f s a w ρ rd nt r hg hH hfo hG hr
      | _ => exact hg.elim
    | global g => exact hg.elim
    | func g => exact hg.elim
  | block id c =>
    obtain ⟨F, hF⟩ : ∃ F, F = code (.block id c) E ih f s := ⟨_, rfl⟩
    rw [← hF] at hg ⊢
    have hF : F = ((ih c f s).bind (outOf id)).settle s.md := hF
    have hw := settle_ok (P := P) (op := op) hH.md ((ih c f s).bind (outOf id))
    rw [← hF] at hw
    have hgb := (hw hg).1
    obtain ⟨g1, g2⟩ := bind_good _ hgb
    refine wpIn_block (wpIn_mono (IOk.code w0 c f s a w ρ rd nt r g1 hH hfo hG hr) ?_)
    rintro e a' w' ⟨x', f', s', ρ', hhas, hsub, hH', hfo', rfl⟩
    have hs := g2 _ _ _ hhas
    have fin : ∀ {x2 : Ex}, outOf id x' f' s' = .ok x2 f' s' .nil → Post P op w0 ρ rd nt F (exOf x2) a' w' := fun h => by
      rw [h] at hs
      exact Post.wk hw hg (Post.wk hs.wk hgb (Post.one hsub hH' hfo' rfl))
    cases x' with
    | normal => exact fin (x2 := .normal) rfl
    | goto n => exact fin (x2 := .goto n) rfl
    | ret => exact fin (x2 := .ret) rfl
    | exit n =>
      show (if n = id then _ else _)
      by_cases e : n = id
      · rw [if_pos e]
        refine fin (x2 := .normal) ?_
        show Bool.rec (motive := fun _ => Res) (.ok (.exit n) f' s' .nil) (.ok .normal f' s' .nil) (Nat.beq n id) = _
        rw [e, Nat.beq_refl]
      · rw [if_neg e]
        refine fin (x2 := .exit n) ?_
        show Bool.rec (motive := fun _ => Res) (.ok (.exit n) f' s' .nil) (.ok .normal f' s' .nil) (Nat.beq n id) = _
        have : Nat.beq n id = false := by
          cases h : Nat.beq n id with
          | false => rfl
          | true => exact absurd (Nat.eq_of_beq_eq_true h) e
        rw [this]
  | loop c =>
    obtain ⟨F, hF⟩ : ∃ F, F = code (.loop c) E ih f s := ⟨_, rfl⟩
    rw [← hF] at hg ⊢
    have hF : F = (ih c f s).bind fun x f s => Bool.rec (motive := fun _ => Res) (.ok x f s .nil) (ih (.loop c) f s) (isNormal x) := hF
    have hg' := hg
    rw [hF] at hg'
    obtain ⟨g1, g2⟩ := bind_good _ hg'
    intro b k cs hro hb hrm
    obtain ⟨e, a1, w1, ⟨x', f', s', ρ', hhas, hsub, hH', hfo', rfl⟩, harr⟩ := IOk.code w0 c f s a w ρ rd nt r g1 hH hfo hG hr b (.inLoop c :: k) cs hro hb hrm
    have hs := g2 _ _ _ hhas
    rw [← hF] at hs
    have h0 : StepsIn (Machine.fenced P (Fc r)) P (lone (b.atR a (.code (.loop c) :: k)) cs w) (lone (b.atR a (.code c :: .inLoop c :: k)) cs w) := .one (fenced_calm hb hrm rfl) stepR_loop
    cases x' with
    | normal =>
      have hl := IOk.loop w0 c f' s' a1 w1 ρ' rd nt r (hs hg).1 hH' hfo' (hG.mono hsub) hr b k cs hro hb hrm
      obtain ⟨e2, a2, w2, hp, harr2⟩ := hl
      exact ⟨e2, a2, w2, (hp.wk hs.wk hg).rho hsub, .of_steps h0 (.of_steps (StepsIn.trans harr (.one (fenced_calm hb hrm rfl) stepR_inLoop)) harr2)⟩
    | exit n => exact ⟨_, a1, w1, Post.wk (Sub.wk hs) hg (Post.one hsub hH' hfo' rfl), .of_steps h0 (.pass (x := .inLoop c) rfl (fun _ _ => .inl (by simp [exOf])) harr)⟩
    | goto n => exact ⟨_, a1, w1, Post.wk (Sub.wk hs) hg (Post.one hsub hH' hfo' rfl), .of_steps h0 (.pass (x := .inLoop c) rfl (fun _ _ => .inl (by simp [exOf])) harr)⟩
    | ret => exact ⟨_, a1, w1, Post.wk (Sub.wk hs) hg (Post.one hsub hH' hfo' rfl), .of_steps h0 (.pass (x := .inLoop c) rfl (fun _ _ => .inl (by simp [exOf])) harr)⟩
  | scope c =>
    obtain ⟨F, hF⟩ : ∃ F, F = code (.scope c) E ih f s := ⟨_, rfl⟩
    rw [← hF] at hg ⊢
    have hF : F = (ih c f s).bind fun x f s => Ex.rec (motive := fun _ => Res) (.ok .normal f s .nil) (fun n => .ok (.exit n) f s .nil) (fun _ => .fail) (.ok .ret f s .nil) x := hF
    have hg' := hg
    rw [hF] at hg'
    obtain ⟨g1, g2⟩ := bind_good _ hg'
    intro b k cs hro hb hrm
    obtain ⟨e, a1, w1, ⟨x', f', s', ρ', hhas, hsub, hH', hfo', rfl⟩, harr⟩ := IOk.code w0 c f s a w ρ rd nt r g1 hH hfo hG hr b (.inScope c :: k) cs hro hb hrm
    have hs := g2 _ _ _ hhas
    rw [← hF] at hs
    have h0 : StepsIn (Machine.fenced P (Fc r)) P (lone (b.atR a (.code (.scope c) :: k)) cs w) (lone (b.atR a (.code c :: .inScope c :: k)) cs w) :=
      .one (fenced_calm hb hrm rfl) (step_lone_go (by simp [stepG, stepG.exec, Frame.atR]))
    have h1 : StepsIn (Machine.fenced P (Fc r)) P (lone (b.atR a1 (.inScope c :: k)) cs w1) (lone (b.atR a1 k) cs w1) :=
      .one (fenced_calm hb hrm rfl) (step_lone_go (by simp [stepG, stepG.exec, Frame.atR]))
    have hp : ∀ {x2 : Ex}, Sub (.ok x2 f' s' .nil) F → Post P op w0 ρ rd nt F (exOf x2) a1 w1 := fun hs => Post.wk (Sub.wk hs) hg (Post.one hsub hH' hfo' rfl)
    cases x' with
    | normal => exact ⟨_, a1, w1, hp hs, h0.trans (StepsIn.trans harr h1)⟩
    | exit n =>
      have hx : exitTo n (.inScope c :: k) = exitTo n k := by simp [exitTo]
      exact ⟨_, a1, w1, hp hs, fun k' hk => h0.trans (harr.1 k' (by rw [hx]; exact hk)), fun hr' hk => let ⟨k1, q1, q2⟩ := harr.2 hr' (by rw [hx]; exact hk); ⟨k1, q1, h0.trans q2⟩⟩
    | goto n => exact ((hs hg).1).elim
    | ret => exact ⟨_, a1, w1, hp hs, .of_steps (m₁ := lone (b.atR a (.code c :: .inScope c :: k)) cs w) h0 harr⟩
end
theorem exec_ok {op : Nat → Value} (T : TiOk P ti) {okTo : Nat → Nat → Nat → Nat → Bool} (K : OkTo P okTo) (hop1 : ∀ n, (op n).oneCell' = true) {E : Env} (EO : EnvOk P op ti okTo E) (DO : ∀ ih, IhOk P op ti ih → DrawnOk P op ti E ih) : ∀ n, IhOk P op ti (exec E n)
  | 0 => ⟨fun _ _ _ _ _ _ _ _ _ _ h => h.elim, fun _ _ _ _ _ _ _ _ _ _ h => h.elim⟩
  | n + 1 => by
    have IOk := exec_ok T K hop1 EO DO n
    refine ⟨fun w0 c f s a w ρ rd nt r hg hH hfo hG hr => code_ok T K hop1 EO IOk (DO _ IOk) w0 c hg hH hfo hG hr, ?_⟩
    intro w0 c f s a w ρ rd nt r hg hH hfo hG hr
    obtain ⟨F, hF⟩ : ∃ F, F = exec E (n + 1) (.loop c) f s := ⟨_, rfl⟩
    rw [← hF] at hg ⊢
    have hF : F = (exec E n c f s).bind fun x f s => Bool.rec (motive := fun _ => Res) (.ok x f s .nil) (exec E n (.loop c) f s) (isNormal x) := hF
    have hg' := hg
    rw [hF] at hg'
    obtain ⟨g1, g2⟩ := bind_good _ hg'
    intro b k cs hro hb hrm
    obtain ⟨e, a1, w1, ⟨x', f', s', ρ', hhas, hsub, hH', hfo', rfl⟩, harr⟩ := IOk.code w0 c f s a w ρ rd nt r g1 hH hfo hG hr b (.inLoop c :: k) cs hro hb hrm
    have hs := g2 _ _ _ hhas
    rw [← hF] at hs
    cases x' with
    | normal =>
      obtain ⟨e2, a2, w2, hp, harr2⟩ := IOk.loop w0 c f' s' a1 w1 ρ' rd nt r (hs hg).1 hH' hfo' (hG.mono hsub) hr b k cs hro hb hrm
      exact ⟨e2, a2, w2, (hp.wk hs.wk hg).rho hsub, .of_steps (StepsIn.trans harr (.one (fenced_calm hb hrm rfl) stepR_inLoop)) harr2⟩
    | exit m => exact ⟨_, a1, w1, Post.wk (Sub.wk hs) hg (Post.one hsub hH' hfo' rfl), .pass (x := .inLoop c) rfl (fun _ _ => .inl (by simp [exOf])) harr⟩
    | goto m => exact ⟨_, a1, w1, Post.wk (Sub.wk hs) hg (Post.one hsub hH' hfo' rfl), .pass (x := .inLoop c) rfl (fun _ _ => .inl (by simp [exOf])) harr⟩
    | ret => exact ⟨_, a1, w1, Post.wk (Sub.wk hs) hg (Post.one hsub hH' hfo' rfl), .pass (x := .inLoop c) rfl (fun _ _ => .inl (by simp [exOf])) harr⟩
end
end Go.Ax
end
section
namespace Go.Ax
open Go Go.RowKit
noncomputable section
set_option linter.unusedSectionVars false
set_option linter.unusedVariables false
set_option linter.unusedSimpArgs false
/- ### Bits -/
theorem bitOf_eq (m i : Nat) : bitOf m i = m.testBit i := by
  show Nat.beq ((m >>> i) &&& 1) 1 = (1 &&& (m >>> i) != 0)
  rw [Nat.and_comm 1 (m >>> i), Nat.and_one_is_mod]
  rcases Nat.mod_two_eq_zero_or_one (m >>> i) with h | h <;> rw [h] <;> rfl
theorem within_iff (a b : Nat) : within a b = true ↔ ∀ i, a.testBit i = true → b.testBit i = true := by
  unfold within
  constructor
  · intro h i hi
    have h : a &&& b = a := Nat.eq_of_beq_eq_true h
    have : (a &&& b).testBit i = true := by rw [h]; exact hi
    rw [Nat.testBit_and] at this
    simp at this; exact this.2
  · intro h
    have : a &&& b = a := Nat.eq_of_testBit_eq fun i => by
      rw [Nat.testBit_and]
      cases ha : a.testBit i with
      | false => rfl
      | true => rw [h i ha]; rfl
    show Nat.beq (a &&& b) a = true
    rw [this]; exact Nat.beq_refl a
theorem lor_bit (a b i : Nat) : (Nat.lor a b).testBit i = (a.testBit i || b.testBit i) := Nat.testBit_or a b i
theorem pow_bit (n i : Nat) : (2 ^ n).testBit i = decide (n = i) := Nat.testBit_two_pow
/- ### What comes ahead of what -/
def mstep (acc : List Nat) (o : Oper) : List Nat := acc ++ [o.after.toList.foldl (fun s e => if Region.binds .any e then Nat.lor s (Nat.lor (2 ^ e.on) (acc.getD e.on 0)) else s) 0]
theorem masks_eq (ops : List Oper) : masksC ops = ops.foldl mstep [] := rfl
theorem mfold_len : ∀ (l : List Oper) (acc : List Nat), (l.foldl mstep acc).length = acc.length + l.length
  | [], acc => by simp
  | o :: l, acc => by rw [List.foldl_cons, mfold_len l]; simp [mstep]; omega
theorem mfold_prefix : ∀ (l : List Oper) (acc : List Nat) (i : Nat), i < acc.length → (l.foldl mstep acc)[i]? = acc[i]?
  | [], acc, i, h => rfl
  | o :: l, acc, i, h => by
    rw [List.foldl_cons, mfold_prefix l _ i (by simp [mstep]; omega)]
    unfold mstep; rw [List.getElem?_append_left h]
theorem edges_bits (acc : List Nat) : ∀ (es : List Edge) (s b : Nat), (es.foldl (fun s e => if Region.binds .any e then Nat.lor s (Nat.lor (2 ^ e.on) (acc.getD e.on 0)) else s) s).testBit b = true ↔
    s.testBit b = true ∨ ∃ e ∈ es, Region.binds .any e = true ∧ (b = e.on ∨ (acc.getD e.on 0).testBit b = true)
  | [], s, b => by simp
  | e :: es, s, b => by
    rw [List.foldl_cons, edges_bits acc es]
    by_cases hb : Region.binds .any e = true
    · rw [if_pos hb, lor_bit, lor_bit, pow_bit]
      simp only [Bool.or_eq_true, decide_eq_true_eq, List.mem_cons, exists_eq_or_imp]
      constructor
      · rintro ((h | h | h) | h)
        · exact .inl h
        · exact .inr (.inl ⟨hb, .inl h.symm⟩)
        · exact .inr (.inl ⟨hb, .inr h⟩)
        · exact .inr (.inr h)
      · rintro (h | ⟨_, h | h⟩ | h)
        · exact .inl (.inl h)
        · exact .inl (.inr (.inl h.symm))
        · exact .inl (.inr (.inr h))
        · exact .inr h
    · rw [if_neg hb]
      simp only [List.mem_cons, exists_eq_or_imp]
      constructor
      · rintro (h | h)
        · exact .inl h
        · exact .inr (.inr h)
      · rintro (h | ⟨h, _⟩ | h)
        · exact .inl h
        · exact absurd h hb
        · exact .inr h
def Msk (ops : Array Oper) (i : Nat) : Nat := (masksC ops.toList).getD i 0
theorem masks_spec {ops : Array Oper} {i : Nat} {o : Oper} (h : ops[i]? = some o) (b : Nat) : (Msk ops i).testBit b = true ↔ ∃ e ∈ o.after.toList, Region.binds .any e = true ∧ (b = e.on ∨ (e.on < i ∧ (Msk ops e.on).testBit b = true)) := by
  have h : ops.toList[i]? = some o := by rw [Array.getElem?_toList]; exact h
  obtain ⟨hlt, ho⟩ := List.getElem?_eq_some_iff.1 h
  have hsplit : ops.toList = ops.toList.take i ++ o :: ops.toList.drop (i + 1) := by
    rw [← ho, List.getElem_cons_drop, List.take_append_drop]
  obtain ⟨acc, hacc⟩ : ∃ acc, acc = (ops.toList.take i).foldl mstep [] := ⟨_, rfl⟩
  have hlt' : i < ops.size := by simpa using hlt
  have hal : acc.length = i := by rw [hacc, mfold_len]; simp; omega
  have hm : masksC ops.toList = (ops.toList.drop (i + 1)).foldl mstep (mstep acc o) := by
    rw [masks_eq]; conv => lhs; rw [hsplit]
    rw [List.foldl_append, List.foldl_cons, ← hacc]
  have hpre : ∀ j, j < i → Msk ops j = acc.getD j 0 := fun j hj => by
    unfold Msk
    rw [hm, List.getD_eq_getElem?_getD, List.getD_eq_getElem?_getD, mfold_prefix _ _ _ (by simp [mstep, hal]; omega)]
    unfold mstep; rw [List.getElem?_append_left (by omega)]
  have hi : Msk ops i = o.after.toList.foldl (fun s e => if Region.binds .any e then Nat.lor s (Nat.lor (2 ^ e.on) (acc.getD e.on 0)) else s) 0 := by
    unfold Msk
    rw [hm, List.getD_eq_getElem?_getD, mfold_prefix _ _ _ (by simp [mstep, hal])]
    unfold mstep
    rw [List.getElem?_append_right (by omega), hal, Nat.sub_self]; rfl
  rw [hi, edges_bits]
  constructor
  · rintro (h | ⟨e, he, hb, h | h⟩)
    · simp at h
    · exact ⟨e, he, hb, .inl h⟩
    · refine ⟨e, he, hb, .inr ?_⟩
      by_cases hlt : e.on < i
      · exact ⟨hlt, by rw [hpre _ hlt]; exact h⟩
      · rw [List.getD_eq_getElem?_getD, List.getElem?_eq_none (by omega)] at h; simp at h
  · rintro ⟨e, he, hb, h | ⟨hlt, h⟩⟩
    · exact .inr ⟨e, he, hb, .inl h⟩
    · exact .inr ⟨e, he, hb, .inr (by rw [← hpre _ hlt]; exact h)⟩
/- ### What is done -/
def In (D : Array Bool) (i : Nat) : Prop := D.getD i false = true
def Clo (ops : Array Oper) (D : Array Bool) : Prop := ∀ i, In D i → ∀ b, (Msk ops i).testBit b = true → In D b
theorem In.lt {D : Array Bool} {i : Nat} (h : In D i) : i < D.size := by
  unfold In at h
  rcases Nat.lt_or_ge i D.size with hl | hl
  · exact hl
  · rw [Array.getD_eq_getD_getElem?, Array.getElem?_eq_none hl] at h; cases h
theorem in_set {D : Array Bool} {i j : Nat} (hi : i < D.size) : In (D.setIfInBounds i true) j ↔ j = i ∨ In D j := by
  unfold In
  rw [Array.getD_eq_getD_getElem?, Array.getD_eq_getD_getElem?, Array.getElem?_setIfInBounds]
  by_cases e : i = j
  · rw [if_pos e, if_pos hi]; simp [e]
  · rw [if_neg e]
    constructor
    · exact .inr
    · rintro (h | h)
      · exact absurd h.symm e
      · exact h
theorem ready_iff {ops : Array Oper} {D : Array Bool} (hsz : D.size = ops.size) (hc : Clo ops D) (i : Nat) :
    i ∈ Region.ready .any ops D ↔ i < ops.size ∧ ¬ In D i ∧ ∀ b, (Msk ops i).testBit b = true → In D b := by
  unfold Region.ready
  rw [List.mem_filter, List.mem_range, Bool.and_eq_true]
  constructor
  · rintro ⟨hlt, h1, h2⟩
    obtain ⟨o, ho⟩ : ∃ o, ops[i]? = some o := ⟨_, Array.getElem?_eq_getElem hlt⟩
    rw [ho] at h2
    simp only [Option.map_some, Option.getD_some] at h2
    have h2 : ∀ e ∈ o.after.toList, Region.binds .any e = true → In D e.on := fun e he hb => by
      rw [← Array.all_toList] at h2
      have := List.all_eq_true.1 h2 e he
      rw [hb] at this; exact this
    refine ⟨hlt, fun h => ?_, fun b hb => ?_⟩
    · unfold In at h
      rw [Array.getD_eq_getD_getElem?, Array.getElem?_eq_getElem (by omega)] at h h1
      simp only [Option.getD_some] at h h1
      rw [h] at h1; cases h1
    · obtain ⟨e, he, hbi, hb | ⟨_, hb⟩⟩ := (masks_spec ho b).1 hb
      · rw [hb]; exact h2 e he hbi
      · exact hc _ (h2 e he hbi) b hb
  · rintro ⟨hlt, h1, h2⟩
    obtain ⟨o, ho⟩ : ∃ o, ops[i]? = some o := ⟨_, Array.getElem?_eq_getElem hlt⟩
    refine ⟨hlt, ?_, ?_⟩
    · unfold In at h1
      rw [Array.getD_eq_getD_getElem?, Array.getElem?_eq_getElem (by omega)] at h1 ⊢
      simpa using h1
    · rw [ho]
      simp only [Option.map_some, Option.getD_some]
      rw [← Array.all_toList]
      refine List.all_eq_true.2 fun e he => ?_
      cases hb : Region.binds .any e with
      | false => rfl
      | true => exact h2 e.on ((masks_spec ho _).2 ⟨e, he, hb, .inl rfl⟩)
theorem clo_set {ops : Array Oper} {D : Array Bool} {i : Nat} (hsz : i < D.size) (hc : Clo ops D) (h : ∀ b, (Msk ops i).testBit b = true → In D b) : Clo ops (D.setIfInBounds i true) := by
  intro j hj b hb
  rw [in_set hsz] at hj ⊢
  rcases hj with rfl | hj
  · exact .inr (h b hb)
  · exact .inr (hc j hj b hb)
/-- How many are not done. -/
def cnt (D : Array Bool) : Nat := D.toList.countP fun b => !b
theorem cnt_set {D : Array Bool} {i : Nat} (hi : i < D.size) (h : ¬ In D i) : cnt (D.setIfInBounds i true) + 1 = cnt D := by
  unfold cnt
  rw [Array.toList_setIfInBounds, List.countP_set (by simpa using hi)]
  have hf : D.toList[i]'(by simpa using hi) = false := by
    unfold In at h
    rw [Array.getD_eq_getD_getElem?, Array.getElem?_eq_getElem hi] at h
    simpa using h
  have hpos : 0 < D.toList.countP fun b => !b := List.countP_pos_iff.2 ⟨D.toList[i]'(by simpa using hi), List.getElem_mem _, by rw [hf]; rfl⟩
  rw [hf]
  generalize (List.countP (fun b => !b) D.toList) = c at hpos ⊢
  show c - 1 + 0 + 1 = c
  omega
theorem cnt_zero {D : Array Bool} (h : cnt D = 0) {i : Nat} (hi : i < D.size) : In D i := by
  unfold cnt at h
  have := List.countP_eq_zero.1 h (D.toList[i]'(by simpa using hi)) (List.getElem_mem _)
  unfold In
  rw [Array.getD_eq_getD_getElem?, Array.getElem?_eq_getElem hi]
  simpa using this
/-- What has been passed, the last one first: each behind all that come ahead of it. -/
def PreOk (ops : Array Oper) : List Nat → Prop
  | [] => True
  | i :: p => PreOk ops p ∧ ∀ b, (Msk ops i).testBit b = true → b ∈ p
theorem PreOk.first {ops : Array Oper} {D : Array Bool} : ∀ {p : List Nat}, PreOk ops p → (∃ i ∈ p, ¬ In D i) → ∃ i ∈ p, ¬ In D i ∧ ∀ b, (Msk ops i).testBit b = true → In D b
  | [], _, ⟨i, h, _⟩ => by cases h
  | j :: p, ⟨h1, h2⟩, ⟨i, hi, hn⟩ => by
    by_cases hex : ∃ i ∈ p, ¬ In D i
    · obtain ⟨k, hk, h⟩ := h1.first hex
      exact ⟨k, List.mem_cons_of_mem _ hk, h⟩
    · have hall : ∀ i ∈ p, In D i := fun i hi => Classical.byContradiction fun hn => hex ⟨i, hi, hn⟩
      rcases List.mem_cons.1 hi with rfl | hi
      · exact ⟨i, List.mem_cons_self .., hn, fun b hb => hall b (h2 b hb)⟩
      · exact absurd (hall i hi) hn
theorem PreOk.closed {ops : Array Oper} : ∀ {p : List Nat}, PreOk ops p → ∀ i ∈ p, ∀ b, (Msk ops i).testBit b = true → b ∈ p
  | j :: p, ⟨h1, h2⟩, i, hi, b, hb => by
    rcases List.mem_cons.1 hi with rfl | hi
    · exact List.mem_cons_of_mem _ (h2 b hb)
    · exact List.mem_cons_of_mem _ (h1.closed i hi b hb)
/- ### The order that is run -/
theorem ord_cons {all : Nat} {o : CO} {t : List CO} {done effs : Nat} (h : orderOk all (o :: t) done effs = true) : isMk o = true ∧ done.testBit (numOf o) = false ∧ (∀ b, (befOf o).testBit b = true → done.testBit b = true) ∧
    (∀ b, effs.testBit b = true → (befOf o).testBit b = true) ∧ orderOk all t (Nat.lor done (2 ^ numOf o)) (if isEff o then Nat.lor effs (2 ^ numOf o) else effs) = true := by
  simp only [orderOk, Bool.and_eq_true, Bool.not_eq_true', bitOf_eq, within_iff] at h
  exact ⟨h.1.1.1.1, h.1.1.1.2, h.1.1.2, h.1.2, h.2⟩
theorem ord_new {all : Nat} : ∀ (l : List CO) {done effs : Nat}, orderOk all l done effs = true → ∀ o ∈ l, done.testBit (numOf o) = false := by
  intro l
  induction l with
  | nil => intro _ _ _ o ho; cases ho
  | cons o t ih =>
    intro done effs h o' ho
    obtain ⟨_, h1, _, _, h2⟩ := ord_cons h
    rcases List.mem_cons.1 ho with rfl | ho
    · exact h1
    · have := ih h2 o' ho
      rw [lor_bit] at this
      simp at this; exact this.1
theorem ord_effs {all : Nat} : ∀ (l : List CO) {done effs : Nat}, orderOk all l done effs = true → ∀ o ∈ l, ∀ b, effs.testBit b = true → (befOf o).testBit b = true := by
  intro l
  induction l with
  | nil => intro _ _ _ o ho; cases ho
  | cons o t ih =>
    intro done effs h o' ho b hb
    obtain ⟨_, _, _, h1, h2⟩ := ord_cons h
    rcases List.mem_cons.1 ho with rfl | ho
    · exact h1 b hb
    · refine ih h2 o' ho b ?_
      split
      · rw [lor_bit, hb]; rfl
      · exact hb
theorem ord_all {all : Nat} : ∀ (l : List CO) {done effs : Nat}, orderOk all l done effs = true → ∀ b, all.testBit b = true → done.testBit b = false → ∃ o ∈ l, numOf o = b := by
  intro l
  induction l with
  | nil =>
    intro done effs h b hb hd
    have h : done = all := Nat.eq_of_beq_eq_true h
    rw [h, hb] at hd; cases hd
  | cons o t ih =>
    intro done effs h b hb hd
    obtain ⟨_, _, _, _, h2⟩ := ord_cons h
    by_cases e : numOf o = b
    · exact ⟨o, List.mem_cons_self .., e⟩
    · obtain ⟨o', ho', e'⟩ := ih h2 b hb (by rw [lor_bit, hd, pow_bit]; simp [e])
      exact ⟨o', List.mem_cons_of_mem _ ho', e'⟩
theorem pick_mem {eff : Bool} {done : Nat} : ∀ (l : List CO) {o : CO}, pickC eff done l = some o → o ∈ l := by
  intro l
  induction l with
  | nil => intro o h; cases h
  | cons o' t ih =>
    intro o h
    simp only [pickC] at h
    split at h
    · cases h; exact List.mem_cons_self ..
    · exact List.mem_cons_of_mem _ (ih h)
theorem order_mem : ∀ (n : Nat) {l : List CO} {done : Nat} {o : CO}, o ∈ orderC n l done → o ∈ l
  | 0, l, done, o, h => by cases h
  | n + 1, l, done, o, h => by
    simp only [orderC] at h
    split at h
    · rename_i o' h'
      rcases List.mem_cons.1 h with rfl | h
      · exact pick_mem _ h'
      · exact order_mem n h
    · split at h
      · rename_i o' h'
        rcases List.mem_cons.1 h with rfl | h
        · exact pick_mem _ h'
        · exact order_mem n h
      · cases h
/- ### Who writes a slot, who looks at it -/
theorem temps_ok {ops : Array Oper} (h : tempsOk ops.toList (masksC ops.toList) = true) {i j : Nat} {o p : Oper} {t : Tmp} (ho : ops[j]? = some o) (hp : ops[i]? = some p) (ht : p.dst = some t) (hne : i ≠ j) :
    o.dst ≠ some t ∧ (t ∈ readsC ops.toList o → (Msk ops j).testBit i = true ∨ (Msk ops i).testBit j = true) := by
  have ho : ops.toList[j]? = some o := by rw [Array.getElem?_toList]; exact ho
  have hp : ops.toList[i]? = some p := by rw [Array.getElem?_toList]; exact hp
  unfold tempsOk at h
  have h1 := List.all_eq_true.1 h (o, j) (List.mem_zipIdx_iff_getElem?.2 ho)
  have h2 := List.all_eq_true.1 h1 (t, i) (List.mem_filterMap.2 ⟨(p, i), List.mem_zipIdx_iff_getElem?.2 hp, by simp [ht]⟩)
  have hij : (i == j) = false := by simp [hne]
  have h2 : (i == j || o.dst != some t && (!(readsC ops.toList o).contains t || bitOf ((masksC ops.toList).getD j 0) i || bitOf ((masksC ops.toList).getD i 0) j)) = true := h2
  rw [hij, Bool.false_or, Bool.and_eq_true] at h2
  refine ⟨by simpa using h2.1, fun hr => ?_⟩
  have h3 := h2.2
  rw [Bool.or_eq_true, Bool.or_eq_true, bitOf_eq, bitOf_eq] at h3
  rcases h3 with (h3 | h3) | h3
  · rw [Bool.not_eq_true', List.contains_eq_mem, decide_eq_false_iff_not] at h3; exact absurd hr h3
  · exact .inl h3
  · exact .inr h3
theorem reads_operand {ops : List Oper} {o : Oper} {t : Tmp} (h : Operand.tmp t ∈ o.op.operands.toList) : t ∈ readsC ops o :=
  List.mem_append_left _ (List.mem_filterMap.2 ⟨.tmp t, h, rfl⟩)
theorem reads_guard {ops : List Oper} {o p : Oper} {t : Tmp} {g : Nat} {w : Bool} (h : o.guard = some (g, w)) (hg : ops[g]? = some p) (ht : p.dst = some t) : t ∈ readsC ops o := by
  refine List.mem_append_right _ ?_
  simp only [h, hg]; simp [ht]
end
end Go.Ax
end
section
namespace Go.Ax
open Go Go.RowKit
noncomputable section
set_option linter.unusedSectionVars false
set_option linter.unusedVariables false
set_option linter.unusedSimpArgs false
variable {P : Program} {op : Nat → Value} {w0 : Base} {ti : TI}
/- ### One answer, and looking again -/
def OneIs (X : Res) (v : AV) (s : St) : Prop := ∃ x f al t, X = .ok x f s .nil ∧ f.d = .call v al t
theorem one_inv {X : Res} {k : AV → St → Res} (hg : (one X k).good) : ∃ v s, OneIs X v s ∧ one X k = k v s := by
  cases X with
  | fail => exact hg.elim
  | nil => exact hg.elim
  | ok x f s more =>
    cases more with
    | fail => exact hg.elim
    | ok => exact hg.elim
    | nil =>
      obtain ⟨fs, fd, frd, fnt⟩ := f
      cases fd with
      | nil => exact hg.elim
      | mark => exact hg.elim
      | call v al t => exact ⟨v, s, ⟨x, _, al, t, rfl, rfl⟩, rfl⟩
theorem OneIs.good {X : Res} {v : AV} {s : St} (h : OneIs X v s) : X.good := by
  obtain ⟨x, f, al, t, rfl, _⟩ := h; trivial
theorem OneIs.val {X : Res} {v v' : AV} {s s' : St} (h : OneIs X v s) (e : X = valOf v' s') : v = v' ∧ s = s' := by
  obtain ⟨x, f, al, t, rfl, hd⟩ := h
  unfold valOf at e
  injection e with e1 e2 e3
  subst e2
  injection hd with h1
  exact ⟨h1.symm, e3⟩
def OpL.hasR : OpL → Nat → COp → AV → Prop
  | .nil, _, _, _ => False
  | .read i o v t, i', o', v' => (i = i' ∧ o = o' ∧ v = v') ∨ t.hasR i' o' v'
  | .made _ _ _ t, i', o', v' => t.hasR i' o' v'
def OpL.hasM : OpL → Nat → Nat → Obj → Prop
  | .nil, _, _, _ => False
  | .read _ _ _ t, i', d', o' => t.hasM i' d' o'
  | .made i d o t, i', d', o' => (i = i' ∧ d = d' ∧ o = o') ∨ t.hasM i' d' o'
theorem without_r : ∀ (l : OpL) {m i : Nat} {o : COp} {v : AV}, l.hasR i o v → bitOf m i = false → (l.without m).hasR i o v
  | .nil, _, _, _, _, h, _ => h.elim
  | .read i o v t, m, i', o', v', h, hb => by
    show OpL.hasR (Bool.rec (motive := fun _ => OpL) (.read i o v (t.without m)) (t.without m) (bitOf m i)) i' o' v'
    rcases h with ⟨rfl, rfl, rfl⟩ | h
    · rw [hb]; exact .inl ⟨rfl, rfl, rfl⟩
    · cases bitOf m i with
      | true => exact without_r t h hb
      | false => exact .inr (without_r t h hb)
  | .made i d o t, m, i', o', v', h, hb => by
    show OpL.hasR (Bool.rec (motive := fun _ => OpL) (.made i d o (t.without m)) (t.without m) (bitOf m i)) i' o' v'
    cases bitOf m i with
    | true => exact without_r t h hb
    | false => exact without_r t h hb
theorem without_m : ∀ (l : OpL) {m i d : Nat} {o : Obj}, l.hasM i d o → bitOf m i = false → (l.without m).hasM i d o
  | .nil, _, _, _, _, h, _ => h.elim
  | .read i o v t, m, i', d', o', h, hb => by
    show OpL.hasM (Bool.rec (motive := fun _ => OpL) (.read i o v (t.without m)) (t.without m) (bitOf m i)) i' d' o'
    cases bitOf m i with
    | true => exact without_m t h hb
    | false => exact without_m t h hb
  | .made i d o t, m, i', d', o', h, hb => by
    show OpL.hasM (Bool.rec (motive := fun _ => OpL) (.made i d o (t.without m)) (t.without m) (bitOf m i)) i' d' o'
    rcases h with ⟨rfl, rfl, rfl⟩ | h
    · rw [hb]; exact .inl ⟨rfl, rfl, rfl⟩
    · cases bitOf m i with
      | true => exact without_m t h hb
      | false => exact .inr (without_m t h hb)
def Chk (E : Env) (s : St) : OpL → Prop
  | .nil => True
  | .read _ o v t => (∃ s', OneIs (runOp o E (fun _ _ _ => .fail) zc s valOf) v s') ∧ Chk E s t
  | .made _ id o t => s.get id = o ∧ Chk E s t
theorem same_eq {x y : Obj} (h : x.same y = true) : x = y := by
  rcases join_cases x y with e | ⟨_, e⟩
  · unfold Obj.same at h; rw [e] at h; cases h
  · exact e
theorem check_inv {E : Env} {s : St} {X F : Res} (hg : F.good) : ∀ (l : OpL), F = l.checkK E s X → F = X ∧ Chk E s l
  | .nil, h => ⟨h, trivial⟩
  | .read i o v t, h => by
    have h : F = one (runOp o E (fun _ _ _ => .fail) zc s valOf) fun v' _ => guardK (AV.beq v v') (t.checkK E s X) := h
    have hg' := hg
    rw [h] at hg'
    obtain ⟨v', s', h1, h2⟩ := one_inv hg'
    obtain ⟨g1, h3⟩ := guard_inv hg (h.trans h2)
    obtain ⟨h4, h5⟩ := check_inv hg t h3
    rw [← beq_eq g1] at h1
    exact ⟨h4, ⟨s', h1⟩, h5⟩
  | .made i id o t, h => by
    have h : F = guardK (Obj.same (s.get id) o) (t.checkK E s X) := h
    obtain ⟨g1, h3⟩ := guard_inv hg h
    obtain ⟨h4, h5⟩ := check_inv hg t h3
    exact ⟨h4, same_eq g1, h5⟩
theorem chk_r {E : Env} {s : St} : ∀ (l : OpL), Chk E s l → ∀ {i : Nat} {o : COp} {v : AV}, l.hasR i o v → ∃ s', OneIs (runOp o E (fun _ _ _ => .fail) zc s valOf) v s'
  | .nil, _, _, _, _, h => h.elim
  | .read _ _ _ t, ⟨h1, h2⟩, _, _, _, h => by
    rcases h with ⟨rfl, rfl, rfl⟩ | h
    · exact h1
    · exact chk_r t h2 h
  | .made _ _ _ t, ⟨_, h2⟩, _, _, _, h => chk_r t h2 h
theorem chk_m {E : Env} {s : St} : ∀ (l : OpL), Chk E s l → ∀ {i d : Nat} {o : Obj}, l.hasM i d o → s.get d = o
  | .nil, _, _, _, _, h => h.elim
  | .read _ _ _ t, ⟨_, h2⟩, _, _, _, h => chk_m t h2 h
  | .made _ _ _ t, ⟨h1, h2⟩, _, _, _, h => by
    rcases h with ⟨rfl, rfl, rfl⟩ | h
    · exact h1
    · exact chk_m t h2 h
/- ### Operations by their kind -/
theorem HRel.res_le {r' : Nat → Prop} {ρ : Rho} {s : St} {w : World} (h : HRel op w0 ρ s w) (hle : ∀ id, r' id → w0.res id) : HRel op { w0 with res := r' } ρ s w :=
  ⟨h.next, h.lt, h.blk, h.obj, h.inj, h.below, h.md, fun id hid => h.res id (hle id hid), h.keep⟩
theorem za5_get (p : P5) : HE.get p za5 = .dead := by
  obtain ⟨a, x, b, c, d, e⟩ := p
  have h0 : HE.sel a za5 = zax := by cases a <;> rfl
  have h1 : HX.sel x zax = za4 := by cases x <;> rfl
  have h2 : HD.sel b za4 = za3 := by cases b <;> rfl
  have h3 : HC.sel c za3 = za2 := by cases c <;> rfl
  have h4 : HB.sel d za2 = za1 := by cases d <;> rfl
  have h5 : HA.sel e za1 = .dead := by cases e <;> rfl
  simp only [HE.get, h0, h1, h2, h3, h4, h5]
theorem dead_get (id : Nat) : deadSt.get id = .dead := by
  show HE.get (hpath id) za5 = .dead
  exact za5_get _
theorem HRel.dead {ρ : Rho} {s : St} {w : World} (h : HRel op w0 ρ s w) : HRel op { w0 with mb := none } ρ deadSt w where
  next := Nat.le_refl _
  lt id p hp := h.id_lt hp
  blk := h.blk
  obj id p hp := by rw [dead_get]; trivial
  inj i j p q hi hj hne hli hlj _ := by rw [dead_get] at hli; exact hli.elim
  below := h.below
  md := trivial
  res id hid := ⟨(h.res id hid).1, Nat.lt_of_lt_of_le (h.res id hid).2 h.next⟩
  keep := ⟨h.keep.1, fun id p hp hl => by rw [dead_get] at hl; exact hl.elim⟩
theorem shut_eq {c : COp} (hk : kindC c = 1) {E : Env} {ih ih' : IH} {f : NC} {s : St} {k : AV → St → Res} : runOp (c.shut f) E ih zc s k = runOp c E ih' f s k := by
  cases c <;> first | rfl | cases hk
theorem notCall_of {c : COp} (hk : kindC c ≤ 2) : notCall c := by
  cases c <;> first | trivial | exact absurd hk (by decide)
section
variable (T : TiOk P ti) {okTo : Nat → Nat → Nat → Nat → Bool} (K : OkTo P okTo) (hop1 : ∀ n, (op n).oneCell' = true) {E : Env} {ih : IH}
variable {ρ : Rho} {s : St} {w : World} {f : NC} {a : Act} {o : Oper} {c : COp}
include T K hop1
theorem pure_ok (hS : Opd op ρ ti f a o) (hG : GRel ti ρ) (hH : HRel op w0 ρ s w) (hc : copC ti okTo o.op = some c) (hk : kindC c = 0) : ReadOk P op ρ deadSt w (runOp c E ih f deadSt) (execOp a.eval o) := by
  rcases cop_kept (E := E) (ih := ih) T K hop1 hS hG hH.dead hc (notCall_of (by omega)) with ⟨_, h⟩ | ⟨h, _⟩ | ⟨h, _⟩
  · exact h
  · omega
  · omega
theorem read_ok (hS : Opd op ρ ti f a o) (hG : GRel ti ρ) (hH : HRel op w0 ρ s w) (hc : copC ti okTo o.op = some c) (hk : kindC c = 1) : ReadOk P op ρ s w (runOp c E ih f s) (execOp a.eval o) := by
  rcases cop_kept (E := E) (ih := ih) T K hop1 hS hG hH hc (notCall_of (by omega)) with ⟨_, h⟩ | ⟨h, _⟩ | ⟨h, _⟩
  · exact h
  · omega
  · omega
theorem made_ok (hS : Opd op ρ ti f a o) (hG : GRel ti ρ) (hc : copC ti okTo o.op = some c) (hk : kindC c = 2) {B : Nat} : MadeOk P op B ρ s (runOp c E ih f s) (execOp a.eval o) := by
  have hcop : ∀ x, o.op = x → copC ti okTo x = some c := fun x h => by rw [← h]; exact hc
  cases hop : o.op with
  | alloc e =>
    have hc := hcop _ hop
    simp only [copC] at hc
    split at hc
    · rename_i z hz; cases hc; exact op_alloc T hS hG hop1 hop hz
    · cases hc
  | box e x =>
    have hc := hcop _ hop
    simp only [copC] at hc
    split at hc
    · rename_i y hx; cases hc; exact op_box T hS hG hop1 hop hx
    · cases hc
  | buildSlice t len ps =>
    have hc := hcop _ hop
    simp only [copC] at hc
    split at hc
    · rename_i e hu
      split at hc
      · rename_i z n hz hn
        split at hc
        · rename_i hle
          split at hc
          · rename_i l hl; cases hc; exact op_bsl T hS hG hop1 hop hu hz hn hle.1 hle.2 hl
          · cases hc
        · cases hc
      · cases hc
    · cases hc
  | makeMap t r =>
    have hc := hcop _ hop
    cases r with
    | none => simp only [copC] at hc; cases hc; exact op_mkmap (f := f) hop
    | some r => simp only [copC] at hc; cases hc
  | makeSlice t l c' =>
    have hc := hcop _ hop
    simp only [copC] at hc
    split at hc
    · rename_i e hu
      split at hc
      · rename_i te z l' c2 he hz hl hcc
        split at hc
        · cases hc
        · rename_i hsz
          cases hc
          exact op_mksl T hS hG hop1 hop hu he hz (fun h => hsz (.inl h)) (Classical.byContradiction fun h => hsz (.inr h)) hl hcc
      · cases hc
    · cases hc
  | convert src dst x =>
    have hc := hcop _ hop
    simp only [copC] at hc
    unfold convC at hc
    split at hc
    · cases hc; cases hk
    · cases hc; cases hk
    · rename_i e y hs hd hx
      split at hc
      · rename_i he; cases hc; exact op_s2b T hS hG hop1 hop hs hd he hx
      · cases hc
    · split at hc
      · cases hc; cases hk
      · cases hc
    · split at hc
      · cases hc; cases hk
      · cases hc
    · split at hc
      · cases hc; cases hk
      · cases hc
    · cases hc
  | call cl =>
    have hc := hcop _ hop
    simp only [copC] at hc
    split at hc
    · unfold builtinC at hc
      repeat' (split at hc) <;> first | cases hc | skip
      all_goals (try cases hc)
      all_goals (try cases hk)
    · split at hc
      · cases hc; cases hk
      · cases hc
    · split at hc
      · cases hc; cases hk
      · cases hc
    · cases hc
  | _ =>
    have hc := hcop _ hop
    simp only [copC] at hc
    repeat' (split at hc)
    all_goals (try cases hc)
    all_goals (try cases hk)
    all_goals (try (cases hc; cases hk))
end
end
end Go.Ax
end
section
namespace Go.Ax
open Go Go.RowKit
noncomputable section
set_option linter.unusedSectionVars false
set_option linter.unusedVariables false
set_option linter.unusedSimpArgs false
variable {P : Program} {op : Nat → Value} {w0 : Base} {ti : TI}
/- ### Regions in whatever order: what holds in between -/
def DV (d : Dst) (f : NC) (v : AV) : Prop := match d with
  | .none => True
  | .slot p => NC.get p f = v
/-- What an operation saw of the slots, where it stands in the order that is run. -/
def Agree (ops : Array Oper) (i : Nat) (o : Oper) (fi f f0 : NC) : Prop := ∀ t, t < 512 → t ∈ readsC ops.toList o →
  (∃ j p, ops[j]? = some p ∧ p.dst = some t ∧ j ≠ i ∧ (Msk ops i).testBit j = true ∧ NC.get (fpath t) fi = NC.get (fpath t) f) ∨
  ((∀ j p, ops[j]? = some p → p.dst = some t → j ≠ i → (Msk ops j).testBit i = true) ∧ NC.get (fpath t) fi = NC.get (fpath t) f0)
/-- An operation that has been passed in the order that is run, and is not done. -/
def Pend (ti : TI) (okTo : Nat → Nat → Nat → Nat → Bool) (E : Env) (ih : IH) (ops : Array Oper) (nt : Nat) (f0 : NC) (w : OpL) (f : NC) (mid : Nat → Option Nat) (i : Nat) : Prop :=
  ∃ o d g fi, ops[i]? = some o ∧ dstC nt o.dst = some d ∧ grdC ops.toList o.guard = some g ∧ Agree ops i o fi f f0 ∧ g.sure fi = true ∧
    ((g.ok fi = false ∧ DV d f undefA) ∨ (g.ok fi = true ∧ ∃ c v, copC ti okTo o.op = some c ∧ DV d f v ∧
      ((kindC c = 0 ∧ ∃ s', OneIs (runOp c E ih fi deadSt valOf) v s') ∨ (kindC c = 1 ∧ w.hasR i (c.shut fi) v) ∨
       (kindC c = 2 ∧ ∃ id ob s', mid i = some id ∧ OneIs (runOp c E ih fi ⟨za5, id, .off⟩ valOf) v s' ∧ s'.get id = ob ∧ w.hasM i id ob))))
structure J (P : Program) (op : Nat → Value) (w0 : Base) (ti : TI) (okTo : Nat → Nat → Nat → Nat → Bool) (E : Env) (ih : IH) (ops : Array Oper) (nt N : Nat) (ext : Nat → Prop) (f0 : NC) (KK : NC → St → Res) (F0 : Res) (ρ0 : Rho) (ds0 : List Deferred)
    (l : List CO) (done effs : Nat) (pre : List Nat) (f : NC) (s : St) (w : OpL) (mid : Nat → Option Nat) (ρ : Rho) (D : Array Bool) (a : Act) (wld : World) : Prop where
  run : Sub (runDrawn (olOf l) E ih f s w KK) F0
  ord : orderOk (2 ^ N - 1) l done effs = true
  mem : ∀ o ∈ l, ∃ i p, i < N ∧ ops[i]? = some p ∧ o = coC ti okTo nt ops.toList i (Msk ops i) p
  pok : PreOk ops pre
  pdn : ∀ b, done.testBit b = true ↔ b ∈ pre
  pN : ∀ b ∈ pre, b < N
  sub : ∀ i, In D i → i ∈ pre ∨ ext i
  dsz : D.size = ops.size
  clo : Clo ops D
  rel : HRel op { w0 with res := fun id => w0.res id ∨ ∃ i, ¬ In D i ∧ mid i = some id } ρ s wld
  inj : ∀ i j id, ¬ In D i → ¬ In D j → mid i = some id → mid j = some id → i = j
  midn : ∀ i id, ¬ In D i → mid i = some id → ¬ w0.res id
  pnd : ∀ i ∈ pre, ¬ In D i → Pend ti okTo E ih ops nt f0 w f mid i
  sl1 : ∀ j p t, ops[j]? = some p → p.dst = some t → t < 512 → In D j → VRel op ρ (NC.get (fpath t) f) (a.tmps.getD t undef)
  sl0 : ∀ t, t < 512 → (∀ j p, ops[j]? = some p → p.dst = some t → ¬ In D j) → VRel op ρ (NC.get (fpath t) f0) (a.tmps.getD t undef)
  unw : ∀ t, t < 512 → (∀ j p, ops[j]? = some p → p.dst = some t → j ∉ pre) → NC.get (fpath t) f = NC.get (fpath t) f0
  size : nt ≤ a.tmps.size
  dfr : a.defers = ds0
  rho : ρ0.sub ρ
def dset (d : Dst) (A : AV) (f : NC) : NC := match d with
  | .none => f
  | .slot p => NC.setS p A f
theorem dsetK_eq (d : Dst) (A : AV) (f : NC) (k : NC → Res) : d.setK A f k = k (dset d A f) := by
  cases d with
  | none => rfl
  | slot p => exact NC.setK_eq _ _ _ _
theorem dset_dv (d : Dst) (A : AV) (f : NC) : DV d (dset d A f) A := by
  cases d with
  | none => trivial
  | slot p => exact NC.get_same _ _ _
theorem dst_slot {nt : Nat} {o : Option Tmp} {d : Dst} (h : dstC nt o = some d) : (o = none ∧ d = .none) ∨ ∃ t, o = some t ∧ d = .slot (fpath t) ∧ t < nt ∧ t < 512 := by
  cases o with
  | none => cases h; exact .inl ⟨rfl, rfl⟩
  | some t =>
    simp only [dstC] at h
    split at h
    · rename_i ht; cases h; exact .inr ⟨t, rfl, rfl, ht⟩
    · cases h
theorem dset_other {nt : Nat} {o : Option Tmp} {d : Dst} (h : dstC nt o = some d) {A : AV} {f : NC} {t : Tmp} (h5 : t < 512) (hne : o ≠ some t) : NC.get (fpath t) (dset d A f) = NC.get (fpath t) f := by
  rcases dst_slot h with ⟨_, e⟩ | ⟨u, e1, e2, _, hu5⟩
  · rw [e]; rfl
  · rw [e2]
    exact NC.get_other _ _ _ _ (fun h => hne (by rw [e1, fpath_inj h5 hu5 h]))
theorem put_getD {a : Act} {t : Tmp} {v : Value} {u : Nat} (ht : t < a.tmps.size) : ((a.put (some t) v).tmps.getD u undef) = if u = t then v else a.tmps.getD u undef := by
  simp only [Act.put, Array.getD_eq_getD_getElem?, Array.getElem?_setIfInBounds]
  by_cases e : t = u
  · subst e; rw [if_pos rfl, if_pos ht, if_pos rfl]; rfl
  · rw [if_neg e, if_neg (fun h => e h.symm)]
section
variable {okTo : Nat → Nat → Nat → Nat → Bool} {E : Env} {ih : IH} {ops : Array Oper} {nt N : Nat} {ext : Nat → Prop} {f0 : NC} {KK : NC → St → Res} {F0 : Res} {ρ0 : Rho} {ds0 : List Deferred}
variable {l : List CO} {done effs : Nat} {pre : List Nat} {f : NC} {s : St} {w : OpL} {mid : Nat → Option Nat} {ρ : Rho} {D : Array Bool} {a : Act} {wld : World}
/-- What a waiting operation sees is in the slots. -/
theorem reads_val (h : J P op w0 ti okTo E ih ops nt N ext f0 KK F0 ρ0 ds0 l done effs pre f s w mid ρ D a wld) {i : Nat} {o : Oper} {fi : NC} (hag : Agree ops i o fi f f0) (hn : ¬ In D i) (hM : ∀ b, (Msk ops i).testBit b = true → In D b) :
    ∀ t, t < 512 → t ∈ readsC ops.toList o → VRel op ρ (NC.get (fpath t) fi) (a.tmps.getD t undef) := by
  intro t ht hr
  rcases hag t ht hr with ⟨j, p, hj, hp, _, hb, e⟩ | ⟨hw, e⟩
  · rw [e]; exact h.sl1 j p t hj hp ht (hM j hb)
  · rw [e]
    refine h.sl0 t ht fun j p hj hp hD => ?_
    by_cases e : j = i
    · subst e; exact hn hD
    · exact hn (h.clo j hD i (hw j p hj hp e))
theorem opd_of {fi : NC} {o : Oper} (hv : ∀ t, t < 512 → t ∈ readsC ops.toList o → VRel op ρ (NC.get (fpath t) fi) (a.tmps.getD t undef)) (hG : GRel ti ρ) : Opd op ρ ti fi a o := by
  intro x hx y hy
  cases x with
  | tmp t =>
    simp only [srcC] at hy
    split at hy
    · rename_i ht; cases hy; exact hv t ht (reads_operand hx)
    · cases hy
  | const v =>
    simp only [srcC] at hy
    split at hy
    · rename_i y hy'; cases hy; exact avOf_ok op ρ 6 v y hy'
    · cases hy
  | global g =>
    simp only [srcC] at hy
    split at hy
    · rename_i hg; cases hy
      obtain ⟨p, h1, h2, h3⟩ := hG g hg
      exact ⟨p, h1, by rw [h2, h3]; rfl⟩
    · cases hy
  | func g => cases hy; exact ⟨.func g, [], [], rfl, rfl, rfl, rfl⟩
theorem grd_of {fi : NC} {o : Oper} {g : Grd} (hg : grdC ops.toList o.guard = some g) (hv : ∀ t, t < 512 → t ∈ readsC ops.toList o → VRel op ρ (NC.get (fpath t) fi) (a.tmps.getD t undef)) (hs : g.sure fi = true) : g.ok fi = Region.wanted o (yielded ops a.tmps) := by
  unfold Region.wanted
  cases hgd : o.guard with
  | none => rw [hgd] at hg; cases hg; rfl
  | some jw =>
    obtain ⟨j, w⟩ := jw
    rw [hgd] at hg
    simp only [grdC] at hg
    split at hg
    · rename_i o' ho'
      split at hg
      · rename_i t ht
        split at hg
        · rename_i ht5
          cases hg
          have hv := hv t ht5 (reads_guard hgd ho' ht)
          have hs : (NC.get (fpath t) fi).known = true := hs
          show (NC.get (fpath t) fi).boolIs w = _
          rw [bool_known hv hs w]
          have ho2 : ops[j]? = some o' := by rw [← Array.getElem?_toList]; exact ho'
          simp only [yielded, ho2, Option.bind_some, ht, Array.getD_eq_getD_getElem?]
          cases ht3 : a.tmps[t]? with
          | none => simp [boolOf, undef]
          | some v => cases v <;> simp [boolOf]
        · cases hg
      · cases hg
    · cases hg
/-- The slots, when an operation that has been passed has been done. -/
theorem slots_put (ht : tempsOk ops.toList (masksC ops.toList) = true) {i : Nat} {o : Oper} {d : Dst} {A : AV} {v : Value} {ρ' : Rho} (hsub : ρ.sub ρ') (hi : i < D.size) (ho : ops[i]? = some o) (hd : dstC nt o.dst = some d) (hv : VRel op ρ' A v) (hdv : DV d f A) (hsz : nt ≤ a.tmps.size)
    (sl1 : ∀ j p t, ops[j]? = some p → p.dst = some t → t < 512 → In D j → VRel op ρ (NC.get (fpath t) f) (a.tmps.getD t undef))
    (sl0 : ∀ t, t < 512 → (∀ j p, ops[j]? = some p → p.dst = some t → ¬ In D j) → VRel op ρ (NC.get (fpath t) f0) (a.tmps.getD t undef)) :
    (∀ j p t, ops[j]? = some p → p.dst = some t → t < 512 → In (D.setIfInBounds i true) j → VRel op ρ' (NC.get (fpath t) f) ((a.put o.dst v).tmps.getD t undef)) ∧
    (∀ t, t < 512 → (∀ j p, ops[j]? = some p → p.dst = some t → ¬ In (D.setIfInBounds i true) j) → VRel op ρ' (NC.get (fpath t) f0) ((a.put o.dst v).tmps.getD t undef)) ∧ nt ≤ (a.put o.dst v).tmps.size ∧ (a.put o.dst v).defers = a.defers := by
  have other : ∀ t, o.dst ≠ some t → (a.put o.dst v).tmps.getD t undef = a.tmps.getD t undef := by
    intro t hne
    rcases dst_slot hd with ⟨e, _⟩ | ⟨u, e, _, hu, _⟩
    · rw [e]; rfl
    · rw [e, put_getD (Nat.lt_of_lt_of_le hu hsz), if_neg (fun h => hne (by rw [e, h]))]
  refine ⟨?_, ?_, ?_, ?_⟩
  · intro j p t hj hp h5 hD
    rw [in_set hi] at hD
    by_cases e : j = i
    · subst e
      rw [ho] at hj; cases hj
      rcases dst_slot hd with ⟨e, _⟩ | ⟨u, e, ed, hu, _⟩
      · rw [e] at hp; cases hp
      · rw [e] at hp
        have hut : u = t := Option.some.inj hp
        rw [e, put_getD (Nat.lt_of_lt_of_le hu hsz), if_pos hut.symm]
        rw [ed, hut] at hdv
        have hdv : NC.get (fpath t) f = A := hdv
        rw [hdv]; exact hv
    · rcases hD with h | h
      · exact absurd h e
      · rw [other t (temps_ok ht ho hj hp e).1]; exact (sl1 j p t hj hp h5 h).mono op hsub
  · intro t h5 hall
    have hne : o.dst ≠ some t := fun e => hall i o ho e ((in_set hi).2 (.inl rfl))
    rw [other t hne]
    exact (sl0 t h5 fun j p hj hp h => hall j p hj hp ((in_set hi).2 (.inr h))).mono op hsub
  · rcases dst_slot hd with ⟨e, _⟩ | ⟨u, e, _, hu, _⟩
    · rw [e]; exact hsz
    · rw [e]; simpa [Act.put] using hsz
  · rcases dst_slot hd with ⟨e, _⟩ | ⟨u, e, _, hu, _⟩
    · rw [e]; rfl
    · rw [e]; rfl
/-- What is passed next sees the slots as they are. -/
theorem agree_now (ht : tempsOk ops.toList (masksC ops.toList) = true) (hpok : PreOk ops pre) (unw : ∀ t, t < 512 → (∀ j p, ops[j]? = some p → p.dst = some t → j ∉ pre) → NC.get (fpath t) f = NC.get (fpath t) f0) {i : Nat} {o : Oper} (ho : ops[i]? = some o) (hi : i ∉ pre) :
    Agree ops i o f f f0 := by
  intro t h5 hr
  by_cases hex : ∃ j p, ops[j]? = some p ∧ p.dst = some t ∧ j ≠ i ∧ (Msk ops i).testBit j = true
  · obtain ⟨j, p, h1, h2, h3, h4⟩ := hex
    exact .inl ⟨j, p, h1, h2, h3, h4, rfl⟩
  · have hw : ∀ j p, ops[j]? = some p → p.dst = some t → j ≠ i → (Msk ops j).testBit i = true := fun j p hj hp hne => by
      rcases (temps_ok ht ho hj hp hne).2 hr with h | h
      · exact absurd ⟨j, p, hj, hp, hne, h⟩ hex
      · exact h
    refine .inr ⟨hw, unw t h5 fun j p hj hp hm => ?_⟩
    by_cases e : j = i
    · subst e; exact hi hm
    · exact hi (hpok.closed j hm i (hw j p hj hp e))
/-- A waiting operation goes on waiting, when another one is passed. -/
theorem Pend.keep (ht : tempsOk ops.toList (masksC ops.toList) = true) (hpok : PreOk ops pre) {i k : Nat} {o : Oper} {d : Dst} {A : AV} (ho : ops[k]? = some o) (hd : dstC nt o.dst = some d) (hk : k ∉ pre) (hi : i ∈ pre) {w' : OpL} {mid' : Nat → Option Nat}
    (hw : (∀ c v, w.hasR i c v → w'.hasR i c v) ∧ ∀ id ob, w.hasM i id ob → w'.hasM i id ob) (hm : ∀ id, mid i = some id → mid' i = some id) {f' : NC} (hf : f' = dset d A f)
    (h : Pend ti okTo E ih ops nt f0 w f mid i) : Pend ti okTo E ih ops nt f0 w' f' mid' i := by
  have hne : i ≠ k := fun e => hk (e ▸ hi)
  -- slots of others stay
  have keep : ∀ t, t < 512 → (∃ j p, ops[j]? = some p ∧ p.dst = some t ∧ j ∈ pre) → NC.get (fpath t) f' = NC.get (fpath t) f := by
    rintro t h5 ⟨j, p, hj, hp, hm⟩
    rw [hf]
    exact dset_other hd h5 (temps_ok ht ho hj hp (fun e => hk (e ▸ hm))).1
  obtain ⟨oi, di, g, fi, h1, h2, h3, h4, h5, h6⟩ := h
  refine ⟨oi, di, g, fi, h1, h2, h3, ?_, h5, ?_⟩
  · intro t ht5 hr
    rcases h4 t ht5 hr with ⟨j, p, hj, hp, hji, hb, e⟩ | h
    · exact .inl ⟨j, p, hj, hp, hji, hb, by rw [e, keep t ht5 ⟨j, p, hj, hp, hpok.closed i hi j hb⟩]⟩
    · exact .inr h
  · have dv : ∀ {v : AV}, DV di f v → DV di f' v := by
      intro v hv
      rcases dst_slot h2 with ⟨_, e⟩ | ⟨u, e1, e2, _, hu5⟩
      · rw [e]; trivial
      · rw [e2] at hv ⊢
        have hv : NC.get (fpath u) f = v := hv
        show NC.get (fpath u) f' = v
        rw [keep u hu5 ⟨i, oi, h1, e1, hi⟩]; exact hv
    rcases h6 with ⟨g1, g2⟩ | ⟨g1, c, v, g2, g3, g4⟩
    · exact .inl ⟨g1, dv g2⟩
    · refine .inr ⟨g1, c, v, g2, dv g3, ?_⟩
      rcases g4 with g4 | ⟨g4, g5⟩ | ⟨g4, id, ob, s', g5, g6, g7, g8⟩
      · exact .inl g4
      · exact .inr (.inl ⟨g4, hw.1 _ _ g5⟩)
      · exact .inr (.inr ⟨g4, id, ob, s', hm _ g5, g6, g7, hw.2 _ _ g8⟩)
end
end
end Go.Ax
end
section
namespace Go.Ax
open Go Go.RowKit
noncomputable section
set_option linter.unusedSectionVars false
set_option linter.unusedVariables false
set_option linter.unusedSimpArgs false
variable {P : Program} {op : Nat → Value} {w0 : Base} {ti : TI}
section
variable {okTo : Nat → Nat → Nat → Nat → Bool} {E : Env} {ih : IH} {ops : Array Oper} {nt N : Nat} {ext : Nat → Prop} {f0 : NC} {KK : NC → St → Res} {F0 : Res} {ρ0 : Rho} {ds0 : List Deferred}
variable {l : List CO} {done effs : Nat} {pre : List Nat} {f : NC} {s : St} {w : OpL} {mid : Nat → Option Nat} {ρ : Rho} {D : Array Bool} {a : Act} {wld : World}
theorem cop_nodefer {o : Oper} {c : COp} (hc : copC ti okTo o.op = some c) : ∀ c', o.op ≠ .defer c' := fun c' h => by rw [h] at hc; simp only [copC] at hc; cases hc
theorem in_lt (hsz : D.size = ops.size) {i : Nat} {o : Oper} (ho : ops[i]? = some o) : i < D.size := by
  obtain ⟨h, _⟩ := Array.getElem?_eq_some_iff.1 ho
  omega
/-- A waiting operation is done. -/
theorem exec_pend (T : TiOk P ti) (K : OkTo P okTo) (hop1 : ∀ n, (op n).oneCell' = true) (ht : tempsOk ops.toList (masksC ops.toList) = true) (hG : GRel ti ρ0)
    (h : J P op w0 ti okTo E ih ops nt N ext f0 KK F0 ρ0 ds0 l done effs pre f s w mid ρ D a wld) (hck : ∀ i, i ∈ pre → ¬ In D i → (∀ c v, w.hasR i c v → ∃ s', OneIs (runOp c E (fun _ _ _ => .fail) zc s valOf) v s') ∧ ∀ id ob, w.hasM i id ob → s.get id = ob) {i : Nat} (hi : i ∈ pre) (hn : ¬ In D i) (hM : ∀ b, (Msk ops i).testBit b = true → In D b) {r : Option Nat} {K' : Act → World → Prop} {Q : Exit → Act → World → Prop}
    (hK : ∀ a' wld' ρ', J P op w0 ti okTo E ih ops nt N ext f0 KK F0 ρ0 ds0 l done effs pre f s w mid ρ' (D.setIfInBounds i true) a' wld' → K' a' wld') : wpOpIn (Fc r) 0 P ops Q i K' a wld := by
  obtain ⟨o, d, g, fi, ho, hd, hg, hag, hsure, hcase⟩ := h.pnd i hi hn
  have hrv := reads_val h hag hn hM
  have hGρ := hG.mono h.rho
  have hw := grd_of hg hrv hsure
  have hiD : i < D.size := in_lt h.dsz ho
  have mk : ∀ {ρ' : Rho} {A : AV} {v : Value} {wld' : World}, ρ.sub ρ' → VRel op ρ' A v → DV d f A → HRel op { w0 with res := fun id => w0.res id ∨ ∃ j, ¬ In (D.setIfInBounds i true) j ∧ mid j = some id } ρ' s wld' → K' (a.put o.dst v) wld' := by
    intro ρ' A v wld' hsub hv hdv hrel
    obtain ⟨s1, s0, s2, s3⟩ := slots_put ht hsub hiD ho hd hv hdv h.size h.sl1 h.sl0
    have back : ∀ {j}, ¬ In (D.setIfInBounds i true) j → ¬ In D j := fun hnj hD => hnj ((in_set hiD).2 (.inr hD))
    refine hK _ _ ρ' ⟨h.run, h.ord, h.mem, h.pok, h.pdn, h.pN, ?_, by rw [Array.size_setIfInBounds]; exact h.dsz, clo_set hiD h.clo hM, hrel, fun x y id hx hy => h.inj x y id (back hx) (back hy), fun x id hx => h.midn x id (back hx), fun j hj hnj => h.pnd j hj (back hnj), s1, s0, h.unw, s2, s3.trans h.dfr, h.rho.trans hsub⟩
    intro j hj
    rcases (in_set hiD).1 hj with rfl | hj
    · exact .inl hi
    · exact h.sub j hj
  have hrel' : HRel op { w0 with res := fun id => w0.res id ∨ ∃ j, ¬ In (D.setIfInBounds i true) j ∧ mid j = some id } ρ s wld :=
    h.rel.res_le fun _ hid => hid.imp id fun ⟨j, h1, h2⟩ => ⟨j, fun hD => h1 ((in_set hiD).2 (.inr hD)), h2⟩
  unfold wpOpIn
  simp only [ho]
  rw [← hw]
  rcases hcase with ⟨gok, hdv⟩ | ⟨gok, c, v, hc, hdv, hk⟩
  · rw [gok, if_neg (by decide)]
    exact ⟨fun _ _ => trivial, mk (.refl _) undef_rel hdv hrel'⟩
  · rw [gok, if_pos rfl]
    refine ⟨fun _ _ => trivial, ?_⟩
    rw [Oper.semAt_eq _ _ _ (cop_nodefer hc)]
    have hop := opd_of hrv hGρ
    rcases hk with ⟨hk, s', h1⟩ | ⟨hk, hr⟩ | ⟨hk, id, ob, s', hmid, h1, hob, hm⟩
    · obtain ⟨av, u, hrun, hv, e⟩ := pure_ok (E := E) (ih := ih) T K hop1 hop hGρ h.rel hc hk _ valOf h1.good rfl
      obtain ⟨e1, _⟩ := h1.val e
      rw [hrun, Oper.uponIn_value]
      exact mk (.refl _) (e1 ▸ hv) hdv hrel'
    · obtain ⟨s', h1⟩ := (hck i hi hn).1 _ _ hr
      rw [shut_eq (ih' := ih) hk] at h1
      obtain ⟨av, u, hrun, hv, e⟩ := read_ok (E := E) (ih := ih) T K hop1 hop hGρ h.rel hc hk _ valOf h1.good rfl
      obtain ⟨e1, _⟩ := h1.val e
      rw [hrun, Oper.uponIn_value]
      exact mk (.refl _) (e1 ▸ hv) hdv hrel'
    · obtain ⟨av, o', hnx, e, hmade⟩ := made_ok (E := E) (ih := ih) (s := ⟨za5, id, .off⟩) T K hop1 hop hGρ hc hk (B := w0.heap.size) _ valOf h1.good rfl
      obtain ⟨e1, e2⟩ := h1.val e
      obtain ⟨u, wld', blk, p, hrun, hgrew, hpb, hall⟩ := hmade wld ρ h.rel.below.size (.refl _)
      have hres := h.rel.res id (.inr ⟨i, hn, hmid⟩)
      obtain ⟨hv, hor⟩ := hall id hres.1
      have hgo : s.get id = o' := by
        rw [(hck i hi hn).2 _ _ hm, ← hob, e2]
        exact St.add_same (s := ⟨za5, id, .off⟩)
      rw [hrun, Oper.uponIn_value]
      refine mk (Rho.put_sub hres.1) (e1 ▸ hv) hdv (hrel'.born hres.1 ?_ hres.2 hpb hgrew (by rw [hgo]; exact hor))
      rintro (hr | ⟨j, h2, h3⟩)
      · exact h.midn i id hn hmid hr
      · have : j = i := h.inj j i id (fun hD => h2 ((in_set hiD).2 (.inr hD))) hn h3 hmid
        exact h2 ((in_set hiD).2 (.inl this))
/-- How an operation of a region has been made ready. -/
theorem co_shape {i bef : Nat} {o : Oper} (h : isMk (coC ti okTo nt ops.toList i bef o) = true) :
    (∃ d g c k, coC ti okTo nt ops.toList i bef o = .mk d g c i bef k ∧ dstC nt o.dst = some d ∧ grdC ops.toList o.guard = some g ∧ ((copC ti okTo o.op = some c ∧ k = kindC c) ∨ (c = .bad ∧ k = 3))) ∨
    coC ti okTo nt ops.toList i bef o = .mk .none .none .bad i bef 3 := by
  unfold coC at h ⊢
  split
  · rename_i d g hd hg
    rw [hd, hg] at h
    simp only at h
    split
    · rename_i c hop
      rw [hop] at h
      simp only at h
      split
      · rename_i fo hcal
        rw [hcal] at h
        simp only at h
        split
        · rename_i x l hx hl
          rw [hx, hl] at h; cases h
        · exact .inl ⟨d, g, .bad, 3, rfl, hd, hg, .inr ⟨rfl, rfl⟩⟩
      · exact .inl ⟨d, g, .bad, 3, rfl, hd, hg, .inr ⟨rfl, rfl⟩⟩
    · split
      · rename_i c hc
        exact .inl ⟨d, g, c, kindC c, rfl, hd, hg, .inl ⟨hc, rfl⟩⟩
      · exact .inl ⟨d, g, .bad, 3, rfl, hd, hg, .inr ⟨rfl, rfl⟩⟩
  · exact .inr rfl
/-- What is there, when one more has been passed. -/
theorem pass_core (ht : tempsOk ops.toList (masksC ops.toList) = true) (hext : ∀ i, ext i → N ≤ i) {co : CO} (h : J P op w0 ti okTo E ih ops nt N ext f0 KK F0 ρ0 ds0 (co :: l) done effs pre f s w mid ρ D a wld)
    {i : Nat} {o : Oper} {d : Dst} {g : Grd} {c : COp} {k : Nat} (hiN : i < N) (hco : co = .mk d g c i (Msk ops i) k) (ho : ops[i]? = some o) (hd : dstC nt o.dst = some d) {A : AV} {s' : St} {w' : OpL} {mid' : Nat → Option Nat}
    (run : Sub (runDrawn (olOf l) E ih (dset d A f) s' w' KK) F0) (rel : HRel op { w0 with res := fun id => w0.res id ∨ ∃ j, ¬ In D j ∧ mid' j = some id } ρ s' wld)
    (hw : ∀ j ∈ pre, (∀ c v, w.hasR j c v → w'.hasR j c v) ∧ ∀ id ob, w.hasM j id ob → w'.hasM j id ob) (hm : ∀ j ∈ pre, ∀ id, mid j = some id → mid' j = some id)
    (inj : ∀ i j id, ¬ In D i → ¬ In D j → mid' i = some id → mid' j = some id → i = j) (midn : ∀ i id, ¬ In D i → mid' i = some id → ¬ w0.res id)
    (hp : Agree ops i o f (dset d A f) f0 → Pend ti okTo E ih ops nt f0 w' (dset d A f) mid' i) :
    ∃ effs', J P op w0 ti okTo E ih ops nt N ext f0 KK F0 ρ0 ds0 l (Nat.lor done (2 ^ i)) effs' (i :: pre) (dset d A f) s' w' mid' ρ D a wld := by
  have hord := ord_cons h.ord
  have hnum : numOf co = i := by rw [hco]; rfl
  have hbef : befOf co = Msk ops i := by rw [hco]; rfl
  rw [hnum, hbef] at hord
  have hipre : i ∉ pre := fun hm => by have := (h.pdn i).2 hm; rw [hord.2.1] at this; cases this
  have hinD : ¬ In D i := fun hD => by
    rcases h.sub i hD with h1 | h1
    · exact hipre h1
    · have := hext i h1; omega
  have keep : ∀ t, t < 512 → o.dst ≠ some t → NC.get (fpath t) (dset d A f) = NC.get (fpath t) f := fun t h5 hne => dset_other hd h5 hne
  refine ⟨_, run, hord.2.2.2.2, fun x hx => h.mem x (List.mem_cons_of_mem _ hx), ⟨h.pok, fun b hb => (h.pdn b).1 (hord.2.2.1 b hb)⟩, ?_, ?_, ?_, h.dsz, h.clo, rel, inj, midn, ?_, ?_, h.sl0, ?_, h.size, h.dfr, h.rho⟩
  · intro b
    rw [lor_bit, pow_bit, Bool.or_eq_true, decide_eq_true_eq, h.pdn b, List.mem_cons]
    constructor
    · rintro (h1 | h1)
      · exact .inr h1
      · exact .inl h1.symm
    · rintro (h1 | h1)
      · exact .inr h1.symm
      · exact .inl h1
  · intro b hb
    rcases List.mem_cons.1 hb with rfl | hb
    · exact hiN
    · exact h.pN b hb
  · intro j hj
    exact (h.sub j hj).imp (List.mem_cons_of_mem _) id
  · intro j hj hn
    rcases List.mem_cons.1 hj with rfl | hj
    · refine hp fun t h5 hr => ?_
      rcases agree_now ht h.pok h.unw ho hipre t h5 hr with ⟨j', p, h1, h2, h3, h4, h6⟩ | hh
      · exact .inl ⟨j', p, h1, h2, h3, h4, (keep t h5 (temps_ok ht ho h1 h2 h3).1).symm⟩
      · exact .inr hh
    · exact Pend.keep ht h.pok ho hd hipre hj (hw j hj) (hm j hj) rfl (h.pnd j hj hn)
  · intro j p t hj hp2 h5 hD
    rw [keep t h5 (temps_ok ht ho hj hp2 (fun e => hinD (e ▸ hD))).1]
    exact h.sl1 j p t hj hp2 h5 hD
  · intro t h5 hall
    have hne : o.dst ≠ some t := fun e => hall i o ho e (List.mem_cons_self ..)
    rw [keep t h5 hne]
    exact h.unw t h5 fun j p hj hp2 hm => hall j p hj hp2 (List.mem_cons_of_mem _ hm)
/-- The order that is run stops at an operation that writes. -/
def Stuck (l : List CO) (f : NC) : Prop := l = [] ∨ ∃ d g c i b t, l = .mk d g c i b 3 :: t ∧ g.ok f = true
theorem runDrawn_cons {d : Dst} {g : Grd} {c : COp} {i b k : Nat} {t : OL} {E : Env} {ih : IH} : runDrawn (.cons (.mk d g c i b k) t) E ih f s w KK = guardK (g.sure f) (Bool.rec (motive := fun _ => Res) (d.setK undefA f fun f' => runDrawn t E ih f' s w KK) (drawnOp k d c i b (runDrawn t) E ih f s w KK) (g.ok f)) := rfl
theorem whole_inv {ob : Obj} {k : Obj → Res} (hg : (ob.whole k).good) : ob.whole k = k ob := by
  cases ob <;> first | rfl | exact hg.elim
theorem advance1 (ht : tempsOk ops.toList (masksC ops.toList) = true) (hext : ∀ i, ext i → N ≤ i) (hg0 : F0.good) {co : CO} (h : J P op w0 ti okTo E ih ops nt N ext f0 KK F0 ρ0 ds0 (co :: l) done effs pre f s w mid ρ D a wld) :
    Stuck (co :: l) f ∨ ∃ done' effs' pre' f' s' w' mid', J P op w0 ti okTo E ih ops nt N ext f0 KK F0 ρ0 ds0 l done' effs' pre' f' s' w' mid' ρ D a wld := by
  obtain ⟨i, o, hiN, ho, hco⟩ := h.mem co (List.mem_cons_self ..)
  have hord := ord_cons h.ord
  have hmk := hord.1
  rw [hco] at hmk
  rcases co_shape hmk with ⟨d, g, c, k, hsh, hd, hg, hck⟩ | hsh
  · rw [hsh] at hco
    have hgood := (h.run hg0).1
    obtain ⟨F, hF⟩ : ∃ F, F = runDrawn (olOf (co :: l)) E ih f s w KK := ⟨_, rfl⟩
    rw [← hF] at hgood
    have hsub := h.run
    rw [← hF] at hsub
    have hF : F = runDrawn (.cons co (olOf l)) E ih f s w KK := hF
    rw [hco, runDrawn_cons] at hF
    obtain ⟨gs, hF⟩ := guard_inv hgood hF
    have hnum : numOf co = i := by rw [hco]; rfl
    have hnew : done.testBit i = false := by have := hord.2.1; rw [hnum] at this; exact this
    have hipre : i ∉ pre := fun hm => by have := (h.pdn i).2 hm; rw [hnew] at this; cases this
    have same : ∀ j ∈ pre, (∀ c v, w.hasR j c v → w.hasR j c v) ∧ ∀ id ob, w.hasM j id ob → w.hasM j id ob := fun _ _ => ⟨fun _ _ h => h, fun _ _ h => h⟩
    cases gok : g.ok f with
    | false =>
      rw [gok] at hF
      have hF : F = d.setK undefA f fun f' => runDrawn (olOf l) E ih f' s w KK := hF
      rw [dsetK_eq] at hF
      obtain ⟨effs', hJ⟩ := pass_core ht hext h hiN hco ho hd (A := undefA) (by rw [← hF]; exact hsub) h.rel same (fun _ _ _ h => h) h.inj h.midn (fun hag => ⟨o, d, g, f, ho, hd, hg, hag, gs, .inl ⟨gok, dset_dv _ _ _⟩⟩)
      exact .inr ⟨_, _, _, _, _, _, _, hJ⟩
    | true =>
      rw [gok] at hF
      have hF : F = drawnOp k d c i (Msk ops i) (runDrawn (olOf l)) E ih f s w KK := hF
      rcases hck with ⟨hc, hk⟩ | ⟨hc, hk⟩
      · by_cases h3 : k = 3
        · subst h3; exact .inl (.inr ⟨d, g, c, i, _, l, by rw [hco], gok⟩)
        · have hk3 : kindC c ≤ 3 := by cases c <;> exact Nat.le_of_ble_eq_true rfl
          have : k = 0 ∨ k = 1 ∨ k = 2 := by omega
          rcases this with rfl | rfl | rfl
          · have hF : F = one (runOp c E ih f deadSt valOf) fun v _ => d.setK v f fun f' => runDrawn (olOf l) E ih f' s w KK := hF
            obtain ⟨v, s1, h1, h2⟩ := one_inv (hF ▸ hgood)
            have hF := hF.trans h2
            rw [dsetK_eq] at hF
            obtain ⟨effs', hJ⟩ := pass_core ht hext h hiN hco ho hd (A := v) (by rw [← hF]; exact hsub) h.rel same (fun _ _ _ h => h) h.inj h.midn (fun hag => ⟨o, d, g, f, ho, hd, hg, hag, gs, .inr ⟨gok, c, v, hc, dset_dv _ _ _, .inl ⟨hk.symm, s1, h1⟩⟩⟩)
            exact .inr ⟨_, _, _, _, _, _, _, hJ⟩
          · have hF : F = one (runOp c E ih f s valOf) fun v _ => d.setK v f fun f' => runDrawn (olOf l) E ih f' s (.read i (c.shut f) v w) KK := hF
            obtain ⟨v, s1, h1, h2⟩ := one_inv (hF ▸ hgood)
            have hF := hF.trans h2
            rw [dsetK_eq] at hF
            obtain ⟨effs', hJ⟩ := pass_core (w' := .read i (c.shut f) v w) ht hext h hiN hco ho hd (A := v) (by rw [← hF]; exact hsub) h.rel (fun _ _ => ⟨fun _ _ h => Or.inr h, fun _ _ h => h⟩) (fun _ _ _ h => h) h.inj h.midn (fun hag => ⟨o, d, g, f, ho, hd, hg, hag, gs, .inr ⟨gok, c, v, hc, dset_dv _ _ _, .inr (.inl ⟨hk.symm, Or.inl ⟨rfl, rfl, rfl⟩⟩)⟩⟩)
            exact .inr ⟨_, _, _, _, _, _, _, hJ⟩
          · obtain ⟨hp, n, m⟩ := s
            have hF : F = one (runOp c E ih f ⟨za5, n, .off⟩ valOf) fun v s' => (s'.get n).whole fun ob => St.newK ob ⟨hp, n, m⟩ fun _ s2 => d.setK v f fun f' => runDrawn (olOf l) E ih f' s2 (.made i n ob w) KK := hF
            obtain ⟨v, s1, h1, h2⟩ := one_inv (hF ▸ hgood)
            have hF := hF.trans h2
            have hF := hF.trans (whole_inv (hF ▸ hgood))
            obtain ⟨hn, hF⟩ := newK_inv hgood hF
            rw [dsetK_eq] at hF
            have hres : ∀ id, (w0.res id ∨ ∃ j, ¬ In D j ∧ mid j = some id) → id < n := fun id hid => (h.rel.res id hid).2
            have mnew : ∀ {j id}, (if j = i then some n else mid j) = some id → (j = i ∧ id = n) ∨ (j ≠ i ∧ mid j = some id) := by
              intro j id hj
              by_cases e : j = i
              · rw [if_pos e] at hj; cases hj; exact .inl ⟨e, rfl⟩
              · rw [if_neg e] at hj; exact .inr ⟨e, hj⟩
            have r1 : HRel op { w0 with res := fun id => w0.res id ∨ ∃ j, ¬ In D j ∧ (if j = i then some n else mid j) = some id } ρ (St.add (s1.get n) ⟨hp, n, m⟩) wld := by
              obtain ⟨hfr, hnone⟩ := h.rel.fresh (o := s1.get n) hn
              refine ⟨hfr.next, hfr.lt, hfr.blk, hfr.obj, hfr.inj, hfr.below, hfr.md, ?_, hfr.keep⟩
              rintro id (hid | ⟨j, hj, hid⟩)
              · exact hfr.res id (.inl hid)
              · rcases mnew hid with ⟨_, rfl⟩ | ⟨_, hid⟩
                · exact ⟨hnone, Nat.lt_succ_self _⟩
                · exact hfr.res id (.inr ⟨j, hj, hid⟩)
            have r2 : ∀ j ∈ pre, ∀ id, mid j = some id → (if j = i then some n else mid j) = some id := by
              intro j hj id hid
              have hne : j ≠ i := fun e => hipre (e ▸ hj)
              rw [if_neg hne]; exact hid
            have r3 : ∀ x y id, ¬ In D x → ¬ In D y → (if x = i then some n else mid x) = some id → (if y = i then some n else mid y) = some id → x = y := by
              intro x y id hx hy h3 h4
              rcases mnew h3 with ⟨e1, e2⟩ | ⟨n1, h3⟩ <;> rcases mnew h4 with ⟨e3, e4⟩ | ⟨n2, h4⟩
              · rw [e1, e3]
              · have := hres _ (.inr ⟨y, hy, h4⟩); omega
              · have := hres _ (.inr ⟨x, hx, h3⟩); omega
              · exact h.inj x y id hx hy h3 h4
            have r4 : ∀ x id, ¬ In D x → (if x = i then some n else mid x) = some id → ¬ w0.res id := by
              intro x id hx h3
              rcases mnew h3 with ⟨e1, e2⟩ | ⟨n1, h3⟩
              · intro hr; have := hres _ (.inl hr); omega
              · exact h.midn x id hx h3
            obtain ⟨effs', hJ⟩ := pass_core (mid' := fun j => if j = i then some n else mid j) (s' := St.add (s1.get n) ⟨hp, n, m⟩) (w' := .made i n (s1.get n) w) ht hext h hiN hco ho hd (A := v) (by rw [← hF]; exact hsub) r1 (fun _ _ => ⟨fun _ _ h => h, fun _ _ h => Or.inr h⟩) r2 r3 r4
              (fun hag => ⟨o, d, g, f, ho, hd, hg, hag, gs, .inr ⟨gok, c, v, hc, dset_dv _ _ _, .inr (.inr ⟨hk.symm, n, s1.get n, s1, if_pos rfl, h1, rfl, Or.inl ⟨rfl, rfl, rfl⟩⟩)⟩⟩)
            exact .inr ⟨_, _, _, _, _, _, _, hJ⟩
      · subst hk
        exact .inl (.inr ⟨d, g, c, i, _, l, by rw [hco], gok⟩)
  · rw [hsh] at hco
    exact .inl (.inr ⟨_, _, _, i, _, l, by rw [hco], rfl⟩)
theorem advance (ht : tempsOk ops.toList (masksC ops.toList) = true) (hext : ∀ i, ext i → N ≤ i) (hg0 : F0.good) : ∀ (l : List CO) {done effs : Nat} {pre : List Nat} {f : NC} {s : St} {w : OpL} {mid : Nat → Option Nat}, J P op w0 ti okTo E ih ops nt N ext f0 KK F0 ρ0 ds0 l done effs pre f s w mid ρ D a wld →
    ∃ l' done' effs' pre' f' s' w' mid', J P op w0 ti okTo E ih ops nt N ext f0 KK F0 ρ0 ds0 l' done' effs' pre' f' s' w' mid' ρ D a wld ∧ Stuck l' f' ∧ ∀ o ∈ l', o ∈ l
  | [], _, _, _, _, _, _, _, h => ⟨_, _, _, _, _, _, _, _, h, .inl rfl, fun _ h => h⟩
  | co :: l, _, _, _, _, _, _, _, h => by
    rcases advance1 ht hext hg0 h with hst | ⟨_, _, _, _, _, _, _, h'⟩
    · exact ⟨_, _, _, _, _, _, _, _, h, hst, fun _ h => h⟩
    · obtain ⟨l', _, _, _, _, _, _, _, hJ, hst, hm⟩ := advance ht hext hg0 l h'
      exact ⟨l', _, _, _, _, _, _, _, hJ, hst, fun o ho => List.mem_cons_of_mem _ (hm o ho)⟩
end
end
end Go.Ax
end
section
namespace Go.Ax
open Go Go.RowKit
noncomputable section
set_option linter.unusedSectionVars false
set_option linter.unusedVariables false
set_option linter.unusedSimpArgs false
variable {P : Program} {op : Nat → Value} {w0 : Base} {ti : TI}
theorem ord_mk {all : Nat} : ∀ (l : List CO) {done effs : Nat}, orderOk all l done effs = true → ∀ o ∈ l, isMk o = true := by
  intro l
  induction l with
  | nil => intro _ _ _ o ho; cases ho
  | cons o t ih =>
    intro done effs h o' ho
    obtain ⟨h1, _, _, _, h2⟩ := ord_cons h
    rcases List.mem_cons.1 ho with rfl | ho
    · exact h1
    · exact ih h2 o' ho
section
variable {okTo : Nat → Nat → Nat → Nat → Bool} {E : Env} {ih : IH} {ops : Array Oper} {nt N : Nat} {ext : Nat → Prop} {f0 : NC} {KK : NC → St → Res} {F0 : Res} {ρ0 : Rho} {ds0 : List Deferred}
variable {l : List CO} {done effs : Nat} {pre : List Nat} {f : NC} {s : St} {w : OpL} {mid : Nat → Option Nat} {ρ : Rho} {D : Array Bool} {a : Act} {wld : World}
theorem co_nums {i b : Nat} {o : Oper} (h : isMk (coC ti okTo nt ops.toList i b o) = true) : numOf (coC ti okTo nt ops.toList i b o) = i ∧ befOf (coC ti okTo nt ops.toList i b o) = b := by
  rcases co_shape h with ⟨d, g, c, k, e, _⟩ | e <;> rw [e] <;> exact ⟨rfl, rfl⟩
/-- Where one stops at a write, all that waits has been looked at again. -/
theorem stuck_inv (hg0 : F0.good) {d : Dst} {g : Grd} {c : COp} {i b : Nat} (h : J P op w0 ti okTo E ih ops nt N ext f0 KK F0 ρ0 ds0 (.mk d g c i b 3 :: l) done effs pre f s w mid ρ D a wld) (gok : g.ok f = true) :
    Chk E s w ∧ g.sure f = true ∧ Sub (runOp c E ih f s fun v s' => d.setK v f fun f' => runDrawn (olOf l) E ih f' s' (w.without b) KK) F0 := by
  have hgood := (h.run hg0).1
  have hsub := h.run
  obtain ⟨F, hF⟩ : ∃ F, F = runDrawn (olOf (.mk d g c i b 3 :: l)) E ih f s w KK := ⟨_, rfl⟩
  rw [← hF] at hgood hsub
  have hF : F = runDrawn (.cons (.mk d g c i b 3) (olOf l)) E ih f s w KK := hF
  rw [runDrawn_cons] at hF
  obtain ⟨gs, hF⟩ := guard_inv hgood hF
  rw [gok] at hF
  have hF : F = w.checkK E s (runOp c E ih f s fun v s' => d.setK v f fun f' => runDrawn (olOf l) E ih f' s' (w.without b) KK) := hF
  obtain ⟨e, hck⟩ := check_inv hgood w hF
  exact ⟨hck, gs, by rw [← e]; exact hsub⟩
theorem exec_eff (T : TiOk P ti) (K : OkTo P okTo) (hop1 : ∀ n, (op n).oneCell' = true) (EO : EnvOk P op ti okTo E) (IOk : IhOk P op ti ih) (ht : tempsOk ops.toList (masksC ops.toList) = true) (hext : ∀ i, ext i → N ≤ i) (hG : GRel ti ρ0) (hg0 : F0.good)
    {d : Dst} {g : Grd} {c : COp} {i b : Nat} (h : J P op w0 ti okTo E ih ops nt N ext f0 KK F0 ρ0 ds0 (.mk d g c i b 3 :: l) done effs pre f s w mid ρ D a wld) (gok : g.ok f = true) (hM : ∀ b, (Msk ops i).testBit b = true → In D b) {r : Option Nat} {K' : Act → World → Prop} {Q : Exit → Act → World → Prop}
    (hK : ∀ done' effs' pre' f' s' w' ρ' a' wld', J P op w0 ti okTo E ih ops nt N ext f0 KK F0 ρ0 ds0 l done' effs' pre' f' s' w' mid ρ' (D.setIfInBounds i true) a' wld' → K' a' wld') : wpOpIn (Fc r) 0 P ops Q i K' a wld := by
  obtain ⟨hck, gs, hsub⟩ := stuck_inv hg0 h gok
  obtain ⟨i', o, hiN, ho, hco⟩ := h.mem _ (List.mem_cons_self ..)
  have hord := ord_cons h.ord
  have hmk := hord.1
  rw [hco] at hmk
  obtain ⟨F, hF⟩ : ∃ F, F = runOp c E ih f s fun v s' => d.setK v f fun f' => runDrawn (olOf l) E ih f' s' (w.without b) KK := ⟨_, rfl⟩
  rw [← hF] at hsub
  have hgood := (hsub hg0).1
  rcases co_shape hmk with ⟨d', g', c', k, hsh, hd, hg, hcop⟩ | hsh
  · rw [hsh] at hco
    injection hco with e1 e2 e3 e4 e5 e6
    subst e1; subst e2; subst e3; subst e4; subst e5; subst e6
    have hc : copC ti okTo o.op = some c := by
      rcases hcop with ⟨h, _⟩ | ⟨h, _⟩
      · exact h
      · rw [h] at hF; rw [hF] at hgood; exact hgood.elim
    have hnew : done.testBit i = false := hord.2.1
    have hipre : i ∉ pre := fun hm => by have := (h.pdn i).2 hm; rw [hnew] at this; cases this
    have hinD : ¬ In D i := fun hD => by
      rcases h.sub i hD with h1 | h1
      · exact hipre h1
      · have := hext i h1; omega
    have hrv := reads_val h (agree_now ht h.pok h.unw ho hipre) hinD hM
    have hGρ := hG.mono h.rho
    have hw := grd_of hg hrv gs
    have hiD : i < D.size := in_lt h.dsz ho
    unfold wpOpIn
    simp only [ho]
    rw [← hw, gok, if_pos rfl]
    refine oper_ok T K hop1 EO IOk hc (opd_of hrv hGρ) hGρ h.rel hgood hF ?_
    intro av s' v wld' ρ' hs1 hsr hv hH'
    have hs1 : Sub (d.setK av f fun f' => runDrawn (olOf l) E ih f' s' (w.without (Msk ops i)) KK) F := hs1
    rw [dsetK_eq] at hs1
    have keep : ∀ t, t < 512 → o.dst ≠ some t → NC.get (fpath t) (dset d av f) = NC.get (fpath t) f := fun t h5 hne => dset_other hd h5 hne
    have back : ∀ {j}, ¬ In (D.setIfInBounds i true) j → ¬ In D j := fun hnj hD => hnj ((in_set hiD).2 (.inr hD))
    obtain ⟨s1, s0, s2, s3⟩ := slots_put (f := dset d av f) (f0 := f0) ht hsr hiD ho hd hv (dset_dv _ _ _) h.size
      (fun j p t hj hp2 h5 hD => by rw [keep t h5 (temps_ok ht ho hj hp2 (fun e => hinD (e ▸ hD))).1]; exact h.sl1 j p t hj hp2 h5 hD) h.sl0
    refine hK (Nat.lor done (2 ^ i)) _ (i :: pre) (dset d av f) s' (w.without (Msk ops i)) ρ' _ _ ⟨hs1.trans hsub, hord.2.2.2.2, fun x hx => h.mem x (List.mem_cons_of_mem _ hx), ⟨h.pok, fun b hb => (h.pdn b).1 (hord.2.2.1 b hb)⟩, ?_, ?_, ?_, by rw [Array.size_setIfInBounds]; exact h.dsz, clo_set hiD h.clo hM,
      hH'.res_le (fun _ hid => hid.imp id fun ⟨j, h1, h2⟩ => ⟨j, back h1, h2⟩), fun x y id hx hy => h.inj x y id (back hx) (back hy), fun x id hx => h.midn x id (back hx), ?_, s1, s0, ?_, s2, s3.trans h.dfr, h.rho.trans hsr⟩
    · intro b
      rw [lor_bit, pow_bit, Bool.or_eq_true, decide_eq_true_eq, h.pdn b, List.mem_cons]
      constructor
      · rintro (h1 | h1)
        · exact .inr h1
        · exact .inl h1.symm
      · rintro (h1 | h1)
        · exact .inr h1.symm
        · exact .inl h1
    · intro b hb
      rcases List.mem_cons.1 hb with rfl | hb
      · exact hiN
      · exact h.pN b hb
    · intro j hj
      rcases (in_set hiD).1 hj with rfl | hj
      · exact .inl (List.mem_cons_self ..)
      · exact (h.sub j hj).imp (List.mem_cons_of_mem _) id
    · intro j hj hn
      have hji : j ≠ i := fun e => hn ((in_set hiD).2 (.inl e))
      rcases List.mem_cons.1 hj with rfl | hj
      · exact absurd rfl hji
      · have hb : bitOf (Msk ops i) j = false := by
          rw [bitOf_eq]
          cases hb : (Msk ops i).testBit j with
          | false => rfl
          | true => exact absurd (hM j hb) (back hn)
        exact Pend.keep ht h.pok ho hd hipre hj ⟨fun _ _ h => without_r w h hb, fun _ _ h => without_m w h hb⟩ (fun _ h => h) rfl (h.pnd j hj (back hn))
    · intro t h5 hall
      have hne : o.dst ≠ some t := fun e => hall i o ho e (List.mem_cons_self ..)
      rw [keep t h5 hne]
      exact h.unw t h5 fun j p hj hp2 hm => hall j p hj hp2 (List.mem_cons_of_mem _ hm)
  · rw [hsh] at hco
    injection hco with e1 e2 e3 e4 e5 e6
    rw [e3] at hF
    rw [hF] at hgood; exact hgood.elim
/-- All orders, up to where the order that is run ends. -/
theorem main_ok (T : TiOk P ti) (K : OkTo P okTo) (hop1 : ∀ n, (op n).oneCell' = true) (EO : EnvOk P op ti okTo E) (IOk : IhOk P op ti ih) (ht : tempsOk ops.toList (masksC ops.toList) = true) (hG : GRel ti ρ0) (hg0 : F0.good) (hN : N ≤ ops.size)
    (htail : ∀ i, N ≤ i → i < ops.size → ∀ j o, j < N → ops[j]? = some o → isEff (coC ti okTo nt ops.toList j (Msk ops j) o) = true → (Msk ops i).testBit j = true) {r : Option Nat} {Q : Exit → Act → World → Prop}
    (hend : ∀ fuel done effs pre f s w mid ρ D a wld, J P op w0 ti okTo E ih ops nt N (fun _ => False) f0 KK F0 ρ0 ds0 [] done effs pre f s w mid ρ D a wld → cnt D ≤ fuel → wpAnyIn (Fc r) 0 P .any ops Q fuel D a wld) :
    ∀ (fuel : Nat) {l : List CO} {done effs : Nat} {pre : List Nat} {f : NC} {s : St} {w : OpL} {mid : Nat → Option Nat} {ρ : Rho} {D : Array Bool} {a : Act} {wld : World}, J P op w0 ti okTo E ih ops nt N (fun _ => False) f0 KK F0 ρ0 ds0 l done effs pre f s w mid ρ D a wld → Stuck l f → cnt D ≤ fuel →
      wpAnyIn (Fc r) 0 P .any ops Q fuel D a wld := by
  intro fuel
  induction fuel with
  | zero =>
    intro l done effs pre f s w mid ρ D a wld h hst hc
    rcases hst with rfl | ⟨d, g, c, i, b, t, rfl, gok⟩
    · exact hend _ _ _ _ _ _ _ _ _ _ _ _ h hc
    · obtain ⟨i', o, hiN, ho, hco⟩ := h.mem _ (List.mem_cons_self ..)
      have hord := ord_cons h.ord
      have hmk := hord.1
      rw [hco] at hmk
      have hi : i = i' := by have := (co_nums hmk).1; rw [← hco] at this; exact this
      have hD : In D i := cnt_zero (Nat.le_zero.1 hc) (in_lt h.dsz (hi ▸ ho))
      have : i ∈ pre := (h.sub i hD).resolve_right id
      have h2 := (h.pdn i).2 this
      have h3 : done.testBit i = false := hord.2.1
      rw [h3] at h2; cases h2
  | succ fuel IH =>
    intro l done effs pre f s w mid ρ D a wld h hst hc
    rcases hst with rfl | ⟨d, g, c, i, b, t, rfl, gok⟩
    · exact hend _ _ _ _ _ _ _ _ _ _ _ _ h hc
    · obtain ⟨i', o, hiN, ho, hco⟩ := h.mem _ (List.mem_cons_self ..)
      have hord := ord_cons h.ord
      have hmk := hord.1
      rw [hco] at hmk
      have hnums := co_nums hmk
      rw [← hco] at hnums
      have hi : i = i' := hnums.1
      have hb : b = Msk ops i := by rw [hi]; exact hnums.2
      subst hi
      have hnew : done.testBit i = false := hord.2.1
      have hinD : ¬ In D i := fun hD => by
        have h2 := (h.pdn i).2 ((h.sub i hD).resolve_right id)
        rw [hnew] at h2; cases h2
      have hck := (stuck_inv hg0 h gok).1
      refine ⟨fun hr => ?_, fun j hj => ?_⟩
      · exfalso
        by_cases hex : ∃ j ∈ pre, ¬ In D j
        · obtain ⟨k, hk, hk1, hk2⟩ := h.pok.first hex
          have : k ∈ Region.ready .any ops D := (ready_iff h.dsz h.clo k).2 ⟨Nat.lt_of_lt_of_le (h.pN k hk) hN, hk1, hk2⟩
          rw [hr] at this; cases this
        · have hall : ∀ j ∈ pre, In D j := fun j hj => Classical.byContradiction fun hn => hex ⟨j, hj, hn⟩
          have : i ∈ Region.ready .any ops D := (ready_iff h.dsz h.clo i).2 ⟨by omega, hinD, fun b' hb' => hall b' ((h.pdn b').1 (hord.2.2.1 b' (by show b.testBit b' = true; rw [hb]; exact hb')))⟩
          rw [hr] at this; cases this
      · obtain ⟨hlt, hn, hM⟩ := (ready_iff h.dsz h.clo j).1 hj
        by_cases hjp : j ∈ pre
        · refine exec_pend T K hop1 ht hG h (fun _ _ _ => ⟨fun _ _ hh => chk_r w hck hh, fun _ _ hh => chk_m w hck hh⟩) hjp hn hM fun a' wld' ρ' h' => IH h' (.inr ⟨d, g, c, i, b, t, rfl, gok⟩) ?_
          have := cnt_set (D := D) (i := j) (by rw [h.dsz]; exact hlt) hn
          omega
        · have hji : j = i := by
            by_cases hjN : N ≤ j
            · exact absurd (hM i (htail j hjN hlt i o hiN ho (by rw [← hco]; rfl))) hinD
            · have hdj : done.testBit j = false := by
                cases hd : done.testBit j with
                | false => rfl
                | true => exact absurd ((h.pdn j).1 hd) hjp
              obtain ⟨o', ho', hno⟩ := ord_all _ h.ord j (by rw [Nat.testBit_two_pow_sub_one]; simp; omega) hdj
              rcases List.mem_cons.1 ho' with rfl | ho'
              · exact hno.symm
              · exfalso
                have h5 := ord_effs _ hord.2.2.2.2 o' ho' i (by
                  have : isEff (.mk d g c i b 3) = true := rfl
                  rw [if_pos this, lor_bit, pow_bit]; simp [numOf])
                obtain ⟨i2, p2, _, hp2, hco2⟩ := h.mem _ (List.mem_cons_of_mem _ ho')
                have hmk2 := ord_mk _ h.ord o' (List.mem_cons_of_mem _ ho')
                rw [hco2] at hmk2
                have hn2 := co_nums hmk2
                rw [← hco2] at hn2
                have : i2 = j := hn2.1.symm.trans hno
                rw [hn2.2, this] at h5
                exact hinD (hM i h5)
          subst hji
          refine exec_eff T K hop1 EO IOk ht (fun _ h => h.elim) hG hg0 h gok hM fun done' effs' pre' f' s' w' ρ' a' wld' h' => ?_
          obtain ⟨l', _, _, _, _, _, _, _, hJ, hst', _⟩ := advance ht (fun _ h => h.elim) hg0 _ h'
          refine IH hJ hst' ?_
          have := cnt_set (D := D) (i := j) (by rw [h.dsz]; exact hlt) hn
          omega
/-- All done: the frame is as the order says that is run. -/
theorem slots_done (h : J P op w0 ti okTo E ih ops nt N ext f0 KK F0 ρ0 ds0 l done effs pre f s w mid ρ D a wld) (hall : ∀ i, i < ops.size → In D i) (hpre : ∀ i o t, ops[i]? = some o → o.dst = some t → i ∈ pre) : SRel op ρ f a.tmps := by
  intro t h5
  by_cases hex : ∃ (j : Nat) (p : Oper), ops[j]? = some p ∧ p.dst = some t
  · obtain ⟨j, p, hj, hp⟩ := hex
    exact h.sl1 j p t hj hp h5 (hall j (by have := in_lt h.dsz hj; rw [← h.dsz]; exact this))
  · rw [h.unw t h5 fun j p hj hp _ => hex ⟨j, p, hj, hp⟩]
    exact h.sl0 t h5 fun j p hj hp _ => hex ⟨j, p, hj, hp⟩
theorem all_passed (h : J P op w0 ti okTo E ih ops nt N ext f0 KK F0 ρ0 ds0 [] done effs pre f s w mid ρ D a wld) {i : Nat} (hi : i < N) : i ∈ pre := by
  have h1 : done = 2 ^ N - 1 := Nat.eq_of_beq_eq_true h.ord
  refine (h.pdn i).1 ?_
  rw [h1, Nat.testBit_two_pow_sub_one]; simpa using hi
theorem end_inv (hg0 : F0.good) (h : J P op w0 ti okTo E ih ops nt N ext f0 KK F0 ρ0 ds0 [] done effs pre f s w mid ρ D a wld) : Chk E s w ∧ Sub (KK f s) F0 := by
  have hgood := (h.run hg0).1
  have hsub := h.run
  obtain ⟨F, hF⟩ : ∃ F, F = runDrawn (olOf []) E ih f s w KK := ⟨_, rfl⟩
  rw [← hF] at hgood hsub
  obtain ⟨e, hck⟩ := check_inv hgood w (show F = w.checkK E s (KK f s) from hF)
  exact ⟨hck, by rw [← e]; exact hsub⟩
/-- The end, where nothing is left but what waits. -/
theorem end_drawn (T : TiOk P ti) (K : OkTo P okTo) (hop1 : ∀ n, (op n).oneCell' = true) (ht : tempsOk ops.toList (masksC ops.toList) = true) (hG : GRel ti ρ0) (hg0 : F0.good) {fd : DL} {rd : Bool} {r : Option Nat} (hD0 : DRel P op ρ0 fd ds0) (h512 : nt ≤ 512)
    (hKK : KK = fun f' s' => .ok .normal ⟨f', fd, rd, nt⟩ s' .nil) (hN : N = ops.size) :
    ∀ fuel done effs pre f s w mid ρ D a wld, J P op w0 ti okTo E ih ops nt N (fun _ => False) f0 KK F0 ρ0 ds0 [] done effs pre f s w mid ρ D a wld → cnt D ≤ fuel → wpAnyIn (Fc r) 0 P .any ops (Post P op w0 ρ0 rd nt F0) fuel D a wld := by
  have fin : ∀ {done effs pre f s w mid ρ D a wld}, J P op w0 ti okTo E ih ops nt N (fun _ => False) f0 KK F0 ρ0 ds0 [] done effs pre f s w mid ρ D a wld → (∀ i, i < ops.size → In D i) → Post P op w0 ρ0 rd nt F0 .normal a wld := by
    intro done effs pre f s w mid ρ D a wld h hall
    have hsub := (end_inv hg0 h).2
    rw [hKK] at hsub
    refine Post.wk hsub.wk hg0 (Post.one h.rho (h.rel.res_le (r' := w0.res) fun _ h => .inl h) ⟨slots_done h hall fun i o t ho _ => all_passed h (by rw [hN]; have := in_lt h.dsz ho; rw [← h.dsz]; exact this), ?_, rfl, rfl, h.size, h512⟩ rfl)
    show DRel P op ρ fd a.defers
    rw [h.dfr]; exact hD0.mono h.rho
  intro fuel
  induction fuel with
  | zero =>
    intro done effs pre f s w mid ρ D a wld h hc
    have hall : ∀ i, i < ops.size → In D i := fun i hi => cnt_zero (Nat.le_zero.1 hc) (by rw [h.dsz]; exact hi)
    refine ⟨?_, fin h hall⟩
    cases hr : Region.ready .any ops D with
    | nil => rfl
    | cons x xs =>
      have : x ∈ Region.ready .any ops D := by rw [hr]; exact List.mem_cons_self ..
      obtain ⟨h1, h2, _⟩ := (ready_iff h.dsz h.clo x).1 this
      exact absurd (hall x h1) h2
  | succ fuel IH =>
    intro done effs pre f s w mid ρ D a wld h hc
    have hck := (end_inv hg0 h).1
    refine ⟨fun hr => ?_, fun j hj => ?_⟩
    · refine fin h fun i hi => Classical.byContradiction fun hn => ?_
      obtain ⟨k, hk, hk1, hk2⟩ := h.pok.first ⟨i, all_passed h (by omega), hn⟩
      have : k ∈ Region.ready .any ops D := (ready_iff h.dsz h.clo k).2 ⟨by have := h.pN k hk; omega, hk1, hk2⟩
      rw [hr] at this; cases this
    · obtain ⟨hlt, hn, hM⟩ := (ready_iff h.dsz h.clo j).1 hj
      refine exec_pend T K hop1 ht hG h (fun _ _ _ => ⟨fun _ _ hh => chk_r w hck hh, fun _ _ hh => chk_m w hck hh⟩) (all_passed h (by omega)) hn hM fun a' wld' ρ' h' => IH _ _ _ _ _ _ _ _ _ _ _ h' ?_
      have := cnt_set (D := D) (i := j) (by rw [h.dsz]; exact hlt) hn
      omega
end
end
end Go.Ax
end
section
namespace Go.Ax
open Go Go.RowKit
noncomputable section
set_option linter.unusedSectionVars false
set_option linter.unusedVariables false
set_option linter.unusedSimpArgs false
variable {P : Program} {op : Nat → Value} {w0 : Base} {ti : TI}
/- ### A write, whatever the state -/
theorem overK_dec : ∀ (c y : AV), (∃ d, ∀ k, c.overK y k = k d) ∨ ∀ k, c.overK y k = .fail := by
  intro c
  induction c with
  | lnil =>
    intro y
    cases y with
    | lnil => exact .inl ⟨.lnil, fun _ => rfl⟩
    | _ => exact .inr fun _ => rfl
  | lcons h t _ ih =>
    intro y
    cases y with
    | lnil => exact .inl ⟨.lcons h t, fun _ => rfl⟩
    | lcons b u =>
      rcases ih u with ⟨d, hd⟩ | hd
      · exact .inl ⟨.lcons b d, fun k => hd fun l => k (.lcons b l)⟩
      · exact .inr fun k => hd fun l => k (.lcons b l)
    | _ => exact .inr fun _ => rfl
  | _ => intro y; exact .inr fun _ => rfl
theorem layK_dec : ∀ (c : AV) (o : Nat) (y : AV), (∃ d, ∀ k, c.layK o y k = k d) ∨ ∀ k, c.layK o y k = .fail := by
  intro c
  induction c with
  | lnil =>
    intro o y
    cases o with
    | zero => exact overK_dec .lnil y
    | succ o => exact .inr fun _ => rfl
  | lcons h t _ ih =>
    intro o y
    cases o with
    | zero => exact overK_dec (.lcons h t) y
    | succ o =>
      rcases ih o y with ⟨d, hd⟩ | hd
      · exact .inl ⟨.lcons h d, fun k => hd fun l => k (.lcons h l)⟩
      · exact .inr fun k => hd fun l => k (.lcons h l)
  | _ => intro o y; exact .inr fun _ => rfl
theorem cellsK_dec (v : AV) : (∃ c, ∀ k, v.cellsK k = k c) ∨ ∀ k, v.cellsK k = .fail := by
  cases v <;> first | exact .inr fun _ => rfl | exact .inl ⟨_, fun _ => rfl⟩
theorem st_inv {m : Nat} {x v : Src} {f : NC} {s : St} {F : Res} (hg : F.good) {k : AV → St → Res} (hF : F = oSt m x v f s k) :
    ∃ id off o, x.ev f = .ptr id off ∧ F = k .top (s.set id o) ∧ ∀ s' k', s'.get id = s.get id → oSt m x v f s' k' = k' .top (s'.set id o) := by
  unfold oSt at hF ⊢
  obtain ⟨id, off, e, hF⟩ := asPtr_inv hg hF
  rw [e]
  rcases cellsK_dec (v.ev f) with ⟨c, hc⟩ | hc
  · rw [hc] at hF
    obtain ⟨g1, hF⟩ := guard_inv hg hF
    have hF0 := hF
    obtain ⟨te, cs, n, z, r, b, ho, hF⟩ := asRow_inv hg hF
    cases r with
    | true => rw [hF] at hg; exact hg.elim
    | false =>
      obtain ⟨g2, hF⟩ := guard_inv hg hF
      obtain ⟨g3, hF⟩ := guard_inv hg hF
      rcases layK_dec cs off c with ⟨d, hd⟩ | hd
      · rw [hd, St.setK_eq] at hF
        refine ⟨id, off, .row te d n z false b, rfl, hF, fun s' k' hs => ?_⟩
        show (v.ev f).cellsK _ = _
        rw [hc, guardK_ok g1]
        unfold St.layK
        rw [hs, ho]
        show guardK (Nat.ble z off) (guardK (Nat.ble (Nat.add off c.len) n) (cs.layK off c fun c' => s'.setK id (.row te c' n z false b) fun s' => k' .top s')) = _
        rw [guardK_ok g2, guardK_ok g3, hd, St.setK_eq]
      · rw [hd] at hF; rw [hF] at hg; exact hg.elim
  · rw [hc] at hF; rw [hF] at hg; exact hg.elim
theorem ready_none {ops : Array Oper} {D : Array Bool} (hsz : D.size = ops.size) (hall : ∀ i, i < ops.size → In D i) : Region.ready .any ops D = [] := by
  unfold Region.ready
  refine List.filter_eq_nil_iff.2 fun i hi => ?_
  have hlt := List.mem_range.1 hi
  have h1 := hall i hlt
  unfold In at h1
  rw [Array.getD_eq_getD_getElem?, Array.getElem?_eq_getElem (by omega)] at h1
  simp only [Option.getD_some] at h1
  rw [Array.getD_eq_getD_getElem?, Array.getElem?_eq_getElem (by omega)]
  simp [h1]
theorem all_done {F : Fence} {n : Nat} {ops : Array Oper} {Q : Exit → Act → World → Prop} {D : Array Bool} {a : Act} {w : World} (hsz : D.size = ops.size) (hall : ∀ i, i < ops.size → In D i) (hq : Q .normal a w) : ∀ fuel, wpAnyIn F n P .any ops Q fuel D a w
  | 0 => ⟨ready_none hsz hall, hq⟩
  | _ + 1 => ⟨fun _ => hq, fun i hi => by rw [ready_none hsz hall] at hi; cases hi⟩
section
variable {okTo : Nat → Nat → Nat → Nat → Bool} {E : Env} {ih : IH} {ops : Array Oper} {nt N : Nat} {ext : Nat → Prop} {f0 : NC} {KK : NC → St → Res} {F0 : Res} {ρ0 : Rho} {ds0 : List Deferred}
variable {l : List CO} {done effs : Nat} {pre : List Nat} {f : NC} {s : St} {w : OpL} {mid : Nat → Option Nat} {ρ : Rho} {D : Array Bool} {a : Act} {wld : World}
/-- A write that stands behind the others: how it has been made ready. -/
structure TailSt (ti : TI) (okTo : Nat → Nat → Nat → Nat → Bool) (ops : Array Oper) (i : Nat) (m : Nat) (x v : Src) (o : Oper) : Prop where
  at_ : ops[i]? = some o
  dst : o.dst = none
  guard : o.guard = none
  cop : copC ti okTo o.op = some (.st m x v)
/-- What it sees is in the slots. -/
theorem tail_reads (ht : tempsOk ops.toList (masksC ops.toList) = true) (h : J P op w0 ti okTo E ih ops nt N ext f0 KK F0 ρ0 ds0 l done effs pre f s w mid ρ D a wld) (hwr : ∀ j p t, ops[j]? = some p → p.dst = some t → j ∈ pre) {i : Nat} {o : Oper} (ho : ops[i]? = some o) (hd : o.dst = none) (hi : N ≤ i) (hM : ∀ b, (Msk ops i).testBit b = true → In D b) :
    ∀ t, t < 512 → t ∈ readsC ops.toList o → VRel op ρ (NC.get (fpath t) f) (a.tmps.getD t undef) := by
  intro t h5 hr
  by_cases hex : ∃ (j : Nat) (p : Oper), ops[j]? = some p ∧ p.dst = some t
  · obtain ⟨j, p, hj, hp⟩ := hex
    have hne : j ≠ i := fun e => by subst e; rw [ho] at hj; cases hj; rw [hd] at hp; cases hp
    rcases (temps_ok ht ho hj hp hne).2 hr with hb | hb
    · exact h.sl1 j p t hj hp h5 (hM j hb)
    · have := h.pN i (h.pok.closed j (hwr j p t hj hp) i hb); omega
  · rw [h.unw t h5 fun j p hj hp _ => hex ⟨j, p, hj, hp⟩]
    exact h.sl0 t h5 fun j p hj hp _ => hex ⟨j, p, hj, hp⟩
theorem exec_tail (T : TiOk P ti) (K : OkTo P okTo) (hop1 : ∀ n, (op n).oneCell' = true) (EO : EnvOk P op ti okTo E) (IOk : IhOk P op ti ih) {i m : Nat} {x v : Src} {o : Oper} (ht : TailSt ti okTo ops i m x v o) (hG : GRel ti ρ)
    (hrv : ∀ t, t < 512 → t ∈ readsC ops.toList o → VRel op ρ (NC.get (fpath t) f) (a.tmps.getD t undef)) {S : St} {w1 : Base} (hH : HRel op w1 ρ S wld) {id : Nat} {ob : Obj} (hst : ∀ k', oSt m x v f S k' = k' .top (S.set id ob)) {r : Option Nat} {K' : Act → World → Prop} {Q : Exit → Act → World → Prop}
    (hK : ∀ wld' ρ', ρ.sub ρ' → HRel op w1 ρ' (S.set id ob) wld' → K' a wld') : wpOpIn (Fc r) 0 P ops Q i K' a wld := by
  unfold wpOpIn
  simp only [ht.at_]
  have hw : Region.wanted o (yielded ops a.tmps) = true := by unfold Region.wanted; rw [ht.guard]
  rw [if_pos hw]
  refine oper_ok (E := E) (ih := ih) (k := valOf) T K hop1 EO IOk ht.cop (opd_of hrv hG) hG hH (F := oSt m x v f S valOf) (by rw [hst]; trivial) rfl ?_
  intro av s' u wld' ρ' hsub hsr _ hH'
  rw [hst] at hsub
  have hh := (hsub trivial).2 .ret _ s' (.inl ⟨rfl, rfl, rfl⟩)
  rcases hh with ⟨_, _, e⟩ | hh
  · rw [ht.dst]
    exact hK wld' ρ' hsr (e ▸ hH')
  · exact hh.elim
theorem set_get {s : St} {i j : Nat} {o : Obj} (hi : i < 262144) (hj : j < 262144) : (s.set i o).get j = if j = i then o else s.get j := by
  by_cases e : j = i
  · subst e; rw [if_pos rfl]; exact St.get_same
  · rw [if_neg e]; exact St.get_other hi hj e
/-- The end, where two writes are left. -/
theorem end_pair (T : TiOk P ti) (K : OkTo P okTo) (hop1 : ∀ n, (op n).oneCell' = true) (EO : EnvOk P op ti okTo E) (IOk : IhOk P op ti ih) (ht : tempsOk ops.toList (masksC ops.toList) = true) (hG : GRel ti ρ0) (hg0 : F0.good) {fd : DL} {rd : Bool} {r : Option Nat} (hD0 : DRel P op ρ0 fd ds0) (h512 : nt ≤ 512)
    {m m' : Nat} {x v x' v' : Src} {oA oB : Oper} (hA : TailSt ti okTo ops N m x v oA) (hB : TailSt ti okTo ops (N + 1) m' x' v' oB)
    (hKK : KK = fun f' s' => runPair m x v m' x' v' f' s' fun s2 => .ok .normal ⟨f', fd, rd, nt⟩ s2 .nil) (hN : N + 2 = ops.size)
    (hMA : ∀ b, (Msk ops N).testBit b = true ↔ b < N) (hMB : ∀ b, (Msk ops (N + 1)).testBit b = true → b ≤ N)
    (himp : ∀ j o c, j < N → ops[j]? = some o → copC ti okTo o.op = some c → (Msk ops (N + 1)).testBit j = false → kindC c = 0) :
    ∀ fuel done effs pre f s w mid ρ D a wld, J P op w0 ti okTo E ih ops nt N (fun _ => False) f0 KK F0 ρ0 ds0 [] done effs pre f s w mid ρ D a wld → cnt D ≤ fuel → wpAnyIn (Fc r) 0 P .any ops (Post P op w0 ρ0 rd nt F0) fuel D a wld := by
  -- who writes a slot is passed
  have wr : ∀ {KK F0 ext done effs pre f s w mid ρ D a wld}, J P op w0 ti okTo E ih ops nt N ext f0 KK F0 ρ0 ds0 [] done effs pre f s w mid ρ D a wld → ∀ (j : Nat) (p : Oper) (t : Tmp), ops[j]? = some p → p.dst = some t → j ∈ pre := by
    intro KK F0 ext done effs pre f s w mid ρ D a wld h j p t hj hp
    refine all_passed h ?_
    have hlt := in_lt h.dsz hj
    rw [h.dsz, ← hN] at hlt
    by_cases e1 : j = N
    · subst e1; rw [hA.at_] at hj; cases hj; rw [hA.dst] at hp; cases hp
    · by_cases e2 : j = N + 1
      · subst e2; rw [hB.at_] at hj; cases hj; rw [hB.dst] at hp; cases hp
      · omega
  -- what the end says of a state in which no more is run
  have endS : ∀ {done effs pre f s w mid ρ D a wld}, J P op w0 ti okTo E ih ops nt N (fun _ => False) f0 KK F0 ρ0 ds0 [] done effs pre f s w mid ρ D a wld →
      ∃ ia ib oa ob, ia ≠ ib ∧ (∀ s' k', s'.get ia = s.get ia → oSt m x v f s' k' = k' .top (s'.set ia oa)) ∧ (∀ s' k', s'.get ib = (s.set ia oa).get ib → oSt m' x' v' f s' k' = k' .top (s'.set ib ob)) ∧
        Sub (.ok .normal ⟨f, fd, rd, nt⟩ ((s.set ia oa).set ib ob) .nil) F0 ∧ ia < 262144 ∧ ib < 262144 := by
    intro done effs pre f s w mid ρ D a wld h
    obtain ⟨_, hsub⟩ := end_inv hg0 h
    have hgood := (hsub hg0).1
    obtain ⟨F, hF⟩ : ∃ F, F = KK f s := ⟨_, rfl⟩
    rw [← hF] at hgood hsub
    rw [hKK] at hF
    have hF : F = (x.ev f).asPtr fun i _ => (x'.ev f).asPtr fun j _ => guardK (Nat.ble (Nat.succ i) 262144) (guardK (Nat.ble (Nat.succ j) 262144) (Bool.rec (motive := fun _ => Res) (oSt m x v f s fun _ s1 => oSt m' x' v' f s1 fun _ s2 => .ok .normal ⟨f, fd, rd, nt⟩ s2 .nil) .fail (Nat.beq i j))) := hF
    obtain ⟨i, o1, e1, hF⟩ := asPtr_inv hgood hF
    obtain ⟨j, o2, e2, hF⟩ := asPtr_inv hgood hF
    obtain ⟨gi, hF⟩ := guard_inv hgood hF
    obtain ⟨gj, hF⟩ := guard_inv hgood hF
    cases hb : Nat.beq i j with
    | true => rw [hb] at hF; rw [hF] at hgood; exact hgood.elim
    | false =>
      rw [hb] at hF
      have hF : F = oSt m x v f s fun _ s1 => oSt m' x' v' f s1 fun _ s2 => .ok .normal ⟨f, fd, rd, nt⟩ s2 .nil := hF
      obtain ⟨ia, offa, oa, ea, hF, h1⟩ := st_inv hgood hF
      obtain ⟨ib, offb, ob, eb, hF, h2⟩ := st_inv hgood hF
      rw [e1] at ea; cases ea
      rw [e2] at eb; cases eb
      refine ⟨i, j, oa, ob, fun e => ?_, h1, h2, by rw [hF] at hsub; exact hsub, Nat.le_of_ble_eq_true gi, Nat.le_of_ble_eq_true gj⟩
      rw [e, Nat.beq_refl] at hb; cases hb
  have fin : ∀ {f : NC} {S s2 : St} {ρ a wld}, Sub (.ok .normal ⟨f, fd, rd, nt⟩ s2 .nil) F0 → ρ0.sub ρ → HRel op w0 ρ S wld → SRel op ρ f a.tmps → nt ≤ a.tmps.size → a.defers = ds0 → (HRel op w0 ρ S wld → HRel op w0 ρ s2 wld) → Post P op w0 ρ0 rd nt F0 .normal a wld := by
    intro f S s2 ρ a wld hsub hrho hH hS hsz hdf himp
    refine Post.wk hsub.wk hg0 (Post.one hrho (himp hH) ⟨hS, ?_, rfl, rfl, hsz, h512⟩ rfl)
    show DRel P op ρ fd a.defers
    rw [hdf]; exact hD0.mono hrho
  have slots : ∀ {KK F0 ext done effs pre f s w mid ρ D a wld}, J P op w0 ti okTo E ih ops nt N ext f0 KK F0 ρ0 ds0 [] done effs pre f s w mid ρ D a wld → (∀ i, i < N → In D i) → SRel op ρ f a.tmps := by
    intro KK F0 ext done effs pre f s w mid ρ D a wld h hall t h5
    by_cases hex : ∃ (j : Nat) (p : Oper), ops[j]? = some p ∧ p.dst = some t
    · obtain ⟨j, p, hj, hp⟩ := hex
      exact h.sl1 j p t hj hp h5 (hall j (h.pN j (wr h j p t hj hp)))
    · rw [h.unw t h5 fun j p hj hp _ => hex ⟨j, p, hj, hp⟩]
      exact h.sl0 t h5 fun j p hj hp _ => hex ⟨j, p, hj, hp⟩
  -- the second write has been made first
  have second : ∀ (ia ib : Nat) (oa ob : Obj) (f : NC) (s : St) (w1 : OpL), ia ≠ ib → (∀ s' k', s'.get ia = s.get ia → oSt m x v f s' k' = k' .top (s'.set ia oa)) → Sub (.ok .normal ⟨f, fd, rd, nt⟩ ((s.set ia oa).set ib ob) .nil) F0 → ia < 262144 → ib < 262144 → MdOk w0.mb s →
      ∀ fuel done effs pre mid ρ D a wld, J P op w0 ti okTo E ih ops nt N (fun i => i = N + 1) f0 (fun _ _ => .nil) .nil ρ0 ds0 [] done effs pre f (s.set ib ob) .nil mid ρ D a wld → In D (N + 1) → ¬ In D N → cnt D ≤ fuel → wpAnyIn (Fc r) 0 P .any ops (Post P op w0 ρ0 rd nt F0) fuel D a wld := by
    intro ia ib oa ob f s w1 hne hsa hsubF hia hib hmd fuel
    induction fuel with
    | zero =>
      intro done effs pre mid ρ D a wld h hB1 hnA hc
      exact absurd (cnt_zero (Nat.le_zero.1 hc) (by rw [h.dsz]; omega)) hnA
    | succ fuel IH =>
      intro done effs pre mid ρ D a wld h hB1 hnA hc
      refine ⟨fun hr => ?_, fun j hj => ?_⟩
      · exfalso
        by_cases hex : ∃ j ∈ pre, ¬ In D j
        · obtain ⟨k, hk, hk1, hk2⟩ := h.pok.first hex
          have : k ∈ Region.ready .any ops D := (ready_iff h.dsz h.clo k).2 ⟨by have := h.pN k hk; omega, hk1, hk2⟩
          rw [hr] at this; cases this
        · have : N ∈ Region.ready .any ops D := (ready_iff h.dsz h.clo N).2 ⟨by omega, hnA, fun b hb => Classical.byContradiction fun hn => hex ⟨b, all_passed h ((hMA b).1 hb), hn⟩⟩
          rw [hr] at this; cases this
      · obtain ⟨hlt, hn, hM⟩ := (ready_iff h.dsz h.clo j).1 hj
        have hcs := cnt_set (D := D) (i := j) (by rw [h.dsz]; exact hlt) hn
        by_cases hjN : j < N
        · have hjD : j < D.size := by rw [h.dsz]; exact hlt
          refine exec_pend T K hop1 ht hG h (fun _ _ _ => ⟨fun _ _ hh => hh.elim, fun _ _ hh => hh.elim⟩) (all_passed h hjN) hn hM fun a' wld' ρ' h' => IH _ _ _ _ _ _ _ _ h' ((in_set hjD).2 (.inr hB1)) ?_ (by omega)
          intro hc2
          rcases (in_set hjD).1 hc2 with e | e
          · omega
          · exact hnA e
        · have hjeq : j = N := by
            by_cases e : j = N + 1
            · subst e; exact absurd hB1 hn
            · omega
          subst hjeq
          have hall : ∀ i, i < j → In D i := fun i hi => hM i ((hMA i).2 hi)
          refine exec_tail (S := s.set ib ob) (id := ia) (ob := oa) T K hop1 EO IOk hA (hG.mono h.rho) (tail_reads ht h (wr h) hA.at_ hA.dst (Nat.le_refl _) hM) (h.rel.res_le (r' := w0.res) fun _ hh => .inl hh) (fun k' => hsa _ _ (by rw [set_get hib hia, if_neg hne])) ?_
          intro wld' ρ' hsr hH'
          have hjD : j < D.size := by rw [h.dsz]; exact hlt
          have hH' : HRel op w0 ρ' ((s.set ib ob).set ia oa) wld' := hH'
          refine all_done (by rw [Array.size_setIfInBounds]; exact h.dsz) (fun i hi => ?_) (fin hsubF (h.rho.trans hsr) hH' ((slots h hall).mono hsr) h.size h.dfr ?_) _
          · rw [in_set hjD]
            by_cases e : i = j
            · exact .inl e
            · by_cases e2 : i = j + 1
              · subst e2; exact .inr hB1
              · exact .inr (hall i (by omega))
          · intro hH
            refine hH.less (Nat.le_refl _) hH.next (fun i hi => .inr ?_) ((hmd.set hia).set hib)
            rw [set_get hib hi, set_get hia hi, set_get hia hi, set_get hib hi]
            by_cases e1 : i = ib
            · by_cases e2 : i = ia
              · exact absurd (e2.symm.trans e1) hne
              · rw [if_pos e1, if_neg e2, if_pos e1]
            · by_cases e2 : i = ia
              · rw [if_neg e1, if_pos e2, if_pos e2]
              · rw [if_neg e1, if_neg e2, if_neg e2, if_neg e1]
  intro fuel
  induction fuel with
  | zero =>
    intro done effs pre f s w mid ρ D a wld h hc
    have := cnt_zero (Nat.le_zero.1 hc) (i := N) (by rw [h.dsz]; omega)
    have := h.pN N ((h.sub N this).resolve_right id)
    omega
  | succ fuel IH =>
    intro done effs pre f s w mid ρ D a wld h hc
    have hck := (end_inv hg0 h).1
    have hnA : ¬ In D N := fun hh => by have := h.pN N ((h.sub N hh).resolve_right id); omega
    have hnB : ¬ In D (N + 1) := fun hh => by have := h.pN _ ((h.sub _ hh).resolve_right id); omega
    obtain ⟨ia, ib, oa, ob, hne, hsa, hsb, hsubF, hida, hidb⟩ := endS h
    refine ⟨fun hr => ?_, fun j hj => ?_⟩
    · exfalso
      by_cases hex : ∃ j ∈ pre, ¬ In D j
      · obtain ⟨k, hk, hk1, hk2⟩ := h.pok.first hex
        have : k ∈ Region.ready .any ops D := (ready_iff h.dsz h.clo k).2 ⟨by have := h.pN k hk; omega, hk1, hk2⟩
        rw [hr] at this; cases this
      · have : N ∈ Region.ready .any ops D := (ready_iff h.dsz h.clo N).2 ⟨by omega, hnA, fun b hb => Classical.byContradiction fun hn => hex ⟨b, all_passed h ((hMA b).1 hb), hn⟩⟩
        rw [hr] at this; cases this
    · obtain ⟨hlt, hn, hM⟩ := (ready_iff h.dsz h.clo j).1 hj
      have hcs := cnt_set (D := D) (i := j) (by rw [h.dsz]; exact hlt) hn
      have hjD : j < D.size := by rw [h.dsz]; exact hlt
      by_cases hjN : j < N
      · exact exec_pend T K hop1 ht hG h (fun _ _ _ => ⟨fun _ _ hh => chk_r w hck hh, fun _ _ hh => chk_m w hck hh⟩) (all_passed h hjN) hn hM fun a' wld' ρ' h' => IH _ _ _ _ _ _ _ _ _ _ _ h' (by omega)
      · by_cases hjA : j = N
        · subst hjA
          have hall : ∀ i, i < j → In D i := fun i hi => hM i ((hMA i).2 hi)
          have hGρ := hG.mono h.rho
          have hrvA := tail_reads ht h (wr h) hA.at_ hA.dst (Nat.le_refl _) hM
          refine exec_tail (S := s) (id := ia) (ob := oa) T K hop1 EO IOk hA hGρ hrvA (h.rel.res_le (r' := w0.res) fun _ hh => .inl hh) (fun k' => hsa _ _ rfl) ?_
          intro wld' ρ' hsr hH'
          have hH' : HRel op w0 ρ' (s.set ia oa) wld' := hH'
          have hS := (slots h hall).mono hsr
          -- the second write is left
          have hD1 : ∀ b, b ≤ j → In (D.setIfInBounds j true) b := fun b hb => by
            rw [in_set hjD]
            by_cases e : b = j
            · exact .inl e
            · exact .inr (hall b (by omega))
          have hclo : Clo ops (D.setIfInBounds j true) := clo_set hjD h.clo hM
          have hsz1 : (D.setIfInBounds j true).size = ops.size := by rw [Array.size_setIfInBounds]; exact h.dsz
          have hnB1 : ¬ In (D.setIfInBounds j true) (j + 1) := fun hh => by
            rcases (in_set hjD).1 hh with e | e
            · omega
            · exact hnB e
          have hrdB : j + 1 ∈ Region.ready .any ops (D.setIfInBounds j true) := (ready_iff hsz1 hclo _).2 ⟨by omega, hnB1, fun b hb => hD1 b (hMB b hb)⟩
          have hlow : cnt (D.setIfInBounds j true) ≤ fuel := by omega
          cases fuel with
          | zero => exact absurd (cnt_zero (Nat.le_zero.1 hlow) (i := j + 1) (by rw [hsz1]; omega)) hnB1
          | succ fuel =>
            refine ⟨fun hr => (by rw [hr] at hrdB; cases hrdB), fun i hi => ?_⟩
            obtain ⟨hlt2, hn2, hM2⟩ := (ready_iff hsz1 hclo i).1 hi
            have hieq : i = j + 1 := by
              by_cases e : i ≤ j
              · exact absurd (hD1 i e) hn2
              · omega
            subst hieq
            have hiD : j + 1 < (D.setIfInBounds j true).size := by rw [hsz1]; omega
            have hrvB : ∀ t, t < 512 → t ∈ readsC ops.toList oB → VRel op ρ' (NC.get (fpath t) f) (a.tmps.getD t undef) := fun t h5 _ => hS t h5
            refine exec_tail (S := s.set ia oa) (id := ib) (ob := ob) T K hop1 EO IOk hB (hGρ.mono hsr) hrvB hH' (fun k' => hsb _ _ rfl) ?_
            intro wld2 ρ2 hsr2 hH2
            refine all_done (by rw [Array.size_setIfInBounds]; exact hsz1) (fun i hi => ?_) (fin hsubF ((h.rho.trans hsr).trans hsr2) hH2 (hS.mono hsr2) h.size h.dfr fun hh => hh) _
            rw [in_set hiD]
            by_cases e : i = j + 1
            · exact .inl e
            · exact .inr (hD1 i (by omega))
        · have hjB : j = N + 1 := by omega
          subst hjB
          have hGρ := hG.mono h.rho
          have hrvB := tail_reads ht h (wr h) hB.at_ hB.dst (by omega) hM
          refine exec_tail (S := s) (id := ib) (ob := ob) T K hop1 EO IOk hB hGρ hrvB h.rel (fun k' => hsb _ _ (by rw [set_get hida hidb, if_neg hne.symm])) ?_
          intro wld' ρ' hsr hH'
          have back : ∀ {j}, ¬ In (D.setIfInBounds (N + 1) true) j → ¬ In D j := fun hnj hD => hnj ((in_set hjD).2 (.inr hD))
          have hB2 := hB.dst
          refine second ia ib oa ob f s w hne hsa hsubF hida hidb ?_ fuel done effs pre mid ρ' (D.setIfInBounds (N + 1) true) a wld' ?_ ((in_set hjD).2 (.inl rfl)) ?_ (by omega)
          · exact h.rel.md
          · refine ⟨.refl _, h.ord, (fun _ h => by cases h), h.pok, h.pdn, h.pN, ?_, by rw [Array.size_setIfInBounds]; exact h.dsz, clo_set hjD h.clo hM, hH'.res_le (fun _ hid => hid.imp id fun ⟨j, h1, h2⟩ => ⟨j, back h1, h2⟩), fun x y id hx hy => h.inj x y id (back hx) (back hy), fun x id hx => h.midn x id (back hx), ?_, ?_, ?_, h.unw, h.size, h.dfr, h.rho.trans hsr⟩
            · intro i hi
              rcases (in_set hjD).1 hi with e | hi
              · exact .inr e
              · exact .inl ((h.sub i hi).resolve_right id)
            · intro i hi hni
              obtain ⟨o, d, g, fi, h1, h2, h3, h4, h5, h6⟩ := h.pnd i hi (back hni)
              refine ⟨o, d, g, fi, h1, h2, h3, h4, h5, ?_⟩
              rcases h6 with h6 | ⟨g1, c, u, g2, g3, g4⟩
              · exact .inl h6
              refine .inr ?_
              have hk0 : kindC c = 0 := himp i o c (h.pN i hi) h1 g2 (by
                cases hb : (Msk ops (N + 1)).testBit i with
                | false => rfl
                | true => exact absurd (hM i hb) (back hni))
              refine ⟨g1, c, u, g2, g3, .inl ⟨hk0, ?_⟩⟩
              rcases g4 with ⟨_, g4⟩ | ⟨g4, _⟩ | ⟨g4, _⟩
              · exact g4
              · omega
              · omega
            · intro i p t hi hp h5 hD
              refine (h.sl1 i p t hi hp h5 ?_).mono op hsr
              rcases (in_set hjD).1 hD with e | hD
              · subst e; rw [hB.at_] at hi; cases hi; rw [hB.dst] at hp; cases hp
              · exact hD
            · intro t h5 hall
              exact (h.sl0 t h5 fun i p hi hp hD => hall i p hi hp ((in_set hjD).2 (.inr hD))).mono op hsr
          · intro hh
            rcases (in_set hjD).1 hh with e | hh
            · omega
            · exact hnA hh
end
end
end Go.Ax
end
section
namespace Go.Ax
open Go Go.RowKit
noncomputable section
set_option linter.unusedSectionVars false
set_option linter.unusedVariables false
set_option linter.unusedSimpArgs false
variable {P : Program} {op : Nat → Value} {w0 : Base} {ti : TI}
def csOf (ti : TI) (okTo : Nat → Nat → Nat → Nat → Bool) (nt : Nat) (ops : List Oper) : List CO := (ops.zip (masksC ops)).zipIdx.map fun ((o, m), i) => coC ti okTo nt ops i m o
theorem regC_draw {okTo : Nat → Nat → Nat → Nat → Bool} {ops : Array Oper} {nt : Nat} : regC ti okTo ops true nt = if orderOk (2 ^ ops.toList.length - 1) (orderC ops.toList.length (csOf ti okTo nt ops.toList) 0) 0 0 && (tempsOk ops.toList (masksC ops.toList) && guardsOk ops.toList (masksC ops.toList)) then .drawn (olOf (orderC ops.toList.length (csOf ti okTo nt ops.toList) 0))
    else pairC (csOf ti okTo nt ops.toList) (masksC ops.toList) (tempsOk ops.toList (masksC ops.toList) && guardsOk ops.toList (masksC ops.toList)) := rfl
theorem masks_len (ops : List Oper) : (masksC ops).length = ops.length := by rw [masks_eq, mfold_len]; simp
theorem cs_get {okTo : Nat → Nat → Nat → Nat → Bool} {ops : Array Oper} {nt i : Nat} {o : Oper} (h : ops[i]? = some o) : (csOf ti okTo nt ops.toList)[i]? = some (coC ti okTo nt ops.toList i (Msk ops i) o) := by
  have h : ops.toList[i]? = some o := by rw [Array.getElem?_toList]; exact h
  obtain ⟨hlt, _⟩ := List.getElem?_eq_some_iff.1 h
  have hm : (masksC ops.toList)[i]? = some (Msk ops i) := by
    unfold Msk
    rw [List.getD_eq_getElem?_getD, List.getElem?_eq_getElem (by rw [masks_len]; exact hlt)]; rfl
  unfold csOf
  rw [List.getElem?_map, List.getElem?_zipIdx, show (ops.toList.zip (masksC ops.toList))[i]? = some (o, Msk ops i) from List.getElem?_zip_eq_some.2 ⟨h, hm⟩]
  simp
theorem cs_mem {okTo : Nat → Nat → Nat → Nat → Bool} {ops : Array Oper} {nt : Nat} {n : Nat} {c : CO} (h : c ∈ (csOf ti okTo nt ops.toList).take n) : ∃ i p, i < n ∧ ops[i]? = some p ∧ c = coC ti okTo nt ops.toList i (Msk ops i) p := by
  obtain ⟨i, hi⟩ := List.mem_iff_getElem?.1 h
  rw [List.getElem?_take] at hi
  split at hi
  · rename_i hlt
    have hl : i < ops.size := by
      obtain ⟨h1, _⟩ := List.getElem?_eq_some_iff.1 hi
      simpa [csOf, masks_len] using h1
    refine ⟨i, ops[i], hlt, Array.getElem?_eq_getElem hl, ?_⟩
    rw [cs_get (Array.getElem?_eq_getElem hl)] at hi
    exact (Option.some.inj hi).symm
  · cases hi
theorem cs_len {okTo : Nat → Nat → Nat → Nat → Bool} {ops : Array Oper} {nt : Nat} : (csOf ti okTo nt ops.toList).length = ops.size := by simp [csOf, masks_len]
section
variable (T : TiOk P ti) {okTo : Nat → Nat → Nat → Nat → Bool} (K : OkTo P okTo) (hop1 : ∀ n, (op n).oneCell' = true) {E : Env} (EO : EnvOk P op ti okTo E) {ih : IH} (IOk : IhOk P op ti ih)
/-- The beginning: nothing is passed, nothing is done. -/
theorem J_start {ops : Array Oper} {nt N : Nat} {KK : NC → St → Res} {F0 : Res} {r : List CO} {f : NC} {s : St} {ρ : Rho} {a : Act} {wld : World} (hrun : Sub (runDrawn (olOf r) E ih f s .nil KK) F0) (hord : orderOk (2 ^ N - 1) r 0 0 = true)
    (hmem : ∀ o ∈ r, ∃ i p, i < N ∧ ops[i]? = some p ∧ o = coC ti okTo nt ops.toList i (Msk ops i) p) (hH : HRel op w0 ρ s wld) (hS : SRel op ρ f a.tmps) (hsz : nt ≤ a.tmps.size) :
    J P op w0 ti okTo E ih ops nt N (fun _ => False) f KK F0 ρ a.defers r 0 0 [] f s .nil (fun _ => none) ρ (Array.replicate ops.size false) a wld := by
  have hno : ∀ i, ¬ In (Array.replicate ops.size false) i := fun i h => by
    unfold In at h
    rw [Array.getD_eq_getD_getElem?, Array.getElem?_replicate] at h
    split at h <;> cases h
  refine ⟨hrun, hord, hmem, trivial, fun b => (by simp), fun b hb => (by cases hb), fun i hi => absurd hi (hno i), (by simp), fun i hi => absurd hi (hno i), ?_, ?_, ?_, ?_, fun j p t _ _ _ hD => absurd hD (hno j), fun t h5 _ => hS t h5, fun _ _ _ => rfl, hsz, rfl, .refl _⟩
  · refine hH.res_le fun id hid => ?_
    rcases hid with h | ⟨_, _, h⟩
    · exact h
    · cases h
  · intro _ _ _ _ _ h; cases h
  · intro _ _ _ h; cases h
  · intro i hi; cases hi
theorem cnt_start (n : Nat) : cnt (Array.replicate n false) ≤ n := by
  unfold cnt
  refine Nat.le_trans List.countP_le_length ?_
  simp
include T K hop1 EO IOk
theorem drawn_ok (hm : P.follows .mixedOrders = true) : DrawnOk P op ti E ih := by
  intro w0 id ops f s a w ρ rd nt r hg hH hfo hG hr
  obtain ⟨fs, fd, frd, fnt⟩ := f
  obtain ⟨hS, hD, erd, ent, hsz, h512⟩ := hfo
  have erd : frd = rd := erd
  have ent : fnt = nt := ent
  subst erd
  subst ent
  have hS : SRel op ρ fs a.tmps := hS
  have hD : DRel P op ρ fd a.defers := hD
  obtain ⟨F, hF⟩ : ∃ F, F = mRegion id ops true E ih ⟨fs, fd, frd, fnt⟩ s := ⟨_, rfl⟩
  rw [← hF] at hg ⊢
  have hF : F = RegC.rec (motive := fun _ => Res) .fail (fun l => runOps l E ih ⟨fs, fd, frd, fnt⟩ s) (fun l => runDrawn l E ih fs s .nil fun f' s' => .ok .normal ⟨f', fd, frd, fnt⟩ s' .nil)
    (fun l m x v m' x' v' => runDrawn l E ih fs s .nil fun f' s' => runPair m x v m' x' v' f' s' fun s2 => .ok .normal ⟨f', fd, frd, fnt⟩ s2 .nil) (E.reg ops true fnt) := hF
  rw [EO.reg, regC_draw] at hF
  refine wpIn_region_any hm ?_
  have hH' := hH.drew (w.drawn + 1)
  split at hF
  · rename_i hc
    rw [Bool.and_eq_true, Bool.and_eq_true] at hc
    obtain ⟨hord, ht, _⟩ := hc
    have hF : F = runDrawn (olOf (orderC ops.toList.length (csOf ti okTo fnt ops.toList) 0)) E ih fs s .nil fun f' s' => .ok .normal ⟨f', fd, frd, fnt⟩ s' .nil := hF
    have hJ := J_start (P := P) (ti := ti) (okTo := okTo) (ops := ops) (nt := fnt) (N := ops.size) (F0 := F) (a := a) (by rw [← hF]; exact .refl _) (by simpa using hord) (fun o ho => cs_mem (n := ops.size) (by rw [List.take_of_length_le (by rw [cs_len]; exact Nat.le_refl _)]; exact order_mem _ ho)) hH' hS hsz
    obtain ⟨l', _, _, _, _, _, _, _, hJ, hst, _⟩ := advance ht (fun _ h => h.elim) hg _ hJ
    exact main_ok T K hop1 EO IOk ht hG hg (Nat.le_refl _) (fun i h1 h2 => by omega) (end_drawn T K hop1 ht hG hg hD h512 rfl rfl) _ hJ hst (cnt_start _)
  · obtain ⟨R, hR⟩ : ∃ R, R = pairC (csOf ti okTo fnt ops.toList) (masksC ops.toList) (tempsOk ops.toList (masksC ops.toList) && guardsOk ops.toList (masksC ops.toList)) := ⟨_, rfl⟩
    rw [← hR] at hF
    simp only [pairC, cs_len] at hR
    split at hR
    · rename_i g1 lst m x v n1 b1 k1 m' x' v' n2 b2 k2 hdrop
      split at hR
      · rename_i hc
        rw [hR] at hF
        simp only [Bool.and_eq_true, within_iff] at hc
        obtain ⟨⟨⟨⟨⟨⟨ht, _⟩, hord⟩, hAll⟩, hA2⟩, hB2⟩, himp⟩ := hc
        have hlen : (csOf ti okTo fnt ops.toList).length - (ops.size - 2) = 2 := by
          have := congrArg List.length hdrop
          rw [List.length_drop] at this; exact this
        rw [cs_len] at hlen
        have hN : ops.size - 2 + 2 = ops.size := by omega
        obtain ⟨N, hNe⟩ : ∃ N, N = ops.size - 2 := ⟨_, rfl⟩
        rw [← hNe] at hF hdrop hord hAll hA2 hB2 himp hN
        have hgA : (csOf ti okTo fnt ops.toList)[N]? = some (.mk .none .none (.st m x v) n1 b1 k1) := by
          have := congrArg (fun l => l[0]?) hdrop
          simpa using this
        have hgB : (csOf ti okTo fnt ops.toList)[N + 1]? = some (.mk .none .none (.st m' x' v') n2 b2 k2) := by
          have := congrArg (fun l => l[1]?) hdrop
          simpa using this
        have tail : ∀ {i m x v b n k}, i < ops.size → (csOf ti okTo fnt ops.toList)[i]? = some (.mk .none .none (.st m x v) b n k) → ∃ o, TailSt ti okTo ops i m x v o := by
          intro i m x v b n k hi hc
          have ho := Array.getElem?_eq_getElem hi
          rw [cs_get ho] at hc
          have hc := Option.some.inj hc
          rcases co_shape (ops := ops) (nt := fnt) (by rw [hc]; rfl) with ⟨d, g, c, k', e, hd, hg', hcop⟩ | e
          · rw [e] at hc
            injection hc with e1 e2 e3
            subst e1; subst e2; subst e3
            refine ⟨ops[i], ho, ?_, ?_, ?_⟩
            · rcases dst_slot hd with ⟨h, _⟩ | ⟨u, _, h, _⟩
              · exact h
              · cases h
            · cases hgd : ops[i].guard with
              | none => rfl
              | some jw =>
                rw [hgd] at hg'
                obtain ⟨j, w⟩ := jw
                simp only [grdC] at hg'
                split at hg'
                · split at hg'
                  · split at hg' <;> cases hg'
                  · cases hg'
                · cases hg'
            · rcases hcop with ⟨h, _⟩ | ⟨h, _⟩
              · exact h
              · cases h
          · rw [e] at hc
            injection hc with e1 e2 e3
            cases e3
        obtain ⟨oA, hA⟩ := tail (by omega) hgA
        obtain ⟨oB, hB⟩ := tail (by omega) hgB
        have hMsk : ∀ i, (masksC ops.toList).getD i 0 = Msk ops i := fun _ => rfl
        have hbits : ∀ b, (2 ^ N - 1).testBit b = true ↔ b < N := fun b => by rw [Nat.testBit_two_pow_sub_one]; simp
        have hMA : ∀ b, (Msk ops N).testBit b = true ↔ b < N := fun b => ⟨fun h => (hbits b).1 (hA2 b h), fun h => hAll b ((hbits b).2 h)⟩
        have hMB : ∀ b, (Msk ops (N + 1)).testBit b = true → b ≤ N := fun b h => by
          have := hB2 b h
          rw [lor_bit, pow_bit, Bool.or_eq_true, decide_eq_true_eq, hbits] at this
          omega
        have hF : F = runDrawn (olOf (orderC N ((csOf ti okTo fnt ops.toList).take N) 0)) E ih fs s .nil fun f' s' => runPair m x v m' x' v' f' s' fun s2 => .ok .normal ⟨f', fd, frd, fnt⟩ s2 .nil := hF
        have hmem : ∀ o ∈ orderC N ((csOf ti okTo fnt ops.toList).take N) 0, ∃ i p, i < N ∧ ops[i]? = some p ∧ o = coC ti okTo fnt ops.toList i (Msk ops i) p := fun o ho => cs_mem (order_mem _ ho)
        have hJ := J_start (P := P) (ti := ti) (okTo := okTo) (ops := ops) (nt := fnt) (N := N) (F0 := F) (a := a) (by rw [← hF]; exact .refl _) hord hmem hH' hS hsz
        obtain ⟨l', _, _, _, _, _, _, _, hJ, hst, _⟩ := advance ht (fun _ h => h.elim) hg _ hJ
        -- what looks at no memory
        have imp_bit : ∀ (l : List CO), ∀ d g c i b k, .mk d g c i b k ∈ l → k ≠ 0 → (impure l).testBit i = true := by
          intro l
          induction l with
          | nil => intro d g c i b k h; cases h
          | cons o t it =>
            intro d g c i b k h hk
            rcases List.mem_cons.1 h with rfl | h
            · cases k with
              | zero => exact absurd rfl hk
              | succ k => show (Nat.lor (2 ^ i) (impure t)).testBit i = true; rw [lor_bit, pow_bit]; simp
            · have := it d g c i b k h hk
              cases o with
              | dfr => show (Nat.lor (2 ^ _) (impure t)).testBit i = true; rw [lor_bit, this]; simp
              | mk d' g' c' i' b' k' =>
                cases k' with
                | zero => exact this
                | succ k' => show (Nat.lor (2 ^ _) (impure t)).testBit i = true; rw [lor_bit, this]; simp
        have inl : ∀ j o, j < N → ops[j]? = some o → coC ti okTo fnt ops.toList j (Msk ops j) o ∈ (csOf ti okTo fnt ops.toList).take N := fun j o hj ho =>
          List.mem_iff_getElem?.2 ⟨j, by rw [List.getElem?_take, if_pos hj]; exact cs_get ho⟩
        have hmk : ∀ j o, j < N → ops[j]? = some o → isMk (coC ti okTo fnt ops.toList j (Msk ops j) o) = true := by
          intro j o hj ho
          obtain ⟨o', ho', hno⟩ := ord_all _ hord j ((hbits j).2 hj) (by simp)
          obtain ⟨i2, p2, _, hp2, e⟩ := hmem o' ho'
          have h1 := ord_mk _ hord o' ho'
          rw [e] at h1 hno
          have := (co_nums h1).1
          have : i2 = j := this.symm.trans hno
          subst this
          rw [ho] at hp2; cases hp2; exact h1
        refine main_ok T K hop1 EO IOk ht hG hg (by omega) ?_ (end_pair T K hop1 EO IOk ht hG hg hD h512 hA hB rfl hN hMA hMB ?_) _ hJ hst (cnt_start _)
        · intro i h1 h2 j o hj ho heff
          by_cases e : i = N
          · subst e; exact (hMA j).2 hj
          · have : i = N + 1 := by omega
            subst this
            refine himp j ?_
            rcases co_shape (hmk j o hj ho) with ⟨d, g, c, k, e, _⟩ | e
            · rw [e] at heff
              have hk : k = 3 := eq_of_beq heff
              have := inl j o hj ho
              rw [e] at this
              exact imp_bit _ _ _ _ _ _ _ this (by omega)
            · have := inl j o hj ho
              rw [e] at this
              exact imp_bit _ _ _ _ _ _ _ this (by decide)
        · intro j o c hj ho hc hb
          rcases co_shape (hmk j o hj ho) with ⟨d, g, c', k, e, _, _, hcop⟩ | e
          · have hin := inl j o hj ho
            rw [e] at hin
            have hk0 : k = 0 := Classical.byContradiction fun hk => by
              have h1 := himp j (imp_bit _ _ _ _ _ _ _ hin hk)
              rw [hMsk, hb] at h1; cases h1
            rcases hcop with ⟨h, hk⟩ | ⟨_, hk⟩
            · rw [hc] at h; cases h; omega
            · omega
          · have hin := inl j o hj ho
            rw [e] at hin
            have h1 := himp j (imp_bit _ _ _ _ _ _ _ hin (by decide))
            rw [hMsk, hb] at h1; cases h1
      · rw [hR] at hF; rw [hF] at hg; exact hg.elim
    · rw [hR] at hF; rw [hF] at hg; exact hg.elim
end
end
end Go.Ax
end
