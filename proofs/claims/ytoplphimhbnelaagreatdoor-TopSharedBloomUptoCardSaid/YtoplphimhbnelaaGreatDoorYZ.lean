/-
  The card TopSharedBloomUptoCardSaid. What is proved: for every argument whose reading is of bulk at most 1048576, with whatever spare room its lists have, the call returns true and turns no memory that was there.
-/
import Derived.Test.YtoplphimhbnelaaGreatDoorG
import Derived.Test.YtoplphimhbnelaaGreatDoorYW0
import Derived.Test.YtoplphimhbnelaaGreatDoorYK0
import Derived.Lib.LaidTab
import Derived.Lib.LaidU8
import Derived.Lib.Space
import Derived.Test.YtoplphimhbnelaaGreatDoorT
import Derived.Test.YtoplphimhbnelaaGreatDoorYW4
import Derived.Test.YtoplphimhbnelaaGreatDoorYK7
import Derived.Test.YtoplphimhbnelaaGreatDoorYW7
import Derived.Test.YtoplphimhbnelaaGreatDoorYQ2
import Derived.Test.YtoplphimhbnelaaGreatDoorTie
import Derived.ProofKit
import Derived.OpenShut
import Derived.Deep.DeepHandedRow
import Derived.SevenTiedAt
set_option linter.all false
set_option linter.unusedVariables false
set_option linter.unusedSimpArgs false
section
namespace Go.Ax
open Go
theorem iface_cells {H : Type} {enc : TypeId × Value → H} {P : Program} {w : World} {base fuel : Nat} {sp : Nat → Bool} {held : Bool} {t : TypeId} {ms} {cs : List Value} {x : DataW H × List MemPlace}
    (ht : P.underlying t = some (.interface ms)) (h : DataW.trod enc P w base sp held fuel t cs = some x) (hl : cs.length = 1) : ∃ v, cs = [v] ∧ v.oneCell' = true := by
  obtain ⟨v, rfl⟩ := List.length_eq_one_iff.1 hl
  refine ⟨v, rfl, ?_⟩
  cases fuel with
  | zero => simp [DataW.trod] at h
  | succ n => cases v <;> first | rfl | (simp [DataW.trod, ht] at h)
theorem LRel_ints {op : Nat → Value} {ρ : Rho} (k : IntKind) : ∀ zs : List Int, LRel op ρ (zs.foldr (fun a b => AV.lcons (.int k a) b) .lnil) (zs.map fun z => Value.int k z)
  | [] => (LRel.nil op).2 rfl
  | z :: r => (LRel.cons op).2 ⟨_, _, rfl, rfl, LRel_ints k r⟩
theorem row_ro {op : Nat → Value} {ρ : Rho} {B g n t : Nat} {cs : AV} {vs : List Value} {o : Option Go.Obj} (ho : o = some (.cells vs.toArray t)) (hr : LRel op ρ cs vs) (hl : vs.length = n) (h1 : ∀ v, v ∈ vs → v.oneCell' = true) :
    ORel op ρ B ⟨g, 0, n⟩ (.row t cs n 0 true true) o :=
  ⟨vs.toArray, 0, 0, vs, ho, { cells := hr, len := hl, le := Nat.le_refl _, size := by simp [hl], at_ := fun i v h => by simpa using h, one := h1, lohi := Nat.le_refl _, frozen := fun h => absurd h (Nat.lt_irrefl _), begins := fun _ => rfl, own := fun h => by cases h }⟩
end Go.Ax
namespace Tz
open Go Go.RowKit Go.Proofs Go.Ax Go.Proofs.YtoplphimhbnelaaGreatDoor
set_option maxRecDepth 100000
theorem ascii_eq : asciiL = Lib.asciiSpaceTab.foldr (fun a b => AV.lcons (.int .u8 a) b) .lnil := by kernel_rfl
theorem ascii_laid : (Rows.laid_strings_asciiSpace : DataW Unit) = Lib.tabData .u8 Lib.asciiSpaceTab := by kernel_rfl
theorem g1 : s0.get 1 = .row 856 asciiL 256 0 true true := by kernel_rfl
theorem g5 : s0.get 5 = .row 609 (.lcons (.opq 5) .lnil) 1 0 true true := by kernel_rfl
theorem g6 : s0.get 6 = .row 609 (.lcons (.opq 6) .lnil) 1 0 true true := by kernel_rfl
theorem gd : ∀ i, i < 12 → i ≠ 1 → i ≠ 5 → i ≠ 6 → s0.get i = .dead
  | 0, _, _, _, _ => by kernel_rfl
  | 1, _, h, _, _ => absurd rfl h
  | 2, _, _, _, _ => by kernel_rfl
  | 3, _, _, _, _ => by kernel_rfl
  | 4, _, _, _, _ => by kernel_rfl
  | 5, _, _, h, _ => absurd rfl h
  | 6, _, _, _, h => absurd rfl h
  | 7, _, _, _, _ => by kernel_rfl
  | 8, _, _, _, _ => by kernel_rfl
  | 9, _, _, _, _ => by kernel_rfl
  | 10, _, _, _, _ => by kernel_rfl
  | 11, _, _, _, _ => by kernel_rfl
  | n + 12, h, _, _, _ => absurd h (by omega)
theorem globals_size : Tryz.prog.globals.size = 12 := by kernel_rfl
def lims : Nat → Nat := fun i => if i = 1 then 256 else 1
def rho0 : Rho := fun i => if i < 12 then some ⟨i, 0, lims i⟩ else none
theorem rho0_some {i : Nat} {p : Sp} (h : rho0 i = some p) : i < 12 ∧ p = ⟨i, 0, lims i⟩ := by
  unfold rho0 at h; split at h
  · rename_i h1; exact ⟨h1, (Option.some.inj h).symm⟩
  · cases h
theorem shaped_row {P : Program} {W : World} (hS : W.ShapedOpen P) {H : Array Go.Obj} (hb : (begin P (fun _ _ => 0) default).world.heap = H) {g : Nat} {z : Array Value} {t : TypeId} (hg : g < P.globals.size) (hz : (H[g]?).bind Obj.row? = some (z, t)) :
    ∃ cs, W.heap[g]? = some (.cells cs t) ∧ cs.size = z.size := by
  obtain ⟨cs, h1, h2, _⟩ := hS.1 g z t hg (by rw [hb]; exact hz)
  exact ⟨cs, h1, h2⟩
theorem var_row {P : Program} {W : World} {n : String} {g : Nat} {cs cs' : Array Value} {t : TypeId} (hn : P.globalNamed n = some g) (hv : W.var? P n = some cs) (h : W.heap[g]? = some (.cells cs' t)) : cs = cs' := by
  unfold World.var? at hv; rw [hn] at hv; simp only [Option.bind_some, h] at hv; exact (Option.some.inj hv).symm
structure Laid (W : World) (v5 v6 : Value) : Prop where
  big : 12 ≤ W.heap.size
  b1 : W.heap[1]? = some (.cells (Lib.asciiSpaceTab.map fun z => Value.int .u8 z).toArray 856)
  b5 : W.heap[5]? = some (.cells [v5].toArray 609)
  b6 : W.heap[6]? = some (.cells [v6].toArray 609)
  o5 : v5.oneCell' = true
  o6 : v6.oneCell' = true
theorem ifaceVar {W : World} (hS : W.ShapedOpen Tryz.prog) {n : String} {g : Nat} {d : DataW Unit} (hn : Tryz.prog.globalNamed n = some g) (hg : g < Tryz.prog.globals.size) (hy : (Tryz.prog.globals[g]?).map (·.type) = some 609)
    (hz : (((⟨Wit.H0⟩ : Array Go.Obj)[g]?).bind Obj.row?) = some (#[.nilIface], 609)) (hr : Lib.VarReads Tryz.prog W n d) (hi : ∃ ms, Tryz.prog.underlying 609 = some (.interface ms)) : ∃ v, W.heap[g]? = some (.cells [v].toArray 609) ∧ v.oneCell' = true := by
  obtain ⟨cs, h1, h2⟩ := shaped_row hS (Wit.begin_heap _ _) hg hz
  obtain ⟨g', t, cs', fuel, p, e1, e2, e3, e4⟩ := hr
  obtain rfl := Option.some.inj (hn.symm.trans e1)
  obtain rfl := Option.some.inj (hy.symm.trans e2)
  obtain rfl := var_row e1 e3 h1
  obtain ⟨ms, hi⟩ := hi
  obtain ⟨v, e5, e6⟩ := iface_cells hi e4 (by simpa using h2)
  refine ⟨v, ?_, e6⟩
  rw [h1, ← e5]
theorem laid_of {W : World} (hL : laidMet Tryz.prog Rows.topSharedBloomRow.laid W) (hS : W.ShapedOpen Tryz.prog) (hi : ∃ ms, Tryz.prog.underlying 609 = some (.interface ms)) : ∃ v5 v6, Laid W v5 v6 := by
  obtain ⟨v5, b5, o5⟩ := ifaceVar hS (n := "strconv.ErrSyntax") (g := 5) (by kernel_rfl) (by rw [globals_size]; decide) (by kernel_rfl) rfl (Lib.laidMet.reads hL (d := Rows.laid_strconv_ErrSyntax) (by simp [Rows.topSharedBloomRow])) hi
  obtain ⟨v6, b6, o6⟩ := ifaceVar hS (n := "strconv.ErrRange") (g := 6) (by kernel_rfl) (by rw [globals_size]; decide) (by kernel_rfl) rfl (Lib.laidMet.reads hL (d := Rows.laid_strconv_ErrRange) (by simp [Rows.topSharedBloomRow])) hi
  obtain ⟨cs, h1, h2⟩ := shaped_row hS (Wit.begin_heap _ _) (g := 1) (z := Wit.b8 256) (t := 856) (by rw [globals_size]; decide) rfl
  obtain ⟨cl, l1, _⟩ := shaped_row hS (Wit.begin_heap _ _) (g := 11) (z := #[.pointer none]) (t := 977) (by rw [globals_size]; decide) rfl
  obtain ⟨g', t, cs', fuel, p, e1, e2, e3, e4⟩ := Lib.laidMet.reads hL (n := "strings.asciiSpace") (d := Rows.laid_strings_asciiSpace) (by simp [Rows.topSharedBloomRow])
  obtain rfl := Option.some.inj ((show Tryz.prog.globalNamed "strings.asciiSpace" = some 1 by kernel_rfl).symm.trans e1)
  obtain rfl := Option.some.inj ((show (Tryz.prog.globals[1]?).map (·.type) = some 856 by kernel_rfl).symm.trans e2)
  obtain rfl := var_row e1 e3 h1
  rw [ascii_laid] at e4
  have e5 := Lib.cells_of_tab (n := 256) (e := 5) (by kernel_rfl) (by kernel_rfl) (by kernel_rfl) (by kernel_rfl) e4
  refine ⟨v5, v6, ?_, ?_, b5, b6, o5, o6⟩
  · have := (Array.getElem?_eq_some_iff.1 l1).1; omega
  · rw [h1, ← e5]
/-- THE FIRST STATE OF THE RUN, in any world that has the laid variables. -/
theorem start {w : World} {v5 v6 : Value} (h : Laid w v5 v6) :
    let op : Nat → Value := fun n => if n = 5 then v5 else if n = 6 then v6 else .bool false
    (∀ n, (op n).oneCell' = true) ∧ GRel ti rho0 ∧ HRel op { w with mb := none } rho0 s0 w := by
  intro op
  refine ⟨fun n => ?_, fun g hg => ?_, ?_⟩
  · show Value.oneCell' (if n = 5 then v5 else if n = 6 then v6 else .bool false) = true
    split
    · exact h.o5
    · split
      · exact h.o6
      · rfl
  · have hg : g < 12 := hg
    exact ⟨⟨g, 0, lims g⟩, by simp [rho0, hg], rfl, rfl⟩
  · refine { next := by decide, lt := fun id p hp => (rho0_some hp).1, blk := fun id p hp => ?_, obj := fun id p hp => ?_, inj := fun i j p q hp hq _ _ _ hb => ?_, below := Below.refl _ _, md := trivial, res := fun _ hr => hr.elim, keep := ⟨fun b o hb => (by cases hb), fun _ _ _ _ _ => rfl⟩ }
    · obtain ⟨h1, rfl⟩ := rho0_some hp; exact Nat.lt_of_lt_of_le h1 h.big
    · obtain ⟨h1, rfl⟩ := rho0_some hp
      by_cases e1 : id = 1
      · subst e1; rw [g1]; exact row_ro h.b1 (by rw [ascii_eq]; exact LRel_ints _ _) (by simp [Lib.asciiSpaceTab_length, lims]) (fun v hv => by obtain ⟨z, _, rfl⟩ := List.mem_map.1 hv; rfl)
      · by_cases e5 : id = 5
        · subst e5; rw [g5]; exact row_ro h.b5 ((LRel.cons op).2 ⟨_, _, rfl, rfl, (LRel.nil op).2 rfl⟩) rfl (fun v hv => by simp at hv; subst hv; exact h.o5)
        · by_cases e6 : id = 6
          · subst e6; rw [g6]; exact row_ro h.b6 ((LRel.cons op).2 ⟨_, _, rfl, rfl, (LRel.nil op).2 rfl⟩) rfl (fun v hv => by simp at hv; subst hv; exact h.o6)
          · rw [gd id h1 e1 e5 e6]; exact trivial
    · obtain ⟨h1, rfl⟩ := rho0_some hp
      have hb : w.heap.size ≤ i := hb
      have := h.big; omega
theorem Laid.below {W w : World} {v5 v6 : Value} (h : Laid W v5 v6) (hb : Below W.heap.size W w) : Laid w v5 v6 := by
  have hbig := h.big
  exact ⟨Nat.le_trans h.big hb.size, (hb.block 1 (by omega)).trans h.b1, (hb.block 5 (by omega)).trans h.b5, (hb.block 6 (by omega)).trans h.b6, h.o5, h.o6⟩
end Tz
end
section
namespace Tz
open Go Go.RowKit Go.Proofs Go.Ax Go.Proofs.YtoplphimhbnelaaGreatDoor
set_option maxRecDepth 100000
theorem name20 : (Tryz.f20.name == "runtime.NumGoroutine") = false := by kernel_rfl
theorem body20 : ∃ c, Tryz.f20.body = some c := ⟨_, rfl⟩
/-- ALIVE, IN THE MACHINE: in any world that has the laid variables it returns true and turns no old memory. -/
theorem alive_calls {w : World} {v5 v6 : Value} (h : Laid w v5 v6) : Calls Tryz.prog 20 #[] w fun e w' => e = .returned (.bool true) ∧ Below w.heap.size w w' := by
  obtain ⟨hop, hG, hH⟩ := start h
  rcases alive_done hop hG hH with ⟨v, w', e, _⟩ | ⟨_, hc⟩
  · obtain ⟨c, hb⟩ := body20
    rw [run_callFunc Tryz.func20 hb (by have := name20; simpa using this)] at e
    cases e
  · exact (callsIn_wide.1 hc).mono fun e w' ⟨v, he, hv, ρ', s', _, hH'⟩ => ⟨by rw [he, hv], hH'.below⟩
/-- The same, in a world behind some steps that turned no old memory. -/
theorem alive_behind {W w : World} (hL : laidMet Tryz.prog Rows.topSharedBloomRow.laid W) (hS : W.ShapedOpen Tryz.prog) (hb : Below W.heap.size W w) :
    Calls Tryz.prog 20 #[] w fun e w' => e = .returned (.bool true) ∧ Below W.heap.size W w' := by
  obtain ⟨v5, v6, h⟩ := laid_of hL hS Wit.ifc586
  exact (alive_calls (h.below hb)).mono fun e w' ⟨h1, h2⟩ => ⟨h1, hb.trans (h2.mono hb.size)⟩
end Tz
end
section
namespace Go.Proofs.YtoplphimhbnelaaGreatDoor
open Go.ChangeShapes Go.WideShapes Go.ChangeAt Go.RowKit
set_option maxRecDepth 100000
theorem bulk_one {H : Type} (d : DataW H) : 1 ≤ Rows.uptoBulk d := by
  cases d with
  | lit l => cases l <;> simp [Rows.uptoBulk]
  | _ => simp [Rows.uptoBulk]
theorem bulk_len {H : Type} : ∀ l : List (DataW H), l.length ≤ Rows.uptoBulkAll l
  | [] => Nat.zero_le _
  | d :: r => by
    have h1 := bulk_one d
    have h2 := bulk_len r
    simp only [Rows.uptoBulkAll, List.length_cons]
    omega
theorem bulk_mem {H : Type} {x : DataW H} : ∀ {l : List (DataW H)}, x ∈ l → Rows.uptoBulk x ≤ Rows.uptoBulkAll l
  | d :: r, h => by
    simp only [Rows.uptoBulkAll]
    rcases List.mem_cons.1 h with rfl | h
    · omega
    · have := bulk_mem h
      omega
def bulkBound (H : Type) (B : Nat) : Bound H B where
  good d := Rows.uptoBulk d ≤ B
  agg l h x hx := by
    have := bulk_mem hx
    simp only [Rows.uptoBulk] at h
    omega
  sl els sp h := by
    have := bulk_len els
    simp only [Rows.uptoBulk] at h
    omega
theorem door : Door := by
  intro H enc W base v d p hok ht hlt hnf hb hL hS
  obtain ⟨xs0, xa1, xn1, xc1, xz2, xa3, xn3, xc3, xa4, xn4, xc4, xa5, xn5, xc5, rfl, hX⟩ := open_Bloom (bulkBound H 1048576) (Nat.le_refl _) hok ht ⟨hlt, hnf⟩ hb
  exact enter_Bloom W xs0 xa1 xn1 xc1 xz2 xa3 xn3 xc3 xa4 xn4 xc4 xa5 xn5 xc5 hX (fun w hb => Tz.alive_behind hL hS hb)

theorem liftedUpto (os : Os) (started : os.Started) (H : Type) (enc : TypeId × Value → H) (F : Stop.Interp) :
    ReturnsInHanded {} Tryz.checked os 4 .any ((Rows.OpenSpec.upto Rows.topSharedBloomSpec).preRow enc Tryz.prog Tryz.f4 Rows.topSharedBloomUptoRow.domain false Rows.topSharedBloomUptoRow.laid) (((Rows.OpenSpec.upto Rows.topSharedBloomSpec).at F).post enc Tryz.prog Tryz.f4 false true false false) := liftedUpto_of door os started H enc F
theorem saidUpto : Rows.TopSharedBloomUptoSaid :=
  OpenClaim.holds_of_cond 4 Tryz.f4 rfl rfl rfl rfl rfl rfl rfl ⟨rfl, rfl, rfl, rfl, rfl⟩ rfl rfl rfl rfl rfl Tz.q_name Tryz.func4 Tz.closed
    Tz.q_inst (by unfold Func.isWrapper; first | (rw [if_pos (by decide +kernel)]; kernel_rfl) | (rw [if_neg (by decide +kernel)]; exact ⟨rfl, rfl⟩))
    (fun os started H enc _ F => by rw [OpenClaim.pre_eq_preRow]; exact liftedUpto os started H enc F)
theorem plain (f : FuncId) (fn : Func) (hf : Tryz.pinned.checked.prog.funcNamed "stagepost/stageposttop.TopSharedBloom" = some f) (hfn : Tryz.pinned.checked.prog.funcs[f]? = some fn) :
    true = Tryz.pinned.checked.prog.looks [] ∧ ∀ (j : Nat) t, fn.params[j]? = some t → Tryz.pinned.checked.prog.wantsStandIn t = false := by
  obtain rfl : f = 4 := Option.some.inj (Tz.q_name.symm.trans hf) |>.symm
  obtain rfl : fn = Tryz.f4 := (Option.some.inj (Tryz.func4.symm.trans hfn)).symm
  refine ⟨Tz.q_looks.symm, fun j t ht => ?_⟩
  rw [Tryz.params4] at ht
  obtain rfl : t = 52 := by simpa using Array.mem_of_getElem? ht
  exact Tz.q_wants
theorem goesFrom_of {P : Program} {name : String} {i : Nat} (h : P.funcNamed name = some i) (hg : P.goes i = false) : P.goesFrom name = false := by
  unfold Program.goesFrom; rw [h]; exact hg
theorem goesBy_of {c : OpenClaim} {P : Program} (hs : c.start = .entering) (h : P.goesFrom c.func = false) : false = c.goesBy P := by
  unfold OpenClaim.goesBy Program.goesAt; rw [hs, h]; rfl
theorem goesOk : false = Rows.topSharedBloomUptoRow.goesBy Tryz.prog := goesBy_of rfl (goesFrom_of Tz.q_name Tz.q_goes3)
theorem q_main : Tryz.prog.mainIs = some (true, "e88cb1d2931ba79f4ffa5279f10a2e67dfe0066efd1cb3ef438dbe01adf74346".toList) := by kernel_rfl
set_option maxHeartbeats 1000000
theorem cardUpto : Rows.TopSharedBloomUptoCardSaid :=
  Claim7.holds_tied_plain_at .later [] [.data, .data, .data, .data, .sentinel, .sentinel, .listed, .data, .pinned, .pinned] true (true, "e88cb1d2931ba79f4ffa5279f10a2e67dfe0066efd1cb3ef438dbe01adf74346") true saidUpto (fun _ h => by cases h) Tz.q_wf7 (fun _ h => by cases h) topSharedBloomUpto_row_tie rfl ⟨rfl, rfl⟩ q_main (by rfl) plain goesOk
end Go.Proofs.YtoplphimhbnelaaGreatDoor
end
