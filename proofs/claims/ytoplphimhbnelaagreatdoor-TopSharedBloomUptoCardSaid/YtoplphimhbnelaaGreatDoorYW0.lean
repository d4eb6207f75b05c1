/-
  The witness world of the card: a state in which the laid variables read as the row says.
-/
import Derived.Test.YtoplphimhbnelaaGreatDoorYK7
import Derived.Test.YtoplphimhbnelaaGreatDoorTie
import Derived.ProofKit
import Derived.OpenShut
import Derived.Lay
import Derived.Deep.DeepHandedRow
import Derived.SevenTiedAt
import Derived.Test.YtoplphimhbnelaaGreatDoorYK0
set_option linter.all false
set_option linter.unusedVariables false
set_option linter.unusedSimpArgs false
section
namespace Go.Proofs.YtoplphimhbnelaaGreatDoor
open Go.ChangeShapes Go.WideShapes Go.ChangeAt Go.RowKit
set_option maxRecDepth 100000
namespace Wit
noncomputable def w0 (os : Os) : World := World.laidAll Tryz.prog os Rows.topSharedBloomRow.laid
def z : Value := .agg #[.string ByteArray.empty, .slice none 0 0, .int .i64 0, .slice none 0 0, .slice none 0 0, .slice none 0 0]
noncomputable def w (os : Os) : World := (w0 os).forCall (fun _ _ => 0) ⟨#[], #[z], []⟩
theorem hos (os : Os) : (w0 os).os = os := World.laidAll_os _ _ _
end Wit
end Go.Proofs.YtoplphimhbnelaaGreatDoor
end
section
namespace Go.Proofs.YtoplphimhbnelaaGreatDoor
open Go.ChangeShapes Go.WideShapes Go.ChangeAt Go.RowKit
set_option maxRecDepth 100000
namespace Wit
theorem noReady : (Tryz.prog.funcs.toList.all fun f => ((f.body.map readies).getD []).isEmpty) = true := by kernel_rfl
theorem waiting_of {P : Program} (h : (P.funcs.toList.all fun f => ((f.body.map readies).getD []).isEmpty) = true) : waiting P = Array.replicate P.globals.size false := by
  unfold waiting
  have : (P.funcs.toList.flatMap fun f => (f.body.map readies).getD []) = [] := by
    rw [List.flatMap_eq_nil_iff]; intro f hf
    have := List.all_eq_true.1 h f hf
    simpa using this
  rw [this]; rfl
def b8 (n : Nat) : Array Value := ⟨List.replicate n (.int .u8 0)⟩
noncomputable def H0 : List Obj := [.cells #[.int .i64 0] 3, .cells (b8 256) 856, .cells (b8 256) 856, .cells (b8 32) 972, .cells #[.pointer none] 977, .cells #[.nilIface] 609, .cells #[.nilIface] 609,
  .cells #[.slice none 0 0] 1061, .cells ⟨List.replicate 20 (.int .u64 0)⟩ 1119, .cells (b8 32) 1149, .cells (b8 64) 1150, .cells #[.pointer none] 977,
  .cells ((Array.range Tryz.prog.types.size).map fun t => .int .u64 (Int.ofNat t)) 0, .map #[] 0, .finalizers #[] none, .cells #[.bool false] 0, .finalizers #[] none]
theorem begin_heap (tape : Nat → Question → Nat) (os : Os) : (begin Tryz.prog tape os).world.heap = ⟨H0⟩ := by
  have h := waiting_of noReady
  revert h
  unfold begin
  generalize waiting Tryz.prog = x
  intro h
  subst h
  show _ = _
  kernel_rfl
end Wit
end Go.Proofs.YtoplphimhbnelaaGreatDoor
end
section
namespace Go.Proofs.YtoplphimhbnelaaGreatDoor
open Go.ChangeShapes Go.WideShapes Go.ChangeAt Go.RowKit
set_option maxRecDepth 100000
namespace Wit
/-- A type that is surely not the pointer to the named one. -/
def notPtrTo (P : Program) (s s' : String) (u : Nat) : Bool :=
  match P.info? u with
  | some i => match i.desc with
    | .named n _ => n != s'
    | .pointer e => match P.info? e with
      | some j => match j.desc with
        | .named n _ => n != s
        | .pointer _ => true
        | .bool | .int _ | .float _ | .string => j.str != s
        | _ => true
      | none => true
    | .bool | .int _ | .float _ | .string => i.str != s'
    | _ => true
  | none => true
theorem star_inj {x y : String} (h : "*" ++ x = "*" ++ y) : x = y := by
  have := congrArg String.toList h
  simp only [String.toList_append, List.append_cancel_left_eq] at this
  exact String.toList_inj.1 this
theorem notPtr_ok {P : Program} {s : String} (hs : ∀ x, "*" ++ x ≠ s) {u : Nat} (h : notPtrTo P s ("*" ++ s) u = true) (d : Nat) : P.typeName? (d + 3) u ≠ some ("*" ++ s) := by
  intro k
  unfold Program.typeName? at k
  unfold notPtrTo at h
  cases hi : P.info? u with
  | none => rw [hi] at k; cases k
  | some i =>
    rw [hi] at k h
    simp only at k h
    cases hd : i.desc with
    | named n m => rw [hd] at k h; simp only at k h; split at k <;> simp_all
    | pointer e =>
      rw [hd] at k h; simp only [Option.map_eq_some_iff] at k h
      obtain ⟨y, hy, e1⟩ := k
      obtain rfl := star_inj e1
      unfold Program.typeName? at hy
      cases hj : P.info? e with
      | none => rw [hj] at hy; cases hy
      | some j =>
        rw [hj] at hy h
        simp only at hy h
        cases hf : j.desc with
        | named n m => rw [hf] at hy h; simp only at hy h; split at hy <;> simp_all
        | pointer e2 => rw [hf] at hy; simp only [Option.map_eq_some_iff] at hy; obtain ⟨z, _, e3⟩ := hy; exact hs z e3
        | bool => rw [hf] at hy h; simp only at hy h; split at hy <;> simp_all
        | int => rw [hf] at hy h; simp only at hy h; split at hy <;> simp_all
        | float => rw [hf] at hy h; simp only at hy h; split at hy <;> simp_all
        | string => rw [hf] at hy h; simp only at hy h; split at hy <;> simp_all
        | _ => rw [hf] at hy; cases hy
    | bool => rw [hd] at k h; simp only at k h; split at k <;> simp_all
    | int => rw [hd] at k h; simp only at k h; split at k <;> simp_all
    | float => rw [hd] at k h; simp only at k h; split at k <;> simp_all
    | string => rw [hd] at k h; simp only at k h; split at k <;> simp_all
    | _ => rw [hd] at k; cases k
theorem find_of {P : Program} {s : String} (hs : ∀ x, "*" ++ x ≠ s) {n U : Nat} (hU : U < n) (h : (List.range U).all (notPtrTo P s ("*" ++ s)) = true) (k : P.typeName? 3 U = some ("*" ++ s)) :
    (List.range n).find? (fun u => P.typeName? 3 u == some ("*" ++ s)) = some U := by
  rw [List.find?_range_eq_some]
  refine ⟨by simp [k], by simpa using hU, fun j hj => ?_⟩
  have := notPtr_ok hs (List.all_eq_true.1 h j (List.mem_range.2 hj)) 0
  simpa using this
theorem lay_iface {P : Program} {t n u : Nat} {name : String} {d : DataW Unit} {ms} {x : List Value × List Obj} {v : Value} (h1 : P.underlying t = some (.interface ms))
    (h2 : (List.range P.types.size).find? (fun u => P.typeName? 3 u == some name) = some u) (h3 : d.lay P u n = some x) (h4 : Lay.pack P u x.1 = some v) : DataW.lay P t n (.iface name d) = some ([.iface u v], x.2) := by
  unfold DataW.lay; rw [h1, h2]; simp only [h3, h4]
theorem layList_cons {P : Program} {n g : Nat} {x : String × DataW Unit} {gl : Global} {r : List (String × DataW Unit)} {y : List Value × List Obj} {z} (h1 : P.globalNamed x.1 = some g) (h2 : P.globals[g]? = some gl)
    (h3 : x.2.lay P gl.type n = some y) (h4 : Lay.layList P (n + y.2.length) r = some z) : Lay.layList P n (x :: r) = some ((g, y.1) :: z.1, y.2 ++ z.2) := by
  unfold Lay.layList; rw [h1]; simp only [h2, h3, h4]
theorem no_star (x : String) : "*" ++ x ≠ "errors.errorString" := fun h => by
  have := congrArg String.toList h
  rw [String.toList_append] at this
  have h2 := congrArg List.head? this
  revert h2
  simp
end Wit
end Go.Proofs.YtoplphimhbnelaaGreatDoor
end
section
namespace Go.Proofs.YtoplphimhbnelaaGreatDoor
open Go.ChangeShapes Go.WideShapes Go.ChangeAt Go.RowKit
set_option maxRecDepth 100000
namespace Wit
theorem starred : "*" ++ "errors.errorString" = "*errors.errorString" := by decide
noncomputable def infX (t : Nat) := if Nat.ble (Nat.succ t) 1174 then (match Tz.ti t with | some e => some e.info | none => none) else Tryz.prog.info? t
theorem inf_eq (t : Nat) : Tryz.prog.info? t = infX t := by
  unfold infX
  by_cases h : t < 1174
  · rw [if_pos (Nat.ble_eq_true_of_le h)]
    obtain ⟨e, he⟩ := Tz.look_some h
    rw [he]; exact Tz.tiOk.info t e he
  · rw [if_neg (fun h1 => h (Nat.le_of_ble_eq_true h1))]
theorem f2 : (List.range 1076).all (notPtrTo Tryz.prog "errors.errorString" ("*" ++ "errors.errorString")) = true := by
  unfold notPtrTo
  simp only [inf_eq]
  kernel_rfl
theorem f1 : decide (1076 < Tryz.prog.types.size) = true := by kernel_rfl
theorem f3 : Tryz.prog.typeName? 3 1076 = some ("*" ++ "errors.errorString") := by kernel_rfl
theorem found : (List.range Tryz.prog.types.size).find? (fun u => Tryz.prog.typeName? 3 u == some "*errors.errorString") = some 1076 :=
  starred ▸ find_of (P := Tryz.prog) (s := "errors.errorString") no_star (n := Tryz.prog.types.size) (U := 1076) (of_decide_eq_true f1) f2 f3
end Wit
end Go.Proofs.YtoplphimhbnelaaGreatDoor
end
