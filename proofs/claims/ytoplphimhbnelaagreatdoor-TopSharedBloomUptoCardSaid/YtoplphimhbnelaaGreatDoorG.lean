/-
  The rows of this program are the program's own (closed facts).
-/
import Derived.Test.YtoplphimhbnelaaGreatDoorF
import Derived.Test.YtoplphimhbnelaaGreatDoorS
set_option linter.all false
set_option linter.unusedVariables false
set_option linter.unusedSimpArgs false
namespace Tz
open Go Go.Proofs Go.Ax Go.Shelf
set_option maxRecDepth 100000
theorem tys_rows : rowsOk 39 tys = true := by kernel_rfl
theorem tys_info : Tryz.prog.types.toList = tys.flatten.map (·.info) := by kernel_rfl
theorem tys_und : tys.flatten.map (fun e => some e.und) = tys.flatten.map (undOf tys 39) := by kernel_rfl
theorem tys_flags : flagsOk Tryz.prog tys.flatten 0 = true := by kernel_rfl
theorem tiOk : TiOk Tryz.prog ti := tiOk_of (by decide) tys_rows rfl tys_info tys_und tys_flags
theorem fns_rows : rowsOk 38 fns = true := by kernel_rfl
theorem fns_eq : Tryz.prog.funcs.toList = fns.flatten := by kernel_rfl
theorem mixed : Tryz.prog.follows .mixedOrders = true := by kernel_rfl
theorem fns_names : (fns.flatten.all fun f => !(f.name == "runtime.NumGoroutine")) = true := by kernel_rfl
theorem okToOk : OkTo Tryz.prog okTo := fun _ _ _ _ => rfl
/-- The numbers of strings.Fields, and of what it names. -/
def ren : Ren where
  f := fun x => match x with
    | 157 => 538
    | 229 => 662
    | 199 => 663
    | 261 => 779
    | 311 => 870
    | 312 => 871
    | n => n
  t := fun x => match x with
    | 9 => 9
    | 31 => 22
    | 3 => 3
    | 5 => 5
    | 4 => 4
    | 119 => 856
    | 0 => 0
    | 40 => 411
    | 152 => 973
    | 21 => 21
    | 154 => 975
    | 51 => 562
    | 141 => 977
    | 196 => 1065
    | 193 => 1062
    | 198 => 1068
    | 49 => 1066
    | 194 => 1063
    | 201 => 1071
    | 226 => 1124
    | 46 => 137
    | 227 => 1125
    | n => n
  g := fun x => match x with
    | 0 => 1
    | 6 => 4
    | n => n
theorem lays : Lays.n157 Tryz.prog ren where
  mixed := by kernel_rfl
  f157 := Tryz.func538.trans (congrArg some (by kernel_rfl))
  f199 := Tryz.func663.trans (congrArg some (by kernel_rfl))
  f229 := Tryz.func662.trans (congrArg some (by kernel_rfl))
  f261 := Tryz.func779.trans (congrArg some (by kernel_rfl))
  f311 := Tryz.func870.trans (congrArg some (by kernel_rfl))
  f312 := Tryz.func871.trans (congrArg some (by kernel_rfl))
  t0 := Tryz.underlying0
  a0 := Tryz.isAgg0
  z0 := Tryz.sizeOf0
  v0 := Tryz.zeroValue0
  t3 := Tryz.underlying3
  a3 := Tryz.isAgg3
  z3 := Tryz.sizeOf3
  v3 := Tryz.zeroValue3
  t4 := Tryz.underlying4
  a4 := Tryz.isAgg4
  z4 := Tryz.sizeOf4
  v4 := Tryz.zeroValue4
  t5 := Tryz.underlying5
  a5 := Tryz.isAgg5
  z5 := Tryz.sizeOf5
  v5 := Tryz.zeroValue5
  t9 := Tryz.underlying9
  a9 := Tryz.isAgg9
  z9 := Tryz.sizeOf9
  v9 := Tryz.zeroValue9
  t21 := Tryz.underlying21
  a21 := Tryz.isAgg21
  z21 := Tryz.sizeOf21
  v21 := Tryz.zeroValue21
  t31 := Tryz.underlying22
  a31 := Tryz.isAgg22
  z31 := Tryz.sizeOf22
  v31 := Tryz.zeroValue22
  t40 := Tryz.underlying411
  a40 := Tryz.isAgg411
  z40 := Tryz.sizeOf411
  v40 := Tryz.zeroValue411
  t46 := Tryz.underlying137
  a46 := Tryz.isAgg137
  z46 := Tryz.sizeOf137
  v46 := Tryz.zeroValue137
  t49 := Tryz.underlying1066
  a49 := Tryz.isAgg1066
  z49 := Tryz.sizeOf1066
  v49 := Tryz.zeroValue1066
  t51 := Tryz.underlying562
  a51 := Tryz.isAgg562
  z51 := Tryz.sizeOf562
  v51 := Tryz.zeroValue562
  t119 := Tryz.underlying856
  a119 := Tryz.isAgg856
  z119 := Tryz.sizeOf856
  t141 := Tryz.underlying977
  a141 := Tryz.isAgg977
  z141 := Tryz.sizeOf977
  v141 := Tryz.zeroValue977
  t152 := Tryz.underlying973
  a152 := Tryz.isAgg973
  z152 := Tryz.sizeOf973
  v152 := Tryz.zeroValue973
  t154 := Tryz.underlying975
  a154 := Tryz.isAgg975
  z154 := Tryz.sizeOf975
  v154 := Tryz.zeroValue975
  t193 := Tryz.underlying1062
  a193 := Tryz.isAgg1062
  z193 := Tryz.sizeOf1062
  v193 := Tryz.zeroValue1062
  t194 := Tryz.underlying1063
  a194 := Tryz.isAgg1063
  z194 := Tryz.sizeOf1063
  v194 := Tryz.zeroValue1063
  t196 := Tryz.underlying1065
  a196 := Tryz.isAgg1065
  z196 := Tryz.sizeOf1065
  v196 := Tryz.zeroValue1065
  t198 := Tryz.underlying1068
  a198 := Tryz.isAgg1068
  z198 := Tryz.sizeOf1068
  v198 := Tryz.zeroValue1068
  t201 := Tryz.underlying1071
  a201 := Tryz.isAgg1071
  z201 := Tryz.sizeOf1071
  v201 := Tryz.zeroValue1071
  t226 := Tryz.underlying1124
  a226 := Tryz.isAgg1124
  z226 := Tryz.sizeOf1124
  v226 := Tryz.zeroValue1124
  t227 := Tryz.underlying1125
  a227 := Tryz.isAgg1125
  z227 := Tryz.sizeOf1125
  v227 := Tryz.zeroValue1125
  g0 := by kernel_rfl
  g6 := by kernel_rfl
theorem runIndex : RunsAs Tryz.prog 532 (Extern.BytealgIndexByte.indexByte) := fun args w => run_callFunc_extern Tryz.func532 (by kernel_rfl) (by kernel_rfl) (by kernel_rfl) (by kernel_rfl) args w
theorem runClone : RunsAs Tryz.prog 626 (Extern.MapsClone.clone) := fun args w => run_callFunc_extern Tryz.func626 (by kernel_rfl) (by kernel_rfl) (by kernel_rfl) (by kernel_rfl) args w
theorem runNoEscape : RunsAs Tryz.prog 759 (Extern.AbiNoEscape.same) := fun args w => run_callFunc_extern Tryz.func759 (by kernel_rfl) (by kernel_rfl) (by kernel_rfl) (by kernel_rfl) args w
theorem runMakeNoZero : RunsAs Tryz.prog 863 (Extern.BytealgMakeNoZero.makeNoZero Tryz.f863.params Tryz.f863.resultTypes) := fun args w => run_callFunc_extern Tryz.func863 (by kernel_rfl) (by kernel_rfl) (by kernel_rfl) (by kernel_rfl) args w
theorem hushed : HushOk Tryz.prog 143 := hush_ok (ms := #[]) tiOk Tryz.func143 (by decide) rfl rfl rfl rfl rfl rfl rfl (by kernel_rfl) rfl rfl rfl (by decide) (by decide) (by decide)
theorem exts {op : Nat → Value} : ∀ g n t u, ext g = (n + 1, t, u) → (n = 5 → HushOk Tryz.prog g) ∧ (n ≠ 5 → ExtOk Tryz.prog op ti g (extK (n + 1) t u)) := by
  intro g n t u h
  unfold ext at h
  split at h
  · rename_i e
    cases h
    exact ⟨fun _ => e ▸ hushed, fun h => absurd rfl h⟩
  split at h
  · rename_i e; cases h; exact ⟨fun h => (by cases h), fun _ => e ▸ ext_index runIndex⟩
  split at h
  · rename_i e; cases h; exact ⟨fun h => (by cases h), fun _ => e ▸ ext_fields lays (by kernel_rfl) rfl rfl rfl (by decide)⟩
  split at h
  · rename_i e; cases h; exact ⟨fun h => (by cases h), fun _ => e ▸ ext_clone runClone⟩
  split at h
  · rename_i e; cases h; exact ⟨fun h => (by cases h), fun _ => e ▸ ext_noEscape runNoEscape⟩
  split at h
  · rename_i e; cases h; exact ⟨fun h => (by cases h), fun _ => e ▸ ext_makeNoZero runMakeNoZero (by kernel_rfl)⟩
  · cases h
theorem envOk {op : Nat → Value} : EnvOk Tryz.prog op ti okTo env := envOk_of fns_rows fns_eq fns_names exts
end Tz
