/-
  The rows of this program are the program's own (closed facts).
-/
import Derived.Test.YtlckcnkognnlpaaGreatDoorF
import Derived.Test.YtlckcnkognnlpaaGreatDoorS
set_option linter.all false
set_option linter.unusedVariables false
set_option linter.unusedSimpArgs false
namespace Tz
open Go Go.Proofs Go.Ax Go.Shelf
set_option maxRecDepth 100000
theorem tys_rows : rowsOk 39 tys = true := by kernel_rfl
theorem tys_info : Tryz.prog.types.toList = tys.flatten.map (·.info) := by kernel_rfl
theorem tys_und : tys.flatten.map (fun e => some e.und) = tys.flatten.map (undOf tys 39) := by kernel_rfl
theorem tys_flags : flagsOk Tryz.prog tys.flatten 0 = true := by kernel_rfl
theorem tiOk : TiOk Tryz.prog ti := tiOk_of (by decide) tys_rows rfl tys_info tys_und tys_flags
theorem fns_rows : rowsOk 38 fns = true := by kernel_rfl
theorem fns_eq : Tryz.prog.funcs.toList = fns.flatten := by kernel_rfl
theorem mixed : Tryz.prog.follows .mixedOrders = true := by kernel_rfl
theorem fns_names : (fns.flatten.all fun f => !(f.name == "runtime.NumGoroutine")) = true := by kernel_rfl
theorem okToOk : OkTo Tryz.prog okTo := fun _ _ _ _ => rfl
/-- The numbers of strings.Fields, and of what it names. -/
def ren : Ren where
  f := fun x => match x with
    | 157 => 517
    | 229 => 646
    | 199 => 647
    | 261 => 766
    | 311 => 856
    | 312 => 857
    | n => n
  t := fun x => match x with
    | 9 => 9
    | 31 => 48
    | 3 => 3
    | 5 => 5
    | 4 => 4
    | 119 => 841
    | 0 => 0
    | 40 => 379
    | 152 => 958
    | 21 => 21
    | 154 => 960
    | 51 => 23
    | 141 => 962
    | 196 => 1049
    | 193 => 1046
    | 198 => 1052
    | 49 => 1050
    | 194 => 1047
    | 201 => 1055
    | 226 => 1108
    | 46 => 59
    | 227 => 1109
    | n => n
  g := fun x => match x with
    | 0 => 1
    | 6 => 4
    | n => n
theorem lays : Lays.n157 Tryz.prog ren where
  mixed := by kernel_rfl
  f157 := Tryz.func517.trans (congrArg some (by kernel_rfl))
  f199 := Tryz.func647.trans (congrArg some (by kernel_rfl))
  f229 := Tryz.func646.trans (congrArg some (by kernel_rfl))
  f261 := Tryz.func766.trans (congrArg some (by kernel_rfl))
  f311 := Tryz.func856.trans (congrArg some (by kernel_rfl))
  f312 := Tryz.func857.trans (congrArg some (by kernel_rfl))
  t0 := Tryz.underlying0
  a0 := Tryz.isAgg0
  z0 := Tryz.sizeOf0
  v0 := Tryz.zeroValue0
  t3 := Tryz.underlying3
  a3 := Tryz.isAgg3
  z3 := Tryz.sizeOf3
  v3 := Tryz.zeroValue3
  t4 := Tryz.underlying4
  a4 := Tryz.isAgg4
  z4 := Tryz.sizeOf4
  v4 := Tryz.zeroValue4
  t5 := Tryz.underlying5
  a5 := Tryz.isAgg5
  z5 := Tryz.sizeOf5
  v5 := Tryz.zeroValue5
  t9 := Tryz.underlying9
  a9 := Tryz.isAgg9
  z9 := Tryz.sizeOf9
  v9 := Tryz.zeroValue9
  t21 := Tryz.underlying21
  a21 := Tryz.isAgg21
  z21 := Tryz.sizeOf21
  v21 := Tryz.zeroValue21
  t31 := Tryz.underlying48
  a31 := Tryz.isAgg48
  z31 := Tryz.sizeOf48
  v31 := Tryz.zeroValue48
  t40 := Tryz.underlying379
  a40 := Tryz.isAgg379
  z40 := Tryz.sizeOf379
  v40 := Tryz.zeroValue379
  t46 := Tryz.underlying59
  a46 := Tryz.isAgg59
  z46 := Tryz.sizeOf59
  v46 := Tryz.zeroValue59
  t49 := Tryz.underlying1050
  a49 := Tryz.isAgg1050
  z49 := Tryz.sizeOf1050
  v49 := Tryz.zeroValue1050
  t51 := Tryz.underlying23
  a51 := Tryz.isAgg23
  z51 := Tryz.sizeOf23
  v51 := Tryz.zeroValue23
  t119 := Tryz.underlying841
  a119 := Tryz.isAgg841
  z119 := Tryz.sizeOf841
  t141 := Tryz.underlying962
  a141 := Tryz.isAgg962
  z141 := Tryz.sizeOf962
  v141 := Tryz.zeroValue962
  t152 := Tryz.underlying958
  a152 := Tryz.isAgg958
  z152 := Tryz.sizeOf958
  v152 := Tryz.zeroValue958
  t154 := Tryz.underlying960
  a154 := Tryz.isAgg960
  z154 := Tryz.sizeOf960
  v154 := Tryz.zeroValue960
  t193 := Tryz.underlying1046
  a193 := Tryz.isAgg1046
  z193 := Tryz.sizeOf1046
  v193 := Tryz.zeroValue1046
  t194 := Tryz.underlying1047
  a194 := Tryz.isAgg1047
  z194 := Tryz.sizeOf1047
  v194 := Tryz.zeroValue1047
  t196 := Tryz.underlying1049
  a196 := Tryz.isAgg1049
  z196 := Tryz.sizeOf1049
  v196 := Tryz.zeroValue1049
  t198 := Tryz.underlying1052
  a198 := Tryz.isAgg1052
  z198 := Tryz.sizeOf1052
  v198 := Tryz.zeroValue1052
  t201 := Tryz.underlying1055
  a201 := Tryz.isAgg1055
  z201 := Tryz.sizeOf1055
  v201 := Tryz.zeroValue1055
  t226 := Tryz.underlying1108
  a226 := Tryz.isAgg1108
  z226 := Tryz.sizeOf1108
  v226 := Tryz.zeroValue1108
  t227 := Tryz.underlying1109
  a227 := Tryz.isAgg1109
  z227 := Tryz.sizeOf1109
  v227 := Tryz.zeroValue1109
  g0 := by kernel_rfl
  g6 := by kernel_rfl
theorem runIndex : RunsAs Tryz.prog 511 (Extern.BytealgIndexByte.indexByte) := fun args w => run_callFunc_extern Tryz.func511 (by kernel_rfl) (by kernel_rfl) (by kernel_rfl) (by kernel_rfl) args w
theorem runClone : RunsAs Tryz.prog 609 (Extern.MapsClone.clone) := fun args w => run_callFunc_extern Tryz.func609 (by kernel_rfl) (by kernel_rfl) (by kernel_rfl) (by kernel_rfl) args w
theorem runNoEscape : RunsAs Tryz.prog 746 (Extern.AbiNoEscape.same) := fun args w => run_callFunc_extern Tryz.func746 (by kernel_rfl) (by kernel_rfl) (by kernel_rfl) (by kernel_rfl) args w
theorem runMakeNoZero : RunsAs Tryz.prog 849 (Extern.BytealgMakeNoZero.makeNoZero Tryz.f849.params Tryz.f849.resultTypes) := fun args w => run_callFunc_extern Tryz.func849 (by kernel_rfl) (by kernel_rfl) (by kernel_rfl) (by kernel_rfl) args w
theorem hushed : HushOk Tryz.prog 117 := hush_ok (ms := #[]) tiOk Tryz.func117 (by decide) rfl rfl rfl rfl rfl rfl rfl (by kernel_rfl) rfl rfl rfl (by decide) (by decide) (by decide)
theorem exts {op : Nat → Value} : ∀ g n t u, ext g = (n + 1, t, u) → (n = 5 → HushOk Tryz.prog g) ∧ (n ≠ 5 → ExtOk Tryz.prog op ti g (extK (n + 1) t u)) := by
  intro g n t u h
  unfold ext at h
  split at h
  · rename_i e
    cases h
    exact ⟨fun _ => e ▸ hushed, fun h => absurd rfl h⟩
  split at h
  · rename_i e; cases h; exact ⟨fun h => (by cases h), fun _ => e ▸ ext_index runIndex⟩
  split at h
  · rename_i e; cases h; exact ⟨fun h => (by cases h), fun _ => e ▸ ext_fields lays (by kernel_rfl) rfl rfl rfl (by decide)⟩
  split at h
  · rename_i e; cases h; exact ⟨fun h => (by cases h), fun _ => e ▸ ext_clone runClone⟩
  split at h
  · rename_i e; cases h; exact ⟨fun h => (by cases h), fun _ => e ▸ ext_noEscape runNoEscape⟩
  split at h
  · rename_i e; cases h; exact ⟨fun h => (by cases h), fun _ => e ▸ ext_makeNoZero runMakeNoZero (by kernel_rfl)⟩
  · cases h
theorem envOk {op : Nat → Value} : EnvOk Tryz.prog op ti okTo env := envOk_of fns_rows fns_eq fns_names exts
end Tz
