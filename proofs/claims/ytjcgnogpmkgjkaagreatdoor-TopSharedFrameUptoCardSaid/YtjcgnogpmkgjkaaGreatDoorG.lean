/-
  The rows of this program are the program's own (closed facts).
-/
import Derived.Test.YtjcgnogpmkgjkaaGreatDoorF
import Derived.Test.YtjcgnogpmkgjkaaGreatDoorS
set_option linter.all false
set_option linter.unusedVariables false
set_option linter.unusedSimpArgs false
namespace Tz
open Go Go.Proofs Go.Ax Go.Shelf
set_option maxRecDepth 100000
theorem tys_rows : rowsOk 39 tys = true := by kernel_rfl
theorem tys_info : Tryz.prog.types.toList = tys.flatten.map (·.info) := by kernel_rfl
theorem tys_und : tys.flatten.map (fun e => some e.und) = tys.flatten.map (undOf tys 39) := by kernel_rfl
theorem tys_flags : flagsOk Tryz.prog tys.flatten 0 = true := by kernel_rfl
theorem tiOk : TiOk Tryz.prog ti := tiOk_of (by decide) tys_rows rfl tys_info tys_und tys_flags
theorem fns_rows : rowsOk 38 fns = true := by kernel_rfl
theorem fns_eq : Tryz.prog.funcs.toList = fns.flatten := by kernel_rfl
theorem mixed : Tryz.prog.follows .mixedOrders = true := by kernel_rfl
theorem fns_names : (fns.flatten.all fun f => !(f.name == "runtime.NumGoroutine")) = true := by kernel_rfl
theorem okToOk : OkTo Tryz.prog okTo := fun _ _ _ _ => rfl
/-- The numbers of strings.Fields, and of what it names. -/
def ren : Ren where
  f := fun x => match x with
    | 157 => 516
    | 229 => 643
    | 199 => 644
    | 261 => 763
    | 311 => 853
    | 312 => 854
    | n => n
  t := fun x => match x with
    | 9 => 9
    | 31 => 49
    | 3 => 3
    | 5 => 5
    | 4 => 4
    | 119 => 840
    | 0 => 0
    | 40 => 382
    | 152 => 957
    | 21 => 21
    | 154 => 959
    | 51 => 62
    | 141 => 961
    | 196 => 1048
    | 193 => 1045
    | 198 => 1051
    | 49 => 1049
    | 194 => 1046
    | 201 => 1054
    | 226 => 1107
    | 46 => 57
    | 227 => 1108
    | n => n
  g := fun x => match x with
    | 0 => 1
    | 6 => 4
    | n => n
theorem lays : Lays.n157 Tryz.prog ren where
  mixed := by kernel_rfl
  f157 := Tryz.func516.trans (congrArg some (by kernel_rfl))
  f199 := Tryz.func644.trans (congrArg some (by kernel_rfl))
  f229 := Tryz.func643.trans (congrArg some (by kernel_rfl))
  f261 := Tryz.func763.trans (congrArg some (by kernel_rfl))
  f311 := Tryz.func853.trans (congrArg some (by kernel_rfl))
  f312 := Tryz.func854.trans (congrArg some (by kernel_rfl))
  t0 := Tryz.underlying0
  a0 := Tryz.isAgg0
  z0 := Tryz.sizeOf0
  v0 := Tryz.zeroValue0
  t3 := Tryz.underlying3
  a3 := Tryz.isAgg3
  z3 := Tryz.sizeOf3
  v3 := Tryz.zeroValue3
  t4 := Tryz.underlying4
  a4 := Tryz.isAgg4
  z4 := Tryz.sizeOf4
  v4 := Tryz.zeroValue4
  t5 := Tryz.underlying5
  a5 := Tryz.isAgg5
  z5 := Tryz.sizeOf5
  v5 := Tryz.zeroValue5
  t9 := Tryz.underlying9
  a9 := Tryz.isAgg9
  z9 := Tryz.sizeOf9
  v9 := Tryz.zeroValue9
  t21 := Tryz.underlying21
  a21 := Tryz.isAgg21
  z21 := Tryz.sizeOf21
  v21 := Tryz.zeroValue21
  t31 := Tryz.underlying49
  a31 := Tryz.isAgg49
  z31 := Tryz.sizeOf49
  v31 := Tryz.zeroValue49
  t40 := Tryz.underlying382
  a40 := Tryz.isAgg382
  z40 := Tryz.sizeOf382
  v40 := Tryz.zeroValue382
  t46 := Tryz.underlying57
  a46 := Tryz.isAgg57
  z46 := Tryz.sizeOf57
  v46 := Tryz.zeroValue57
  t49 := Tryz.underlying1049
  a49 := Tryz.isAgg1049
  z49 := Tryz.sizeOf1049
  v49 := Tryz.zeroValue1049
  t51 := Tryz.underlying62
  a51 := Tryz.isAgg62
  z51 := Tryz.sizeOf62
  v51 := Tryz.zeroValue62
  t119 := Tryz.underlying840
  a119 := Tryz.isAgg840
  z119 := Tryz.sizeOf840
  t141 := Tryz.underlying961
  a141 := Tryz.isAgg961
  z141 := Tryz.sizeOf961
  v141 := Tryz.zeroValue961
  t152 := Tryz.underlying957
  a152 := Tryz.isAgg957
  z152 := Tryz.sizeOf957
  v152 := Tryz.zeroValue957
  t154 := Tryz.underlying959
  a154 := Tryz.isAgg959
  z154 := Tryz.sizeOf959
  v154 := Tryz.zeroValue959
  t193 := Tryz.underlying1045
  a193 := Tryz.isAgg1045
  z193 := Tryz.sizeOf1045
  v193 := Tryz.zeroValue1045
  t194 := Tryz.underlying1046
  a194 := Tryz.isAgg1046
  z194 := Tryz.sizeOf1046
  v194 := Tryz.zeroValue1046
  t196 := Tryz.underlying1048
  a196 := Tryz.isAgg1048
  z196 := Tryz.sizeOf1048
  v196 := Tryz.zeroValue1048
  t198 := Tryz.underlying1051
  a198 := Tryz.isAgg1051
  z198 := Tryz.sizeOf1051
  v198 := Tryz.zeroValue1051
  t201 := Tryz.underlying1054
  a201 := Tryz.isAgg1054
  z201 := Tryz.sizeOf1054
  v201 := Tryz.zeroValue1054
  t226 := Tryz.underlying1107
  a226 := Tryz.isAgg1107
  z226 := Tryz.sizeOf1107
  v226 := Tryz.zeroValue1107
  t227 := Tryz.underlying1108
  a227 := Tryz.isAgg1108
  z227 := Tryz.sizeOf1108
  v227 := Tryz.zeroValue1108
  g0 := by kernel_rfl
  g6 := by kernel_rfl
theorem runIndex : RunsAs Tryz.prog 510 (Extern.BytealgIndexByte.indexByte) := fun args w => run_callFunc_extern Tryz.func510 (by kernel_rfl) (by kernel_rfl) (by kernel_rfl) (by kernel_rfl) args w
theorem runClone : RunsAs Tryz.prog 606 (Extern.MapsClone.clone) := fun args w => run_callFunc_extern Tryz.func606 (by kernel_rfl) (by kernel_rfl) (by kernel_rfl) (by kernel_rfl) args w
theorem runNoEscape : RunsAs Tryz.prog 743 (Extern.AbiNoEscape.same) := fun args w => run_callFunc_extern Tryz.func743 (by kernel_rfl) (by kernel_rfl) (by kernel_rfl) (by kernel_rfl) args w
theorem runMakeNoZero : RunsAs Tryz.prog 846 (Extern.BytealgMakeNoZero.makeNoZero Tryz.f846.params Tryz.f846.resultTypes) := fun args w => run_callFunc_extern Tryz.func846 (by kernel_rfl) (by kernel_rfl) (by kernel_rfl) (by kernel_rfl) args w
theorem hushed : HushOk Tryz.prog 116 := hush_ok (ms := #[]) tiOk Tryz.func116 (by decide) rfl rfl rfl rfl rfl rfl rfl (by kernel_rfl) rfl rfl rfl (by decide) (by decide) (by decide)
theorem exts {op : Nat → Value} : ∀ g n t u, ext g = (n + 1, t, u) → (n = 5 → HushOk Tryz.prog g) ∧ (n ≠ 5 → ExtOk Tryz.prog op ti g (extK (n + 1) t u)) := by
  intro g n t u h
  unfold ext at h
  split at h
  · rename_i e
    cases h
    exact ⟨fun _ => e ▸ hushed, fun h => absurd rfl h⟩
  split at h
  · rename_i e; cases h; exact ⟨fun h => (by cases h), fun _ => e ▸ ext_index runIndex⟩
  split at h
  · rename_i e; cases h; exact ⟨fun h => (by cases h), fun _ => e ▸ ext_fields lays (by kernel_rfl) rfl rfl rfl (by decide)⟩
  split at h
  · rename_i e; cases h; exact ⟨fun h => (by cases h), fun _ => e ▸ ext_clone runClone⟩
  split at h
  · rename_i e; cases h; exact ⟨fun h => (by cases h), fun _ => e ▸ ext_noEscape runNoEscape⟩
  split at h
  · rename_i e; cases h; exact ⟨fun h => (by cases h), fun _ => e ▸ ext_makeNoZero runMakeNoZero (by kernel_rfl)⟩
  · cases h
theorem envOk {op : Nat → Value} : EnvOk Tryz.prog op ti okTo env := envOk_of fns_rows fns_eq fns_names exts
end Tz
