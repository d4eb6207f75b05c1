/-
  Closed conditions of the card over the program's table, each in small.
-/
import Derived.Test.YtoplphimhbnelaaGreatDoorRows
import Derived.JoinedOf
import Derived.KernelRfl
import Derived.Test.YtoplphimhbnelaaGreatDoorG
import GoSem.ClaimGoes
set_option linter.all false
set_option linter.unusedVariables false
set_option linter.unusedSimpArgs false
section
namespace Go.Ax
open Go
theorem grown_fix {P : Program} {L : List TypeId} (h : P.grow L = L) : ∀ d, P.grown d L = L
  | 0 => rfl
  | d + 1 => by show P.grown d (P.grow L) = L; rw [h]; exact grown_fix h d
theorem grown_add {P : Program} (d : Nat) : ∀ (n : Nat) (s : List TypeId), P.grown (n + d) s = P.grown d (P.grown n s)
  | 0, s => by rw [Nat.zero_add]; rfl
  | n + 1, s => by rw [show n + 1 + d = (n + d) + 1 by omega]; show P.grown (n + d) (P.grow s) = P.grown d (P.grown n (P.grow s)); exact grown_add d n _
/-- The types that one comes to, where some steps come to all. -/
theorem book_of {P : Program} {t : TypeId} {L : List TypeId} (n : Nat) (hn : Nat.ble n P.types.size = true) (h : P.grown n [t] = L) (hf : P.grow L = L) : P.book t = L := by
  unfold Program.book
  obtain ⟨d, hd⟩ : ∃ d, P.types.size = n + d := ⟨P.types.size - n, by have := Nat.le_of_ble_eq_true hn; omega⟩
  rw [hd, grown_add, h, grown_fix hf]
end Go.Ax
namespace Tz
open Go Go.Proofs Go.Ax Go.Proofs.YtoplphimhbnelaaGreatDoor
set_option maxRecDepth 100000
theorem book52 : Tryz.prog.book 52 = [52, 9, 22, 3, 50, 5] := book_of 2 (by kernel_rfl) (by kernel_rfl) (by kernel_rfl)
theorem book9 : Tryz.prog.book 9 = [9] := book_of 0 (by kernel_rfl) (by kernel_rfl) (by kernel_rfl)
theorem book22 : Tryz.prog.book 22 = [22, 9] := book_of 1 (by kernel_rfl) (by kernel_rfl) (by kernel_rfl)
theorem book3 : Tryz.prog.book 3 = [3] := book_of 0 (by kernel_rfl) (by kernel_rfl) (by kernel_rfl)
theorem book50 : Tryz.prog.book 50 = [50, 5] := book_of 1 (by kernel_rfl) (by kernel_rfl) (by kernel_rfl)
theorem book5 : Tryz.prog.book 5 = [5] := book_of 0 (by kernel_rfl) (by kernel_rfl) (by kernel_rfl)
theorem book4 : Tryz.prog.book 4 = [4] := book_of 0 (by kernel_rfl) (by kernel_rfl) (by kernel_rfl)
theorem book856 : Tryz.prog.book 856 = [856, 5] := book_of 1 (by kernel_rfl) (by kernel_rfl) (by kernel_rfl)
theorem book972 : Tryz.prog.book 972 = [972, 971, 5] := book_of 2 (by kernel_rfl) (by kernel_rfl) (by kernel_rfl)
theorem book977 : Tryz.prog.book 977 = [977, 1065, 1062, 1063, 3, 1068, 1071, 1066, 562] := book_of 4 (by kernel_rfl) (by kernel_rfl) (by kernel_rfl)
theorem book609 : Tryz.prog.book 609 = [609] := book_of 0 (by kernel_rfl) (by kernel_rfl) (by kernel_rfl)
theorem book1061 : Tryz.prog.book 1061 = [1061, 1143, 562, 1141, 21] := book_of 3 (by kernel_rfl) (by kernel_rfl) (by kernel_rfl)
theorem book1119 : Tryz.prog.book 1119 = [1119, 130] := book_of 1 (by kernel_rfl) (by kernel_rfl) (by kernel_rfl)
theorem book1149 : Tryz.prog.book 1149 = [1149, 5] := book_of 1 (by kernel_rfl) (by kernel_rfl) (by kernel_rfl)
theorem book1150 : Tryz.prog.book 1150 = [1150, 5] := book_of 1 (by kernel_rfl) (by kernel_rfl) (by kernel_rfl)
theorem params : Tryz.f4.params.toList = [52] := by kernel_rfl
theorem paramsA : Tryz.f4.params = #[52] := by kernel_rfl
theorem results : Tryz.f4.resultTypes.toList = [4] := by kernel_rfl
theorem resultsA : Tryz.f4.resultTypes = #[4] := by kernel_rfl
theorem read52 : Tryz.prog.readableRec 52 = true := by unfold Program.readableRec; rw [book52]; kernel_rfl
theorem read4 : Tryz.prog.readableRec 4 = true := by unfold Program.readableRec; rw [book4]; kernel_rfl
theorem maps52 : Tryz.prog.mapsRec 52 = false := by unfold Program.mapsRec; rw [book52]; kernel_rfl
theorem ifaces52 : Tryz.prog.ifacesRec 52 = false := by unfold Program.ifacesRec; rw [book52]; kernel_rfl
theorem veiled52 : Tryz.prog.veiledRec 52 = false := by unfold Program.veiledRec; rw [book52]; kernel_rfl
theorem wide52 : Tryz.prog.wideKeysFrom 52 = false := by unfold Program.wideKeysFrom; rw [book52]; kernel_rfl
theorem ifaces4 : Tryz.prog.ifacesRec 4 = false := by unfold Program.ifacesRec; rw [book4]; kernel_rfl
theorem veiled4 : Tryz.prog.veiledRec 4 = false := by unfold Program.veiledRec; rw [book4]; kernel_rfl
theorem wide4 : Tryz.prog.wideKeysFrom 4 = false := by unfold Program.wideKeysFrom; rw [book4]; kernel_rfl
theorem parts52 : Tryz.prog.partsOf 52 = [9, 22, 3, 50, 50, 50] := by kernel_rfl
theorem parts9 : Tryz.prog.partsOf 9 = [] := by kernel_rfl
theorem parts22 : Tryz.prog.partsOf 22 = [9] := by kernel_rfl
theorem parts3 : Tryz.prog.partsOf 3 = [] := by kernel_rfl
theorem parts50 : Tryz.prog.partsOf 50 = [5] := by kernel_rfl
theorem parts5 : Tryz.prog.partsOf 5 = [] := by kernel_rfl
theorem parts4 : Tryz.prog.partsOf 4 = [] := by kernel_rfl
theorem loops52 : Tryz.prog.loopsFrom 52 = false := by
  unfold Program.loopsFrom; rw [book52]
  simp only [List.any_cons, List.any_nil, parts52, parts9, parts22, parts3, parts50, parts5, book9, book22, book3, book50, book5]
  decide
theorem loops4 : Tryz.prog.loopsFrom 4 = false := by
  unfold Program.loopsFrom; rw [book4]
  simp only [List.any_cons, List.any_nil, parts4]
  decide
theorem ownOf {t : TypeId} (h : Tryz.prog.veiledRec t = false) : Tryz.prog.veiledOwn t = true := by unfold Program.veiledOwn; rw [h]; rfl
theorem own52 : Tryz.prog.veiledOwn 52 = true := ownOf veiled52
theorem own4 : Tryz.prog.veiledOwn 4 = true := ownOf veiled4
theorem own856 : Tryz.prog.veiledOwn 856 = true := ownOf (by unfold Program.veiledRec; rw [book856]; kernel_rfl)
theorem own972 : Tryz.prog.veiledOwn 972 = true := ownOf (by unfold Program.veiledRec; rw [book972]; kernel_rfl)
theorem own977 : Tryz.prog.veiledOwn 977 = true := ownOf (by unfold Program.veiledRec; rw [book977]; kernel_rfl)
theorem own609 : Tryz.prog.veiledOwn 609 = true := ownOf (by unfold Program.veiledRec; rw [book609]; kernel_rfl)
theorem own1061 : Tryz.prog.veiledOwn 1061 = true := ownOf (by unfold Program.veiledRec; rw [book1061]; kernel_rfl)
theorem own1119 : Tryz.prog.veiledOwn 1119 = true := ownOf (by unfold Program.veiledRec; rw [book1119]; kernel_rfl)
theorem own1149 : Tryz.prog.veiledOwn 1149 = true := ownOf (by unfold Program.veiledRec; rw [book1149]; kernel_rfl)
theorem own1150 : Tryz.prog.veiledOwn 1150 = true := ownOf (by unfold Program.veiledRec; rw [book1150]; kernel_rfl)
end Tz
end
section
namespace Tz
open Go Go.Proofs Go.Ax Go.Proofs.YtoplphimhbnelaaGreatDoor
set_option maxRecDepth 100000
theorem types_size : Tryz.prog.types.size = 1174 := by kernel_rfl
theorem look_some {t : Nat} (h : t < 1174) : ∃ e, ti t = some e := by
  have h1 : ti t = tys.flatten[t]? := look_eq (by decide) tys tys_rows t
  have h2 : tys.flatten.length = Tryz.prog.types.size := by
    have := congrArg List.length tys_info
    rw [List.length_map] at this
    rw [← this, Array.length_toList]
  rw [types_size] at h2
  exact ⟨_, h1.trans (List.getElem?_eq_getElem (by omega))⟩
noncomputable def undX (t : Nat) : Option TypeDesc := if Nat.ble (Nat.succ t) 1174 then (match ti t with | some e => some e.und | none => none) else Tryz.prog.underlying t
noncomputable def cellsX (t : Nat) : Nat := if Nat.ble (Nat.succ t) 1174 then (match ti t with | some e => e.info.size | none => 0) else Tryz.prog.cellsOf t
theorem und_eq (t : Nat) : Tryz.prog.underlying t = undX t := by
  unfold undX
  by_cases h : t < 1174
  · rw [if_pos (Nat.ble_eq_true_of_le h)]
    obtain ⟨e, he⟩ := look_some h
    rw [he]; exact tiOk.und t e he
  · rw [if_neg (fun h1 => h (Nat.le_of_ble_eq_true h1))]
theorem cells_eq (t : Nat) : Tryz.prog.cellsOf t = cellsX t := by
  unfold cellsX
  by_cases h : t < 1174
  · rw [if_pos (Nat.ble_eq_true_of_le h)]
    obtain ⟨e, he⟩ := look_some h
    rw [he]
    unfold Program.cellsOf; rw [tiOk.info t e he]; rfl
  · rw [if_neg (fun h1 => h (Nat.le_of_ble_eq_true h1))]
theorem q_rows : ((List.range Tryz.prog.types.size).all (rowFine Tryz.prog)) = true := by
  have : (List.range Tryz.prog.types.size).all (rowFine Tryz.prog) = (List.range 1174).all (fun t => rowFine Tryz.prog t) := by rw [types_size]
  rw [this]
  unfold rowFine isVar
  simp only [und_eq, cells_eq, types_size]
  show (_ : Bool) = true
  kernel_rfl
theorem q_mapsRowed : mapsRowed Tryz.prog = true := by
  unfold mapsRowed
  simp only [und_eq, types_size]
  show (_ : Bool) = true
  kernel_rfl
theorem q_plainKeys0 : Tryz.prog.plainKeys = true := by
  unfold Program.plainKeys
  simp only [und_eq, types_size]
  show (_ : Bool) = true
  kernel_rfl
theorem q_laidOut : laidOutB Tryz.prog = true := by
  unfold laidOutB
  rw [q_rows]
  have h1 : Tryz.prog.funcs.all (fun f => f.params.all fun t => decide (t < Tryz.prog.types.size)) = true := by
    rw [← Array.all_toList, fns_eq, types_size]; kernel_rfl
  rw [h1, types_size]
  show (_ : Bool) = true
  kernel_rfl
theorem q_heard : Tryz.prog.stopsHeard = true := by
  unfold Program.stopsHeard; rw [← Array.all_toList, fns_eq]; kernel_rfl
theorem q_later : Tryz.prog.laysLater = false := by
  unfold Program.laysLater; rw [← Array.any_toList, fns_eq]; kernel_rfl
theorem q_reflect : Tryz.prog.bearsReflect = false := by
  unfold Program.bearsReflect; rw [fns_eq]; kernel_rfl
theorem q_goes : Tryz.prog.funcs.any Func.goes = false := by
  rw [← Array.any_toList, fns_eq]; kernel_rfl
end Tz
end
section
namespace Go.Ax
open Go
/-- The closure, by a table and a mask of bits. -/
def cloX (lt : Nat → List Nat) : Nat → List Nat → List Nat → Nat → List Nat
  | 0, _, seen, _ => seen.reverse
  | _ + 1, [], seen, _ => seen.reverse
  | n + 1, f :: todo, seen, m => if bitOf m f then cloX lt n todo seen m else cloX lt n (lt f ++ todo) (f :: seen) (Nat.lor m (2 ^ f))
theorem bit_eq (m i : Nat) : bitOf m i = m.testBit i := bitOf_eq m i
theorem cloX_ok {P : Program} {lt : Nat → List Nat} (h : ∀ f, (P.funcs[f]?).elim [] P.leadsTo = lt f) : ∀ (n : Nat) (todo seen : List Nat) (m : Nat), (∀ f, m.testBit f = seen.contains f) → P.closureVia n todo seen = cloX lt n todo seen m
  | 0, _, _, _, _ => by simp [Program.closureVia, cloX]
  | n + 1, [], _, _, _ => by simp [Program.closureVia, cloX]
  | n + 1, f :: todo, seen, m, hm => by
    simp only [Program.closureVia, cloX, bit_eq, hm]
    by_cases hc : seen.contains f = true
    · rw [if_pos hc, if_pos hc]; exact cloX_ok h n todo seen m hm
    · rw [if_neg hc, if_neg hc, h f]
      refine cloX_ok h n _ _ _ fun g => ?_
      rw [show Nat.lor m (2 ^ f) = m ||| 2 ^ f from rfl, Nat.testBit_or, hm, Nat.testBit_two_pow, List.contains_cons, Bool.or_comm]
      congr 1
      rw [Bool.eq_iff_iff]; simp only [decide_eq_true_eq, beq_iff_eq]; exact eq_comm
end Go.Ax
end
