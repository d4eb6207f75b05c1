/-
  The witness world of the card: a state in which the laid variables read as the row says.
-/
import Derived.Test.YtoplphimhbnelaaGreatDoorYW0
set_option linter.all false
set_option linter.unusedVariables false
set_option linter.unusedSimpArgs false
namespace Go.Proofs.YtoplphimhbnelaaGreatDoor
open Go.ChangeShapes Go.WideShapes Go.ChangeAt Go.RowKit
set_option maxRecDepth 100000
namespace Wit
def isIfc : Option TypeDesc → Bool | some (.interface _) => true | _ => false
theorem ifc586 : ∃ ms, Tryz.prog.underlying 609 = some (.interface ms) := by
  have h : isIfc (Tryz.prog.underlying 609) = true := by kernel_rfl
  revert h; generalize Tryz.prog.underlying 609 = o; intro h
  unfold isIfc at h; split at h
  · exact ⟨_, rfl⟩
  · cases h
theorem isSome_some {α : Type} {o : Option α} {d : α} (h : o.isSome = true) : o = some (o.getD d) := by cases o <;> simp_all
theorem layList_cons' {P : Program} {n m g : Nat} {x : String × DataW Unit} {gl : Global} {r : List (String × DataW Unit)} {y : List Value × List Obj} {z} (h1 : P.globalNamed x.1 = some g) (h2 : P.globals[g]? = some gl)
    (h3 : x.2.lay P gl.type n = some y) (hm : n + y.2.length = m) (h4 : Lay.layList P m r = some z) : Lay.layList P n (x :: r) = some ((g, y.1) :: z.1, y.2 ++ z.2) := layList_cons h1 h2 h3 (hm ▸ h4)
theorem layList_nil {P : Program} {n : Nat} : Lay.layList P n [] = some ([], []) := rfl
theorem lay_ptr {P : Program} {t e n : Nat} {d : DataW Unit} {x : List Value × List Obj} (h1 : P.underlying t = some (.pointer e)) (h2 : d.lay P e (n + 1) = some x) (h3 : x.1.length = P.cellsOf e) :
    DataW.lay P t n (.ptr d) = some ([.pointer (some ⟨n, 0, none⟩)], .cells x.1.toArray e :: x.2) := by unfold DataW.lay; simp only [h1, h2, h3, if_true]
noncomputable def Y0 : List Value × List Obj := ((Rows.laid_math_bits_deBruijn32tab : DataW Unit).lay Tryz.prog 1149 17).getD ([], [])
theorem h0 : (Rows.laid_math_bits_deBruijn32tab : DataW Unit).lay Tryz.prog 1149 17 = some Y0 := isSome_some (by kernel_rfl)
theorem n0 : 17 + Y0.2.length = 17 := by kernel_rfl
noncomputable def Y1 : List Value × List Obj := ((Rows.laid_math_bits_deBruijn64tab : DataW Unit).lay Tryz.prog 1150 17).getD ([], [])
theorem h1 : (Rows.laid_math_bits_deBruijn64tab : DataW Unit).lay Tryz.prog 1150 17 = some Y1 := isSome_some (by kernel_rfl)
theorem n1 : 17 + Y1.2.length = 17 := by kernel_rfl
noncomputable def Y2 : List Value × List Obj := ((Rows.laid_internal_strconv_uint64pow10 : DataW Unit).lay Tryz.prog 1119 17).getD ([], [])
theorem h2 : (Rows.laid_internal_strconv_uint64pow10 : DataW Unit).lay Tryz.prog 1119 17 = some Y2 := isSome_some (by kernel_rfl)
theorem n2 : 17 + Y2.2.length = 17 := by kernel_rfl
noncomputable def Y3 : List Value × List Obj := ((Rows.laid_unicode_utf8_acceptRanges : DataW Unit).lay Tryz.prog 972 17).getD ([], [])
theorem h3 : (Rows.laid_unicode_utf8_acceptRanges : DataW Unit).lay Tryz.prog 972 17 = some Y3 := isSome_some (by kernel_rfl)
theorem n3 : 17 + Y3.2.length = 17 := by kernel_rfl
noncomputable def Y4 : List Value × List Obj := ([.iface 1076 (.pointer (some ⟨17, 0, none⟩))], ((DataW.lay Tryz.prog 1076 17 (match (Rows.laid_strconv_ErrRange : DataW Unit) with | .iface _ d => d | d => d)).getD ([], [])).2)
theorem h4 : (Rows.laid_strconv_ErrRange : DataW Unit).lay Tryz.prog 609 17 = some Y4 := by
  obtain ⟨ms, h⟩ := ifc586
  exact lay_iface (P := Tryz.prog) (t := 609) (n := 17) (u := 1076) (x := (DataW.lay Tryz.prog 1076 17 (match (Rows.laid_strconv_ErrRange : DataW Unit) with | .iface _ d => d | d => d)).getD ([], [])) h found (isSome_some (by kernel_rfl)) (by kernel_rfl)
theorem n4 : 17 + Y4.2.length = 18 := by kernel_rfl
noncomputable def Y5 : List Value × List Obj := ([.iface 1076 (.pointer (some ⟨18, 0, none⟩))], ((DataW.lay Tryz.prog 1076 18 (match (Rows.laid_strconv_ErrSyntax : DataW Unit) with | .iface _ d => d | d => d)).getD ([], [])).2)
theorem h5 : (Rows.laid_strconv_ErrSyntax : DataW Unit).lay Tryz.prog 609 18 = some Y5 := by
  obtain ⟨ms, h⟩ := ifc586
  exact lay_iface (P := Tryz.prog) (t := 609) (n := 18) (u := 1076) (x := (DataW.lay Tryz.prog 1076 18 (match (Rows.laid_strconv_ErrSyntax : DataW Unit) with | .iface _ d => d | d => d)).getD ([], [])) h found (isSome_some (by kernel_rfl)) (by kernel_rfl)
theorem n5 : 18 + Y5.2.length = 19 := by kernel_rfl
noncomputable def Y6 : List Value × List Obj := ((Rows.laid_unicode_White_Space : DataW Unit).lay Tryz.prog 977 19).getD ([], [])
theorem h6 : (Rows.laid_unicode_White_Space : DataW Unit).lay Tryz.prog 977 19 = some Y6 := isSome_some (by kernel_rfl)
theorem n6 : 19 + Y6.2.length = 21 := by kernel_rfl
noncomputable def Y7 : List Value × List Obj := ((Rows.laid_strings_asciiSpace : DataW Unit).lay Tryz.prog 856 21).getD ([], [])
theorem h7 : (Rows.laid_strings_asciiSpace : DataW Unit).lay Tryz.prog 856 21 = some Y7 := isSome_some (by kernel_rfl)
theorem n7 : 21 + Y7.2.length = 21 := by kernel_rfl
noncomputable def Y8 : List Value × List Obj := ((Rows.laid_unicode_CaseRanges : DataW Unit).lay Tryz.prog 1061 21).getD ([], [])
theorem h8 : (Rows.laid_unicode_CaseRanges : DataW Unit).lay Tryz.prog 1061 21 = some Y8 := isSome_some (by kernel_rfl)
theorem n8 : 21 + Y8.2.length = 22 := by kernel_rfl
noncomputable def Y9 : List Value × List Obj := ((Rows.laid_unicode_utf8_first : DataW Unit).lay Tryz.prog 856 22).getD ([], [])
theorem h9 : (Rows.laid_unicode_utf8_first : DataW Unit).lay Tryz.prog 856 22 = some Y9 := isSome_some (by kernel_rfl)
theorem n9 : 22 + Y9.2.length = 22 := by kernel_rfl
noncomputable def Y : List (Nat × List Value) × List Obj := ([(9, Y0.1), (10, Y1.1), (8, Y2.1), (3, Y3.1), (6, Y4.1), (5, Y5.1), (4, Y6.1), (1, Y7.1), (7, Y8.1), (2, Y9.1)], Y0.2 ++ (Y1.2 ++ (Y2.2 ++ (Y3.2 ++ (Y4.2 ++ (Y5.2 ++ (Y6.2 ++ (Y7.2 ++ (Y8.2 ++ (Y9.2 ++ []))))))))))
theorem hY : Lay.layList Tryz.prog 17 Rows.topSharedBloomRow.laid = some Y := by
  have e9 := layList_cons' (P := Tryz.prog) (n := 22) (m := 22) (g := 2) (x := ("unicode/utf8.first", Rows.laid_unicode_utf8_first)) (gl := ⟨ "unicode/utf8.first", 856, none⟩) (by kernel_rfl) (by kernel_rfl) h9 n9 layList_nil
  have e8 := layList_cons' (P := Tryz.prog) (n := 21) (m := 22) (g := 7) (x := ("unicode.CaseRanges", Rows.laid_unicode_CaseRanges)) (gl := ⟨ "unicode.CaseRanges", 1061, none⟩) (by kernel_rfl) (by kernel_rfl) h8 n8 e9
  have e7 := layList_cons' (P := Tryz.prog) (n := 21) (m := 21) (g := 1) (x := ("strings.asciiSpace", Rows.laid_strings_asciiSpace)) (gl := ⟨ "strings.asciiSpace", 856, none⟩) (by kernel_rfl) (by kernel_rfl) h7 n7 e8
  have e6 := layList_cons' (P := Tryz.prog) (n := 19) (m := 21) (g := 4) (x := ("unicode.White_Space", Rows.laid_unicode_White_Space)) (gl := ⟨ "unicode.White_Space", 977, none⟩) (by kernel_rfl) (by kernel_rfl) h6 n6 e7
  have e5 := layList_cons' (P := Tryz.prog) (n := 18) (m := 19) (g := 5) (x := ("strconv.ErrSyntax", Rows.laid_strconv_ErrSyntax)) (gl := ⟨ "strconv.ErrSyntax", 609, none⟩) (by kernel_rfl) (by kernel_rfl) h5 n5 e6
  have e4 := layList_cons' (P := Tryz.prog) (n := 17) (m := 18) (g := 6) (x := ("strconv.ErrRange", Rows.laid_strconv_ErrRange)) (gl := ⟨ "strconv.ErrRange", 609, none⟩) (by kernel_rfl) (by kernel_rfl) h4 n4 e5
  have e3 := layList_cons' (P := Tryz.prog) (n := 17) (m := 17) (g := 3) (x := ("unicode/utf8.acceptRanges", Rows.laid_unicode_utf8_acceptRanges)) (gl := ⟨ "unicode/utf8.acceptRanges", 972, none⟩) (by kernel_rfl) (by kernel_rfl) h3 n3 e4
  have e2 := layList_cons' (P := Tryz.prog) (n := 17) (m := 17) (g := 8) (x := ("internal/strconv.uint64pow10", Rows.laid_internal_strconv_uint64pow10)) (gl := ⟨ "internal/strconv.uint64pow10", 1119, none⟩) (by kernel_rfl) (by kernel_rfl) h2 n2 e3
  have e1 := layList_cons' (P := Tryz.prog) (n := 17) (m := 17) (g := 10) (x := ("math/bits.deBruijn64tab", Rows.laid_math_bits_deBruijn64tab)) (gl := ⟨ "math/bits.deBruijn64tab", 1150, none⟩) (by kernel_rfl) (by kernel_rfl) h1 n1 e2
  have e0 := layList_cons' (P := Tryz.prog) (n := 17) (m := 17) (g := 9) (x := ("math/bits.deBruijn32tab", Rows.laid_math_bits_deBruijn32tab)) (gl := ⟨ "math/bits.deBruijn32tab", 1149, none⟩) (by kernel_rfl) (by kernel_rfl) h0 n0 e1
  exact e0
end Wit
end Go.Proofs.YtoplphimhbnelaaGreatDoor
