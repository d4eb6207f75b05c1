/-
  A part of the proof that the called functions turn nothing that came in, and that what they hand back lies apart; nothing is assumed.
-/
import Derived.Test.YtoplphimhbnelaaGreatDoorYQ1
import Derived.WalkLawsBesides
import Derived.Laws.Closers25b
import Derived.Deep.LoopGhost
import Derived.Deep.RegionHeld3
import Derived.Deep.RegionLaw
import Derived.Deep.QuietTactic
import Derived.BigQuiet
set_option linter.all false
set_option linter.unusedVariables false
set_option linter.unusedSimpArgs false
namespace Go.Proofs.YtoplphimhbnelaaGreatDoor
open Go.RowKit
set_option maxRecDepth 100000
set_option maxHeartbeats 6400000 in
theorem own_ownSharedBloom (w : World) (xs0 : ByteArray) (xa1 : Option Addr) (xn1 xc1 : Nat) (xz2 : Int) (xa3 : Option Addr) (xn3 xc3 : Nat) (xa4 : Option Addr) (xn4 xc4 : Nat) (xa5 : Option Addr) (xn5 xc5 : Nat) (hR1 : RowAt [.txt] w xa1 xn1) (hn1 : xn1 ≤ 2000000) (hc1 : xn1 ≤ xc1) (ha1 : xa1 = none → xc1 = 0) (hR3 : RowAt [.num .u8] w xa3 xn3) (hn3 : xn3 ≤ 2000000) (hc3 : xn3 ≤ xc3) (ha3 : xa3 = none → xc3 = 0) (hR4 : RowAt [.num .u8] w xa4 xn4) (hn4 : xn4 ≤ 2000000) (hc4 : xn4 ≤ xc4) (ha4 : xa4 = none → xc4 = 0) (hR5 : RowAt [.num .u8] w xa5 xn5) (hn5 : xn5 ≤ 2000000) (hc5 : xn5 ≤ xc5) (ha5 : xa5 = none → xc5 = 0) :
    Calls Tryz.prog 22 #[.agg #[.string xs0, .slice xa1 xn1 xc1, .int .i64 xz2, .slice xa3 xn3 xc3, .slice xa4 xn4 xc4, .slice xa5 xn5 xc5]] w fun e w' => ∃ (xg1 : Nat) (xg3 : Nat) (xg4 : Nat) (xg5 : Nat), e = .returned (.agg #[.string xs0, .slice (some ⟨xg1, 0, none⟩) xn1 (xn1 + 2), .int .i64 xz2, .slice (some ⟨xg3, 0, none⟩) xn3 (xn3 + 2), .slice (some ⟨xg4, 0, none⟩) xn4 (xn4 + 2), .slice (some ⟨xg5, 0, none⟩) xn5 (xn5 + 2)]) ∧ But (fun _ => False) w w' ∧ (w.heap.size ≤ xg1 ∧ RowNew [.txt] w' xg1 (xn1 + 2)) ∧ (w.heap.size ≤ xg3 ∧ RowNew [.num .u8] w' xg3 (xn3 + 2)) ∧ (w.heap.size ≤ xg4 ∧ RowNew [.num .u8] w' xg4 (xn4 + 2)) ∧ (w.heap.size ≤ xg5 ∧ RowNew [.num .u8] w' xg5 (xn5 + 2)) := by
  have hW1 : ∀ ad, xa1 = some ad → 0 < xn1 → ad.block ≠ w.heap.size := fun ad had h0 e => by have := ((hR1 ad had h0).2 0 h0).lt (by decide); omega
  have hW3 : ∀ ad, xa3 = some ad → 0 < xn3 → ad.block ≠ w.heap.size := fun ad had h0 e => by have := ((hR3 ad had h0).2 0 h0).lt (by decide); omega
  have hW4 : ∀ ad, xa4 = some ad → 0 < xn4 → ad.block ≠ w.heap.size := fun ad had h0 e => by have := ((hR4 ad had h0).2 0 h0).lt (by decide); omega
  have hW5 : ∀ ad, xa5 = some ad → 0 < xn5 → ad.block ≠ w.heap.size := fun ad had h0 e => by have := ((hR5 ad had h0).2 0 h0).lt (by decide); omega
  have u52 := Tryz.underlying52
  have c52 : Tryz.prog.cellsOf 52 = 6 := by kernel_rfl
  obtain ⟨w1, hw1⟩ : ∃ w1, ((w.alloc (.cells #[.string xs0, .slice xa1 xn1 xc1, .int .i64 xz2, .slice xa3 xn3 xc3, .slice xa4 xn4 xc4, .slice xa5 xn5 xc5] 52)).alloc (.cells #[.string ⟨#[]⟩, .slice none 0 0, .int .i64 0, .slice none 0 0, .slice none 0 0, .slice none 0 0] 52)) = w1 := ⟨_, rfl⟩
  have hs0 : (w.alloc (.cells #[.string xs0, .slice xa1 xn1 xc1, .int .i64 xz2, .slice xa3 xn3 xc3, .slice xa4 xn4 xc4, .slice xa5 xn5 xc5] 52)).heap.size = w.heap.size + 1 := by simp
  have hb1 : But (fun _ => False) w w1 := by rw [← hw1]; exact ((But.refl _ _).alloc _).alloc _
  have x1 : w1.heap[w.heap.size]? = some (.cells #[.string xs0, .slice xa1 xn1 xc1, .int .i64 xz2, .slice xa3 xn3 xc3, .slice xa4 xn4 xc4, .slice xa5 xn5 xc5] 52 (0, 0)) := by rw [← hw1, Below.heap_alloc _ _ _ (by simp)]; exact heap_alloc_new w _
  have r1 : w1.heap[w.heap.size + 1]? = some (.cells #[.string ⟨#[]⟩, .slice none 0 0, .int .i64 0, .slice none 0 0, .slice none 0 0, .slice none 0 0] 52 (0, 0)) := by rw [← hw1, ← hs0]; exact heap_alloc_new _ _
  have z1 : w.heap.size + 1 < w1.heap.size := lt_of_block r1
  clear hs0
  have hR1 := hR1.but (by decide) hb1 (by simp)
  have hR3 := hR3.but (by decide) hb1 (by simp)
  have hR4 := hR4.but (by decide) hb1 (by simp)
  have hR5 := hR5.but (by decide) hb1 (by simp)
  go_enter Tryz.func22, Tryz.ntmps22
  have H0 := copied_new copied_string (by decide) hR1 hn1 hc1 ha1
  have y1 : w1.cell? ⟨w.heap.size, 1, none⟩ = some (.slice xa1 xn1 xc1) := (cell_of_row _ _ 1 _ _ _ x1).trans rfl
  go_wp2_with fail
  refine H0.mono ?_
  rintro e w2 ⟨xg1, rfl, hbb, ⟨lg1, rw1⟩⟩
  clear H0 y1
  have x2 := hbb.to x1 (by simp)
  have r2 := hbb.to r1 (by simp)
  have z2 := hbb.size
  have hR3 := hR3.but (by decide) hbb (by simp)
  have hR4 := hR4.but (by decide) hbb (by simp)
  have hR5 := hR5.but (by decide) hbb (by simp)
  have y1 : w2.cell? ⟨w.heap.size, 1, none⟩ = some (.slice xa1 xn1 xc1) := (cell_of_row _ _ 1 _ _ _ x2).trans rfl
  have yf1 : w2.frozen? ⟨w.heap.size, 1, none⟩ = false := by simp [World.frozen?, x2]
  have hb2 := hb1.trans hbb (by simp)
  obtain ⟨w3, hw3⟩ : ∃ w3, (w2.setCell ⟨w.heap.size, 1, none⟩ (.slice (some ⟨xg1, 0, none⟩) xn1 (xn1 + 2))) = w3 := ⟨_, rfl⟩
  have x3 : w3.heap[w.heap.size]? = some (.cells #[.string xs0, .slice (some ⟨xg1, 0, none⟩) xn1 (xn1 + 2), .int .i64 xz2, .slice xa3 xn3 xc3, .slice xa4 xn4 xc4, .slice xa5 xn5 xc5] 52 (0, 0)) := by rw [← hw3]; exact (heap_setCell_same x2 _)
  have r3 : w3.heap[w.heap.size + 1]? = some (.cells #[.string ⟨#[]⟩, .slice none 0 0, .int .i64 0, .slice none 0 0, .slice none 0 0, .slice none 0 0] 52 (0, 0)) := by rw [← hw3, heap_setCell_far (by simp)]; exact r2
  have hb3 : But (fun _ => False) w w3 := by rw [← hw3]; exact hb2.setCell (by simp) _
  have z3 : w3.heap.size = w2.heap.size := by rw [← hw3]; simp only [size_setCell]
  have s3 : But (fun k => k = w.heap.size) w2 w3 := by rw [← hw3]; exact (But.refl (fun k => k = w.heap.size) w2).setCell (fun _ => rfl) _
  have hR3 := hR3.but (by decide) s3 (fun ad had h0 e => hW3 ad had h0 e)
  have hR4 := hR4.but (by decide) s3 (fun ad had h0 e => hW4 ad had h0 e)
  have hR5 := hR5.but (by decide) s3 (fun ad had h0 e => hW5 ad had h0 e)
  have rw1 := rw1.agree (s3.block _ rw1.lt (by have := rw1.lt; omega))
  clear x2 r2 x1 r1 hbb hb1 s3
  have H1 := copied_new copied_byte (by decide) hR3 hn3 hc3 ha3
  have y3 : w3.cell? ⟨w.heap.size, 3, none⟩ = some (.slice xa3 xn3 xc3) := (cell_of_row _ _ 3 _ _ _ x3).trans rfl
  go_wp2_with fail
  refine H1.mono ?_
  rintro e w4 ⟨xg3, rfl, hbb, ⟨lg3, rw3⟩⟩
  clear H1 y3
  have x4 := hbb.to x3 (by simp)
  have r4 := hbb.to r3 (by simp)
  have z4 := hbb.size
  have hR4 := hR4.but (by decide) hbb (by simp)
  have hR5 := hR5.but (by decide) hbb (by simp)
  have rw1 := rw1.agree (hbb.block _ rw1.lt (by simp))
  have y3 : w4.cell? ⟨w.heap.size, 3, none⟩ = some (.slice xa3 xn3 xc3) := (cell_of_row _ _ 3 _ _ _ x4).trans rfl
  have yf3 : w4.frozen? ⟨w.heap.size, 3, none⟩ = false := by simp [World.frozen?, x4]
  have hb4 := hb3.trans hbb (by simp)
  obtain ⟨w5, hw5⟩ : ∃ w5, (w4.setCell ⟨w.heap.size, 3, none⟩ (.slice (some ⟨xg3, 0, none⟩) xn3 (xn3 + 2))) = w5 := ⟨_, rfl⟩
  have x5 : w5.heap[w.heap.size]? = some (.cells #[.string xs0, .slice (some ⟨xg1, 0, none⟩) xn1 (xn1 + 2), .int .i64 xz2, .slice (some ⟨xg3, 0, none⟩) xn3 (xn3 + 2), .slice xa4 xn4 xc4, .slice xa5 xn5 xc5] 52 (0, 0)) := by rw [← hw5]; exact (heap_setCell_same x4 _)
  have r5 : w5.heap[w.heap.size + 1]? = some (.cells #[.string ⟨#[]⟩, .slice none 0 0, .int .i64 0, .slice none 0 0, .slice none 0 0, .slice none 0 0] 52 (0, 0)) := by rw [← hw5, heap_setCell_far (by simp)]; exact r4
  have hb5 : But (fun _ => False) w w5 := by rw [← hw5]; exact hb4.setCell (by simp) _
  have z5 : w5.heap.size = w4.heap.size := by rw [← hw5]; simp only [size_setCell]
  have s5 : But (fun k => k = w.heap.size) w4 w5 := by rw [← hw5]; exact (But.refl (fun k => k = w.heap.size) w4).setCell (fun _ => rfl) _
  have hR4 := hR4.but (by decide) s5 (fun ad had h0 e => hW4 ad had h0 e)
  have hR5 := hR5.but (by decide) s5 (fun ad had h0 e => hW5 ad had h0 e)
  have rw1 := rw1.agree (s5.block _ rw1.lt (by have := rw1.lt; omega))
  have rw3 := rw3.agree (s5.block _ rw3.lt (by have := rw3.lt; omega))
  clear x4 r4 x3 r3 hbb hb3 s5
  have H2 := copied_new copied_byte (by decide) hR4 hn4 hc4 ha4
  have y4 : w5.cell? ⟨w.heap.size, 4, none⟩ = some (.slice xa4 xn4 xc4) := (cell_of_row _ _ 4 _ _ _ x5).trans rfl
  go_wp2_with fail
  refine H2.mono ?_
  rintro e w6 ⟨xg4, rfl, hbb, ⟨lg4, rw4⟩⟩
  clear H2 y4
  have x6 := hbb.to x5 (by simp)
  have r6 := hbb.to r5 (by simp)
  have z6 := hbb.size
  have hR5 := hR5.but (by decide) hbb (by simp)
  have rw1 := rw1.agree (hbb.block _ rw1.lt (by simp))
  have rw3 := rw3.agree (hbb.block _ rw3.lt (by simp))
  have y4 : w6.cell? ⟨w.heap.size, 4, none⟩ = some (.slice xa4 xn4 xc4) := (cell_of_row _ _ 4 _ _ _ x6).trans rfl
  have yf4 : w6.frozen? ⟨w.heap.size, 4, none⟩ = false := by simp [World.frozen?, x6]
  have hb6 := hb5.trans hbb (by simp)
  obtain ⟨w7, hw7⟩ : ∃ w7, (w6.setCell ⟨w.heap.size, 4, none⟩ (.slice (some ⟨xg4, 0, none⟩) xn4 (xn4 + 2))) = w7 := ⟨_, rfl⟩
  have x7 : w7.heap[w.heap.size]? = some (.cells #[.string xs0, .slice (some ⟨xg1, 0, none⟩) xn1 (xn1 + 2), .int .i64 xz2, .slice (some ⟨xg3, 0, none⟩) xn3 (xn3 + 2), .slice (some ⟨xg4, 0, none⟩) xn4 (xn4 + 2), .slice xa5 xn5 xc5] 52 (0, 0)) := by rw [← hw7]; exact (heap_setCell_same x6 _)
  have r7 : w7.heap[w.heap.size + 1]? = some (.cells #[.string ⟨#[]⟩, .slice none 0 0, .int .i64 0, .slice none 0 0, .slice none 0 0, .slice none 0 0] 52 (0, 0)) := by rw [← hw7, heap_setCell_far (by simp)]; exact r6
  have hb7 : But (fun _ => False) w w7 := by rw [← hw7]; exact hb6.setCell (by simp) _
  have z7 : w7.heap.size = w6.heap.size := by rw [← hw7]; simp only [size_setCell]
  have s7 : But (fun k => k = w.heap.size) w6 w7 := by rw [← hw7]; exact (But.refl (fun k => k = w.heap.size) w6).setCell (fun _ => rfl) _
  have hR5 := hR5.but (by decide) s7 (fun ad had h0 e => hW5 ad had h0 e)
  have rw1 := rw1.agree (s7.block _ rw1.lt (by have := rw1.lt; omega))
  have rw3 := rw3.agree (s7.block _ rw3.lt (by have := rw3.lt; omega))
  have rw4 := rw4.agree (s7.block _ rw4.lt (by have := rw4.lt; omega))
  clear x6 r6 x5 r5 hbb hb5 s7
  have H3 := copied_new copied_byte (by decide) hR5 hn5 hc5 ha5
  have y5 : w7.cell? ⟨w.heap.size, 5, none⟩ = some (.slice xa5 xn5 xc5) := (cell_of_row _ _ 5 _ _ _ x7).trans rfl
  go_wp2_with fail
  refine H3.mono ?_
  rintro e w8 ⟨xg5, rfl, hbb, ⟨lg5, rw5⟩⟩
  clear H3 y5
  have x8 := hbb.to x7 (by simp)
  have r8 := hbb.to r7 (by simp)
  have z8 := hbb.size
  have rw1 := rw1.agree (hbb.block _ rw1.lt (by simp))
  have rw3 := rw3.agree (hbb.block _ rw3.lt (by simp))
  have rw4 := rw4.agree (hbb.block _ rw4.lt (by simp))
  have y5 : w8.cell? ⟨w.heap.size, 5, none⟩ = some (.slice xa5 xn5 xc5) := (cell_of_row _ _ 5 _ _ _ x8).trans rfl
  have yf5 : w8.frozen? ⟨w.heap.size, 5, none⟩ = false := by simp [World.frozen?, x8]
  have hb8 := hb7.trans hbb (by simp)
  obtain ⟨w9, hw9⟩ : ∃ w9, (w8.setCell ⟨w.heap.size, 5, none⟩ (.slice (some ⟨xg5, 0, none⟩) xn5 (xn5 + 2))) = w9 := ⟨_, rfl⟩
  have x9 : w9.heap[w.heap.size]? = some (.cells #[.string xs0, .slice (some ⟨xg1, 0, none⟩) xn1 (xn1 + 2), .int .i64 xz2, .slice (some ⟨xg3, 0, none⟩) xn3 (xn3 + 2), .slice (some ⟨xg4, 0, none⟩) xn4 (xn4 + 2), .slice (some ⟨xg5, 0, none⟩) xn5 (xn5 + 2)] 52 (0, 0)) := by rw [← hw9]; exact (heap_setCell_same x8 _)
  have r9 : w9.heap[w.heap.size + 1]? = some (.cells #[.string ⟨#[]⟩, .slice none 0 0, .int .i64 0, .slice none 0 0, .slice none 0 0, .slice none 0 0] 52 (0, 0)) := by rw [← hw9, heap_setCell_far (by simp)]; exact r8
  have hb9 : But (fun _ => False) w w9 := by rw [← hw9]; exact hb8.setCell (by simp) _
  have z9 : w9.heap.size = w8.heap.size := by rw [← hw9]; simp only [size_setCell]
  have s9 : But (fun k => k = w.heap.size) w8 w9 := by rw [← hw9]; exact (But.refl (fun k => k = w.heap.size) w8).setCell (fun _ => rfl) _
  have rw1 := rw1.agree (s9.block _ rw1.lt (by have := rw1.lt; omega))
  have rw3 := rw3.agree (s9.block _ rw3.lt (by have := rw3.lt; omega))
  have rw4 := rw4.agree (s9.block _ rw4.lt (by have := rw4.lt; omega))
  have rw5 := rw5.agree (s9.block _ rw5.lt (by have := rw5.lt; omega))
  clear x8 r8 x7 r7 hbb hb7 s9
  have q0 : w9.cell? ⟨w.heap.size, 0, none⟩ = some (.string xs0) := (cell_of_row _ _ 0 _ _ _ x9).trans rfl
  have q1 : w9.cell? ⟨w.heap.size, 1, none⟩ = some (.slice (some ⟨xg1, 0, none⟩) xn1 (xn1 + 2)) := (cell_of_row _ _ 1 _ _ _ x9).trans rfl
  have q2 : w9.cell? ⟨w.heap.size, 2, none⟩ = some (.int .i64 xz2) := (cell_of_row _ _ 2 _ _ _ x9).trans rfl
  have q3 : w9.cell? ⟨w.heap.size, 3, none⟩ = some (.slice (some ⟨xg3, 0, none⟩) xn3 (xn3 + 2)) := (cell_of_row _ _ 3 _ _ _ x9).trans rfl
  have q4 : w9.cell? ⟨w.heap.size, 4, none⟩ = some (.slice (some ⟨xg4, 0, none⟩) xn4 (xn4 + 2)) := (cell_of_row _ _ 4 _ _ _ x9).trans rfl
  have q5 : w9.cell? ⟨w.heap.size, 5, none⟩ = some (.slice (some ⟨xg5, 0, none⟩) xn5 (xn5 + 2)) := (cell_of_row _ _ 5 _ _ _ x9).trans rfl
  have p0 : w9.cell? ⟨w.heap.size + 1, 0, none⟩ = some (.string ⟨#[]⟩) := (cell_of_row _ _ 0 _ _ _ r9).trans rfl
  have p1 : w9.cell? ⟨w.heap.size + 1, 1, none⟩ = some (.slice none 0 0) := (cell_of_row _ _ 1 _ _ _ r9).trans rfl
  have p2 : w9.cell? ⟨w.heap.size + 1, 2, none⟩ = some (.int .i64 0) := (cell_of_row _ _ 2 _ _ _ r9).trans rfl
  have p3 : w9.cell? ⟨w.heap.size + 1, 3, none⟩ = some (.slice none 0 0) := (cell_of_row _ _ 3 _ _ _ r9).trans rfl
  have p4 : w9.cell? ⟨w.heap.size + 1, 4, none⟩ = some (.slice none 0 0) := (cell_of_row _ _ 4 _ _ _ r9).trans rfl
  have p5 : w9.cell? ⟨w.heap.size + 1, 5, none⟩ = some (.slice none 0 0) := (cell_of_row _ _ 5 _ _ _ r9).trans rfl
  have pf0 : w9.frozen? ⟨w.heap.size + 1, 0, none⟩ = false := by simp [World.frozen?, r9]
  have pf1 : w9.frozen? ⟨w.heap.size + 1, 1, none⟩ = false := by simp [World.frozen?, r9]
  have pf2 : w9.frozen? ⟨w.heap.size + 1, 2, none⟩ = false := by simp [World.frozen?, r9]
  have pf3 : w9.frozen? ⟨w.heap.size + 1, 3, none⟩ = false := by simp [World.frozen?, r9]
  have pf4 : w9.frozen? ⟨w.heap.size + 1, 4, none⟩ = false := by simp [World.frozen?, r9]
  have pf5 : w9.frozen? ⟨w.heap.size + 1, 5, none⟩ = false := by simp [World.frozen?, r9]
  go_wp2_with fail
  obtain ⟨w99, hw99⟩ : ∃ w99, w99 = ((((((w9.setCell ⟨w.heap.size + 1, 0, none⟩ (.string xs0)).setCell ⟨w.heap.size + 1, 1, none⟩ (.slice (some ⟨xg1, 0, none⟩) xn1 (xn1 + 2))).setCell ⟨w.heap.size + 1, 2, none⟩ (.int .i64 xz2)).setCell ⟨w.heap.size + 1, 3, none⟩ (.slice (some ⟨xg3, 0, none⟩) xn3 (xn3 + 2))).setCell ⟨w.heap.size + 1, 4, none⟩ (.slice (some ⟨xg4, 0, none⟩) xn4 (xn4 + 2))).setCell ⟨w.heap.size + 1, 5, none⟩ (.slice (some ⟨xg5, 0, none⟩) xn5 (xn5 + 2))) := ⟨_, rfl⟩
  have e99 : w99 = stores w9 (w.heap.size + 1) 0 [.string xs0, .slice (some ⟨xg1, 0, none⟩) xn1 (xn1 + 2), .int .i64 xz2, .slice (some ⟨xg3, 0, none⟩) xn3 (xn3 + 2), .slice (some ⟨xg4, 0, none⟩) xn4 (xn4 + 2), .slice (some ⟨xg5, 0, none⟩) xn5 (xn5 + 2)] := hw99
  have r99 : w99.heap[w.heap.size + 1]? = some (.cells #[.string xs0, .slice (some ⟨xg1, 0, none⟩) xn1 (xn1 + 2), .int .i64 xz2, .slice (some ⟨xg3, 0, none⟩) xn3 (xn3 + 2), .slice (some ⟨xg4, 0, none⟩) xn4 (xn4 + 2), .slice (some ⟨xg5, 0, none⟩) xn5 (xn5 + 2)] 52 (0, 0)) := by
    rw [e99]; exact stores_all r9 _ rfl
  have hb99 : But (fun _ => False) w w99 := by rw [e99]; exact stores_but (by simp) _ _ _ hb9
  have rw1 := rw1.agree (w' := w99) (by rw [e99, stores_far (by omega)])
  have rw3 := rw3.agree (w' := w99) (by rw [e99, stores_far (by omega)])
  have rw4 := rw4.agree (w' := w99) (by rw [e99, stores_far (by omega)])
  have rw5 := rw5.agree (w' := w99) (by rw [e99, stores_far (by omega)])
  have t0 : w99.cell? ⟨w.heap.size + 1, 0, none⟩ = some (.string xs0) := (cell_of_row _ _ 0 _ _ _ r99).trans rfl
  have t1 : w99.cell? ⟨w.heap.size + 1, 1, none⟩ = some (.slice (some ⟨xg1, 0, none⟩) xn1 (xn1 + 2)) := (cell_of_row _ _ 1 _ _ _ r99).trans rfl
  have t2 : w99.cell? ⟨w.heap.size + 1, 2, none⟩ = some (.int .i64 xz2) := (cell_of_row _ _ 2 _ _ _ r99).trans rfl
  have t3 : w99.cell? ⟨w.heap.size + 1, 3, none⟩ = some (.slice (some ⟨xg3, 0, none⟩) xn3 (xn3 + 2)) := (cell_of_row _ _ 3 _ _ _ r99).trans rfl
  have t4 : w99.cell? ⟨w.heap.size + 1, 4, none⟩ = some (.slice (some ⟨xg4, 0, none⟩) xn4 (xn4 + 2)) := (cell_of_row _ _ 4 _ _ _ r99).trans rfl
  have t5 : w99.cell? ⟨w.heap.size + 1, 5, none⟩ = some (.slice (some ⟨xg5, 0, none⟩) xn5 (xn5 + 2)) := (cell_of_row _ _ 5 _ _ _ r99).trans rfl
  rw [← hw99]
  clear hw99 e99
  refine bodyPost_ret (v := .agg #[.string xs0, .slice (some ⟨xg1, 0, none⟩) xn1 (xn1 + 2), .int .i64 xz2, .slice (some ⟨xg3, 0, none⟩) xn3 (xn3 + 2), .slice (some ⟨xg4, 0, none⟩) xn4 (xn4 + 2), .slice (some ⟨xg5, 0, none⟩) xn5 (xn5 + 2)]) (by simp [results, Tryz.results22, go_sem, t0, t1, t2, t3, t4, t5]) rfl ⟨xg1, xg3, xg4, xg5, rfl, hb99, ⟨by omega, rw1⟩, ⟨by omega, rw3⟩, ⟨by omega, rw4⟩, ⟨by omega, rw5⟩⟩
end Go.Proofs.YtoplphimhbnelaaGreatDoor
namespace Go.Proofs.YtoplphimhbnelaaGreatDoor
open Go.RowKit
set_option maxRecDepth 100000
/-- x, as it came in. -/
structure X_Bloom (W : World) (xs0 : ByteArray) (xa1 : Option Addr) (xn1 xc1 : Nat) (xz2 : Int) (xa3 : Option Addr) (xn3 xc3 : Nat) (xa4 : Option Addr) (xn4 xc4 : Nat) (xa5 : Option Addr) (xn5 xc5 : Nat) : Prop where
  le1 : xn1 ≤ xc1
  cap1 : xc1 ≤ maxLen
  nil1 : xa1 = none → xc1 = 0
  row1 : RowAt [.txt] W xa1 xn1
  big1 : xn1 ≤ 1048576
  le3 : xn3 ≤ xc3
  cap3 : xc3 ≤ maxLen
  nil3 : xa3 = none → xc3 = 0
  row3 : RowAt [.num .u8] W xa3 xn3
  big3 : xn3 ≤ 1048576
  le4 : xn4 ≤ xc4
  cap4 : xc4 ≤ maxLen
  nil4 : xa4 = none → xc4 = 0
  row4 : RowAt [.num .u8] W xa4 xn4
  big4 : xn4 ≤ 1048576
  le5 : xn5 ≤ xc5
  cap5 : xc5 ≤ maxLen
  nil5 : xa5 = none → xc5 = 0
  row5 : RowAt [.num .u8] W xa5 xn5
  big5 : xn5 ≤ 1048576
  k0 : xs0.size ≤ maxLen
  k2 : InK .i64 xz2
/-- y, the copy that a call is given. -/
structure Y_Bloom (K : Nat → Prop) (v : World) (Y : Nat) (xs0 : ByteArray) (xa1 : Option Addr) (xn1 xc1 : Nat) (xz2 : Int) (xa3 : Option Addr) (xn3 xc3 : Nat) (xa4 : Option Addr) (xn4 xc4 : Nat) (xa5 : Option Addr) (xn5 xc5 : Nat) (xg1 : Nat) (xg3 : Nat) (xg4 : Nat) (xg5 : Nat) : Prop where
  y : v.heap[Y]? = some (.cells #[.string xs0, .slice (some ⟨xg1, 0, none⟩) xn1 (xn1 + 2), .int .i64 xz2, .slice (some ⟨xg3, 0, none⟩) xn3 (xn3 + 2), .slice (some ⟨xg4, 0, none⟩) xn4 (xn4 + 2), .slice (some ⟨xg5, 0, none⟩) xn5 (xn5 + 2)] 52 (0, 0))
  inK : K Y
  new1 : K xg1 ∧ RowNew [.txt] v xg1 (xn1 + 2)
  few1 : xn1 ≤ 1048576
  new3 : K xg3 ∧ RowNew [.num .u8] v xg3 (xn3 + 2)
  few3 : xn3 ≤ 2000
  new4 : K xg4 ∧ RowNew [.num .u8] v xg4 (xn4 + 2)
  few4 : xn4 ≤ 2000
  new5 : K xg5 ∧ RowNew [.num .u8] v xg5 (xn5 + 2)
  few5 : xn5 ≤ 2000
  k0 : xs0.size ≤ maxLen
  k2 : InK .i64 xz2
def YP_Bloom (K : Nat → Prop) (v : World) (Y : Nat) : Prop := ∃ (xs0 : ByteArray) (xa1 : Option Addr) (xn1 xc1 : Nat) (xz2 : Int) (xa3 : Option Addr) (xn3 xc3 : Nat) (xa4 : Option Addr) (xn4 xc4 : Nat) (xa5 : Option Addr) (xn5 xc5 : Nat) (xg1 : Nat) (xg3 : Nat) (xg4 : Nat) (xg5 : Nat), Y_Bloom K v Y xs0 xa1 xn1 xc1 xz2 xa3 xn3 xc3 xa4 xn4 xc4 xa5 xn5 xc5 xg1 xg3 xg4 xg5
theorem yag_Bloom (K : Nat → Prop) (v v' : World) (Y : Nat) (ha : Agree K v v') (h : YP_Bloom K v Y) : YP_Bloom K v' Y := by
  obtain ⟨xs0, xa1, xn1, xc1, xz2, xa3, xn3, xc3, xa4, xn4, xc4, xa5, xn5, xc5, xg1, xg3, xg4, xg5, h⟩ := h
  exact ⟨xs0, xa1, xn1, xc1, xz2, xa3, xn3, xc3, xa4, xn4, xc4, xa5, xn5, xc5, xg1, xg3, xg4, xg5, { h with y := (ha Y h.inK).trans h.y, new1 := ⟨h.new1.1, h.new1.2.agree (ha _ h.new1.1)⟩, new3 := ⟨h.new3.1, h.new3.2.agree (ha _ h.new3.1)⟩, new4 := ⟨h.new4.1, h.new4.2.agree (ha _ h.new4.1)⟩, new5 := ⟨h.new5.1, h.new5.2.agree (ha _ h.new5.1)⟩ }⟩
theorem yfit_Bloom (K : Nat → Prop) (v : World) (Y : Nat) (h : YP_Bloom K v Y) : K Y ∧ S_seeSharedBloom.fit K true true v Y 0 ∧ S_seeSharedBloom.few true v Y 0 ≤ 2000000000000 := by
  obtain ⟨xs0, xa1, xn1, xc1, xz2, xa3, xn3, xc3, xa4, xn4, xc4, xa5, xn5, xc5, xg1, xg3, xg4, xg5, h⟩ := h
  have f0_ : strS.fit K true true v Y 0 := fitsBy_txt.fit (cells_of_list (ks := [.txt]) (vs := [.string xs0]) h.y rfl (.cons ⟨_, rfl, h.k0⟩ .nil) true)
  have e0_ : strS.few true v Y 0 ≤ 1 := fitsBy_txt.few true v Y 0
  have f1_ : S_strs.fit K true true v Y 1 := RowNew.fit (rm := true) h.new1.2 fitsBy_txt rfl (cell_of_row _ _ 1 _ _ _ h.y) (by omega) (by have := h.few1; unfold maxLen; omega) h.new1.1
  have e1_ : S_strs.few true v Y 1 ≤ (xn1 + 2) * 1 := all_few (rm := true) fitsBy_txt (cell_of_row _ _ 1 _ _ _ h.y)
  have q1_ := h.few1
  have f2_ : (numS .i64).fit K true true v Y 2 := (fitsBy_num .i64).fit (cells_of_list (ks := [.num .i64]) (vs := [.int .i64 xz2]) h.y rfl (.cons ⟨_, rfl, h.k2⟩ .nil) true)
  have e2_ : (numS .i64).few true v Y 2 ≤ 0 := (fitsBy_num .i64).few true v Y 2
  have f3_ : S_nums_byte.fit K true true v Y 3 := RowNew.fit (rm := true) h.new3.2 (fitsBy_num .u8) rfl (cell_of_row _ _ 3 _ _ _ h.y) (by omega) (by have := h.few3; unfold maxLen; omega) h.new3.1
  have e3_ : S_nums_byte.few true v Y 3 ≤ (xn3 + 2) * 0 := all_few (rm := true) (fitsBy_num .u8) (cell_of_row _ _ 3 _ _ _ h.y)
  have q3_ := h.few3
  have f4_ : S_nums_byte.fit K true true v Y 4 := RowNew.fit (rm := true) h.new4.2 (fitsBy_num .u8) rfl (cell_of_row _ _ 4 _ _ _ h.y) (by omega) (by have := h.few4; unfold maxLen; omega) h.new4.1
  have e4_ : S_nums_byte.few true v Y 4 ≤ (xn4 + 2) * 0 := all_few (rm := true) (fitsBy_num .u8) (cell_of_row _ _ 4 _ _ _ h.y)
  have q4_ := h.few4
  have f5_ : S_nums_byte.fit K true true v Y 5 := RowNew.fit (rm := true) h.new5.2 (fitsBy_num .u8) rfl (cell_of_row _ _ 5 _ _ _ h.y) (by omega) (by have := h.few5; unfold maxLen; omega) h.new5.1
  have e5_ : S_nums_byte.few true v Y 5 ≤ (xn5 + 2) * 0 := all_few (rm := true) (fitsBy_num .u8) (cell_of_row _ _ 5 _ _ _ h.y)
  have q5_ := h.few5
  have f0 : S_seeSharedBloom.fit K true true v Y 0 := by
    show strS.fit K true true v Y 0 ∧ S_strs.fit K true true v Y 1 ∧ (numS .i64).fit K true true v Y 2 ∧ S_nums_byte.fit K true true v Y 3 ∧ S_nums_byte.fit K true true v Y 4 ∧ S_nums_byte.fit K true true v Y 5 ∧ True
    exact ⟨f0_, f1_, f2_, f3_, f4_, f5_, trivial⟩
  have e0 : S_seeSharedBloom.few true v Y 0 ≤ 1048579 := by
    show strS.few true v Y 0 + (S_strs.few true v Y 1 + ((numS .i64).few true v Y 2 + (S_nums_byte.few true v Y 3 + (S_nums_byte.few true v Y 4 + (S_nums_byte.few true v Y 5 + (0)))))) ≤ _
    omega
  exact ⟨h.inK, f0, Nat.le_trans e0 (by omega)⟩
theorem first_Bloom {W : World} {xs0 : ByteArray} {xa1 : Option Addr} {xn1 xc1 : Nat} {xz2 : Int} {xa3 : Option Addr} {xn3 xc3 : Nat} {xa4 : Option Addr} {xn4 xc4 : Nat} {xa5 : Option Addr} {xn5 xc5 : Nat} (h : X_Bloom W xs0 xa1 xn1 xc1 xz2 xa3 xn3 xc3 xa4 xn4 xc4 xa5 xn5 xc5) (w1 : World) (hb : But (fun _ => False) W w1) (hx : w1.heap[W.heap.size]? = some (.cells #[.string xs0, .slice xa1 xn1 xc1, .int .i64 xz2, .slice xa3 xn3 xc3, .slice xa4 xn4 xc4, .slice xa5 xn5 xc5] 52 (0, 0))) :
    S_seeSharedBloom.fit (fun k => k ≤ W.heap.size) false false w1 W.heap.size 0 ∧ S_seeSharedBloom.few false w1 W.heap.size 0 ≤ 2000000000000 ∧
      ((S_seeSharedBloom.sees false w1 W.heap.size 0 ([], [])).1.length ≤ 2000 → weight (S_seeSharedBloom.sees false w1 W.heap.size 0 ([], [])).2 ≤ 2000 → xn3 ≤ 2000 ∧ xn4 ≤ 2000 ∧ xn5 ≤ 2000 ∧ True) := by
  have f0_ : strS.fit (fun k => k ≤ W.heap.size) false false w1 W.heap.size 0 := fitsBy_txt.fit (cells_of_list (ks := [.txt]) (vs := [.string xs0]) hx rfl (.cons ⟨_, rfl, h.k0⟩ .nil) false)
  have e0_ : strS.few false w1 W.heap.size 0 ≤ 1 := fitsBy_txt.few false w1 W.heap.size 0
  have f1_ : S_strs.fit (fun k => k ≤ W.heap.size) false false w1 W.heap.size 1 := RowAt.fit (h.row1.but (by decide) hb (by simp)) fitsBy_txt rfl (cell_of_row _ _ 1 _ _ _ hx) h.le1 h.cap1 h.nil1 (fun ad e h0 => Nat.le_of_lt (((h.row1 ad e h0).2 0 h0).lt (by decide)))
  have e1_ : S_strs.few false w1 W.heap.size 1 ≤ xn1 * 1 := all_few (rm := false) fitsBy_txt (cell_of_row _ _ 1 _ _ _ hx)
  have q1_ := h.big1
  have f2_ : (numS .i64).fit (fun k => k ≤ W.heap.size) false false w1 W.heap.size 2 := (fitsBy_num .i64).fit (cells_of_list (ks := [.num .i64]) (vs := [.int .i64 xz2]) hx rfl (.cons ⟨_, rfl, h.k2⟩ .nil) false)
  have e2_ : (numS .i64).few false w1 W.heap.size 2 ≤ 0 := (fitsBy_num .i64).few false w1 W.heap.size 2
  have f3_ : S_nums_byte.fit (fun k => k ≤ W.heap.size) false false w1 W.heap.size 3 := RowAt.fit (h.row3.but (by decide) hb (by simp)) (fitsBy_num .u8) rfl (cell_of_row _ _ 3 _ _ _ hx) h.le3 h.cap3 h.nil3 (fun ad e h0 => Nat.le_of_lt (((h.row3 ad e h0).2 0 h0).lt (by decide)))
  have e3_ : S_nums_byte.few false w1 W.heap.size 3 ≤ xn3 * 0 := all_few (rm := false) (fitsBy_num .u8) (cell_of_row _ _ 3 _ _ _ hx)
  have q3_ := h.big3
  have f4_ : S_nums_byte.fit (fun k => k ≤ W.heap.size) false false w1 W.heap.size 4 := RowAt.fit (h.row4.but (by decide) hb (by simp)) (fitsBy_num .u8) rfl (cell_of_row _ _ 4 _ _ _ hx) h.le4 h.cap4 h.nil4 (fun ad e h0 => Nat.le_of_lt (((h.row4 ad e h0).2 0 h0).lt (by decide)))
  have e4_ : S_nums_byte.few false w1 W.heap.size 4 ≤ xn4 * 0 := all_few (rm := false) (fitsBy_num .u8) (cell_of_row _ _ 4 _ _ _ hx)
  have q4_ := h.big4
  have f5_ : S_nums_byte.fit (fun k => k ≤ W.heap.size) false false w1 W.heap.size 5 := RowAt.fit (h.row5.but (by decide) hb (by simp)) (fitsBy_num .u8) rfl (cell_of_row _ _ 5 _ _ _ hx) h.le5 h.cap5 h.nil5 (fun ad e h0 => Nat.le_of_lt (((h.row5 ad e h0).2 0 h0).lt (by decide)))
  have e5_ : S_nums_byte.few false w1 W.heap.size 5 ≤ xn5 * 0 := all_few (rm := false) (fitsBy_num .u8) (cell_of_row _ _ 5 _ _ _ hx)
  have q5_ := h.big5
  have f0 : S_seeSharedBloom.fit (fun k => k ≤ W.heap.size) false false w1 W.heap.size 0 := by
    show strS.fit (fun k => k ≤ W.heap.size) false false w1 W.heap.size 0 ∧ S_strs.fit (fun k => k ≤ W.heap.size) false false w1 W.heap.size 1 ∧ (numS .i64).fit (fun k => k ≤ W.heap.size) false false w1 W.heap.size 2 ∧ S_nums_byte.fit (fun k => k ≤ W.heap.size) false false w1 W.heap.size 3 ∧ S_nums_byte.fit (fun k => k ≤ W.heap.size) false false w1 W.heap.size 4 ∧ S_nums_byte.fit (fun k => k ≤ W.heap.size) false false w1 W.heap.size 5 ∧ True
    exact ⟨f0_, f1_, f2_, f3_, f4_, f5_, trivial⟩
  have e0 : S_seeSharedBloom.few false w1 W.heap.size 0 ≤ 1048579 := by
    show strS.few false w1 W.heap.size 0 + (S_strs.few false w1 W.heap.size 1 + ((numS .i64).few false w1 W.heap.size 2 + (S_nums_byte.few false w1 W.heap.size 3 + (S_nums_byte.few false w1 W.heap.size 4 + (S_nums_byte.few false w1 W.heap.size 5 + (0)))))) ≤ _
    omega
  have m3 : min xn3 200000 ≤ (S_seeSharedBloom.sees false w1 W.heap.size 0 ([], [])).1.length := (sees_ge (q := 0) (pre := [(0, 42, strS), (1, 40, S_strs), (2, 43, (numS .i64))]) (d := 3) (f := 27) (A := S_nums_byte) (r := [(4, 27, S_nums_byte), (5, 27, S_nums_byte)]) (mono_cons (all_mono (fitsBy_num .u8)) (mono_cons (all_mono (fitsBy_num .u8)) mono_nil)) (fun s => all_grow (m := 0) (fitsBy_num .u8) (cell_of_row _ _ 3 _ _ _ hx) (fun e => by have := h.nil3 e; have := h.le3; omega) s)) ([], [])
  have m4 : min xn4 200000 ≤ (S_seeSharedBloom.sees false w1 W.heap.size 0 ([], [])).1.length := (sees_ge (q := 0) (pre := [(0, 42, strS), (1, 40, S_strs), (2, 43, (numS .i64)), (3, 27, S_nums_byte)]) (d := 4) (f := 27) (A := S_nums_byte) (r := [(5, 27, S_nums_byte)]) (mono_cons (all_mono (fitsBy_num .u8)) mono_nil) (fun s => all_grow (m := 0) (fitsBy_num .u8) (cell_of_row _ _ 4 _ _ _ hx) (fun e => by have := h.nil4 e; have := h.le4; omega) s)) ([], [])
  have m5 : min xn5 200000 ≤ (S_seeSharedBloom.sees false w1 W.heap.size 0 ([], [])).1.length := (sees_ge (q := 0) (pre := [(0, 42, strS), (1, 40, S_strs), (2, 43, (numS .i64)), (3, 27, S_nums_byte), (4, 27, S_nums_byte)]) (d := 5) (f := 27) (A := S_nums_byte) (r := []) mono_nil (fun s => all_grow (m := 0) (fitsBy_num .u8) (cell_of_row _ _ 5 _ _ _ hx) (fun e => by have := h.nil5 e; have := h.le5; omega) s)) ([], [])
  exact ⟨f0, Nat.le_trans e0 (by omega), fun hl _ => ⟨by omega, by omega, by omega, trivial⟩⟩
/-- The whole call of apart. -/
theorem apart_Bloom {W : World} {xs0 : ByteArray} {xa1 : Option Addr} {xn1 xc1 : Nat} {xz2 : Int} {xa3 : Option Addr} {xn3 xc3 : Nat} {xa4 : Option Addr} {xn4 xc4 : Nat} {xa5 : Option Addr} {xn5 xc5 : Nat} (h : X_Bloom W xs0 xa1 xn1 xc1 xz2 xa3 xn3 xc3 xa4 xn4 xc4 xa5 xn5 xc5) (C0 : Nat)
    (hcalls : ∀ k, k < 4 → (∃ f, W.cell? ⟨C0, k, none⟩ = some (.func (.func f) #[] #[]) ∧ DoorNil YP_Bloom f ∧ Open1 f) ∨ (∃ f g, W.cell? ⟨C0, k, none⟩ = some (.func (.func f) #[] #[]) ∧ DoorOne YP_Bloom f g ∧ Looks g ∧ Open1 f ∧ Open1 g)) :
    Calls Tryz.prog 21 #[.agg #[.string xs0, .slice xa1 xn1 xc1, .int .i64 xz2, .slice xa3 xn3 xc3, .slice xa4 xn4 xc4, .slice xa5 xn5 xc5], .func (.func 22) #[] #[], .func (.func 23) #[] #[], .slice (some ⟨C0, 0, none⟩) 4 4] W fun e w' => e = .returned (.bool true) ∧ But (fun _ => False) W w' := by
  refine apart_walk_Bloom S_seeSharedBloom impl_seeSharedBloom (by decide) YP_Bloom yag_Bloom yfit_Bloom W xs0 xa1 xn1 xc1 xz2 xa3 xn3 xc3 xa4 xn4 xc4 xa5 xn5 xc5 C0 (xn3 ≤ 2000 ∧ xn4 ≤ 2000 ∧ xn5 ≤ 2000 ∧ True) (first_Bloom h) (fun hs w hb => ?_) hcalls
  refine (own_ownSharedBloom w xs0 xa1 xn1 xc1 xz2 xa3 xn3 xc3 xa4 xn4 xc4 xa5 xn5 xc5 (h.row1.but (by decide) hb (by simp)) (by have := h.big1; omega) h.le1 h.nil1 (h.row3.but (by decide) hb (by simp)) (by have := h.big3; omega) h.le3 h.nil3 (h.row4.but (by decide) hb (by simp)) (by have := h.big4; omega) h.le4 h.nil4 (h.row5.but (by decide) hb (by simp)) (by have := h.big5; omega) h.le5 h.nil5).mono ?_
  rintro e w' ⟨xg1, xg3, xg4, xg5, rfl, hb', ⟨l1, r1⟩, ⟨l3, r3⟩, ⟨l4, r4⟩, ⟨l5, r5⟩⟩
  refine ⟨xg1, xg3, xg4, xg5, rfl, hb', fun v ha hy => ⟨xs0, xa1, xn1, xc1, xz2, xa3, xn3, xc3, xa4, xn4, xc4, xa5, xn5, xc5, xg1, xg3, xg4, xg5, { y := hy, inK := ⟨hb'.size, Nat.le_refl _⟩, new1 := ⟨⟨l1, Nat.le_of_lt r1.lt⟩, r1.agree (ha _ ⟨l1, r1.lt⟩)⟩, new3 := ⟨⟨l3, Nat.le_of_lt r3.lt⟩, r3.agree (ha _ ⟨l3, r3.lt⟩)⟩, new4 := ⟨⟨l4, Nat.le_of_lt r4.lt⟩, r4.agree (ha _ ⟨l4, r4.lt⟩)⟩, new5 := ⟨⟨l5, Nat.le_of_lt r5.lt⟩, r5.agree (ha _ ⟨l5, r5.lt⟩)⟩, few1 := h.big1, few3 := hs.1, few4 := hs.2.1, few5 := hs.2.2.1, k0 := h.k0, k2 := h.k2 }⟩⟩
end Go.Proofs.YtoplphimhbnelaaGreatDoor
namespace Go.Proofs.YtoplphimhbnelaaGreatDoor
open Go.RowKit
set_option maxRecDepth 100000

/-- A slice that a call has made: it is empty, or its elements lie whole, in a row of its own from block B on. -/
def OutRow (ks : List Kd) (B : Nat) (w : World) (v : Value) (n : Nat) : Prop := (n = 0 ∧ ∃ a c, v = .slice a 0 c ∧ (a = none → c = 0) ∧ c ≤ maxLen) ∨ ∃ g c, v = .slice (some ⟨g, 0, none⟩) n c ∧ n ≤ c ∧ c ≤ maxLen ∧ B ≤ g ∧ RowNew ks w g n
theorem OutRow.nil (ks : List Kd) (B : Nat) (w : World) : OutRow ks B w (.slice none 0 0) 0 := .inl ⟨rfl, none, 0, rfl, fun _ => rfl, Nat.zero_le _⟩
theorem OutRow.agree {ks : List Kd} {B : Nat} {w w' : World} {v : Value} {n : Nat} (h : OutRow ks B w v n) (ha : ∀ g, B ≤ g → g < w.heap.size → w'.heap[g]? = w.heap[g]?) : OutRow ks B w' v n := by
  rcases h with h | ⟨g, c, rfl, h1, h2, h3, h4⟩
  · exact .inl h
  · exact .inr ⟨g, c, rfl, h1, h2, h3, h4.agree (ha g h3 h4.lt)⟩
theorem OutRow.but {S : Nat → Prop} {ks : List Kd} {B : Nat} {w w' : World} {v : Value} {n : Nat} (h : OutRow ks B w v n) (hb : But S w w') (hS : ∀ g, B ≤ g → g < w.heap.size → ¬ S g) : OutRow ks B w' v n :=
  h.agree fun g h1 h2 => hb.block g h2 (hS g h1 h2)
theorem OutRow.mono {ks : List Kd} {B B' : Nat} {w : World} {v : Value} {n : Nat} (h : OutRow ks B w v n) (hB : B' ≤ B) : OutRow ks B' w v n := by
  rcases h with h | ⟨g, c, h0, h1, h2, h3, h4⟩
  · exact .inl h
  · exact .inr ⟨g, c, h0, h1, h2, Nat.le_trans hB h3, h4⟩
theorem OutRow.form {ks : List Kd} {B : Nat} {w : World} {v : Value} {n : Nat} (h : OutRow ks B w v n) : ∃ o c, v = .slice o n c := by
  rcases h with ⟨rfl, a, c, rfl, -⟩ | ⟨g, c, rfl, -⟩
  · exact ⟨_, _, rfl⟩
  · exact ⟨_, _, rfl⟩
theorem OutRow.of_own {ks : List Kd} {B es n : Nat} {e : TypeId} {w : World} {v : Value} {xs : List Value} (h : w.ownsRow B e es v n xs) (hes : ks.length = es) (hx : ∀ i d k, i < n → ks[d]? = some k → ∃ u, xs[i * es + d]? = some u ∧ k.ok u) : OutRow ks B w v n := by
  rcases h.2 with ⟨rfl, rfl⟩ | ⟨g, cap, cur, rfl, hB, hg, h1, h2, h3, h4⟩
  · exact .nil _ _ _
  · refine .inr ⟨g, cap, rfl, h1, h2, hB, cur, e, hg, fun i hi d k hd => ?_⟩
    obtain ⟨u, hu, hk⟩ := hx i d k hi hd
    refine ⟨u, ?_, hk⟩
    have h5 : (cur.toList.take (n * es))[i * es + d]? = some u := by rw [h4]; exact hu
    rw [List.getElem?_take] at h5
    split at h5
    · simpa [hes] using h5
    · cases h5
theorem OutRow.fit {ks : List Kd} {B Bf m es : Nat} {K : Nat → Prop} {w : World} {v : Value} {n Y q : Nat} {A : Shape} (h : OutRow ks B w v n) (hA : FitsBy A ks Bf m) (hes : ks.length = es) (hv : w.cell? ⟨Y, q, none⟩ = some v) (hK : ∀ g, B ≤ g → g < w.heap.size → K g) :
    (allS es A).fit K true false w Y q ∧ (allS es A).few false w Y q ≤ n * Bf := by
  rcases h with ⟨rfl, a, c, rfl, h1, h2⟩ | ⟨g, c, rfl, h1, h2, h3, h4⟩
  · exact ⟨⟨a, 0, c, hv, Nat.zero_le _, h2, h1, fun ad e h0 => absurd h0 (Nat.lt_irrefl 0)⟩, all_few (rm := false) hA hv⟩
  · exact ⟨RowNew.fit (rm := false) h4 hA hes hv h1 h2 (hK g h3 h4.lt), all_few (rm := false) hA hv⟩

/-- What one closure's call leaves, told by the last world. -/
theorem out_done {g : FuncId} {S : Shape} (hI : Impl g S) (hbump : S.bump ≤ 500000) {w wf : World} {G A : Nat} (hb : But (fun _ => False) w wf)
    (hG : wf.heap[G]? = some (.cells #[.func (.func g) #[] #[.pointer (some ⟨A, 0, none⟩)]] 46 (0, 0))) (hA : A < wf.heap.size) (hAG : A ≠ G) (hA0 : w.heap.size ≤ A) (hG0 : w.heap.size ≤ G)
    (hf : S.fit (fun k => w.heap.size ≤ k ∧ k < wf.heap.size ∧ k ≠ G) true false wf A 0) (hfew : S.few false wf A 0 ≤ 2000000000000) :
    ∃ G' A' R, (Ending.returned (.slice (some ⟨G, 0, none⟩) 1 1)) = .returned (.slice (some ⟨G', 0, none⟩) 1 1) ∧ But (fun _ => False) w wf ∧ Gives g R wf G' A' ∧ w.heap.size ≤ G' ∧ ∀ k, R k → w.heap.size ≤ k ∧ k < wf.heap.size :=
  ⟨G, A, _, rfl, hb, ⟨hG, fun h => h.2.2 rfl, ⟨_, reads_of hI (fun k hk => hk.2.1) ⟨hA0, hA, hAG⟩ (hI.ok.weak hf) hbump hfew⟩, marks_of hI (fun k hk => hk.2.1) ⟨hA0, hA, hAG⟩ hf hbump hfew⟩, hG0, fun k hk => ⟨hk.1, hk.2.1⟩⟩

/-- The result's variable made behind the call: its block, then the closure's row. -/
theorem out_behind {w w1 : World} (hb : But (fun _ => False) w w1) (o1 o2 : Obj) : But (fun _ => False) w ((w1.alloc o1).alloc o2) ∧ ((w1.alloc o1).alloc o2).heap[w1.heap.size]? = some o1 ∧ ((w1.alloc o1).alloc o2).heap[w1.heap.size + 1]? = some o2 ∧
    ((w1.alloc o1).alloc o2).heap.size = w1.heap.size + 2 ∧ But (fun _ => False) w1 ((w1.alloc o1).alloc o2) := by
  have hs : (w1.alloc o1).heap.size = w1.heap.size + 1 := by simp
  refine ⟨(hb.alloc _).alloc _, ?_, ?_, by simp, ((But.refl _ _).alloc _).alloc _⟩
  · rw [Below.heap_alloc _ _ _ (by simp)]; exact heap_alloc_new w1 o1
  · rw [← hs]; exact heap_alloc_new _ o2
/-- What a call that hands one closure back leaves. -/
def DonePost (g : FuncId) (w : World) (e : Ending) (w' : World) : Prop := ∃ G A R, e = .returned (.slice (some ⟨G, 0, none⟩) 1 1) ∧ But (fun _ => False) w w' ∧ Gives g R w' G A ∧ w.heap.size ≤ G ∧ ∀ k, R k → w.heap.size ≤ k ∧ k < w'.heap.size
/-- A made slice, in a later world: it lies below what was made behind it. -/
theorem row_fit {ks : List Kd} {B Bf m es : Nat} {K S : Nat → Prop} {w w' : World} {v : Value} {n Y q : Nat} {A : Shape} (h : OutRow ks B w v n) (hb : But S w w') (hS : ∀ g, B ≤ g → g < w.heap.size → ¬ S g) (hA : FitsBy A ks Bf m) (hes : ks.length = es)
    (hv : w'.cell? ⟨Y, q, none⟩ = some v) (hK : ∀ g, B ≤ g → g < w.heap.size → K g) : (allS es A).fit K true false w' Y q ∧ (allS es A).few false w' Y q ≤ n * Bf := by
  rcases h with ⟨rfl, a, c, rfl, h1, h2⟩ | ⟨g, c, rfl, h1, h2, h3, h4⟩
  · exact ⟨⟨a, 0, c, hv, Nat.zero_le _, h2, h1, fun ad e h0 => absurd h0 (Nat.lt_irrefl 0)⟩, all_few (rm := false) hA hv⟩
  · exact ⟨RowNew.fit (rm := false) (h4.agree (hb.block g h4.lt (hS g h3 h4.lt))) hA hes hv h1 h2 (hK g h3 h4.lt), all_few (rm := false) hA hv⟩
/-- A slice as the result: its variable is made behind the call. -/
theorem row_done {g fn : FuncId} {S A : Shape} {ks : List Kd} {Bf m es : Nat} (hI : Impl g S) (hS : S = seqS (shp [(0, fn, allS es A)])) (hbump : S.bump ≤ 500000) (hA : FitsBy A ks Bf m) (hes : ks.length = es) {w w1 : World} {v : Value} {n : Nat}
    (hb : But (fun _ => False) w w1) (ho : OutRow ks w.heap.size w1 v n) (hn : n * Bf ≤ 1000000000000) (T : TypeId) :
    DonePost g w (.returned (.slice (some ⟨w1.heap.size + 1, 0, none⟩) 1 1)) ((w1.alloc (.cells #[v] T)).alloc (.cells #[.func (.func g) #[] #[.pointer (some ⟨w1.heap.size, 0, none⟩)]] 46)) := by
  obtain ⟨q1, q2, q3, q4, q5⟩ := out_behind hb (.cells #[v] T) (.cells #[.func (.func g) #[] #[.pointer (some ⟨w1.heap.size, 0, none⟩)]] 46)
  have hsz := hb.size
  obtain ⟨wf, hwf⟩ : ∃ wf, ((w1.alloc (.cells #[v] T)).alloc (.cells #[.func (.func g) #[] #[.pointer (some ⟨w1.heap.size, 0, none⟩)]] 46)) = wf := ⟨_, rfl⟩
  rw [hwf] at q1 q2 q3 q4 q5 ⊢
  have hf := row_fit ho q5 (by simp) hA hes (K := fun k => w.heap.size ≤ k ∧ k < wf.heap.size ∧ k ≠ w1.heap.size + 1) (cell_of_one q2) (fun k h1 h2 => ⟨h1, by omega, by omega⟩)
  subst hS
  exact out_done hI hbump q1 q3 (by rw [q4]; omega) (by omega) hsz (by omega) ⟨hf.1, trivial⟩ (Nat.le_trans (Nat.add_le_add hf.2 (Nat.le_refl 0)) (by omega))
/-- The same, its variable made ahead of the call. -/
theorem row_done2 {g fn : FuncId} {S A : Shape} {ks : List Kd} {Bf m es : Nat} (hI : Impl g S) (hS : S = seqS (shp [(0, fn, allS es A)])) (hbump : S.bump ≤ 500000) (hA : FitsBy A ks Bf m) (hes : ks.length = es) {w w1 : World} {v v0 : Value} {n B : Nat} {T : TypeId}
    (hb : But (fun _ => False) w w1) (hv0 : w1.heap[w.heap.size]? = some (.cells #[v0] T (0, 0))) (ho : OutRow ks B w1 v n) (hB : w.heap.size < B) (hn : n * Bf ≤ 1000000000000) :
    DonePost g w (.returned (.slice (some ⟨w1.heap.size, 0, none⟩) 1 1)) ((w1.setCell ⟨w.heap.size, 0, none⟩ v).alloc (.cells #[.func (.func g) #[] #[.pointer (some ⟨w.heap.size, 0, none⟩)]] 46)) := by
  have hl := lt_of_block hv0
  have hs := size_setCell w1 ⟨w.heap.size, 0, none⟩ v
  obtain ⟨wf, hwf⟩ : ∃ wf, (w1.setCell ⟨w.heap.size, 0, none⟩ v).alloc (.cells #[.func (.func g) #[] #[.pointer (some ⟨w.heap.size, 0, none⟩)]] 46) = wf := ⟨_, rfl⟩
  have q2 : wf.heap[w.heap.size]? = some (.cells #[v] T (0, 0)) := by rw [← hwf, Below.heap_alloc _ _ _ (by omega)]; exact one_setCell hv0
  have q3 : wf.heap[w1.heap.size]? = some (.cells #[.func (.func g) #[] #[.pointer (some ⟨w.heap.size, 0, none⟩)]] 46 (0, 0)) := by rw [← hwf, ← hs]; exact heap_alloc_new _ _
  have q4 : wf.heap.size = w1.heap.size + 1 := by rw [← hwf]; simp [hs]
  have q1 : But (fun _ => False) w wf := by rw [← hwf]; exact (hb.setCell (fun h => by simp at h) _).alloc _
  have q5 : But (fun k => k = w.heap.size) w1 wf := by rw [← hwf]; exact ((But.refl (fun k => k = w.heap.size) w1).setCell (fun _ => rfl) _).alloc _
  rw [hwf]
  have hf := row_fit ho q5 (fun k h1 h2 h3 => by omega) hA hes (K := fun k => w.heap.size ≤ k ∧ k < wf.heap.size ∧ k ≠ w1.heap.size) (cell_of_one q2) (fun k h1 h2 => ⟨by omega, by omega, by omega⟩)
  subst hS
  exact out_done hI hbump q1 q3 (by omega) (by omega) (Nat.le_refl _) (by omega) ⟨hf.1, trivial⟩ (Nat.le_trans (Nat.add_le_add hf.2 (Nat.le_refl 0)) (by omega))
/-- What a function that answers a row and something else answers. -/
def RowPost (ks : List Kd) (w : World) (e : Ending) (w' : World) : Prop := ∃ v n x, e = .returned (.tuple #[v, x]) ∧ OutRow ks w.heap.size w' v n ∧ n ≤ 100000000 ∧ But (fun _ => False) w w'
/-- What a function that answers a row answers. -/
def SlicePost (ks : List Kd) (w : World) (e : Ending) (w' : World) : Prop := ∃ v n, e = .returned v ∧ OutRow ks w.heap.size w' v n ∧ n ≤ 100000000 ∧ But (fun _ => False) w w'
/-- Whatever it answers. -/
def NilPost (w : World) (e : Ending) (w' : World) : Prop := (∃ v, e = .returned v) ∧ But (fun _ => False) w w'
/-- Bytes that lie whole. -/
def Bytes8 (w : World) (g n : Nat) : Prop := ∀ i, i < n → ∃ z, w.cell? ⟨g, i, none⟩ = some (.int .u8 z) ∧ 0 ≤ z ∧ z < 256
theorem RowNew.bytes {w : World} {g n m : Nat} (h : RowNew [.num .u8] w g m) (hn : n ≤ m) : Bytes8 w g n := fun i hi => by
  obtain ⟨cs, e, h1, h2⟩ := h
  obtain ⟨v, h3, z, rfl, h4⟩ := h2 i (by omega) 0 _ rfl
  refine ⟨z, (cell_of_row _ _ _ _ _ _ h1).trans (by simpa using h3), ?_⟩
  simp [InK, IntKind.min, IntKind.max, IntKind.bits, IntKind.signed] at h4
  omega
theorem Bytes8.but {S : Nat → Prop} {w w' : World} {g n : Nat} (h : Bytes8 w g n) (hb : But S w w') (hg : ¬ S g) : Bytes8 w' g n := fun i hi => by
  obtain ⟨z, h1, h2⟩ := h i hi
  exact ⟨z, (hb.cell (World.block_lt_of_cell? w _ h1) hg).trans h1, h2⟩
/-- Strings that lie whole. -/
def Strs (w : World) (g n : Nat) : Prop := ∀ i, i < n → ∃ s : ByteArray, w.cell? ⟨g, i, none⟩ = some (.string s) ∧ s.size ≤ maxLen
theorem RowNew.strs {w : World} {g n m : Nat} (h : RowNew [.txt] w g m) (hn : n ≤ m) : Strs w g n := fun i hi => by
  obtain ⟨cs, e, h1, h2⟩ := h
  obtain ⟨v, h3, s, rfl, h4⟩ := h2 i (by omega) 0 _ rfl
  exact ⟨s, (cell_of_row _ _ _ _ _ _ h1).trans (by simpa using h3), h4⟩
theorem Strs.but {S : Nat → Prop} {w w' : World} {g n : Nat} (h : Strs w g n) (hb : But S w w') (hg : ¬ S g) : Strs w' g n := fun i hi => by
  obtain ⟨z, h1, h2⟩ := h i hi
  exact ⟨z, (hb.cell (World.block_lt_of_cell? w _ h1) hg).trans h1, h2⟩
end Go.Proofs.YtoplphimhbnelaaGreatDoor
namespace Go.Proofs.YtoplphimhbnelaaGreatDoor
open Go.RowKit
set_option maxRecDepth 100000

theorem info5 : (Tryz.prog.info? 5).map (fun i => (i.zero, i.size, i.bytes)) = some (some (.int .u8 0), 1, 1) := by kernel_rfl

/-- The bytes of a slice of n elements, at whatever address. -/
def At (w : World) (a : Option Addr) (zs : List Int) : Prop := (∀ z ∈ zs, 0 ≤ z ∧ z < 256) ∧ ∀ i, i < zs.length → ∃ ad, a = some ad ∧ w.cell? (ad.add i) = some (.int .u8 (zs.getD i 0))

theorem At.but {S : Nat → Prop} {w w' : World} {a : Option Addr} {zs : List Int} (h : At w a zs) (hb : But S w w') (hs : ∀ k, k < w.heap.size → ¬ S k) : At w' a zs :=
  ⟨h.1, fun i hi => let ⟨ad, h1, h2⟩ := h.2 i hi; ⟨ad, h1, (hb.cell (World.block_lt_of_cell? w _ h2) (hs _ (World.block_lt_of_cell? w _ h2))).trans h2⟩⟩

/-- A value that owns the bytes ws, in blocks from B on. -/
structure Own5 (B : Nat) (w : World) (v : Value) (ws : List Int) : Prop where
  own : w.ownsRow B 5 1 v ws.length (ws.map (Value.int .u8))
  b : ∀ z ∈ ws, 0 ≤ z ∧ z < 256

theorem Own5.nil (B : Nat) (w : World) : Own5 B w (.slice none 0 0) [] := ⟨World.ownsRow_nil _ _ _ _, by simp⟩
theorem Own5.but {B : Nat} {w w' : World} {v : Value} {ws : List Int} (h : Own5 B w v ws) (hb : But (fun _ => False) w w') : Own5 B w' v ws :=
  ⟨h.own.kept (row := none) ⟨hb.os, hb.tape, hb.output, hb.size, fun k hk _ => hb.block k hk (by simp)⟩ (by cases hv : v.ownBlock <;> simp), h.b⟩
theorem Own5.at {B : Nat} {w : World} {v : Value} {ws : List Int} (h : Own5 B w v ws) : ∃ o c, v = .slice o ws.length c ∧ ws.length ≤ c ∧ c ≤ maxLen ∧ At w o ws ∧ (o = none → c = 0) := by
  have hl := h.own.1
  rcases h.own.2 with ⟨hv, h0⟩ | ⟨g, cap, cur, hv, -, hg, h1, h2, -, -⟩
  · rw [h0]
    exact ⟨none, 0, hv, Nat.le_refl _, Nat.zero_le _, ⟨h.b, fun i hi => by omega⟩, fun _ => rfl⟩
  · refine ⟨some ⟨g, 0, none⟩, cap, hv, h1, h2, ⟨h.b, fun i hi => ⟨_, rfl, ?_⟩⟩, by simp⟩
    exact h.own.cells (g := g) (by rw [hv]; rfl) i _ (by simp [hi])

/-- append onto what is owned, from whatever slice of bytes. -/
theorem append_run (w : World) (B : Nat) (v : Value) (xs : List Int) (hv : Own5 B w v xs) (a : Option Addr) (n c : Nat) (zs : List Int) (hz : zs.length = n) (hn : xs.length + n < 1000000000) (ha : a = none → c = 0) (h : At w a zs) (hB : B ≤ w.heap.size) (ty : TypeId) :
    ∃ v' w', (Builtin.append_ #[50, 50] ty #[v, .slice a n c]).run Tryz.prog w = .ok v' w' ∧ Own5 B w' v' (xs ++ zs) ∧ But (fun k => B ≤ k) w w' := by
  obtain ⟨i0, hi0, hz0, hz1, hz2⟩ := info_parts info5
  rcases a with _ | ad
  · obtain rfl : c = 0 := ha rfl
    have h0 : n = 0 := by
      rcases Nat.eq_zero_or_pos n with h0 | h0
      · exact h0
      · obtain ⟨ad, h1, _⟩ := h.2 0 (by omega); cases h1
    subst h0
    obtain rfl := List.eq_nil_of_length_eq_zero hz
    exact ⟨v, w, run_append_owned_none (P := Tryz.prog) w B 50 ty 5 i0 1 Tryz.underlying50 hi0 _ _ _ hv.own, by simpa using hv, But.refl _ _⟩
  · obtain ⟨v', w', h1, h2, h3, -⟩ := run_append_own (P := Tryz.prog) w B 50 ty 5 i0 _ 1 1 Tryz.underlying50 hi0 hz0 hz1 hz2 rfl (by omega) v _ _ hv.own ad n c (zs.map (Value.int .u8)) (by simp [hz]) (fun j u hj => by
      have hjn : j < zs.length := by simpa using (List.getElem?_eq_some_iff.1 hj).1
      obtain ⟨ad', h1, h2⟩ := h.2 j hjn
      obtain rfl := Option.some.inj h1
      rw [h2]
      simp [hjn] at hj
      simp [hjn, hj]) (fun u hu => by
      obtain ⟨z, _, rfl⟩ := List.mem_map.1 hu
      rfl) (by unfold maxLen; omega) (by omega) hB
    refine ⟨v', w', h1, ⟨by simpa [hz] using h2, fun z hz' => ?_⟩, ⟨h3.os, h3.tape, h3.output, h3.size, fun k hk hn' => h3.block k hk (fun e => hn' (hv.own.lt k e.symm).1)⟩⟩
    rcases List.mem_append.1 hz' with h0 | h0
    · exact hv.b z h0
    · exact h.1 z h0

theorem But.low {B : Nat} {w w1 w' : World} (h : But (fun _ => False) w w1) (k : But (fun k => B ≤ k) w1 w') (hB : w.heap.size ≤ B) : But (fun _ => False) w w' :=
  h.trans k (fun i hi hs => by omega)

theorem Own5.push {B : Nat} {w w' : World} {v v' : Value} {ws : List Int} {x : Int} (h : Own5 B w v ws) (h' : w'.ownsRow B 5 1 v' (ws.length + 1) (ws.map (Value.int .u8) ++ [.int .u8 x])) (hx : 0 ≤ x ∧ x < 256) : Own5 B w' v' (ws ++ [x]) :=
  ⟨by simpa using h', fun z hz => by
    rcases List.mem_append.1 hz with h0 | h0
    · exact h.b z h0
    · obtain rfl := List.mem_singleton.1 h0; exact hx⟩

theorem Own5.mono {B B' : Nat} {w : World} {v : Value} {ws : List Int} (h : Own5 B w v ws) (hB : B' ≤ B) : Own5 B' w v ws := by
  refine ⟨?_, h.b⟩
  obtain ⟨q1, q2⟩ := h.own
  refine ⟨q1, ?_⟩
  rcases q2 with q2 | ⟨g, cap, cur, p1, p2, p3⟩
  · exact .inl q2
  · exact .inr ⟨g, cap, cur, p1, Nat.le_trans hB p2, p3⟩

theorem Own5.store {B : Nat} {w : World} {g n cap q : Nat} {ws : List Int} {z : Int} (h : Own5 B w (.slice (some ⟨g, 0, none⟩) n cap) ws) (hn : ws.length = n) (hq : q < n) (hz : 0 ≤ z ∧ z < 256) :
    Own5 B (w.setCell ⟨g, q, none⟩ (.int .u8 z)) (.slice (some ⟨g, 0, none⟩) n cap) (ws.set q z) := by
  refine ⟨⟨by simp, ?_⟩, fun y hy => ?_⟩
  · rcases h.own.2 with ⟨hv, -⟩ | ⟨g', cap', cur, hv, q0, q1, q2, q3, q4, q5⟩
    · cases hv
    · cases hv
      refine .inr ⟨g, cap, cur.setIfInBounds q (.int .u8 z), by simp, q0, heap_setCell_same q1 _, by simpa using q2, q3, by simpa using q4, ?_⟩
      rw [List.length_set, Array.toList_setIfInBounds, List.take_set, q5, List.map_set]
  · rcases List.mem_or_eq_of_mem_set hy with h0 | h0
    · exact h.b y h0
    · rw [h0]; exact hz

theorem Own5.other {B : Nat} {w w' : World} {x : Value} {ws : List Int} (h : Own5 B w x ws) {row : Option Nat} (hg : w.grownBy w' row)
    (hr : ∀ k, row = some k → ∃ cs e fr, w.heap[k]? = some (.cells cs e fr) ∧ e ≠ 5) : Own5 B w' x ws := by
  refine ⟨h.own.kept hg ?_, h.b⟩
  rcases h.own.2 with ⟨hv, -⟩ | ⟨g, cap, cur, hv, -, hgg, -⟩
  · left; rw [hv]; rfl
  · right
    intro e
    rw [hv] at e
    obtain ⟨cs, el, fr, h1, h2⟩ := hr g e.symm
    rw [hgg] at h1
    injection h1 with h1
    injection h1 with q1 q2 q3
    exact h2 q2.symm

theorem Own5.out {B : Nat} {w : World} {v : Value} {ws : List Int} (h : Own5 B w v ws) : OutRow [.num .u8] B w v ws.length := by
  refine OutRow.of_own h.own rfl (fun i d k hi hd => ?_)
  cases d with
  | zero =>
    obtain rfl : Kd.num .u8 = k := by simpa using hd
    have hb := h.b (ws[i]'hi) (List.getElem_mem _)
    exact ⟨.int .u8 (ws[i]'hi), by simp [hi], ws[i]'hi, rfl, by simp [InK, IntKind.min, IntKind.max, IntKind.bits, IntKind.signed]; omega⟩
  | succ d => simp at hd
theorem Bytes8.at {w : World} {g n : Nat} (h : Bytes8 w g n) : ∃ zs : List Int, zs.length = n ∧ At w (some ⟨g, 0, none⟩) zs := by
  have key : ∀ m, m ≤ n → ∃ zs : List Int, zs.length = m ∧ (∀ z ∈ zs, 0 ≤ z ∧ z < 256) ∧ ∀ i, i < m → w.cell? ⟨g, i, none⟩ = some (.int .u8 (zs.getD i 0)) := by
    intro m
    induction m with
    | zero => exact fun _ => ⟨[], rfl, by simp, fun i hi => absurd hi (Nat.not_lt_zero _)⟩
    | succ m ih =>
      intro hm
      obtain ⟨zs, h1, h2, h3⟩ := ih (by omega)
      obtain ⟨z, h4, h5⟩ := h m (by omega)
      refine ⟨zs ++ [z], by simp [h1], fun y hy => ?_, fun i hi => ?_⟩
      · rcases List.mem_append.1 hy with e | e
        · exact h2 y e
        · obtain rfl := List.mem_singleton.1 e; exact h5
      · rcases Nat.lt_or_ge i m with e | e
        · rw [h3 i e]; simp [List.getD, List.getElem?_append_left (show i < zs.length by omega)]
        · obtain rfl : i = m := by omega
          rw [h4]; simp [List.getD, ← h1]
  obtain ⟨zs, h1, h2, h3⟩ := key n (Nat.le_refl _)
  exact ⟨zs, h1, h2, fun i hi => ⟨_, rfl, by
    have e : (⟨g, 0, none⟩ : Addr).add i = ⟨g, i, none⟩ := by unfold Addr.add; split <;> simp_all
    rw [e]; exact h3 i (by omega)⟩⟩
end Go.Proofs.YtoplphimhbnelaaGreatDoor
namespace Go.Proofs.YtoplphimhbnelaaGreatDoor
open Go.RowKit
set_option maxRecDepth 100000
attribute [local go_sem ↓] Go.wp_at_zero Go.wp_at_succ

set_option maxHeartbeats 1600000 in
theorem hash_call (w : World) (s : ByteArray) (hs : s.size ≤ maxLen) : Calls Tryz.prog 57 #[.string s] w fun e w' => (∃ h : Int, e = .returned (.int .u64 h) ∧ 0 ≤ h ∧ h < 18446744073709551616) ∧ w = w' := by
  unfold maxLen at hs
  go_enter Tryz.func57, Tryz.ntmps57
  go_wp2_with fail
  go_loop [3, 7] (fun h i => ∃ (k : Nat) (z : Int), k ≤ s.size ∧ i = .int .i64 k ∧ h = .int .u64 z ∧ 0 ≤ z ∧ z < 18446744073709551616) (fun _ i => s.size - (intOf i).toNat)
  case atStart => exact ⟨0, 14695981039346656037, Nat.zero_le _, rfl, rfl, by omega, by omega⟩
  case round =>
    obtain ⟨k, z, hk, rfl, rfl, hz0, hz1⟩ := hrel
    have hk0 : (0 : Int) ≤ (k : Int) := Int.natCast_nonneg _
    by_cases hlt : k < s.size
    · go_wp2_with fail
      go_round
      case rel => exact ⟨k + 1, _, by omega, by go_num, rfl, by rw [IntKind.wrap_u64]; omega, by rw [IntKind.wrap_u64]; omega⟩
      case measure => simp [intOf]; omega
    · obtain rfl : k = s.size := by omega
      go_wp2_with fail
      go_ret
      exact ⟨⟨z, rfl, hz0, hz1⟩, rfl⟩

set_option maxHeartbeats 1600000 in
theorem bit_call (w : World) (h : Int) (i m : Nat) (hh : 0 ≤ h ∧ h < 18446744073709551616) (hi : i ≤ 1000) (hm : 0 < m ∧ m ≤ 1000000000000) :
    Calls Tryz.prog 58 #[.int .u64 h, .int .i64 i, .int .i64 m] w fun e w' => (∃ r : Nat, e = .returned (.int .i64 r) ∧ r < m) ∧ w = w' := by
  have hi0 : (0 : Int) ≤ (i : Int) := Int.natCast_nonneg _
  have hm0 : (0 : Int) < (m : Int) := by omega
  have hm1 : (m : Int) ≤ 1000000000000 := by omega
  have hmw : IntKind.u64.wrap (m : Int) = (m : Int) := by rw [IntKind.wrap_u64]; omega
  have hA : ∀ A : Int, 0 ≤ A % (m : Int) ∧ A % (m : Int) < (m : Int) := fun A => ⟨Int.emod_nonneg A (by omega), Int.emod_lt_of_pos A hm0⟩
  have hW : ∀ A : Int, IntKind.i64.wrap (A % (m : Int)) = A % (m : Int) := fun A => by have := hA A; rw [IntKind.wrap_i64]; omega
  have hU : ∀ A : Int, IntKind.u64.wrap (A % (m : Int)) = A % (m : Int) := fun A => by have := hA A; rw [IntKind.wrap_u64]; omega
  have key : ∀ E : Int, 0 ≤ E ∧ E < (m : Int) → ∃ r : Nat, Ending.returned (.int .i64 E) = .returned (.int .i64 r) ∧ r < m := fun E h0 => ⟨E.toNat, by rw [Int.toNat_of_nonneg h0.1], by omega⟩
  go_enter Tryz.func58, Tryz.ntmps58
  go_wp2_with fail
  go_ret
  have h64 : ∀ A : Int, RowKit.wrap64 ((IntKind.u64.wrap A).tmod (m : Int)) = IntKind.u64.wrap A % (m : Int) := fun A => by
    have h1 : 0 ≤ IntKind.u64.wrap A := by rw [IntKind.wrap_u64]; omega
    rw [Int.tmod_eq_emod_of_nonneg h1]
    have := hA (IntKind.u64.wrap A)
    exact IntWalk.wrap64_in _ (by omega)
  refine ⟨key _ ?_, rfl⟩
  rw [h64]
  exact hA _

set_option maxHeartbeats 1600000 in
theorem bcheck_call (w : World) (g n c : Nat) (h : Bytes8 w g n) (hn : n ≤ 100000000) :
    Calls Tryz.prog 29 #[.slice (some ⟨g, 0, none⟩) n c] w fun e w' => (∃ k : Int, e = .returned (.int .i64 k) ∧ (k = 0 → 2 ≤ n ∧ ∃ z : Nat, w.cell? ⟨g, 0, none⟩ = some (.int .u8 z) ∧ 1 ≤ z ∧ z ≤ 12)) ∧ w = w' := by
  rcases Nat.lt_or_ge n 2 with h2 | h2
  · have h3 : (n : Int) < 2 := by omega
    have h4 : (0 : Int) ≤ n := by omega
    go_enter Tryz.func29, Tryz.ntmps29
    go_wp2_with fail
    go_ret
    exact ⟨⟨5, rfl, by omega⟩, rfl⟩
  · obtain ⟨z, hc, hz0⟩ := h 0 (by omega)
    have h3 : (2 : Int) ≤ (n : Int) := by omega
    clear h
    by_cases h1 : z < 1
    · go_enter Tryz.func29, Tryz.ntmps29
      go_wp2_with fail
      go_ret
      exact ⟨⟨5, rfl, by omega⟩, rfl⟩
    · by_cases h4 : 12 < z
      · go_enter Tryz.func29, Tryz.ntmps29
        go_wp2_with fail
        go_ret
        exact ⟨⟨5, rfl, by omega⟩, rfl⟩
      · obtain ⟨Z, rfl⟩ : ∃ Z : Nat, z = (Z : Int) := ⟨z.toNat, by omega⟩
        have HC := hc
        go_enter Tryz.func29, Tryz.ntmps29
        go_wp2_with fail
        go_ret
        refine ⟨⟨0, rfl, fun _ => ?_⟩, rfl⟩
        first
          | exact ⟨h2, Z, HC, by omega, by omega⟩
          | exact ⟨Z, HC, by omega, by omega⟩
          | exact ⟨Z, rfl, by omega, by omega⟩
          | exact ⟨h2, Z, rfl, by omega, by omega⟩

set_option maxHeartbeats 3200000 in
theorem has_call (w : World) (g n c : Nat) (key : ByteArray) (h : Bytes8 w g n) (hn : n ≤ 2000) (hk : key.size ≤ maxLen) :
    Calls Tryz.prog 31 #[.slice (some ⟨g, 0, none⟩) n c, .string key] w fun e w' => (∃ v, e = .returned v) ∧ w = w' := by
  have CC := bcheck_call w g n c h (by omega)
  have HH := hash_call w key hk
  have BB := fun (x : Int) (i : Nat) (h1 : 0 ≤ x ∧ x < 18446744073709551616) (h2 : i ≤ 1000) (h3 : 0 < 8 * (n - 1)) => bit_call w x i (8 * (n - 1)) h1 h2 ⟨h3, by omega⟩
  go_enter Tryz.func31, Tryz.ntmps31
  go_wp2_with fail
  refine CC.mono ?_
  rintro e w1 ⟨⟨k, rfl, hk2⟩, rfl⟩
  clear CC
  by_cases hk0 : k = 0
  · subst hk0
    obtain ⟨hn2, Z, hc, hz1, hz2⟩ := hk2 rfl
    clear hk2
    have hzi : (Z : Int) ≤ 12 := by omega
    have hzj : (0 : Int) ≤ (Z : Int) := by omega
    have hni : (2 : Int) ≤ (n : Int) := by omega
    have hwz : IntKind.i64.wrap (Z : Int) = Z := by rw [IntKind.wrap_i64]; omega
    go_wp2_with fail
    refine HH.mono ?_
    rintro e w1 ⟨⟨x, rfl, hx⟩, rfl⟩
    clear HH
    go_wp2_with fail
    go_loop [21] (fun i => ∃ k : Nat, k ≤ Z ∧ i = .int .i64 k) (fun i => Z - (intOf i).toNat)
    case atStart => exact ⟨0, Nat.zero_le _, rfl⟩
    case round =>
      obtain ⟨k, hk, rfl⟩ := hrel
      have hk0 : (0 : Int) ≤ (k : Int) := Int.natCast_nonneg _
      rcases Nat.lt_or_ge k Z with hkn | hkn
      · have hki : (k : Int) < (Z : Int) := by omega
        have B1 := BB x k hx (by omega) (by omega)
        have hm8 : ((8 * (n - 1) : Nat) : Int) = 8 * ((n : Int) - 1) := by omega
        rw [hm8] at B1
        go_wp2_with fail
        refine B1.mono ?_
        rintro e w1 ⟨⟨r, rfl, hr⟩, rfl⟩
        clear B1 BB
        obtain ⟨z, hz, hzz⟩ := h (1 + r / 8) (by omega)
        have hQ0 : (0 : Int) ≤ 1 + (r : Int) / 8 := by omega
        have hQ1 : 1 + (r : Int) / 8 < (n : Int) := by omega
        have hQ2 : (1 + (r : Int) / 8).toNat = 1 + r / 8 := by omega
        have hr0 : (0 : Int) ≤ (r : Int) := by omega
        go_wp2_with fail
        all_goals first
          | (go_ret2; exact ⟨⟨_, rfl⟩, rfl⟩)
          | (go_round
             case rel => exact ⟨k + 1, by omega, by go_num⟩
             case measure => simp [intOf]; omega)
      · obtain rfl : k = Z := by omega
        go_wp2_with fail
        go_ret2
        exact ⟨⟨_, rfl⟩, rfl⟩
  · go_wp2_with fail
    go_ret2
    exact ⟨⟨_, rfl⟩, rfl⟩

/-- The filter that is being made. -/
structure Filt (w wr : World) (g S Z : Nat) : Prop where
  but : But (fun _ => False) w wr
  row : ∃ cs : Array Value, wr.heap[g]? = some (.cells cs 5 (0, 0)) ∧ cs.size = 1 + S ∧ cs[0]? = some (.int .u8 Z) ∧ ∀ i, i < 1 + S → ∃ z, cs[i]? = some (.int .u8 z) ∧ 0 ≤ z ∧ z < 256
theorem Filt.store {w wr : World} {g S Z q : Nat} {z : Int} (h : Filt w wr g S Z) (hg : w.heap.size ≤ g) (hq : 0 < q) (hz : 0 ≤ z ∧ z < 256) : Filt w (wr.setCell ⟨g, q, none⟩ (.int .u8 z)) g S Z := by
  obtain ⟨cs, h1, h2, h3, h4⟩ := h.row
  refine ⟨h.but.setCell (fun e => by simp at e; omega) _, cs.setIfInBounds q (.int .u8 z), heap_setCell_same h1 _, by simpa using h2, ?_, fun i hi => ?_⟩
  · rw [Array.getElem?_setIfInBounds_ne (by omega)]; exact h3
  · by_cases e : q = i
    · subst e
      exact ⟨z, by simp [show q < cs.size by omega], hz⟩
    · rw [Array.getElem?_setIfInBounds_ne e]; exact h4 i hi
theorem Filt.drew {w wr : World} {g S Z : Nat} (h : Filt w wr g S Z) : Filt w wr.drew g S Z := ⟨h.but.drew, h.row⟩
theorem Filt.cell {w wr : World} {g S Z : Nat} (h : Filt w wr g S Z) {i : Nat} (hi : i < 1 + S) : ∃ z, wr.cell? ⟨g, i, none⟩ = some (.int .u8 z) ∧ 0 ≤ z ∧ z < 256 := by
  obtain ⟨cs, h1, h2, h3, h4⟩ := h.row
  obtain ⟨z, h5, h6⟩ := h4 i hi
  exact ⟨z, (cell_of_row _ _ _ _ _ _ h1).trans h5, h6⟩
theorem Filt.head {w wr : World} {g S Z : Nat} (h : Filt w wr g S Z) : wr.cell? ⟨g, 0, none⟩ = some (.int .u8 Z) := by
  obtain ⟨cs, h1, h2, h3, h4⟩ := h.row
  exact (cell_of_row _ _ _ _ _ _ h1).trans h3
theorem Filt.free {w wr : World} {g S Z : Nat} (h : Filt w wr g S Z) (i : Nat) : wr.frozen? ⟨g, i, none⟩ = false := by
  obtain ⟨cs, h1, h2, h3, h4⟩ := h.row
  simp [World.frozen?, h1]
theorem Filt.out {w wr : World} {g S Z : Nat} (h : Filt w wr g S Z) (hg : w.heap.size ≤ g) (hS : S ≤ 100000000) : OutRow [.num .u8] w.heap.size wr (.slice (some ⟨g, 0, none⟩) (1 + S) (1 + S)) (1 + S) := by
  obtain ⟨cs, h1, h2, h3, h4⟩ := h.row
  refine .inr ⟨g, 1 + S, rfl, Nat.le_refl _, by unfold maxLen; omega, hg, cs, 5, h1, fun i hi d k hd => ?_⟩
  cases d with
  | zero =>
    obtain rfl : Kd.num .u8 = k := by simpa using hd
    obtain ⟨z, h5, h6⟩ := h4 i hi
    exact ⟨_, by simpa using h5, z, rfl, by simp [InK, IntKind.min, IntKind.max, IntKind.bits, IntKind.signed]; omega⟩
  | succ d => simp at hd

set_option maxHeartbeats 6400000 in
theorem of_call (w : World) (gk n c : Nat) (b : Int) (hK : Strs w gk n) (hn : n ≤ 1048576) (hb : -9223372036854775808 ≤ b ∧ b < 9223372036854775808) :
    Calls Tryz.prog 25 #[.slice (some ⟨gk, 0, none⟩) n c, .int .i64 b] w fun e w' => RowPost [.num .u8] w e w' := by
  have hn0 : (0 : Int) ≤ (n : Int) := Int.natCast_nonneg _
  have hn1 : (n : Int) ≤ 1048576 := by omega
  by_cases hbad : b < 1 ∨ 16 < b
  · rcases hbad with hbad | hbad
    · go_enter Tryz.func25, Tryz.ntmps25
      go_wp2_with fail
      go_ret2
      exact ⟨_, 0, _, rfl, .nil _ _ _, by omega, But.refl _ _⟩
    · go_enter Tryz.func25, Tryz.ntmps25
      go_wp2_with fail
      go_ret2
      exact ⟨_, 0, _, rfl, .nil _ _ _, by omega, But.refl _ _⟩
  · have hb1 : 1 ≤ b := by omega
    have hb2 : b ≤ 16 := by omega
    obtain ⟨bn, rfl⟩ : ∃ bn : Nat, b = (bn : Int) := ⟨b.toNat, by omega⟩
    obtain ⟨P, hP⟩ : ∃ P : Nat, n * bn = P := ⟨_, rfl⟩
    have hP1 : P ≤ 16777216 := by rw [← hP]; exact Nat.mul_le_mul hn (by omega : bn ≤ 16)
    have hPi : (n : Int) * (bn : Int) = (P : Int) := by rw [← hP]; simp
    have hPw : IntKind.i64.wrap ((n : Int) * (bn : Int)) = (P : Int) := by rw [hPi, IntKind.wrap_i64]; omega
    obtain ⟨S, hS⟩ : ∃ S : Nat, S = max 1 ((P + 7) / 8) := ⟨_, rfl⟩
    have hS1 : 1 ≤ S := by omega
    have hS2 : S ≤ 3000000 := by omega
    obtain ⟨Z, hZ⟩ : ∃ Z : Nat, Z = (bn * 69 + 99) / 100 := ⟨_, rfl⟩
    have hZ1 : Z ≤ 12 := by omega
    obtain ⟨i0, hi0, hz0, hz1, hz2⟩ := info_parts info5
    have hmk := run_make (P := Tryz.prog) w 50 5 i0 (.int .u8 0) Tryz.underlying50 hi0 hz0 .i64 .i64 (1 + (S : Int)) (1 + (S : Int)) (by omega) (by omega) (by rw [hz2]; omega) (by omega)
    have e1 : (1 + (S : Int)).toNat = 1 + S := by omega
    rw [e1, hz1] at hmk
    have hmax : max (1 : Int) (((P : Int) + 7) / 8) = (S : Int) := by omega
    have hmax2 : (if ((P : Int) + 7) / 8 > 1 then ((P : Int) + 7) / 8 else 1) = (S : Int) := by split <;> omega
    have hZi : ((bn : Int) * 69 + 99) / 100 = (Z : Int) := by rw [hZ]; simp
    have hwZ : IntKind.u8.wrap (((bn : Int) * 69 + 99) / 100) = (Z : Int) := by rw [hZi, IntKind.wrap_u8]; omega
    obtain ⟨M, hM⟩ : ∃ M, M = madeCells (Value.int .u8 0).cells ((1 + S) * 1) := ⟨_, rfl⟩
    have hMs : M.size = 1 + S := by rw [hM, size_madeCells]; omega
    have hMc : ∀ i, i < 1 + S → M[i]? = some (.int .u8 0) := fun i hi => by
      rw [hM]; simp [madeCells, Value.cells, Nat.mod_one, hi]
    simp only [Nat.mul_one] at hM hmk
    rw [← hM] at hmk
    obtain ⟨w1, hw1⟩ : ∃ w1, w1 = w.alloc (.cells M 5) := ⟨_, rfl⟩
    rw [← hw1] at hmk
    have g1 : w1.heap[w.heap.size]? = some (.cells M 5 (0, 0)) := by rw [hw1]; exact heap_alloc_new w _
    have b1 : But (fun _ => False) w w1 := by rw [hw1]; exact (But.refl _ _).alloc _
    have c1 : w1.cell? ⟨w.heap.size, 0, none⟩ = some (.int .u8 0) := (cell_of_row _ _ _ _ _ _ g1).trans (hMc 0 (by omega))
    have f1 : w1.frozen? ⟨w.heap.size, 0, none⟩ = false := by simp [World.frozen?, g1]
    obtain ⟨w2, hw2⟩ : ∃ w2, w2 = w1.setCell ⟨w.heap.size, 0, none⟩ (.int .u8 Z) := ⟨_, rfl⟩
    have F0 : Filt w w2 w.heap.size S Z := by
      refine ⟨by rw [hw2]; exact b1.setCell (fun e => by simp at e) _, M.setIfInBounds 0 (.int .u8 Z), by rw [hw2]; exact heap_setCell_same g1 _, by simpa using hMs, Array.getElem?_setIfInBounds_self_of_lt (by omega), fun i hi => ?_⟩
      by_cases e : 0 = i
      · subst e; exact ⟨Z, Array.getElem?_setIfInBounds_self_of_lt (by omega), by omega⟩
      · rw [Array.getElem?_setIfInBounds_ne e]; exact ⟨0, hMc i hi, by omega⟩
    have HW : Hid (w2 = w1.setCell ⟨w.heap.size, 0, none⟩ (.int .u8 Z)) := hw2
    have HPS : Hid (S = max 1 ((P + 7) / 8) ∧ Z = (bn * 69 + 99) / 100 ∧ n * bn = P) := ⟨hS, hZ, hP⟩
    clear hw2 hw1 g1 b1 hM hMs hMc hS hZ hZi hP hbad
    go_enter Tryz.func25, Tryz.ntmps25
    go_wp2_with fail
    rw [← HW.out]
    go_loopw [43] (fun i wr => ∃ k : Nat, k ≤ n ∧ i = .int .i64 k ∧ Filt w wr w.heap.size S Z) (fun i _ => n - (intOf i).toNat)
    case atStart => exact ⟨0, Nat.zero_le _, rfl, F0⟩
    case round =>
      clear F0 c1 f1 hmk hmax hmax2 hwZ hPw hPi
      obtain ⟨k, hk, rfl, hF⟩ := hrel
      have hk0 : (0 : Int) ≤ (k : Int) := Int.natCast_nonneg _
      rcases Nat.lt_or_ge k n with hkn | hkn
      · obtain ⟨s, hs, hss⟩ := hK k hkn
        have cs := (hF.but.cell (World.block_lt_of_cell? w _ hs) (by simp)).trans hs
        have ch := hF.head
        have HH := hash_call wr s hss
        have hki : (k : Int) < (n : Int) := by omega
        have hwz : IntKind.i64.wrap (Z : Int) = Z := by rw [IntKind.wrap_i64]; omega
        clear hs hK
        go_wp2_with fail
        refine HH.mono ?_
        rintro e w3 ⟨⟨x, rfl, hx⟩, rfl⟩
        clear HH
        obtain ⟨wo, rfl⟩ : ∃ wo, wo = wr := ⟨_, rfl⟩
        go_wp2_with fail
        go_loopw [53] (fun i wq => ∃ j : Nat, j ≤ Z ∧ i = .int .i64 j ∧ Filt w wq w.heap.size S Z) (fun i _ => Z - (intOf i).toNat)
        case atStart => exact ⟨0, Nat.zero_le _, rfl, hF⟩
        case round =>
          clear cs ch
          obtain ⟨j, hj, rfl, hQ⟩ := hrel
          have hj0 : (0 : Int) ≤ (j : Int) := Int.natCast_nonneg _
          rcases Nat.lt_or_ge j Z with hjz | hjz
          · have B1 := bit_call wr x j (8 * S) hx (by omega) ⟨by omega, by omega⟩
            have hm8 : ((8 * S : Nat) : Int) = 8 * (S : Int) := by omega
            rw [hm8] at B1
            have hji : (j : Int) < (Z : Int) := by omega
            go_wp2_with fail
            refine B1.mono ?_
            rintro e w4 ⟨⟨r, rfl, hr⟩, rfl⟩
            clear B1
            obtain ⟨z, hz, hzz⟩ := hQ.cell (i := 1 + r / 8) (by omega)
            have hfr := hQ.free (1 + r / 8)
            have hr0 : (0 : Int) ≤ (r : Int) := Int.natCast_nonneg _
            have hQ0 : (0 : Int) ≤ 1 + (r : Int) / 8 := by omega
            have hQ1 : 1 + (r : Int) / 8 < 1 + (S : Int) := by omega
            have hQ2 : (1 + (r : Int) / 8).toNat = 1 + r / 8 := by omega
            go_wp2_with fail
            go_region
            all_goals
              have hst := hQ.store (Nat.le_refl _) (q := 1 + r / 8) (z := bits BinOp.or IntKind.u8 z (2 ^ (r % 8) % 256)) (by omega) ⟨bits_lo_u8 _ _ _, by have := bits_hi_u8 BinOp.or z (2 ^ (r % 8) % 256); omega⟩
              clear hz hfr
              go_wp2_with fail
              go_roundw
              case rel => exact ⟨j + 1, by omega, by go_num, hst.drew⟩
              case measure => simp [intOf]; omega
          · obtain rfl : j = Z := by omega
            go_wp2_with fail
            go_roundw
            case rel => exact ⟨k + 1, by omega, by go_num, hQ⟩
            case measure => simp [intOf]; omega
      · obtain rfl : k = n := by omega
        go_wp2_with fail
        go_ret2
        exact ⟨_, 1 + S, _, rfl, hF.out (Nat.le_refl _) (by omega), by omega, hF.but⟩

set_option maxHeartbeats 6400000 in
theorem both_call (w : World) (ga n c gb m d : Nat) (hA : Bytes8 w ga n) (hB : Bytes8 w gb m) (hn : n ≤ 2000) (hm : m ≤ 2000) (hc : n ≤ c) (hd : m ≤ d) :
    Calls Tryz.prog 33 #[.slice (some ⟨ga, 0, none⟩) n c, .slice (some ⟨gb, 0, none⟩) m d] w fun e w' => RowPost [.num .u8] w e w' := by
  have CA := bcheck_call w ga n c hA (by omega)
  have CB := bcheck_call w gb m d hB (by omega)
  go_enter Tryz.func33, Tryz.ntmps33
  go_wp2_with fail
  refine CA.mono ?_
  rintro e w1 ⟨⟨k, rfl, hk2⟩, rfl⟩
  clear CA
  by_cases hk0 : k = 0
  · subst hk0
    obtain ⟨hn2, Z, hcz, hz1, hz2⟩ := hk2 rfl
    clear hk2
    go_wp2_with fail
    refine CB.mono ?_
    rintro e w1 ⟨⟨k, rfl, hk2⟩, rfl⟩
    clear CB
    by_cases hk0 : k = 0
    · subst hk0
      obtain ⟨hm2, Z', hcz', hz1', hz2'⟩ := hk2 rfl
      clear hk2
      have hn0 : (2 : Int) ≤ (n : Int) := by omega
      have hm0 : (2 : Int) ≤ (m : Int) := by omega
      have hmd : (m : Int) ≤ (d : Int) := by omega
      have hmd1 : (1 : Int) ≤ (m : Int) := by omega
      by_cases hnm : (n : Int) = (m : Int)
      · obtain rfl : n = m := by omega
        clear hnm
        by_cases hZZ : (Z : Int) = (Z' : Int)
        · obtain rfl : Z = Z' := by omega
          clear hZZ
          go_wp2_with fail
          go_quiet (fail)
          have hw1 : But (fun _ => False) w (w.drewN nq) := (But.refl _ w).drewN7 _
          generalize w.drewN nq = wd at hw1 ⊢
          obtain ⟨zs, hzl, hzA⟩ := hA.at
          obtain ⟨v1, w1, hr, ho, hb⟩ := append_run wd w.heap.size _ [] (Own5.nil _ _) (some ⟨ga, 0, none⟩) n c zs hzl (by simp; omega) (by simp) (hzA.but hw1 (by simp)) hw1.size 50
          have hb1 : But (fun _ => False) w w1 := hw1.low hb (Nat.le_refl _)
          simp only [List.nil_append] at ho
          obtain ⟨gg, cap, hv1, -, -⟩ := ho.own.form (by omega)
          rw [hzl] at hv1
          subst hv1
          have hB1 := hB.but hb1 (by simp)
          go_wp2_with (at_builtin; refine wpList_append_run _ rfl (.const _) (.tmp 35) 50 rfl _ _ _ w1 rfl rfl hr ?_)
          go_loopw [40] (fun i wr => ∃ (j : Nat) (ws : List Int), j + 1 ≤ n ∧ i = .int .i64 j ∧ ws.length = n ∧ Own5 w.heap.size wr (.slice (some ⟨gg, 0, none⟩) n cap) ws ∧ But (fun _ => False) w wr) (fun i _ => n - (intOf i).toNat)
          case atStart => exact ⟨0, zs, by omega, rfl, hzl, ho, hb1⟩
          case round =>
            clear ho hb1 hb hr
            obtain ⟨j, ws, hj, rfl, hws, hown, hbr⟩ := hrel
            have hj0 : (0 : Int) ≤ (j : Int) := Int.natCast_nonneg _
            rcases Nat.lt_or_ge (j + 1) n with hjn | hjn
            · have hji : (j : Int) < (n : Int) - 1 := by omega
              have hjn' : j < n - 1 := by omega
              have hj1 : (0 : Int) ≤ 1 + (j : Int) := by omega
              have hj2 : 1 + (j : Int) < (n : Int) := by omega
              have hj3 : (1 + (j : Int)).toNat = 1 + j := by omega
              obtain ⟨x, hx, hxx⟩ := (hB.but hbr (by simp)) (1 + j) (by omega)
              obtain ⟨cur, hg, hlen, hcur⟩ : ∃ cur : Array Value, wr.heap[gg]? = some (.cells cur 5 (0, 0)) ∧ n ≤ cur.size ∧ cur.toList.take n = ws.map (Value.int .u8) := by
                rcases hown.own.2 with ⟨hv, -⟩ | ⟨g', cap', cur, hv, -, q1, q2, -, q4, q5⟩
                · cases hv
                · cases hv
                  exact ⟨cur, q1, by omega, by rw [← q5, hws]; simp⟩
              have hcell : wr.cell? ⟨gg, 1 + j, none⟩ = some (.int .u8 (ws.getD (1 + j) 0)) := by
                rw [cell_of_row _ _ _ _ _ _ hg]
                have h5 : (cur.toList.take n)[1 + j]? = some (.int .u8 (ws.getD (1 + j) 0)) := by rw [hcur]; simp [show 1 + j < ws.length from by omega]
                rw [List.getElem?_take, if_pos (by omega)] at h5
                simpa using h5
              have hfr : wr.frozen? ⟨gg, 1 + j, none⟩ = false := by simp [World.frozen?, hg]
              obtain ⟨y, hy⟩ : ∃ y, ws.getD (1 + j) 0 = y := ⟨_, rfl⟩
              rw [hy] at hcell
              have hyb : 0 ≤ y ∧ y < 256 := by rw [← hy]; exact hown.b _ (by simp [List.getD, show 1 + j < ws.length from by omega])
              have hst := Own5.store (q := 1 + j) (z := bits BinOp.or IntKind.u8 y x) hown hws (by omega) ⟨bits_lo_u8 _ _ _, by have := bits_hi_u8 BinOp.or y x; omega⟩
              have hb4 : But (fun _ => False) w (wr.setCell ⟨gg, 1 + j, none⟩ (.int .u8 (bits BinOp.or IntKind.u8 y x))) := hbr.setCell (fun h => by have := (hown.own.lt gg rfl).1; simp at h; omega) _
              clear hg hlen hcur
              go_wp2_with fail
              go_roundw
              case rel => exact ⟨j + 1, _, by omega, by go_num, by simpa using hws, hst, hb4⟩
              case measure => simp [intOf]; omega
            · have hend : ((j : Int) < (n : Int) - 1) = False := eq_false (by omega)
              have hend' : (j < n - 1) = False := eq_false (by omega)
              go_wp2_with fail
              go_ret2
              exact ⟨_, ws.length, _, rfl, hown.out, by omega, hbr⟩
        · go_wp2_with fail
          go_quiet (fail)
          go_wp2_with fail
          go_ret2
          exact ⟨_, 0, _, rfl, .nil _ _ _, by omega, (But.refl _ w).drewN7 _⟩
      · go_wp2_with fail
        go_quiet (fail)
        go_wp2_with fail
        go_ret2
        exact ⟨_, 0, _, rfl, .nil _ _ _, by omega, (But.refl _ w).drewN7 _⟩
    · go_wp2_with fail
      go_ret2
      exact ⟨_, 0, _, rfl, .nil _ _ _, by omega, But.refl _ _⟩
  · go_wp2_with fail
    go_ret2
    exact ⟨_, 0, _, rfl, .nil _ _ _, by omega, But.refl _ _⟩
end Go.Proofs.YtoplphimhbnelaaGreatDoor
namespace Go.Proofs.YtoplphimhbnelaaGreatDoor
open Go.RowKit
set_option maxRecDepth 100000
theorem runs_TopSharedBloom_1_1 : Runs 26 [(0, 27)] := by
  intro w b p q Q h
  simp only [Steps, Nat.add_zero] at h
  go_enter Tryz.func26, Tryz.ntmps26
  go_wp2_with fail
  refine h.mono ?_
  rintro e w1 ⟨rfl, h⟩
  go_wp2_with fail
  go_end0
  exact ⟨rfl, h⟩
def L_TopSharedBloom_1_1 : List (Nat × FuncId × Shape) := [(0, 27, S_nums_byte)]
def S_TopSharedBloom_1_1 : Shape := seqS (shp L_TopSharedBloom_1_1)
theorem impl_TopSharedBloom_1_1 : Impl 26 S_TopSharedBloom_1_1 := impl_seq L_TopSharedBloom_1_1 runs_TopSharedBloom_1_1 (by
  simp only [L_TopSharedBloom_1_1, List.mem_cons, List.not_mem_nil, or_false]
  rintro x (rfl)
  · exact impl_nums_byte)
end Go.Proofs.YtoplphimhbnelaaGreatDoor
namespace Go.Proofs.YtoplphimhbnelaaGreatDoor
open Go.RowKit
set_option maxRecDepth 100000
theorem runs_TopSharedBloom_4_1 : Runs 34 [(0, 27)] := by
  intro w b p q Q h
  simp only [Steps, Nat.add_zero] at h
  go_enter Tryz.func34, Tryz.ntmps34
  go_wp2_with fail
  refine h.mono ?_
  rintro e w1 ⟨rfl, h⟩
  go_wp2_with fail
  go_end0
  exact ⟨rfl, h⟩
def L_TopSharedBloom_4_1 : List (Nat × FuncId × Shape) := [(0, 27, S_nums_byte)]
def S_TopSharedBloom_4_1 : Shape := seqS (shp L_TopSharedBloom_4_1)
theorem impl_TopSharedBloom_4_1 : Impl 34 S_TopSharedBloom_4_1 := impl_seq L_TopSharedBloom_4_1 runs_TopSharedBloom_4_1 (by
  simp only [L_TopSharedBloom_4_1, List.mem_cons, List.not_mem_nil, or_false]
  rintro x (rfl)
  · exact impl_nums_byte)
end Go.Proofs.YtoplphimhbnelaaGreatDoor
namespace Go.Proofs.YtoplphimhbnelaaGreatDoor
open Go.RowKit
set_option maxRecDepth 100000
attribute [local go_sem ↓] Go.wp_at_zero Go.wp_at_succ

set_option maxHeartbeats 6400000 in
theorem door_Bloom_1 : DoorOne YP_Bloom 24 26 := by
  intro K w Y hy hK
  obtain ⟨xs0, xa1, xn1, xc1, xz2, xa3, xn3, xc3, xa4, xn4, xc4, xa5, xn5, xc5, xg1, xg3, xg4, xg5, h⟩ := hy
  have uST := Tryz.underlying52
  have y1 : w.cell? ⟨Y, 1, none⟩ = some (.slice (some ⟨xg1, 0, none⟩) xn1 (xn1 + 2)) := (cell_of_row _ _ 1 _ _ _ h.y).trans rfl
  have y2 : w.cell? ⟨Y, 2, none⟩ = some (.int .i64 xz2) := (cell_of_row _ _ 2 _ _ _ h.y).trans rfl
  have RR : ∀ w', But (fun _ => False) w w' → Calls Tryz.prog 25 #[.slice (some ⟨xg1, 0, none⟩) xn1 (xn1 + 2), .int .i64 xz2] w' fun e w'' => RowPost [.num .u8] w' e w'' := fun w' hb => of_call w' xg1 xn1 (xn1 + 2) xz2 ((h.new1.2.strs (by omega)).but hb (by simp)) h.few1 (by have := h.k2; simp [InK, IntKind.min, IntKind.max, IntKind.bits, IntKind.signed] at this; omega)
  have ly := lt_of_block h.y
  have hbA : But (fun _ => False) w w.drew := (But.refl _ w).drew
  clear h
  have hbB : But (fun _ => False) w (w.alloc (.cells #[.slice none 0 0] 50)).drew := ((But.refl _ w).alloc _).drew
  have vB : (w.alloc (.cells #[.slice none 0 0] 50)).drew.heap[w.heap.size]? = some (.cells #[.slice none 0 0] 50 (0, 0)) := heap_alloc_new w _
  have sB : (w.alloc (.cells #[.slice none 0 0] 50)).drew.heap.size = w.heap.size + 1 := by simp
  have hyne : w.heap.size ≠ Y := by omega
  go_enter Tryz.func24, Tryz.ntmps24
  go_wp2_with fail
  go_region_held3 (fun w' => w'.cell? ⟨Y, 1, none⟩ = some (.slice (some ⟨xg1, 0, none⟩) xn1 (xn1 + 2)) ∧ w'.cell? ⟨Y, 2, none⟩ = some (.int .i64 xz2))
    (first | go_keep | (go_split_ands; refine ⟨?_, ?_⟩ <;> (rw [hb1.cell (by assumption) (by simp)]; assumption)))
    (first
      | (go_at_call 25; refine (RR _ hbA).mono ?_; rintro e w1 ⟨v1, n1, x, rfl, ho1, hn1, hb1⟩; have H : Hid (But (fun _ => False) w w1 ∧ OutRow [.num .u8] w.heap.size w1 v1 n1) := ⟨hbA.trans hb1 (by simp), ho1⟩; obtain ⟨o', c', hv1⟩ := ho1.form; subst hv1; have k1 := (H.out.1.cell (p := ⟨Y, 1, none⟩) ly (by simp)).trans y1; have k2 := (H.out.1.cell (p := ⟨Y, 2, none⟩) ly (by simp)).trans y2; have n0 := World.new_ne w1 _ k1)
      | (go_at_call 25; refine (RR _ hbB).mono ?_; rintro e w1 ⟨v1, n1, x, rfl, ho1, hn1, hb1⟩; have H : Hid (But (fun _ => False) w w1 ∧ OutRow [.num .u8] (w.heap.size + 1) w1 v1 n1) := ⟨hbB.trans hb1 (by simp), by rw [← sB]; exact ho1⟩; obtain ⟨o', c', hv1⟩ := ho1.form; subst hv1; have k1 := (H.out.1.cell (p := ⟨Y, 1, none⟩) ly (by simp)).trans y1; have k2 := (H.out.1.cell (p := ⟨Y, 2, none⟩) ly (by simp)).trans y2; have kB := hb1.to vB (by simp); have kC := cell_of_one kB; have kD := free_of_one kB; have n0 := World.new_ne w1 _ k1))
  all_goals first
    | (have kB' := kB
       have HH := H.out
       go_wp2_with fail
       go_ret
       exact row_done2 impl_TopSharedBloom_1_1 rfl (by decide) (fitsBy_num .u8) rfl HH.1 kB' HH.2 (by omega) (by omega))
    | (have HH := H.out
       go_wp2_with fail
       go_ret
       exact row_done impl_TopSharedBloom_1_1 rfl (by decide) (fitsBy_num .u8) rfl HH.1 HH.2 (by omega) 50)

set_option maxHeartbeats 6400000 in
theorem door_Bloom_2 : DoorNil YP_Bloom 28 := by
  intro K w Y hy hK
  obtain ⟨xs0, xa1, xn1, xc1, xz2, xa3, xn3, xc3, xa4, xn4, xc4, xa5, xn5, xc5, xg1, xg3, xg4, xg5, h⟩ := hy
  have uST := Tryz.underlying52
  have y3 : w.cell? ⟨Y, 3, none⟩ = some (.slice (some ⟨xg3, 0, none⟩) xn3 (xn3 + 2)) := (cell_of_row _ _ 3 _ _ _ h.y).trans rfl
  have RR : ∀ w', But (fun _ => False) w w' → Calls Tryz.prog 29 #[.slice (some ⟨xg3, 0, none⟩) xn3 (xn3 + 2)] w' fun e w'' => NilPost w' e w'' := fun w' hb => (bcheck_call w' xg3 xn3 (xn3 + 2) ((h.new3.2.bytes (by omega)).but hb (by simp)) (by have := h.few3; omega)).mono fun e w'' ⟨⟨k, he, _⟩, hw⟩ => ⟨⟨_, he⟩, hw ▸ But.refl _ _⟩
  have ly := lt_of_block h.y
  have hbA : But (fun _ => False) w w.drew := (But.refl _ w).drew
  clear h
  go_enter Tryz.func28, Tryz.ntmps28
  go_wp2_with fail
  refine (RR w (But.refl _ _)).mono ?_
  rintro e w1 ⟨⟨v, rfl⟩, hb1⟩
  go_wp2_with fail
  go_ret
  exact ⟨rfl, hb1⟩

set_option maxHeartbeats 6400000 in
theorem door_Bloom_3 : DoorNil YP_Bloom 30 := by
  intro K w Y hy hK
  obtain ⟨xs0, xa1, xn1, xc1, xz2, xa3, xn3, xc3, xa4, xn4, xc4, xa5, xn5, xc5, xg1, xg3, xg4, xg5, h⟩ := hy
  have uST := Tryz.underlying52
  have y0 : w.cell? ⟨Y, 0, none⟩ = some (.string xs0) := (cell_of_row _ _ 0 _ _ _ h.y).trans rfl
  have y3 : w.cell? ⟨Y, 3, none⟩ = some (.slice (some ⟨xg3, 0, none⟩) xn3 (xn3 + 2)) := (cell_of_row _ _ 3 _ _ _ h.y).trans rfl
  have RR : ∀ w', But (fun _ => False) w w' → Calls Tryz.prog 31 #[.slice (some ⟨xg3, 0, none⟩) xn3 (xn3 + 2), .string xs0] w' fun e w'' => NilPost w' e w'' := fun w' hb => (has_call w' xg3 xn3 (xn3 + 2) xs0 ((h.new3.2.bytes (by omega)).but hb (by simp)) h.few3 h.k0).mono fun e w'' ⟨he, hw⟩ => ⟨he, hw ▸ But.refl _ _⟩
  have ly := lt_of_block h.y
  have hbA : But (fun _ => False) w w.drew := (But.refl _ w).drew
  clear h
  go_enter Tryz.func30, Tryz.ntmps30
  go_wp2_with fail
  go_region_held3 (fun w' => w'.cell? ⟨Y, 0, none⟩ = some (.string xs0) ∧ w'.cell? ⟨Y, 3, none⟩ = some (.slice (some ⟨xg3, 0, none⟩) xn3 (xn3 + 2))) (first | go_keep | (go_split_ands; refine ⟨?_, ?_⟩ <;> (rw [hb1.cell (by assumption) (by simp)]; assumption))) ((go_at_call 31; refine (RR _ hbA).mono ?_; rintro e w1 ⟨⟨v, rfl⟩, hb1⟩))
  all_goals
    go_wp2_with fail
    go_ret
    exact ⟨rfl, hbA.trans hb1 (by simp)⟩

set_option maxHeartbeats 6400000 in
theorem door_Bloom_4 : DoorOne YP_Bloom 32 34 := by
  intro K w Y hy hK
  obtain ⟨xs0, xa1, xn1, xc1, xz2, xa3, xn3, xc3, xa4, xn4, xc4, xa5, xn5, xc5, xg1, xg3, xg4, xg5, h⟩ := hy
  have uST := Tryz.underlying52
  have y4 : w.cell? ⟨Y, 4, none⟩ = some (.slice (some ⟨xg4, 0, none⟩) xn4 (xn4 + 2)) := (cell_of_row _ _ 4 _ _ _ h.y).trans rfl
  have y5 : w.cell? ⟨Y, 5, none⟩ = some (.slice (some ⟨xg5, 0, none⟩) xn5 (xn5 + 2)) := (cell_of_row _ _ 5 _ _ _ h.y).trans rfl
  have RR : ∀ w', But (fun _ => False) w w' → Calls Tryz.prog 33 #[.slice (some ⟨xg4, 0, none⟩) xn4 (xn4 + 2), .slice (some ⟨xg5, 0, none⟩) xn5 (xn5 + 2)] w' fun e w'' => RowPost [.num .u8] w' e w'' := fun w' hb => both_call w' xg4 xn4 (xn4 + 2) xg5 xn5 (xn5 + 2) ((h.new4.2.bytes (by omega)).but hb (by simp)) ((h.new5.2.bytes (by omega)).but hb (by simp)) h.few4 h.few5 (by omega) (by omega)
  have ly := lt_of_block h.y
  have hbA : But (fun _ => False) w w.drew := (But.refl _ w).drew
  clear h
  have hbB : But (fun _ => False) w (w.alloc (.cells #[.slice none 0 0] 50)).drew := ((But.refl _ w).alloc _).drew
  have vB : (w.alloc (.cells #[.slice none 0 0] 50)).drew.heap[w.heap.size]? = some (.cells #[.slice none 0 0] 50 (0, 0)) := heap_alloc_new w _
  have sB : (w.alloc (.cells #[.slice none 0 0] 50)).drew.heap.size = w.heap.size + 1 := by simp
  have hyne : w.heap.size ≠ Y := by omega
  go_enter Tryz.func32, Tryz.ntmps32
  go_wp2_with fail
  go_region_held3 (fun w' => w'.cell? ⟨Y, 4, none⟩ = some (.slice (some ⟨xg4, 0, none⟩) xn4 (xn4 + 2)) ∧ w'.cell? ⟨Y, 5, none⟩ = some (.slice (some ⟨xg5, 0, none⟩) xn5 (xn5 + 2)))
    (first | go_keep | (go_split_ands; refine ⟨?_, ?_⟩ <;> (rw [hb1.cell (by assumption) (by simp)]; assumption)))
    (first
      | (go_at_call 33; refine (RR _ hbA).mono ?_; rintro e w1 ⟨v1, n1, x, rfl, ho1, hn1, hb1⟩; have H : Hid (But (fun _ => False) w w1 ∧ OutRow [.num .u8] w.heap.size w1 v1 n1) := ⟨hbA.trans hb1 (by simp), ho1⟩; obtain ⟨o', c', hv1⟩ := ho1.form; subst hv1; have k4 := (H.out.1.cell (p := ⟨Y, 4, none⟩) ly (by simp)).trans y4; have k5 := (H.out.1.cell (p := ⟨Y, 5, none⟩) ly (by simp)).trans y5; have n0 := World.new_ne w1 _ k4)
      | (go_at_call 33; refine (RR _ hbB).mono ?_; rintro e w1 ⟨v1, n1, x, rfl, ho1, hn1, hb1⟩; have H : Hid (But (fun _ => False) w w1 ∧ OutRow [.num .u8] (w.heap.size + 1) w1 v1 n1) := ⟨hbB.trans hb1 (by simp), by rw [← sB]; exact ho1⟩; obtain ⟨o', c', hv1⟩ := ho1.form; subst hv1; have k4 := (H.out.1.cell (p := ⟨Y, 4, none⟩) ly (by simp)).trans y4; have k5 := (H.out.1.cell (p := ⟨Y, 5, none⟩) ly (by simp)).trans y5; have kB := hb1.to vB (by simp); have kC := cell_of_one kB; have kD := free_of_one kB; have n0 := World.new_ne w1 _ k4))
  all_goals first
    | (have kB' := kB
       have HH := H.out
       go_wp2_with fail
       go_ret
       exact row_done2 impl_TopSharedBloom_4_1 rfl (by decide) (fitsBy_num .u8) rfl HH.1 kB' HH.2 (by omega) (by omega))
    | (have HH := H.out
       go_wp2_with fail
       go_ret
       exact row_done impl_TopSharedBloom_4_1 rfl (by decide) (fitsBy_num .u8) rfl HH.1 HH.2 (by omega) 50)
end Go.Proofs.YtoplphimhbnelaaGreatDoor
namespace Go.Proofs.YtoplphimhbnelaaGreatDoor
open Go.RowKit
set_option maxRecDepth 100000
attribute [local go_sem ↓] Go.wp_at_zero Go.wp_at_succ
set_option maxHeartbeats 1600000 in
theorem looks_TopSharedBloom_1_1 : Looks 26 := by
  intro w G A R L hG hR hc
  have hmk := make51'
  have lG := World.block_lt_of_cell? w _ hG
  obtain ⟨w1, hw1⟩ : ∃ w1, w1 = w.alloc (.cells (eyeCells (.slice none 0 0) (.slice none 0 0) false 0 false) 70) := ⟨_, rfl⟩
  have hb1 : But (fun _ => False) w w1 := by rw [hw1]; exact (But.refl _ _).alloc _
  have he1 : w1.heap[w.heap.size]? = some (.cells (eyeCells (.slice none 0 0) (.slice none 0 0) false 0 false) 70 (0, 0)) := by rw [hw1]; exact heap_alloc_new w _
  have hG1 : w1.cell? ⟨G, 0, none⟩ = some (.func (.func 26) #[] #[.pointer (some ⟨A, 0, none⟩)]) := (hb1.cell lG (by simp)).trans hG
  have hcc := hc.2.2 w1.drew ((Agree.refl R w).but hb1.drew (fun k hk => ⟨hR k hk, by simp⟩)) w.heap.size (fun h => Nat.lt_irrefl _ (hR _ h)) he1
  have HW : Hid (w1 = w.alloc (.cells (eyeCells (.slice none 0 0) (.slice none 0 0) false 0 false) 70)) := hw1
  clear hw1 hc hR
  go_enter Tryz.func36, Tryz.ntmps36
  go_wp2_with fail
  rw [← HW.out]
  refine wp_loop_rounds 2 ?_
  rw [rounds_succ]
  go_wp2_with fail
  go_region_with (go_at_call 26; refine hcc.mono ?_; rintro e w2 ⟨rfl, hS⟩)
  go_wp2_with fail
  rw [rounds_succ]
  go_wp2_with fail
  go_ret
  have hsz : w.heap.size < w1.heap.size := lt_of_block he1
  refine ⟨rfl, (hb1.drew.trans (S' := fun k => k = w.heap.size ∨ False) hS.but (fun i hi h => ?_)), (Has.of hS).mono ?_⟩
  · simp at h; omega
  · have : w1.drew.heap.size = w1.heap.size := rfl
    omega
end Go.Proofs.YtoplphimhbnelaaGreatDoor
namespace Go.Proofs.YtoplphimhbnelaaGreatDoor
open Go.RowKit
set_option maxRecDepth 100000
attribute [local go_sem ↓] Go.wp_at_zero Go.wp_at_succ
set_option maxHeartbeats 1600000 in
theorem looks_TopSharedBloom_4_1 : Looks 34 := by
  intro w G A R L hG hR hc
  have hmk := make51'
  have lG := World.block_lt_of_cell? w _ hG
  obtain ⟨w1, hw1⟩ : ∃ w1, w1 = w.alloc (.cells (eyeCells (.slice none 0 0) (.slice none 0 0) false 0 false) 70) := ⟨_, rfl⟩
  have hb1 : But (fun _ => False) w w1 := by rw [hw1]; exact (But.refl _ _).alloc _
  have he1 : w1.heap[w.heap.size]? = some (.cells (eyeCells (.slice none 0 0) (.slice none 0 0) false 0 false) 70 (0, 0)) := by rw [hw1]; exact heap_alloc_new w _
  have hG1 : w1.cell? ⟨G, 0, none⟩ = some (.func (.func 34) #[] #[.pointer (some ⟨A, 0, none⟩)]) := (hb1.cell lG (by simp)).trans hG
  have hcc := hc.2.2 w1.drew ((Agree.refl R w).but hb1.drew (fun k hk => ⟨hR k hk, by simp⟩)) w.heap.size (fun h => Nat.lt_irrefl _ (hR _ h)) he1
  have HW : Hid (w1 = w.alloc (.cells (eyeCells (.slice none 0 0) (.slice none 0 0) false 0 false) 70)) := hw1
  clear hw1 hc hR
  go_enter Tryz.func36, Tryz.ntmps36
  go_wp2_with fail
  rw [← HW.out]
  refine wp_loop_rounds 2 ?_
  rw [rounds_succ]
  go_wp2_with fail
  go_region_with (go_at_call 34; refine hcc.mono ?_; rintro e w2 ⟨rfl, hS⟩)
  go_wp2_with fail
  rw [rounds_succ]
  go_wp2_with fail
  go_ret
  have hsz : w.heap.size < w1.heap.size := lt_of_block he1
  refine ⟨rfl, (hb1.drew.trans (S' := fun k => k = w.heap.size ∨ False) hS.but (fun i hi h => ?_)), (Has.of hS).mono ?_⟩
  · simp at h; omega
  · have : w1.drew.heap.size = w1.heap.size := rfl
    omega
end Go.Proofs.YtoplphimhbnelaaGreatDoor
namespace Go.Proofs.YtoplphimhbnelaaGreatDoor
open Go.RowKit Go.Joins Go.WideShapes Go.ChangeShapes
set_option maxRecDepth 100000
theorem flat_string : FlatT 9 [.txt] := flatT_txt (t := 9) (by kernel_rfl)
theorem lay_string : LayT 9 [.kd .txt] := layT_flat flat_string
theorem lay_Lstring : LayT 22 [.row [.txt]] := layT_slice (e := 9) (by kernel_rfl) flat_string (by kernel_rfl) (by decide)
theorem flat_int : FlatT 3 [.num .i64] := flatT_num (t := 3) (k := .i64) (by kernel_rfl)
theorem lay_int : LayT 3 [.kd (.num .i64)] := layT_flat flat_int
theorem flat_uint8 : FlatT 5 [.num .u8] := flatT_num (t := 5) (k := .u8) (by kernel_rfl)
theorem lay_Luint8 : LayT 50 [.row [.num .u8]] := layT_slice (e := 5) (by kernel_rfl) flat_uint8 (by kernel_rfl) (by decide)
theorem lay_stageposttop_SharedBloom : LayT 52 [.kd .txt, .row [.txt], .kd (.num .i64), .row [.num .u8], .row [.num .u8], .row [.num .u8]] := layT_struct Tryz.underlying52 (by kernel_rfl) fun d k hd => match d, k, hd with
  | 0, k, h => ⟨0, _, _, rfl, lay_string, by decide, h⟩
  | 1, k, h => ⟨1, _, _, rfl, lay_Lstring, by decide, h⟩
  | 2, k, h => ⟨2, _, _, rfl, lay_int, by decide, h⟩
  | 3, k, h => ⟨3, _, _, rfl, lay_Luint8, by decide, h⟩
  | 4, k, h => ⟨4, _, _, rfl, lay_Luint8, by decide, h⟩
  | 5, k, h => ⟨5, _, _, rfl, lay_Luint8, by decide, h⟩
  | n + 6, k, h => by simp at h
/-- The argument, opened. -/
theorem open_Bloom {H : Type} {enc : TypeId × Value → H} {W : World} {r : Reach} {base B : Nat} (G : Bound H B) (hB : B ≤ 1048576) {v : Value} {d : DataW H} {p : List MemPlace} (hok : Value.okWide Tryz.prog W r base 52 v) (ht : DataW.Trod enc Tryz.prog W 0 (fun _ => true) true 52 v d p)
    (hf : Fine W p) (hg : G.good d) : ∃ (xs0 : ByteArray) (xa1 : Option Addr) (xn1 xc1 : Nat) (xz2 : Int) (xa3 : Option Addr) (xn3 xc3 : Nat) (xa4 : Option Addr) (xn4 xc4 : Nat) (xa5 : Option Addr) (xn5 xc5 : Nat), v = .agg #[.string xs0, .slice xa1 xn1 xc1, .int .i64 xz2, .slice xa3 xn3 xc3, .slice xa4 xn4 xc4, .slice xa5 xn5 xc5] ∧ X_Bloom W xs0 xa1 xn1 xc1 xz2 xa3 xn3 xc3 xa4 xn4 xc4 xa5 xn5 xc5 := by
  obtain ⟨cs, rfl, hsz⟩ := okWide_struct Tryz.underlying52 hok
  obtain ⟨fuel, ht⟩ := ht
  obtain ⟨hl, hx⟩ := lay_stageposttop_SharedBloom H enc W B G fuel _ _ ht hf hg
  obtain ⟨v0, e0, h0⟩ := hx 0 _ rfl
  obtain ⟨v1, e1, h1⟩ := hx 1 _ rfl
  obtain ⟨v2, e2, h2⟩ := hx 2 _ rfl
  obtain ⟨v3, e3, h3⟩ := hx 3 _ rfl
  obtain ⟨v4, e4, h4⟩ := hx 4 _ rfl
  obtain ⟨v5, e5, h5⟩ := hx 5 _ rfl
  obtain ⟨xs0, rfl, k0⟩ := h0
  obtain ⟨xa1, xn1, xc1, rfl, le1, cap1, nil1, row1, big1⟩ := h1
  obtain ⟨xz2, rfl, k2⟩ := h2
  obtain ⟨xa3, xn3, xc3, rfl, le3, cap3, nil3, row3, big3⟩ := h3
  obtain ⟨xa4, xn4, xc4, rfl, le4, cap4, nil4, row4, big4⟩ := h4
  obtain ⟨xa5, xn5, xc5, rfl, le5, cap5, nil5, row5, big5⟩ := h5
  refine ⟨xs0, xa1, xn1, xc1, xz2, xa3, xn3, xc3, xa4, xn4, xc4, xa5, xn5, xc5, ?_, { k0 := k0, le1 := le1, cap1 := cap1, nil1 := nil1, row1 := row1, big1 := Nat.le_trans big1 hB, k2 := k2, le3 := le3, cap3 := cap3, nil3 := nil3, row3 := row3, big3 := Nat.le_trans big3 hB, le4 := le4, cap4 := cap4, nil4 := nil4, row4 := row4, big4 := Nat.le_trans big4 hB, le5 := le5, cap5 := cap5, nil5 := nil5, row5 := row5, big5 := Nat.le_trans big5 hB }⟩
  congr 1
  apply Array.ext'
  have hcl : (Value.agg cs).cells.toList = cs.toList := rfl
  rw [hcl] at e0 e1 e2 e3 e4 e5 hl
  refine List.ext_getElem? fun i => ?_
  match i with
  | 0 => exact e0
  | 1 => exact e1
  | 2 => exact e2
  | 3 => exact e3
  | 4 => exact e4
  | 5 => exact e5
  | n + 6 => rw [List.getElem?_eq_none (by rw [hl]; simp), List.getElem?_eq_none (by simp)]
theorem X_Bloom.but {W W' : World} {xs0 : ByteArray} {xa1 : Option Addr} {xn1 xc1 : Nat} {xz2 : Int} {xa3 : Option Addr} {xn3 xc3 : Nat} {xa4 : Option Addr} {xn4 xc4 : Nat} {xa5 : Option Addr} {xn5 xc5 : Nat} (h : X_Bloom W xs0 xa1 xn1 xc1 xz2 xa3 xn3 xc3 xa4 xn4 xc4 xa5 xn5 xc5) (hb : But (fun _ => False) W W') : X_Bloom W' xs0 xa1 xn1 xc1 xz2 xa3 xn3 xc3 xa4 xn4 xc4 xa5 xn5 xc5 :=
  { h with row1 := h.row1.but (by decide) hb (by simp), row3 := h.row3.but (by decide) hb (by simp), row4 := h.row4.but (by decide) hb (by simp), row5 := h.row5.but (by decide) hb (by simp) }

/-- The law's function: apart, then alive. -/
theorem enter_Bloom (W : World) (xs0 : ByteArray) (xa1 : Option Addr) (xn1 xc1 : Nat) (xz2 : Int) (xa3 : Option Addr) (xn3 xc3 : Nat) (xa4 : Option Addr) (xn4 xc4 : Nat) (xa5 : Option Addr) (xn5 xc5 : Nat) (h : X_Bloom W xs0 xa1 xn1 xc1 xz2 xa3 xn3 xc3 xa4 xn4 xc4 xa5 xn5 xc5)
    (hal : ∀ w, Below W.heap.size W w → Calls Tryz.prog 20 #[] w fun e w' => e = .returned (.bool true) ∧ Below W.heap.size W w') :
    Calls Tryz.prog 4 #[.agg #[.string xs0, .slice xa1 xn1 xc1, .int .i64 xz2, .slice xa3 xn3 xc3, .slice xa4 xn4 xc4, .slice xa5 xn5 xc5]] W fun e W' => e = .returned (.bool true) ∧ Below W.heap.size W W' := by
  have cST : Tryz.prog.cellsOf 52 = 6 := by kernel_rfl
  have uST := Tryz.underlying52
  obtain ⟨W1, hW1⟩ : ∃ W1, (W.alloc (.cells #[.string xs0, .slice xa1 xn1 xc1, .int .i64 xz2, .slice xa3 xn3 xc3, .slice xa4 xn4 xc4, .slice xa5 xn5 xc5] 52)).alloc (.cells #[.func (.func 24) #[] #[], .func (.func 28) #[] #[], .func (.func 30) #[] #[], .func (.func 32) #[] #[]] 61) = W1 := ⟨_, rfl⟩
  have hs : (W.alloc (.cells #[.string xs0, .slice xa1 xn1 xc1, .int .i64 xz2, .slice xa3 xn3 xc3, .slice xa4 xn4 xc4, .slice xa5 xn5 xc5] 52)).heap.size = W.heap.size + 1 := by simp
  have b1 : But (fun _ => False) W W1 := by rw [← hW1]; exact ((But.refl _ _).alloc _).alloc _
  have g1 : W1.heap[W.heap.size + 1]? = some (.cells #[.func (.func 24) #[] #[], .func (.func 28) #[] #[], .func (.func 30) #[] #[], .func (.func 32) #[] #[]] 61 (0, 0)) := by rw [← hW1, ← hs]; exact heap_alloc_new _ _
  have hap := apart_Bloom (h.but b1) (W.heap.size + 1) (fun k hk => by
    match k, hk with
    | 0, _ => exact .inr ⟨_, _, (cell_of_row _ _ 0 _ _ _ g1).trans rfl, door_Bloom_1, looks_TopSharedBloom_1_1, Tryz.call24, Tryz.call26⟩
    | 1, _ => exact .inl ⟨_, (cell_of_row _ _ 1 _ _ _ g1).trans rfl, door_Bloom_2, Tryz.call28⟩
    | 2, _ => exact .inl ⟨_, (cell_of_row _ _ 2 _ _ _ g1).trans rfl, door_Bloom_3, Tryz.call30⟩
    | 3, _ => exact .inr ⟨_, _, (cell_of_row _ _ 3 _ _ _ g1).trans rfl, door_Bloom_4, looks_TopSharedBloom_4_1, Tryz.call32, Tryz.call34⟩
    | n + 4, hk => omega)
  clear h g1
  go_enter Tryz.func4, Tryz.ntmps4
  go_wp2_with fail
  refine hap.mono fun e w1 ⟨he, hb⟩ => ?_
  subst he
  have hb2 := b1.trans hb (by simp)
  go_wp2_with fail
  refine (hal w1 (hb2.below (Nat.le_refl _) (by simp))).mono fun e w2 ⟨he2, hb3⟩ => ?_
  subst he2
  go_wp2_with fail
  go_ret
  exact ⟨rfl, hb3⟩
end Go.Proofs.YtoplphimhbnelaaGreatDoor
