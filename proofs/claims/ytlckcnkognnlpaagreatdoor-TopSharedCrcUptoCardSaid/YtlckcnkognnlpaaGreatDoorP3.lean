/-
  Walks of the functions that apart reaches (num, all, nums, look, same, alike, copied, own, see, the functions of crc): each by a contract; at the end the call of apart itself with any byte slice and any three numbers: it returns true and turns no old memory.
-/
import Derived.Test.YtlckcnkognnlpaaGreatDoorP2
import Derived.Deep.RegionHeld3
import Derived.Deep.QuietTactic
import Derived.BigQuiet
import Derived.Deep.RegionWith
set_option linter.all false
set_option linter.unusedVariables false
set_option linter.unusedSimpArgs false
section
namespace Go.Proofs.YtlckcnkognnlpaaGreatDoor
open Go.RowKit
set_option maxRecDepth 100000
attribute [local go_sem ↓] Go.wp_at_zero Go.wp_at_succ

theorem great_call (w : World) (o : Option Addr) (n c : Nat) (mk rm : Bool) (t : Int) (hn : n < 1000000) :
    Calls Tryz.prog 22 #[.agg (eyeCells (.slice o n c) mk t rm)] w fun e w' => e = .returned (.bool (decide (2000 < n))) ∧ But (fun _ => False) w w' := by
  have u51 := Tryz.underlying50
  have c51 : Tryz.prog.cellsOf 50 = 5 := by kernel_rfl
  unfold eyeCells
  go_enter Tryz.func22, Tryz.ntmps22
  go_wp2_with fail
  refine wp_loop_rounds 1 ?_
  rw [rounds_succ]
  go_wp2_with fail
  go_ret
  exact ⟨by simp; omega, (But.refl _ _).alloc _⟩

theorem ownsRow_at {w : World} {base g cap : Nat} {l : List Int} (h : w.ownsRow base 3 1 (.slice (some ⟨g, 0, none⟩) l.length cap) l.length (l.map (Value.int .i64))) (k : Nat) (hk : k < l.length) :
    w.cell? ⟨g, k, none⟩ = some (.int .i64 (l.getD k 0)) := by
  have := h.cells (g := g) rfl k (.int .i64 (l.getD k 0)) (by simp [hk])
  have he : (⟨g, 0, none⟩ : Addr).add k = ⟨g, k, none⟩ := by unfold Addr.add; split <;> simp_all
  rwa [he] at this

set_option maxHeartbeats 1600000 in
theorem same_call (w : World) (l : List Int) (v1 v2 : Value) (B1 B2 : Nat) (mk rm mk' rm' : Bool) (t t' : Int) (hl : l.length < 1000000)
    (h1 : w.ownsRow B1 3 1 v1 l.length (l.map (Value.int .i64))) (h2 : w.ownsRow B2 3 1 v2 l.length (l.map (Value.int .i64))) :
    Calls Tryz.prog 24 #[.agg (eyeCells v1 mk t rm), .agg (eyeCells v2 mk' t' rm')] w fun e w' => e = .returned (.bool true) ∧ But (fun _ => False) w w' := by
  have u51 := Tryz.underlying50
  have c51 : Tryz.prog.cellsOf 50 = 5 := by kernel_rfl
  obtain ⟨n, hn⟩ : ∃ n, l.length = n := ⟨_, rfl⟩
  rcases Nat.eq_zero_or_pos n with h0 | hpos
  · obtain ⟨o1, c1, hv1⟩ := ownsRow_form h1
    obtain ⟨o2, c2, hv2⟩ := ownsRow_form h2
    subst hv1 hv2
    rw [hn, h0] at *
    clear h1 h2 hn h0
    unfold eyeCells
    go_enter Tryz.func24, Tryz.ntmps24
    go_wp2_with fail
    refine wp_loop_rounds 1 ?_
    rw [rounds_succ]
    go_wp2_with fail
    refine wp_loop_rounds 1 ?_
    rw [rounds_succ]
    go_wp2_with fail
    go_ret
    exact ⟨rfl, ((But.refl _ _).alloc _).alloc _⟩
  · rw [hn] at hl
    obtain ⟨g1, p1, hv1, -, hg1⟩ := h1.form (by omega)
    obtain ⟨g2, p2, hv2, -, hg2⟩ := h2.form (by omega)
    subst hv1 hv2
    have a1 := ownsRow_at h1
    have a2 := ownsRow_at h2
    obtain ⟨A, hA⟩ : ∃ A, A = Obj.cells (eyeCells (.slice (some ⟨g1, 0, none⟩) n p1) mk t rm) 50 := ⟨_, rfl⟩
    obtain ⟨B, hB⟩ : ∃ B, B = Obj.cells (eyeCells (.slice (some ⟨g2, 0, none⟩) n p2) mk' t' rm') 50 := ⟨_, rfl⟩
    obtain ⟨w2, hw2⟩ : ∃ w2, w2 = (w.alloc A).alloc B := ⟨_, rfl⟩
    have hA' := (heap_alloc_new w A).trans (congrArg some hA)
    have q1 : w2.cell? ⟨w.heap.size, 0, none⟩ = some (.slice (some ⟨g1, 0, none⟩) n p1) := by
      rw [hw2, World.cell?_of_block (Below.heap_alloc (w.alloc A) B _ (by simp))]
      exact (cell_of_row _ _ 0 _ _ _ hA').trans rfl
    have q2 : w2.cell? ⟨w.heap.size + 1, 0, none⟩ = some (.slice (some ⟨g2, 0, none⟩) n p2) := by
      have hs : (w.alloc A).heap.size = w.heap.size + 1 := by simp
      rw [hw2, ← hs]
      exact (cell_of_row _ _ 0 _ _ _ ((heap_alloc_new (w.alloc A) B).trans (congrArg some hB))).trans rfl
    have q3 : w2.cell? ⟨w.heap.size, 1, none⟩ = some (.slice none 0 0) := by
      rw [hw2, World.cell?_of_block (Below.heap_alloc (w.alloc A) B _ (by simp))]
      exact (cell_of_row _ _ 1 _ _ _ hA').trans rfl
    have q5 : ∀ k, k < n → w2.cell? ⟨g1, k, none⟩ = some (.int .i64 (l.getD k 0)) := fun k hk => by
      rw [hw2, World.cell?_of_block (Below.heap_alloc (w.alloc A) B _ (by simp; omega)), World.cell?_of_block (Below.heap_alloc w A _ hg1)]; exact a1 k (by omega)
    have q6 : ∀ k, k < n → w2.cell? ⟨g2, k, none⟩ = some (.int .i64 (l.getD k 0)) := fun k hk => by
      rw [hw2, World.cell?_of_block (Below.heap_alloc (w.alloc A) B _ (by simp; omega)), World.cell?_of_block (Below.heap_alloc w A _ hg2)]; exact a2 k (by omega)
    have hbut : But (fun _ => False) w w2 := by rw [hw2]; exact ((But.refl _ _).alloc _).alloc _
    have HW : Hid (w2 = (w.alloc A).alloc B ∧ A = Obj.cells (eyeCells (.slice (some ⟨g1, 0, none⟩) n p1) mk t rm) 50 ∧ B = Obj.cells (eyeCells (.slice (some ⟨g2, 0, none⟩) n p2) mk' t' rm') 50) := ⟨hw2, hA, hB⟩
    clear hw2 hA hB a1 a2 h1 h2 hg1 hg2
    rw [hn]
    clear hn
    unfold eyeCells
    go_enter Tryz.func24, Tryz.ntmps24
    go_wp2_with fail
    have HX := HW.out
    obtain ⟨x1, x2, x3⟩ := HX
    unfold eyeCells at x2 x3
    rw [← x2, ← x3, ← x1]
    clear x1 x2 x3
    have l1 := World.block_lt_of_cell? w2 _ q1
    have l2 := World.block_lt_of_cell? w2 _ q2
    have l3 := World.block_lt_of_cell? w2 _ (q5 0 (by omega))
    have l4 := World.block_lt_of_cell? w2 _ (q6 0 (by omega))
    go_loopw [5] (fun i wr => ∃ k : Nat, k ≤ n ∧ i = .int .i64 k ∧ But (fun _ => False) w2 wr) (fun i _ => n - (intOf i).toNat)
    case atStart => exact ⟨0, Nat.zero_le _, rfl, But.refl _ _⟩
    case round =>
      obtain ⟨k, hk, rfl, hwr⟩ := hrel
      have hk0 : (0 : Int) ≤ (k : Int) := Int.natCast_nonneg _
      have s1 := (hwr.cell l1 (by simp)).trans q1
      have s2 := (hwr.cell l2 (by simp)).trans q2
      have s3 := (hwr.cell (p := ⟨w.heap.size, 1, none⟩) l1 (by simp)).trans q3
      rcases Nat.lt_or_ge k n with hkn | hkn
      · have r1 := (hwr.cell (p := ⟨g1, k, none⟩) l3 (by simp)).trans (q5 k hkn)
        have r2 := (hwr.cell (p := ⟨g2, k, none⟩) l4 (by simp)).trans (q6 k hkn)
        clear q5 q6 q1 q2 q3 l1 l2 l3 l4
        have hki : (k : Int) < (n : Int) := by omega
        go_wp2_with fail
        go_region_held3 (fun w' => w'.cell? ⟨w.heap.size, 0, none⟩ = some (.slice (some ⟨g1, 0, none⟩) n p1) ∧ w'.cell? ⟨w.heap.size + 1, 0, none⟩ = some (.slice (some ⟨g2, 0, none⟩) n p2) ∧ w'.cell? ⟨g1, k, none⟩ = some (.int .i64 (l.getD k 0)) ∧ w'.cell? ⟨g2, k, none⟩ = some (.int .i64 (l.getD k 0))) (go_keep) (fail)
        go_wp2_with fail
        go_roundw
        case rel => exact ⟨k + 1, by omega, by go_num, hwr.drew⟩
        case measure => simp [intOf]; omega
      · clear q5 q6 q1 q2 q3 l1 l2 l3 l4
        obtain rfl : k = n := by omega
        go_wp2_with fail
        refine wp_loop_rounds 1 ?_
        rw [rounds_succ]
        go_wp2_with fail
        go_ret
        exact ⟨rfl, hbut.trans hwr (by simp)⟩
end Go.Proofs.YtlckcnkognnlpaaGreatDoor
end
section
namespace Go.Proofs.YtlckcnkognnlpaaGreatDoor
open Go.RowKit
set_option maxRecDepth 100000
attribute [local go_sem ↓] Go.wp_at_zero Go.wp_at_succ

theorem eye_all {w : World} {b : Nat} {v : Value} {mk rm : Bool} {t : Int} (he : w.heap[b]? = some (.cells (eyeCells v mk t rm) 50 (0, 0))) :
    w.cell? ⟨b, 0, none⟩ = some v ∧ w.cell? ⟨b, 1, none⟩ = some (.slice none 0 0) ∧ w.cell? ⟨b, 2, none⟩ = some (.bool mk) ∧ w.cell? ⟨b, 3, none⟩ = some (.int .i64 t) ∧ w.cell? ⟨b, 4, none⟩ = some (.bool rm) := by
  refine ⟨?_, ?_, ?_, ?_, ?_⟩ <;> simp [World.cell?, he, eyeCells]

theorem But.drewN7 {S : Nat → Prop} {a w : World} (h : But S a w) (n : Nat) : But S a (w.drewN n) := ⟨h.os, h.tape, h.output, h.size, h.block⟩

theorem alike_self (w : World) (g1 g2 : Nat) :
    Calls Tryz.prog 25 #[.slice (some ⟨g1, 0, none⟩) 1 1, .slice (some ⟨g2, 0, none⟩) 1 1, .int .i64 0] w fun e w' => e = .returned (.bool true) ∧ But (fun _ => False) w w' := by
  go_enter Tryz.func25, Tryz.ntmps25
  go_wp2_with fail
  refine wp_loop_rounds 2 ?_
  rw [rounds_succ]
  go_wp2_with fail
  go_quiet (fail)
  all_goals
    go_wp2_with fail
    rw [rounds_succ]
    go_wp2_with fail
    go_ret
    exact ⟨rfl, But.drewN7 (But.refl _ _) _⟩

set_option maxHeartbeats 1600000 in
theorem alike_call (w : World) (g1 g2 : Nat) (l : List Int) (v1 v2 : Value) (B1 B2 : Nat) (mk rm mk' rm' : Bool) (t t' : Int) (hl : l.length < 1000000)
    (he1 : w.heap[g1]? = some (.cells (eyeCells v1 mk t rm) 50 (0, 0))) (he2 : w.heap[g2]? = some (.cells (eyeCells v2 mk' t' rm') 50 (0, 0)))
    (h1 : w.ownsRow B1 3 1 v1 l.length (l.map (Value.int .i64))) (h2 : w.ownsRow B2 3 1 v2 l.length (l.map (Value.int .i64))) :
    Calls Tryz.prog 25 #[.slice (some ⟨g1, 0, none⟩) 1 1, .slice (some ⟨g2, 0, none⟩) 1 1, .int .i64 (-1)] w fun e w' => e = .returned (.bool true) ∧ But (fun _ => False) w w' := by
  have u51 := Tryz.underlying50
  have c51 : Tryz.prog.cellsOf 50 = 5 := by kernel_rfl
  obtain ⟨a0, a1, a2, a3, a4⟩ := eye_all he1
  obtain ⟨b0, b1, b2, b3, b4⟩ := eye_all he2
  have hs := fun w' (x1 : w'.ownsRow B1 3 1 v1 l.length (l.map (Value.int .i64))) (x2 : w'.ownsRow B2 3 1 v2 l.length (l.map (Value.int .i64))) => same_call w' l v1 v2 B1 B2 mk rm mk' rm' t t' hl x1 x2
  unfold eyeCells at hs
  have l1 := lt_of_block he1
  have l2 := lt_of_block he2
  go_enter Tryz.func25, Tryz.ntmps25
  go_wp2_with fail
  refine wp_loop_rounds 2 ?_
  rw [rounds_succ]
  go_wp2_with fail
  go_region_held3 (fun w' => w'.cell? ⟨g1, 0, none⟩ = some v1 ∧ w'.cell? ⟨g1, 1, none⟩ = some (.slice none 0 0) ∧ w'.cell? ⟨g1, 2, none⟩ = some (.bool mk) ∧ w'.cell? ⟨g1, 3, none⟩ = some (.int .i64 t) ∧ w'.cell? ⟨g1, 4, none⟩ = some (.bool rm) ∧ w'.cell? ⟨g2, 0, none⟩ = some v2 ∧ w'.cell? ⟨g2, 1, none⟩ = some (.slice none 0 0) ∧ w'.cell? ⟨g2, 2, none⟩ = some (.bool mk') ∧ w'.cell? ⟨g2, 3, none⟩ = some (.int .i64 t') ∧ w'.cell? ⟨g2, 4, none⟩ = some (.bool rm'))
    (first | go_keep | (go_split_ands; refine ⟨?_, ?_, ?_, ?_, ?_, ?_, ?_, ?_, ?_, ?_⟩ <;> (rw [hb.cell (by assumption) (by simp)]; assumption)))
    ((go_at_call 24; refine (hs _ (h1.drew) (h2.drew)).mono ?_; rintro e w2 ⟨rfl, hb⟩))
  go_wp2_with fail
  rw [rounds_succ]
  go_wp2_with fail
  go_ret
  exact ⟨rfl, (But.refl _ _).drew.trans hb (by simp)⟩
end Go.Proofs.YtlckcnkognnlpaaGreatDoor
end
section
namespace Go.Proofs.YtlckcnkognnlpaaGreatDoor
open Go.RowKit
set_option maxRecDepth 100000
attribute [local go_sem ↓] Go.wp_at_zero Go.wp_at_succ

theorem make52 (w : World) : (Instr.makeSlice 51 (.int .i64 1) (.int .i64 1)).run Tryz.prog w = .ok (.slice (some ⟨w.heap.size, 0, none⟩) 1 1) (w.alloc (.cells (eyeCells (.slice none 0 0) false 0 false) 50)) := by kernel_rfl

/-- What a look at one result tells: an eye that has seen L. -/
structure Told (B : Nat) (w : World) (b : Nat) (L : List Int) : Prop where
  new : B ≤ b
  eye : ∃ v C, w.heap[b]? = some (.cells (eyeCells v false 0 false) 50 (0, 0)) ∧ w.ownsRow C 3 1 v L.length (L.map (Value.int .i64)) ∧ B ≤ C

set_option maxHeartbeats 1600000 in
theorem lookA_call (w : World) (G A : Nat) (L : List Int) (hG : w.cell? ⟨G, 0, none⟩ = some (.func (.func 13) #[] #[.pointer (some ⟨A, 0, none⟩)]))
    (hc : ∀ w1, But (fun _ => False) w w1 → ∀ b, w.heap.size ≤ b → w1.heap[b]? = some (.cells (eyeCells (.slice none 0 0) false 0 false) 50 (0, 0)) →
      Calls Tryz.prog 13 #[.pointer (some ⟨b, 0, none⟩), .pointer (some ⟨A, 0, none⟩)] w1 fun e w2 => e = .returned (.tuple #[]) ∧ SeeI (fun _ => False) w1 b L false 0 false w2) :
    Calls Tryz.prog 23 #[.slice (some ⟨G, 0, none⟩) 1 1] w fun e w' => ∃ b, e = .returned (.slice (some ⟨b, 0, none⟩) 1 1) ∧ But (fun _ => False) w w' ∧ Told w.heap.size w' b L := by
  have hmk := make52
  have lG := World.block_lt_of_cell? w _ hG
  obtain ⟨w1, hw1⟩ : ∃ w1, w1 = w.alloc (.cells (eyeCells (.slice none 0 0) false 0 false) 50) := ⟨_, rfl⟩
  have hb1 : But (fun _ => False) w w1 := by rw [hw1]; exact (But.refl _ _).alloc _
  have he1 : w1.heap[w.heap.size]? = some (.cells (eyeCells (.slice none 0 0) false 0 false) 50 (0, 0)) := by rw [hw1]; exact heap_alloc_new w _
  have hG1 : w1.cell? ⟨G, 0, none⟩ = some (.func (.func 13) #[] #[.pointer (some ⟨A, 0, none⟩)]) := (hb1.cell lG (by simp)).trans hG
  have HW : Hid (w1 = w.alloc (.cells (eyeCells (.slice none 0 0) false 0 false) 50)) := hw1
  clear hw1
  go_enter Tryz.func23, Tryz.ntmps23
  go_wp2_with fail
  rw [← HW.out]
  refine wp_loop_rounds 2 ?_
  rw [rounds_succ]
  go_wp2_with fail
  go_region_with (go_at_call 13; refine (hc w1.drew hb1.drew w.heap.size (Nat.le_refl _) he1).mono ?_; rintro e w2 ⟨rfl, hS⟩)
  go_wp2_with fail
  rw [rounds_succ]
  go_wp2_with fail
  go_ret
  obtain ⟨v, he, hown⟩ := hS.eye
  have hsz : w.heap.size < w1.heap.size := lt_of_block he1
  refine ⟨w.heap.size, rfl, (hb1.drew.trans (S' := fun k => k = w.heap.size ∨ False) hS.but (fun i hi h => ?_)), Nat.le_refl _, v, _, he, hown, ?_⟩
  · simp at h; omega
  · have : w1.drew.heap.size = w1.heap.size := rfl
    omega
set_option maxHeartbeats 1600000 in
theorem lookB_call (w : World) (G A : Nat) (L : List Int) (hG : w.cell? ⟨G, 0, none⟩ = some (.func (.func 17) #[] #[.pointer (some ⟨A, 0, none⟩)]))
    (hc : ∀ w1, But (fun _ => False) w w1 → ∀ b, w.heap.size ≤ b → w1.heap[b]? = some (.cells (eyeCells (.slice none 0 0) false 0 false) 50 (0, 0)) →
      Calls Tryz.prog 17 #[.pointer (some ⟨b, 0, none⟩), .pointer (some ⟨A, 0, none⟩)] w1 fun e w2 => e = .returned (.tuple #[]) ∧ SeeI (fun _ => False) w1 b L false 0 false w2) :
    Calls Tryz.prog 23 #[.slice (some ⟨G, 0, none⟩) 1 1] w fun e w' => ∃ b, e = .returned (.slice (some ⟨b, 0, none⟩) 1 1) ∧ But (fun _ => False) w w' ∧ Told w.heap.size w' b L := by
  have hmk := make52
  have lG := World.block_lt_of_cell? w _ hG
  obtain ⟨w1, hw1⟩ : ∃ w1, w1 = w.alloc (.cells (eyeCells (.slice none 0 0) false 0 false) 50) := ⟨_, rfl⟩
  have hb1 : But (fun _ => False) w w1 := by rw [hw1]; exact (But.refl _ _).alloc _
  have he1 : w1.heap[w.heap.size]? = some (.cells (eyeCells (.slice none 0 0) false 0 false) 50 (0, 0)) := by rw [hw1]; exact heap_alloc_new w _
  have hG1 : w1.cell? ⟨G, 0, none⟩ = some (.func (.func 17) #[] #[.pointer (some ⟨A, 0, none⟩)]) := (hb1.cell lG (by simp)).trans hG
  have HW : Hid (w1 = w.alloc (.cells (eyeCells (.slice none 0 0) false 0 false) 50)) := hw1
  clear hw1
  go_enter Tryz.func23, Tryz.ntmps23
  go_wp2_with fail
  rw [← HW.out]
  refine wp_loop_rounds 2 ?_
  rw [rounds_succ]
  go_wp2_with fail
  go_region_with (go_at_call 17; refine (hc w1.drew hb1.drew w.heap.size (Nat.le_refl _) he1).mono ?_; rintro e w2 ⟨rfl, hS⟩)
  go_wp2_with fail
  rw [rounds_succ]
  go_wp2_with fail
  go_ret
  obtain ⟨v, he, hown⟩ := hS.eye
  have hsz : w.heap.size < w1.heap.size := lt_of_block he1
  refine ⟨w.heap.size, rfl, (hb1.drew.trans (S' := fun k => k = w.heap.size ∨ False) hS.but (fun i hi h => ?_)), Nat.le_refl _, v, _, he, hown, ?_⟩
  · simp at h; omega
  · have : w1.drew.heap.size = w1.heap.size := rfl
    omega
set_option maxHeartbeats 1600000 in
theorem lookC_call (w : World) (G A : Nat) (L : List Int) (hG : w.cell? ⟨G, 0, none⟩ = some (.func (.func 20) #[] #[.pointer (some ⟨A, 0, none⟩)]))
    (hc : ∀ w1, But (fun _ => False) w w1 → ∀ b, w.heap.size ≤ b → w1.heap[b]? = some (.cells (eyeCells (.slice none 0 0) false 0 false) 50 (0, 0)) →
      Calls Tryz.prog 20 #[.pointer (some ⟨b, 0, none⟩), .pointer (some ⟨A, 0, none⟩)] w1 fun e w2 => e = .returned (.tuple #[]) ∧ SeeI (fun _ => False) w1 b L false 0 false w2) :
    Calls Tryz.prog 23 #[.slice (some ⟨G, 0, none⟩) 1 1] w fun e w' => ∃ b, e = .returned (.slice (some ⟨b, 0, none⟩) 1 1) ∧ But (fun _ => False) w w' ∧ Told w.heap.size w' b L := by
  have hmk := make52
  have lG := World.block_lt_of_cell? w _ hG
  obtain ⟨w1, hw1⟩ : ∃ w1, w1 = w.alloc (.cells (eyeCells (.slice none 0 0) false 0 false) 50) := ⟨_, rfl⟩
  have hb1 : But (fun _ => False) w w1 := by rw [hw1]; exact (But.refl _ _).alloc _
  have he1 : w1.heap[w.heap.size]? = some (.cells (eyeCells (.slice none 0 0) false 0 false) 50 (0, 0)) := by rw [hw1]; exact heap_alloc_new w _
  have hG1 : w1.cell? ⟨G, 0, none⟩ = some (.func (.func 20) #[] #[.pointer (some ⟨A, 0, none⟩)]) := (hb1.cell lG (by simp)).trans hG
  have HW : Hid (w1 = w.alloc (.cells (eyeCells (.slice none 0 0) false 0 false) 50)) := hw1
  clear hw1
  go_enter Tryz.func23, Tryz.ntmps23
  go_wp2_with fail
  rw [← HW.out]
  refine wp_loop_rounds 2 ?_
  rw [rounds_succ]
  go_wp2_with fail
  go_region_with (go_at_call 20; refine (hc w1.drew hb1.drew w.heap.size (Nat.le_refl _) he1).mono ?_; rintro e w2 ⟨rfl, hS⟩)
  go_wp2_with fail
  rw [rounds_succ]
  go_wp2_with fail
  go_ret
  obtain ⟨v, he, hown⟩ := hS.eye
  have hsz : w.heap.size < w1.heap.size := lt_of_block he1
  refine ⟨w.heap.size, rfl, (hb1.drew.trans (S' := fun k => k = w.heap.size ∨ False) hS.but (fun i hi h => ?_)), Nat.le_refl _, v, _, he, hown, ?_⟩
  · simp at h; omega
  · have : w1.drew.heap.size = w1.heap.size := rfl
    omega
end Go.Proofs.YtlckcnkognnlpaaGreatDoor
end
