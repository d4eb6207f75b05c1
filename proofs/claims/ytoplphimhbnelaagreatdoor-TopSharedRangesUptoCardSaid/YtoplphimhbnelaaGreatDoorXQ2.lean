/-
  A part of the proof that the called functions turn nothing that came in, and that what they hand back lies apart; nothing is assumed.
-/
import Derived.Test.YtoplphimhbnelaaGreatDoorXQ1
import Derived.WalkLawsBesides
import Derived.Handy
import Derived.Lib.MinMaxS
import Derived.Laws.Closers25b
import Derived.Deep.LoopGhost
import Derived.Deep.RegionHeld3
import Derived.Deep.RegionLaw
import Derived.Deep.QuietTactic
import Derived.BigQuiet
set_option linter.all false
set_option linter.unusedVariables false
set_option linter.unusedSimpArgs false
namespace Go.Proofs.YtoplphimhbnelaaGreatDoor
open Go.RowKit
set_option maxRecDepth 100000
attribute [local go_sem ↓] Go.wp_at_zero Go.wp_at_succ

theorem cnan_call (w : World) (s : ByteArray) : Calls Tryz.prog 85 #[.string s] w fun e w' => e = .returned (.bool false) ∧ w = w' := by
  go_enter Tryz.func85, Tryz.ntmps85
  go_wp2_with fail
  go_ret
  simp
theorem snan_call (w : World) (s : ByteArray) : Calls Tryz.prog 64 #[.string s] w fun e w' => e = .returned (.bool false) ∧ w = w' := by
  go_enter Tryz.func64, Tryz.ntmps64
  go_wp2_with fail
  go_ret
  simp
theorem less_call (w : World) (s t : ByteArray) : Calls Tryz.prog 63 #[.string s, .string t] w fun e w' => (∃ r : Bool, e = .returned (.bool r)) ∧ w = w' := by
  go_enter Tryz.func63, Tryz.ntmps63
  go_wp2_with (go_at_call 85; refine (cnan_call _ _).mono ?_; rintro e w1 ⟨rfl, rfl⟩)
  all_goals
    go_ret
    exact ⟨⟨_, rfl⟩, rfl⟩

set_option maxHeartbeats 1600000 in
theorem sindex_call (w : World) (g n c : Nat) (x : ByteArray) (h : Strs w g n) (hn : n ≤ 2000000) : Calls Tryz.prog 62 #[.slice (some ⟨g, 0, none⟩) n c, .string x] w fun e w' => (∃ k : Int, e = .returned (.int .i64 k)) ∧ w = w' := by
  go_enter Tryz.func62, Tryz.ntmps62
  go_wp2_with fail
  go_loop [8] (fun i => ∃ k : Nat, k ≤ n ∧ i = .int .i64 k) (fun i => n - (intOf i).toNat)
  case atStart => exact ⟨0, Nat.zero_le _, rfl⟩
  case round =>
    obtain ⟨k, hk, rfl⟩ := hrel
    have hk0 : (0 : Int) ≤ (k : Int) := Int.natCast_nonneg _
    rcases Nat.lt_or_ge k n with hkn | hkn
    · obtain ⟨s, hs, -⟩ := h k hkn
      have hki : (k : Int) < (n : Int) := by omega
      go_wp2_with fail
      all_goals first
        | (go_ret; exact ⟨⟨_, rfl⟩, rfl⟩)
        | (go_round
           case rel => exact ⟨k + 1, by omega, by go_num⟩
           case measure => simp [intOf]; omega)
    · obtain rfl : k = n := by omega
      go_wp2_with fail
      go_ret
      exact ⟨⟨_, rfl⟩, rfl⟩
theorem scontains_call (w : World) (g n c : Nat) (x : ByteArray) (h : Strs w g n) (hn : n ≤ 2000000) : Calls Tryz.prog 44 #[.slice (some ⟨g, 0, none⟩) n c, .string x] w fun e w' => (∃ r : Bool, e = .returned (.bool r)) ∧ w = w' := by
  have R := sindex_call w g n c x h hn
  go_enter Tryz.func44, Tryz.ntmps44
  go_wp2_with fail
  refine R.mono ?_
  rintro e w1 ⟨⟨k, rfl⟩, rfl⟩
  go_wp2_with fail
  go_ret
  exact ⟨⟨_, rfl⟩, rfl⟩

def BsPost (n : Nat) (w : World) (e : Ending) (w' : World) : Prop := (∃ (i : Nat) (r : Bool), e = .returned (.tuple #[.int .i64 i, .bool r]) ∧ i ≤ n) ∧ w = w'
set_option maxHeartbeats 1600000 in
theorem bsearch_call (w : World) (g n c : Nat) (x : ByteArray) (h : Strs w g n) (hn : n ≤ 2000000) : Calls Tryz.prog 45 #[.slice (some ⟨g, 0, none⟩) n c, .string x] w fun e w' => BsPost n w e w' := by
  go_enter Tryz.func45, Tryz.ntmps45
  go_wp2_with fail
  go_loop [7, 8] (fun i j => ∃ a b : Nat, i = .int .i64 a ∧ j = .int .i64 b ∧ a ≤ b ∧ b ≤ n) (fun i j => (intOf j).toNat - (intOf i).toNat)
  case atStart => exact ⟨0, n, rfl, rfl, Nat.zero_le _, Nat.le_refl _⟩
  case round =>
    obtain ⟨a, b, rfl, rfl, hab, hbn⟩ := hrel
    have ha0 : (0 : Int) ≤ (a : Int) := Int.natCast_nonneg _
    have hb0 : (0 : Int) ≤ (b : Int) := Int.natCast_nonneg _
    rcases Nat.lt_or_ge a b with hlt | hge
    · obtain ⟨s, hs, -⟩ := h ((a + b) / 2) (by omega)
      have hQ0 : (0 : Int) ≤ ((a : Int) + (b : Int)) / 2 := by omega
      have hQ1 : ((a : Int) + (b : Int)) / 2 < (n : Int) := by omega
      have hQ2 : (((a : Int) + (b : Int)) / 2).toNat = (a + b) / 2 := by omega
      have hab' : (a : Int) < (b : Int) := by omega
      have hbn' : (b : Int) ≤ 2000000 := by omega
      have hab0 : (0 : Int) ≤ (a : Int) + (b : Int) := by omega
      go_wp2_with (go_at_call 63; refine (less_call _ _ _).mono ?_; rintro e w1 ⟨⟨r, rfl⟩, rfl⟩)
      all_goals
        go_round
        case rel => first | exact ⟨(a + b) / 2 + 1, b, by go_num, rfl, by omega, hbn⟩ | exact ⟨a, (a + b) / 2, rfl, by go_num, by omega, by omega⟩
        case measure => simp [intOf]; omega
    · obtain rfl : a = b := by omega
      rcases Nat.lt_or_ge a n with han | han
      · obtain ⟨s, hs, -⟩ := h a han
        have han' : (a : Int) < (n : Int) := by omega
        go_wp2_with (go_at_call 64; refine (snan_call _ _).mono ?_; rintro e w1 ⟨rfl, rfl⟩)
        all_goals
          go_ret2
          exact ⟨⟨a, _, rfl, by omega⟩, rfl⟩
      · obtain rfl : a = n := by omega
        go_wp2_with (go_at_call 64; refine (snan_call _ _).mono ?_; rintro e w1 ⟨rfl, rfl⟩)
        all_goals
          go_ret2
          exact ⟨⟨a, _, rfl, by omega⟩, rfl⟩

set_option maxHeartbeats 3200000 in
theorem rcheck_call (w : World) (g n c : Nat) (h : Strs w g n) (hn : n ≤ 1048576) :
    Calls Tryz.prog 9 #[.slice (some ⟨g, 0, none⟩) n c] w fun e w' => (∃ k : Int, e = .returned (.int .i64 k) ∧ (k = 0 → n ≤ 15)) ∧ But (fun _ => False) w w' := by
  have hn0 : (0 : Int) ≤ (n : Int) := Int.natCast_nonneg _
  rcases Nat.lt_or_ge 15 n with h15 | h15
  · have h15' : (15 : Int) < (n : Int) := by omega
    go_enter Tryz.func9, Tryz.ntmps9
    go_wp2_with fail
    go_ret
    exact ⟨⟨3, rfl, by omega⟩, But.refl _ _⟩
  · have h15' : ¬ (15 : Int) < (n : Int) := by omega
    have R := scontains_call w g n c ByteArray.empty h (by omega)
    go_enter Tryz.func9, Tryz.ntmps9
    go_wp2_with fail
    refine R.mono ?_
    rintro e w1 ⟨⟨r, rfl⟩, rfl⟩
    clear R
    cases r
    · go_wp2_with fail
      go_loopw [3] (fun i wr => ∃ k : Nat, i = .int .i64 ((k : Int) + 1) ∧ k ≤ n ∧ But (fun _ => False) w wr) (fun i _ => n + 1 - (intOf i).toNat)
      case atStart => exact ⟨0, rfl, Nat.zero_le _, But.refl _ _⟩
      case round =>
        obtain ⟨k, rfl, hk, hb⟩ := hrel
        have hk0 : (0 : Int) ≤ (k : Int) := Int.natCast_nonneg _
        rcases Nat.lt_or_ge (k + 1) n with hkn | hkn
        · obtain ⟨s, hs, -⟩ := (h.but hb (by simp)) k (by omega)
          obtain ⟨t, ht, -⟩ := (h.but hb (by simp)) (k + 1) hkn
          have hki : (k : Int) + 1 < (n : Int) := by omega
          have hk1 : (k : Int) < (n : Int) := by omega
          have hsub : (k : Int) + 1 - 1 = (k : Int) := by omega
          have hkB : (k : Int) ≤ 2000000 := by omega
          have hk10 : (0 : Int) ≤ (k : Int) + 1 := by omega
          have hk11 : ((k : Int) + 1).toNat = k + 1 := by omega
          clear h
          go_wp2_with fail
          go_quiet (fail)
          go_wp2_with fail
          all_goals first
            | (go_ret; exact ⟨⟨10, rfl, by omega⟩, hb.drewN7 _⟩)
            | (go_roundw
               case rel => exact ⟨k + 1, by go_num, by omega, hb.drewN7 _⟩
               case measure => simp [intOf]; omega)
        · have hend : ((k : Int) + 1 < (n : Int)) = False := eq_false (by omega)
          go_wp2_with fail
          go_ret
          exact ⟨⟨0, rfl, fun _ => h15⟩, hb⟩
    · go_wp2_with fail
      go_ret
      exact ⟨⟨2, rfl, by omega⟩, But.refl _ _⟩

set_option maxHeartbeats 3200000 in
theorem rof_call (w : World) (g n c : Nat) (key : ByteArray) (h : Strs w g n) (hn : n ≤ 1048576) :
    Calls Tryz.prog 11 #[.slice (some ⟨g, 0, none⟩) n c, .string key] w fun e w' => (∃ (i : Nat) (x : Int), e = .returned (.tuple #[.int .i64 i, .int .i64 x]) ∧ i ≤ 16) ∧ But (fun _ => False) w w' := by
  have R := rcheck_call w g n c h hn
  go_enter Tryz.func11, Tryz.ntmps11
  go_wp2_with fail
  refine R.mono ?_
  rintro e w1 ⟨⟨k, rfl, hk⟩, hb⟩
  clear R
  by_cases hk0 : k = 0
  · subst hk0
    have hn15 := hk rfl
    have B := bsearch_call w1 g n c key (h.but hb (by simp)) (by omega)
    go_wp2_with fail
    refine B.mono ?_
    rintro e w2 ⟨⟨i, r, rfl, hi⟩, rfl⟩
    have hi0 : (0 : Int) ≤ (i : Int) := Int.natCast_nonneg _
    have hi1 : (i : Int) ≤ 15 := by omega
    cases r
    · go_wp2_with fail
      go_ret2
      exact ⟨⟨i, 0, rfl, by omega⟩, hb⟩
    · go_wp2_with fail
      go_ret2
      exact ⟨⟨i + 1, 0, by go_num, by omega⟩, hb⟩
  · go_wp2_with fail
    go_ret2
    exact ⟨⟨0, k, rfl, by omega⟩, hb⟩

set_option maxHeartbeats 3200000 in
theorem rnode_call (w : World) (g n c : Nat) (key : ByteArray) (m : Int) (h : Strs w g n) (hn : n ≤ 1048576) :
    Calls Tryz.prog 15 #[.slice (some ⟨g, 0, none⟩) n c, .string key, .int .i64 m] w fun e w' => (∃ v, e = .returned v) ∧ But (fun _ => False) w w' := by
  have R := rof_call w g n c key h hn
  go_enter Tryz.func15, Tryz.ntmps15
  go_wp2_with fail
  refine R.mono ?_
  rintro e w1 ⟨⟨i, x, rfl, hi⟩, hb⟩
  have hi0 : (0 : Int) ≤ (i : Int) := Int.natCast_nonneg _
  clear R
  by_cases hx : x = 0
  · subst hx
    by_cases hm : m < 1
    · go_wp2_with fail
      go_ret2
      exact ⟨⟨_, rfl⟩, hb⟩
    · by_cases hm2 : 7 < m
      · go_wp2_with fail
        go_ret2
        exact ⟨⟨_, rfl⟩, hb⟩
      · have hm3 : m ≠ 0 := by omega
        go_wp2_with fail
        go_ret2
        exact ⟨⟨_, rfl⟩, hb⟩
  · go_wp2_with fail
    go_ret2
    exact ⟨⟨_, rfl⟩, hb⟩

set_option maxHeartbeats 3200000 in
theorem empty_call (w : World) (a b : ByteArray) : Calls Tryz.prog 46 #[.agg #[.string a, .string b]] w fun e w' => (∃ r : Bool, e = .returned (.bool r)) ∧ w' = w.alloc (.cells #[.string a, .string b] 24) := by
  have uS := Tryz.underlying24
  have cS : Tryz.prog.cellsOf 24 = 2 := by kernel_rfl
  go_enter Tryz.func46, Tryz.ntmps46
  go_wp2_with fail
  all_goals
    go_ret
    exact ⟨⟨_, rfl⟩, rfl⟩

set_option maxHeartbeats 6400000 in
theorem span_call (w : World) (g n c : Nat) (i : Nat) (h : Strs w g n) (hn : n ≤ 1048576) (hi : (i : Int) ≤ 9223372036854775807) :
    Calls Tryz.prog 13 #[.slice (some ⟨g, 0, none⟩) n c, .int .i64 i] w fun e w' => (∃ (a b : ByteArray) (x : Int), e = .returned (.tuple #[.agg #[.string a, .string b], .int .i64 x])) ∧ But (fun _ => False) w w' := by
  clear hi
  have uS := Tryz.underlying24
  have cS : Tryz.prog.cellsOf 24 = 2 := by kernel_rfl
  obtain ⟨w0, hw0⟩ : ∃ w0, w.alloc (.cells #[.string ⟨#[]⟩, .string ⟨#[]⟩] 24) = w0 := ⟨_, rfl⟩
  have h0 : But (fun _ => False) w w0 := by rw [← hw0]; exact (But.refl _ _).alloc _
  have g0 : w0.heap[w.heap.size]? = some (.cells #[.string ⟨#[]⟩, .string ⟨#[]⟩] 24 (0, 0)) := by rw [← hw0]; exact heap_alloc_new w _
  have z0 : w.heap.size < w0.heap.size := lt_of_block g0
  have R := rcheck_call w0 g n c (h.but h0 (by simp)) hn
  go_enter Tryz.func13, Tryz.ntmps13
  go_wp2_with fail
  refine R.mono ?_
  rintro e w1 ⟨⟨k, rfl, hk⟩, hb⟩
  clear R
  have r1 := hb.to g0 (by simp)
  have hb1 := h0.trans hb (by simp)
  have c0 : w1.cell? ⟨w.heap.size, 0, none⟩ = some (.string ⟨#[]⟩) := (cell_of_row _ _ 0 _ _ _ r1).trans rfl
  have c1 : w1.cell? ⟨w.heap.size, 1, none⟩ = some (.string ⟨#[]⟩) := (cell_of_row _ _ 1 _ _ _ r1).trans rfl
  have f0 : w1.frozen? ⟨w.heap.size, 0, none⟩ = false := by simp [World.frozen?, r1]
  have f1 : w1.frozen? ⟨w.heap.size, 1, none⟩ = false := by simp [World.frozen?, r1]
  have hi0 : (0 : Int) ≤ (i : Int) := Int.natCast_nonneg _
  clear hw0 g0
  by_cases hk0 : k = 0
  · subst hk0
    have hn15 := hk rfl
    rcases Nat.lt_or_ge n i with hni | hni
    · have hni' : (n : Int) < (i : Int) := by omega
      go_wp2_with fail
      obtain ⟨w9, hw9⟩ : ∃ w9, w9 = (w1.setCell ⟨w.heap.size, 0, none⟩ (.string ⟨#[]⟩)).setCell ⟨w.heap.size, 1, none⟩ (.string ⟨#[]⟩) := ⟨_, rfl⟩
      have r9 : w9.heap[w.heap.size]? = some (.cells #[.string ⟨#[]⟩, .string ⟨#[]⟩] 24 (0, 0)) := by rw [hw9]; exact heap_setCell_same (heap_setCell_same r1 _) _
      have t0 : w9.cell? ⟨w.heap.size, 0, none⟩ = some (.string ⟨#[]⟩) := (cell_of_row _ _ 0 _ _ _ r9).trans rfl
      have t1 : w9.cell? ⟨w.heap.size, 1, none⟩ = some (.string ⟨#[]⟩) := (cell_of_row _ _ 1 _ _ _ r9).trans rfl
      have b9 : But (fun _ => False) w w9 := by rw [hw9]; exact ((hb1).setCell (fun h => by simp at h) _).setCell (fun h => by simp at h) _
      rw [← hw9]
      refine bodyPost_ret (v := .tuple #[.agg #[.string ⟨#[]⟩, .string ⟨#[]⟩], .int .i64 2]) (by simp [results, Tryz.results13, go_sem, t0, t1]) rfl ⟨⟨_, _, _, rfl⟩, b9⟩
    · -- the span's own block
      have hni' : (i : Int) ≤ (n : Int) := by omega
      obtain ⟨w2, hw2⟩ : ∃ w2, w1.alloc (.cells #[.string ⟨#[]⟩, .string ⟨#[]⟩] 24) = w2 := ⟨_, rfl⟩
      have g2 : w2.heap[w1.heap.size]? = some (.cells #[.string ⟨#[]⟩, .string ⟨#[]⟩] 24 (0, 0)) := by rw [← hw2]; exact heap_alloc_new w1 _
      have b2 : But (fun _ => False) w1 w2 := by rw [← hw2]; exact (But.refl _ _).alloc _
      have z1 : w.heap.size < w1.heap.size := lt_of_block r1
      have key : ∀ (w3 : World) (a b : ByteArray), w3.heap[w1.heap.size]? = some (.cells #[.string a, .string b] 24 (0, 0)) → But (fun k => k = w1.heap.size) w2 w3 →
          w3.heap[w.heap.size]? = some (.cells #[.string ⟨#[]⟩, .string ⟨#[]⟩] 24 (0, 0)) ∧ But (fun _ => False) w w3 := fun w3 a b h1 h2 =>
        ⟨h2.to (b2.to r1 (by simp)) (by omega), (hb1.trans b2 (by simp)).trans h2 (fun k h3 h4 => by omega)⟩
      have d0 : w2.cell? ⟨w1.heap.size, 0, none⟩ = some (.string ⟨#[]⟩) := (cell_of_row _ _ 0 _ _ _ g2).trans rfl
      have d1 : w2.cell? ⟨w1.heap.size, 1, none⟩ = some (.string ⟨#[]⟩) := (cell_of_row _ _ 1 _ _ _ g2).trans rfl
      have d2 : w2.frozen? ⟨w1.heap.size, 0, none⟩ = false := by simp [World.frozen?, g2]
      have d3 : w2.frozen? ⟨w1.heap.size, 1, none⟩ = false := by simp [World.frozen?, g2]
      have hS2 := h.but (hb1.trans b2 (by simp)) (by simp)
      clear c0 c1 f0 f1
      rcases Nat.eq_zero_or_pos i with hz | hpos
      · subst hz
        rcases Nat.eq_zero_or_pos n with hn0 | hn0
        · subst hn0
          obtain ⟨w3, hw3⟩ : ∃ w3, w2 = w3 := ⟨_, rfl⟩
          have g3 : w3.heap[w1.heap.size]? = some (.cells #[.string ⟨#[]⟩, .string ⟨#[]⟩] 24 (0, 0)) := by rw [← hw3]; exact g2
          have b3 : But (fun k => k = w1.heap.size) w2 w3 := by rw [← hw3]; exact (But.refl (fun k => k = w1.heap.size) w2)
          obtain ⟨r3, bw3⟩ := key w3 ByteArray.empty ByteArray.empty g3 b3
          have m0 : w3.cell? ⟨w1.heap.size, 0, none⟩ = some (.string ⟨#[]⟩) := (cell_of_row _ _ 0 _ _ _ g3).trans rfl
          have m1 : w3.cell? ⟨w1.heap.size, 1, none⟩ = some (.string ⟨#[]⟩) := (cell_of_row _ _ 1 _ _ _ g3).trans rfl
          have k0 : w3.cell? ⟨w.heap.size, 0, none⟩ = some (.string ⟨#[]⟩) := (cell_of_row _ _ 0 _ _ _ r3).trans rfl
          have k1 : w3.cell? ⟨w.heap.size, 1, none⟩ = some (.string ⟨#[]⟩) := (cell_of_row _ _ 1 _ _ _ r3).trans rfl
          have k2 : w3.frozen? ⟨w.heap.size, 0, none⟩ = false := by simp [World.frozen?, r3]
          have k3 : w3.frozen? ⟨w.heap.size, 1, none⟩ = false := by simp [World.frozen?, r3]
          go_wp2_with fail
          obtain ⟨w9, hw9⟩ : ∃ w9, w9 = (w3.setCell ⟨w.heap.size, 0, none⟩ (.string ⟨#[]⟩)).setCell ⟨w.heap.size, 1, none⟩ (.string ⟨#[]⟩) := ⟨_, rfl⟩
          have r9 : w9.heap[w.heap.size]? = some (.cells #[.string ⟨#[]⟩, .string ⟨#[]⟩] 24 (0, 0)) := by rw [hw9]; exact heap_setCell_same (heap_setCell_same r3 _) _
          have t0 : w9.cell? ⟨w.heap.size, 0, none⟩ = some (.string ⟨#[]⟩) := (cell_of_row _ _ 0 _ _ _ r9).trans rfl
          have t1 : w9.cell? ⟨w.heap.size, 1, none⟩ = some (.string ⟨#[]⟩) := (cell_of_row _ _ 1 _ _ _ r9).trans rfl
          have b9 : But (fun _ => False) w w9 := by rw [hw9]; exact ((bw3).setCell (fun h => by simp at h) _).setCell (fun h => by simp at h) _
          rw [← hw9]
          refine bodyPost_ret (v := .tuple #[.agg #[.string ⟨#[]⟩, .string ⟨#[]⟩], .int .i64 0]) (by simp [results, Tryz.results13, go_sem, t0, t1]) rfl ⟨⟨_, _, _, rfl⟩, b9⟩
        · obtain ⟨t, ht, -⟩ := hS2 0 (by omega)
          have hn1 : (0 : Int) < (n : Int) := by omega
          obtain ⟨w3, hw3⟩ : ∃ w3, w2.setCell ⟨w1.heap.size, 1, none⟩ (.string t) = w3 := ⟨_, rfl⟩
          have g3 : w3.heap[w1.heap.size]? = some (.cells #[.string ⟨#[]⟩, .string t] 24 (0, 0)) := by rw [← hw3]; exact (heap_setCell_same g2 _)
          have b3 : But (fun k => k = w1.heap.size) w2 w3 := by rw [← hw3]; exact ((But.refl (fun k => k = w1.heap.size) w2).setCell (fun _ => rfl) _)
          obtain ⟨r3, bw3⟩ := key w3 ByteArray.empty t g3 b3
          have m0 : w3.cell? ⟨w1.heap.size, 0, none⟩ = some (.string ⟨#[]⟩) := (cell_of_row _ _ 0 _ _ _ g3).trans rfl
          have m1 : w3.cell? ⟨w1.heap.size, 1, none⟩ = some (.string t) := (cell_of_row _ _ 1 _ _ _ g3).trans rfl
          have k0 : w3.cell? ⟨w.heap.size, 0, none⟩ = some (.string ⟨#[]⟩) := (cell_of_row _ _ 0 _ _ _ r3).trans rfl
          have k1 : w3.cell? ⟨w.heap.size, 1, none⟩ = some (.string ⟨#[]⟩) := (cell_of_row _ _ 1 _ _ _ r3).trans rfl
          have k2 : w3.frozen? ⟨w.heap.size, 0, none⟩ = false := by simp [World.frozen?, r3]
          have k3 : w3.frozen? ⟨w.heap.size, 1, none⟩ = false := by simp [World.frozen?, r3]
          go_wp2_with fail
          obtain ⟨w9, hw9⟩ : ∃ w9, w9 = (w3.setCell ⟨w.heap.size, 0, none⟩ (.string ⟨#[]⟩)).setCell ⟨w.heap.size, 1, none⟩ (.string t) := ⟨_, rfl⟩
          have r9 : w9.heap[w.heap.size]? = some (.cells #[.string ⟨#[]⟩, .string t] 24 (0, 0)) := by rw [hw9]; exact heap_setCell_same (heap_setCell_same r3 _) _
          have t0 : w9.cell? ⟨w.heap.size, 0, none⟩ = some (.string ⟨#[]⟩) := (cell_of_row _ _ 0 _ _ _ r9).trans rfl
          have t1 : w9.cell? ⟨w.heap.size, 1, none⟩ = some (.string t) := (cell_of_row _ _ 1 _ _ _ r9).trans rfl
          have b9 : But (fun _ => False) w w9 := by rw [hw9]; exact ((bw3).setCell (fun h => by simp at h) _).setCell (fun h => by simp at h) _
          rw [← hw9]
          refine bodyPost_ret (v := .tuple #[.agg #[.string ⟨#[]⟩, .string t], .int .i64 0]) (by simp [results, Tryz.results13, go_sem, t0, t1]) rfl ⟨⟨_, _, _, rfl⟩, b9⟩
      · obtain ⟨j, rfl⟩ : ∃ j, i = j + 1 := ⟨i - 1, by omega⟩
        obtain ⟨s, hs, -⟩ := hS2 j (by omega)
        have hj0 : (0 : Int) ≤ (j : Int) := Int.natCast_nonneg _
        have hj1 : (j : Int) < (n : Int) := by omega
        have hj2 : ((j + 1 : Nat) : Int) = (j : Int) + 1 := by omega
        have hj3 : (j : Int) + 1 - 1 = (j : Int) := by omega
        rcases Nat.lt_or_ge (j + 1) n with hlt | hge
        · obtain ⟨t, ht, -⟩ := hS2 (j + 1) hlt
          have hlt' : (j : Int) + 1 < (n : Int) := by omega
          obtain ⟨w3, hw3⟩ : ∃ w3, (w2.setCell ⟨w1.heap.size, 0, none⟩ (.string s)).setCell ⟨w1.heap.size, 1, none⟩ (.string t) = w3 := ⟨_, rfl⟩
          have g3 : w3.heap[w1.heap.size]? = some (.cells #[.string s, .string t] 24 (0, 0)) := by rw [← hw3]; exact (heap_setCell_same (heap_setCell_same g2 _) _)
          have b3 : But (fun k => k = w1.heap.size) w2 w3 := by rw [← hw3]; exact (((But.refl (fun k => k = w1.heap.size) w2).setCell (fun _ => rfl) _).setCell (fun _ => rfl) _)
          obtain ⟨r3, bw3⟩ := key w3 s t g3 b3
          have m0 : w3.cell? ⟨w1.heap.size, 0, none⟩ = some (.string s) := (cell_of_row _ _ 0 _ _ _ g3).trans rfl
          have m1 : w3.cell? ⟨w1.heap.size, 1, none⟩ = some (.string t) := (cell_of_row _ _ 1 _ _ _ g3).trans rfl
          have k0 : w3.cell? ⟨w.heap.size, 0, none⟩ = some (.string ⟨#[]⟩) := (cell_of_row _ _ 0 _ _ _ r3).trans rfl
          have k1 : w3.cell? ⟨w.heap.size, 1, none⟩ = some (.string ⟨#[]⟩) := (cell_of_row _ _ 1 _ _ _ r3).trans rfl
          have k2 : w3.frozen? ⟨w.heap.size, 0, none⟩ = false := by simp [World.frozen?, r3]
          have k3 : w3.frozen? ⟨w.heap.size, 1, none⟩ = false := by simp [World.frozen?, r3]
          go_wp2_with fail
          obtain ⟨w9, hw9⟩ : ∃ w9, w9 = (w3.setCell ⟨w.heap.size, 0, none⟩ (.string s)).setCell ⟨w.heap.size, 1, none⟩ (.string t) := ⟨_, rfl⟩
          have r9 : w9.heap[w.heap.size]? = some (.cells #[.string s, .string t] 24 (0, 0)) := by rw [hw9]; exact heap_setCell_same (heap_setCell_same r3 _) _
          have t0 : w9.cell? ⟨w.heap.size, 0, none⟩ = some (.string s) := (cell_of_row _ _ 0 _ _ _ r9).trans rfl
          have t1 : w9.cell? ⟨w.heap.size, 1, none⟩ = some (.string t) := (cell_of_row _ _ 1 _ _ _ r9).trans rfl
          have b9 : But (fun _ => False) w w9 := by rw [hw9]; exact ((bw3).setCell (fun h => by simp at h) _).setCell (fun h => by simp at h) _
          rw [← hw9]
          refine bodyPost_ret (v := .tuple #[.agg #[.string s, .string t], .int .i64 0]) (by simp [results, Tryz.results13, go_sem, t0, t1]) rfl ⟨⟨_, _, _, rfl⟩, b9⟩
        · have hge' : ((j : Int) + 1 < (n : Int)) = False := eq_false (by omega)
          obtain ⟨w3, hw3⟩ : ∃ w3, w2.setCell ⟨w1.heap.size, 0, none⟩ (.string s) = w3 := ⟨_, rfl⟩
          have g3 : w3.heap[w1.heap.size]? = some (.cells #[.string s, .string ⟨#[]⟩] 24 (0, 0)) := by rw [← hw3]; exact (heap_setCell_same g2 _)
          have b3 : But (fun k => k = w1.heap.size) w2 w3 := by rw [← hw3]; exact ((But.refl (fun k => k = w1.heap.size) w2).setCell (fun _ => rfl) _)
          obtain ⟨r3, bw3⟩ := key w3 s ByteArray.empty g3 b3
          have m0 : w3.cell? ⟨w1.heap.size, 0, none⟩ = some (.string s) := (cell_of_row _ _ 0 _ _ _ g3).trans rfl
          have m1 : w3.cell? ⟨w1.heap.size, 1, none⟩ = some (.string ⟨#[]⟩) := (cell_of_row _ _ 1 _ _ _ g3).trans rfl
          have k0 : w3.cell? ⟨w.heap.size, 0, none⟩ = some (.string ⟨#[]⟩) := (cell_of_row _ _ 0 _ _ _ r3).trans rfl
          have k1 : w3.cell? ⟨w.heap.size, 1, none⟩ = some (.string ⟨#[]⟩) := (cell_of_row _ _ 1 _ _ _ r3).trans rfl
          have k2 : w3.frozen? ⟨w.heap.size, 0, none⟩ = false := by simp [World.frozen?, r3]
          have k3 : w3.frozen? ⟨w.heap.size, 1, none⟩ = false := by simp [World.frozen?, r3]
          go_wp2_with fail
          obtain ⟨w9, hw9⟩ : ∃ w9, w9 = (w3.setCell ⟨w.heap.size, 0, none⟩ (.string s)).setCell ⟨w.heap.size, 1, none⟩ (.string ⟨#[]⟩) := ⟨_, rfl⟩
          have r9 : w9.heap[w.heap.size]? = some (.cells #[.string s, .string ⟨#[]⟩] 24 (0, 0)) := by rw [hw9]; exact heap_setCell_same (heap_setCell_same r3 _) _
          have t0 : w9.cell? ⟨w.heap.size, 0, none⟩ = some (.string s) := (cell_of_row _ _ 0 _ _ _ r9).trans rfl
          have t1 : w9.cell? ⟨w.heap.size, 1, none⟩ = some (.string ⟨#[]⟩) := (cell_of_row _ _ 1 _ _ _ r9).trans rfl
          have b9 : But (fun _ => False) w w9 := by rw [hw9]; exact ((bw3).setCell (fun h => by simp at h) _).setCell (fun h => by simp at h) _
          rw [← hw9]
          refine bodyPost_ret (v := .tuple #[.agg #[.string s, .string ⟨#[]⟩], .int .i64 0]) (by simp [results, Tryz.results13, go_sem, t0, t1]) rfl ⟨⟨_, _, _, rfl⟩, b9⟩
  · go_wp2_with fail
    obtain ⟨w9, hw9⟩ : ∃ w9, w9 = (w1.setCell ⟨w.heap.size, 0, none⟩ (.string ⟨#[]⟩)).setCell ⟨w.heap.size, 1, none⟩ (.string ⟨#[]⟩) := ⟨_, rfl⟩
    have r9 : w9.heap[w.heap.size]? = some (.cells #[.string ⟨#[]⟩, .string ⟨#[]⟩] 24 (0, 0)) := by rw [hw9]; exact heap_setCell_same (heap_setCell_same r1 _) _
    have t0 : w9.cell? ⟨w.heap.size, 0, none⟩ = some (.string ⟨#[]⟩) := (cell_of_row _ _ 0 _ _ _ r9).trans rfl
    have t1 : w9.cell? ⟨w.heap.size, 1, none⟩ = some (.string ⟨#[]⟩) := (cell_of_row _ _ 1 _ _ _ r9).trans rfl
    have b9 : But (fun _ => False) w w9 := by rw [hw9]; exact ((hb1).setCell (fun h => by simp at h) _).setCell (fun h => by simp at h) _
    rw [← hw9]
    refine bodyPost_ret (v := .tuple #[.agg #[.string ⟨#[]⟩, .string ⟨#[]⟩], .int .i64 k]) (by simp [results, Tryz.results13, go_sem, t0, t1]) rfl ⟨⟨_, _, _, rfl⟩, b9⟩

/-- Span, whatever it is asked. -/
theorem span_any (w : World) (g n c : Nat) (i : Int) (h : Strs w g n) (hn : n ≤ 1048576) (hi : -9223372036854775808 ≤ i ∧ i < 9223372036854775808) :
    Calls Tryz.prog 13 #[.slice (some ⟨g, 0, none⟩) n c, .int .i64 i] w fun e w' => (∃ (a b : ByteArray) (x : Int), e = .returned (.tuple #[.agg #[.string a, .string b], .int .i64 x])) ∧ But (fun _ => False) w w' := by
  rcases Int.lt_or_le i 0 with hneg | hpos
  · have uS := Tryz.underlying24
    have cS : Tryz.prog.cellsOf 24 = 2 := by kernel_rfl
    obtain ⟨w0, hw0⟩ : ∃ w0, w.alloc (.cells #[.string ⟨#[]⟩, .string ⟨#[]⟩] 24) = w0 := ⟨_, rfl⟩
    have h0 : But (fun _ => False) w w0 := by rw [← hw0]; exact (But.refl _ _).alloc _
    have g0 : w0.heap[w.heap.size]? = some (.cells #[.string ⟨#[]⟩, .string ⟨#[]⟩] 24 (0, 0)) := by rw [← hw0]; exact heap_alloc_new w _
    have R := rcheck_call w0 g n c (h.but h0 (by simp)) hn
    go_enter Tryz.func13, Tryz.ntmps13
    go_wp2_with fail
    refine R.mono ?_
    rintro e w1 ⟨⟨k, rfl, hk⟩, hb⟩
    clear R
    have r1 := hb.to g0 (by simp)
    have hb1 := h0.trans hb (by simp)
    have c0 : w1.cell? ⟨w.heap.size, 0, none⟩ = some (.string ⟨#[]⟩) := (cell_of_row _ _ 0 _ _ _ r1).trans rfl
    have c1 : w1.cell? ⟨w.heap.size, 1, none⟩ = some (.string ⟨#[]⟩) := (cell_of_row _ _ 1 _ _ _ r1).trans rfl
    have f0 : w1.frozen? ⟨w.heap.size, 0, none⟩ = false := by simp [World.frozen?, r1]
    have f1 : w1.frozen? ⟨w.heap.size, 1, none⟩ = false := by simp [World.frozen?, r1]
    clear hw0 g0
    obtain ⟨w9, hw9⟩ : ∃ w9, w9 = (w1.setCell ⟨w.heap.size, 0, none⟩ (.string ⟨#[]⟩)).setCell ⟨w.heap.size, 1, none⟩ (.string ⟨#[]⟩) := ⟨_, rfl⟩
    have r9 : w9.heap[w.heap.size]? = some (.cells #[.string ⟨#[]⟩, .string ⟨#[]⟩] 24 (0, 0)) := by rw [hw9]; exact heap_setCell_same (heap_setCell_same r1 _) _
    have t0 : w9.cell? ⟨w.heap.size, 0, none⟩ = some (.string ⟨#[]⟩) := (cell_of_row _ _ 0 _ _ _ r9).trans rfl
    have t1 : w9.cell? ⟨w.heap.size, 1, none⟩ = some (.string ⟨#[]⟩) := (cell_of_row _ _ 1 _ _ _ r9).trans rfl
    have b9 : But (fun _ => False) w w9 := by rw [hw9]; exact ((hb1).setCell (fun h => by simp at h) _).setCell (fun h => by simp at h) _
    have HW : Hid (w9 = (w1.setCell ⟨w.heap.size, 0, none⟩ (.string ⟨#[]⟩)).setCell ⟨w.heap.size, 1, none⟩ (.string ⟨#[]⟩)) := hw9
    clear hw9
    by_cases hk0 : k = 0
    · go_wp2_with fail
      rw [← HW.out]
      refine bodyPost_ret (v := .tuple #[.agg #[.string ⟨#[]⟩, .string ⟨#[]⟩], .int .i64 2]) (by simp [results, Tryz.results13, go_sem, t0, t1]) rfl ⟨⟨_, _, _, rfl⟩, b9⟩
    · go_wp2_with fail
      rw [← HW.out]
      refine bodyPost_ret (v := .tuple #[.agg #[.string ⟨#[]⟩, .string ⟨#[]⟩], .int .i64 k]) (by simp [results, Tryz.results13, go_sem, t0, t1]) rfl ⟨⟨_, _, _, rfl⟩, b9⟩
  · obtain ⟨j, rfl⟩ : ∃ j : Nat, i = (j : Int) := ⟨i.toNat, by omega⟩
    exact span_call w g n c j h hn (by omega)

set_option maxHeartbeats 6400000 in
theorem meet_call (w : World) (a b c d : ByteArray) : Calls Tryz.prog 47 #[.agg #[.string a, .string b], .agg #[.string c, .string d]] w fun e w' =>
    (∃ (x y : ByteArray) (r : Bool), e = .returned (.tuple #[.agg #[.string x, .string y], .bool r])) ∧ But (fun _ => False) w w' := by
  have uS := Tryz.underlying24
  have cS : Tryz.prog.cellsOf 24 = 2 := by kernel_rfl
  have hmx := fun (w : World) (ts : Array TypeId) (t : TypeId) => Lib.run_max_strs (P := Tryz.prog) w ts t a c
  go_enter Tryz.func47, Tryz.ntmps47
  go_wp2_with (go_at_call 46; refine (empty_call _ _ _).mono ?_; rintro e w1 ⟨⟨r, rfl⟩, rfl⟩)
  all_goals
    go_returns
    refine ⟨⟨_, _, _, rfl⟩, ?_⟩
    repeat first | exact But.refl _ _ | refine But.alloc ?_ _ | refine But.setCell ?_ (fun h => by simp at h; try omega) _

/-- What has been put together so far. -/
structure PartsI (w wr : World) (n k m : Nat) (a b : ByteArray) (v : Value) (xs : List Value) : Prop where
  own : wr.ownsRow (w.heap.size + 1) 24 2 v m xs
  strs : ∀ x ∈ xs, ∃ s : ByteArray, x = .string s
  few : m ≤ k
  but : But (fun _ => False) w wr
  box : wr.heap[w.heap.size]? = some (.cells #[.string a, .string b] 24 (0, 0))
theorem PartsI.out {w wr : World} {n k m : Nat} {a b : ByteArray} {v : Value} {xs : List Value} (h : PartsI w wr n k m a b v xs) : OutRow [.str, .str] w.heap.size wr v m := by
  refine (OutRow.of_own h.own rfl (fun i d k hi hd => ?_)).mono (Nat.le_succ _)
  have hl := h.own.1
  have hd2 : d < 2 := (List.getElem?_eq_some_iff.1 hd).1
  have hlt : i * 2 + d < xs.length := by omega
  obtain ⟨s, hs⟩ := h.strs _ (List.getElem_mem hlt)
  refine ⟨_, List.getElem?_eq_getElem hlt, ?_⟩
  rw [hs]
  have : k = .str := by
    match d, hd with
    | 0, h => simpa using h.symm
    | 1, h => simpa using h.symm
  subst this
  exact ⟨s, rfl⟩
theorem infoSpan : (Tryz.prog.info? 24).map (fun i => (i.zero, i.size, i.bytes)) = some (some (.agg #[.string ⟨#[]⟩, .string ⟨#[]⟩]), 2, 32) := by kernel_rfl

set_option maxHeartbeats 6400000 in
theorem parts_call (w : World) (g n c : Nat) (a b : ByteArray) (h : Strs w g n) (hn : n ≤ 1048576) :
    Calls Tryz.prog 17 #[.slice (some ⟨g, 0, none⟩) n c, .agg #[.string a, .string b]] w fun e w' => RowPost [.str, .str] w e w' := by
  have uS := Tryz.underlying24
  have cS : Tryz.prog.cellsOf 24 = 2 := by kernel_rfl
  obtain ⟨i0, hi0, hz0, hz1, hz2⟩ := info_parts infoSpan
  obtain ⟨wA, hwA⟩ : ∃ wA, w.alloc (.cells #[.string a, .string b] 24) = wA := ⟨_, rfl⟩
  have gA : wA.heap[w.heap.size]? = some (.cells #[.string a, .string b] 24 (0, 0)) := by rw [← hwA]; exact heap_alloc_new w _
  have bA : But (fun _ => False) w wA := by rw [← hwA]; exact (But.refl _ _).alloc _
  have R := rcheck_call wA g n c (h.but bA (by simp)) hn
  go_enter Tryz.func17, Tryz.ntmps17
  go_wp2_with fail
  refine R.mono ?_
  rintro e w2 ⟨⟨k, rfl, hk⟩, hb⟩
  clear R hwA
  have r2 := hb.to gA (by simp)
  have hb2 := bA.trans hb (by simp)
  have c0 : w2.cell? ⟨w.heap.size, 0, none⟩ = some (.string a) := (cell_of_row _ _ 0 _ _ _ r2).trans rfl
  have c1 : w2.cell? ⟨w.heap.size, 1, none⟩ = some (.string b) := (cell_of_row _ _ 1 _ _ _ r2).trans rfl
  by_cases hk0 : k = 0
  · subst hk0
    have hn15 := hk rfl
    obtain ⟨w3, hw3⟩ : ∃ w3, w2.alloc (.cells #[.string a, .string b] 24) = w3 := ⟨_, rfl⟩
    have b3 : But (fun _ => False) w w3 := by rw [← hw3]; exact hb2.alloc _
    have r3 : w3.heap[w.heap.size]? = some (.cells #[.string a, .string b] 24 (0, 0)) := by rw [← hw3, Below.heap_alloc _ _ _ (lt_of_block r2)]; exact r2
    have EC := empty_call w2 a b
    rw [hw3] at EC
    go_wp2_with fail
    refine EC.mono ?_
    rintro e w3' ⟨⟨r, rfl⟩, rfl⟩
    clear EC c0 c1
    cases r
    · go_wp2_with fail
      go_loopw [7, 23] (fun v i wr => ∃ (k m : Nat) (xs : List Value), k ≤ n + 1 ∧ i = .int .i64 k ∧ PartsI w wr n k m a b v xs) (fun _ i _ => n + 1 - (intOf i).toNat)
      case atStart => exact ⟨0, 0, [], Nat.zero_le _, rfl, ⟨World.ownsRow_nil _ _ _ _, by simp, Nat.le_refl _, b3, r3⟩⟩
      case round =>
        obtain ⟨k, m, xs, hk, rfl, hP⟩ := hrel
        have hk0 : (0 : Int) ≤ (k : Int) := Int.natCast_nonneg _
        clear r3 b3 hb2 r2 hb bA gA
        rcases Nat.lt_or_ge k (n + 1) with hkn | hkn
        · have SC := span_call wr g n c k (h.but hP.but (by simp)) hn (by omega)
          have hki : (k : Int) < (n : Int) + 1 := by omega
          have hn15' : (n : Int) ≤ 15 := by omega
          go_wp2_with fail
          refine SC.mono ?_
          rintro e w4 ⟨⟨s, t, x, rfl⟩, hb4⟩
          clear SC
          have r4 := hb4.to hP.box (by simp)
          have c0 : w4.cell? ⟨w.heap.size, 0, none⟩ = some (.string a) := (cell_of_row _ _ 0 _ _ _ r4).trans rfl
          have c1 : w4.cell? ⟨w.heap.size, 1, none⟩ = some (.string b) := (cell_of_row _ _ 1 _ _ _ r4).trans rfl
          have n0 := World.new_ne w4 _ c0
          have n1 := World.new_ne w4 _ c1
          obtain ⟨w5, hw5⟩ : ∃ w5, w4.alloc (.cells #[.string s, .string t] 24) = w5 := ⟨_, rfl⟩
          have b5 : But (fun _ => False) w4 w5 := by rw [← hw5]; exact (But.refl _ _).alloc _
          have g5 : w5.heap[w4.heap.size]? = some (.cells #[.string s, .string t] 24 (0, 0)) := by rw [← hw5]; exact heap_alloc_new w4 _
          have d0 : w5.cell? ⟨w4.heap.size, 0, none⟩ = some (.string s) := (cell_of_row _ _ 0 _ _ _ g5).trans rfl
          have d1 : w5.cell? ⟨w4.heap.size, 1, none⟩ = some (.string t) := (cell_of_row _ _ 1 _ _ _ g5).trans rfl
          have r5 := b5.to r4 (by simp)
          have e0 : w5.cell? ⟨w.heap.size, 0, none⟩ = some (.string a) := (cell_of_row _ _ 0 _ _ _ r5).trans rfl
          have e1 : w5.cell? ⟨w.heap.size, 1, none⟩ = some (.string b) := (cell_of_row _ _ 1 _ _ _ r5).trans rfl
          have MC := meet_call w5 s t a b
          clear c0 c1 n0 n1
          go_wp2_with fail
          refine MC.mono ?_
          rintro e w6 ⟨⟨x', y', r, rfl⟩, hb6⟩
          clear MC d0 d1 e0 e1 hw5
          have b46 : But (fun _ => False) wr w6 := (hb4.trans b5 (by simp)).trans hb6 (by simp)
          have own6 := hP.own.kept (row := none) ⟨b46.os, b46.tape, b46.output, b46.size, fun k hk _ => b46.block k hk (by simp)⟩ (Classical.em _)
          have box6 := b46.to hP.box (by simp)
          have but6 := hP.but.trans b46 (by simp)
          obtain ⟨o', c', rfl⟩ := ownsRow_form own6
          obtain ⟨w7, hw7⟩ : ∃ w7, w6.alloc (.cells #[.string x', .string y'] 24) = w7 := ⟨_, rfl⟩
          have g7 : w7.heap[w6.heap.size]? = some (.cells #[.string x', .string y'] 24 (0, 0)) := by rw [← hw7]; exact heap_alloc_new w6 _
          have m0 : w7.cell? ⟨w6.heap.size, 0, none⟩ = some (.string x') := (cell_of_row _ _ 0 _ _ _ g7).trans rfl
          have m1 : w7.cell? ⟨w6.heap.size, 1, none⟩ = some (.string y') := (cell_of_row _ _ 1 _ _ _ g7).trans rfl
          have own7 : w7.ownsRow (w.heap.size + 1) 24 2 (.slice o' m c') m xs := by rw [← hw7]; exact own6.alloc _
          have box7 : w7.heap[w.heap.size]? = some (.cells #[.string a, .string b] 24 (0, 0)) := by rw [← hw7, Below.heap_alloc _ _ _ (lt_of_block box6)]; exact box6
          have but7 : But (fun _ => False) w w7 := by rw [← hw7]; exact but6.alloc _
          have hs7 := but7.size
          have fm := hP.few
          have hst := hP.strs
          clear hP own6 but6 box6 b46
          cases r
          · go_wp2_with fail
            go_roundw
            case rel => exact ⟨k + 1, m, xs, by omega, by go_num, ⟨own7, hst, by omega, but7, box7⟩⟩
            case measure => simp [intOf]; omega
          · have h63 : m + 1 ≤ maxLen := by unfold maxLen; omega
            have hby : (m + 1) * 32 ≤ 140737488355328 := by omega
            have hl7 : w.heap.size < w7.heap.size := lt_of_block box7
            go_wp2_with (at_builtin; refine wpList_append_own _ rfl (.tmp 39) (.tmp 41) 40 rfl (w.heap.size + 1) 24 i0 _ 2 32 Tryz.underlying40 hi0 hz0 hz1 hz2 rfl (by omega) _ m xs rfl (own7.alloc _) ⟨w7.heap.size, 0, none⟩ 1 1 [.string x', .string y'] rfl rfl (World.news_of_block (cs := #[.string x', .string y']) (t := 24) (fr := (0, 0)) (heap_alloc_new w7 _)) (by simp [Value.oneCell']) h63 hby (by simp; omega) ?_; intro v' w8 hown8 hgrow _)
            have but8 : But (fun _ => False) w w8 := (but7.alloc _).grown hgrow fun k hk hlt => by have := (own7.lt k hk).1; omega
            have box8 : w8.heap[w.heap.size]? = some (.cells #[.string a, .string b] 24 (0, 0)) := by
              rw [hgrow.block w.heap.size (by simp; omega) (fun e => by have := (own7.lt _ e.symm).1; omega), Below.heap_alloc _ _ _ hl7]; exact box7
            go_roundw
            case rel => exact ⟨k + 1, m + 1, _, by omega, by go_num, ⟨hown8, fun x hx => by
              rcases List.mem_append.1 hx with e | e
              · exact hst x e
              · simp at e; rcases e with rfl | rfl <;> exact ⟨_, rfl⟩, by omega, but8, box8⟩⟩
            case measure => simp [intOf]; omega
        · obtain rfl : k = n + 1 := by omega
          have hend : (((n + 1 : Nat) : Int) < (n : Int) + 1) = False := eq_false (by omega)
          go_wp2_with fail
          go_ret2
          exact ⟨_, m, _, rfl, hP.out, by have := hP.few; omega, hP.but⟩
    · go_wp2_with fail
      go_ret2
      exact ⟨_, 0, _, rfl, .nil _ _ _, by omega, b3⟩
  · go_wp2_with fail
    go_ret2
    exact ⟨_, 0, _, rfl, .nil _ _ _, by omega, hb2⟩
end Go.Proofs.YtoplphimhbnelaaGreatDoor
namespace Go.Proofs.YtoplphimhbnelaaGreatDoor
open Go.RowKit
set_option maxRecDepth 100000

set_option maxHeartbeats 3200000 in
theorem all_all_api_Span (M : Nat → Prop) (w0 w : World) (b : Nat) (l : List Int) (ls : List ByteArray) (mk rm : Bool) (t : Int) (hI : SeeI M w0 b l ls mk t rm w) (a : Option Addr) (n c vis : Nat) (hnc : n ≤ c) (hc : c ≤ maxLen)
    (hvis : vis = if rm then c else n) (ha : a = none → c = 0) (hl : l.length < 1000000)
    (J : Nat → List Int → List ByteArray → World → Prop) (hJI : ∀ k l' s' w', J k l' s' w' → ∃ t', SeeI M w0 b l' s' mk t' rm w')
    (hJ0 : ∀ w', SeeI M w0 b (l ++ [(n : Int)]) ls mk t rm w' → But (fun k => k = b ∨ w0.heap.size ≤ k) w w' → J 0 (l ++ [(n : Int)]) ls w')
    (hstep : ∀ k l' s' w', k < vis → l'.length < 200000 → J k l' s' w' → ∀ ad, a = some ad → Calls Tryz.prog 41 #[.pointer (some ⟨b, 0, none⟩), .pointer (some (ad.add (k * 2)))] w' fun e w'' => e = .returned (.tuple #[]) ∧ ∃ l'' s'', J (k + 1) l'' s'' w'') :
    Calls Tryz.prog 48 #[.pointer (some ⟨b, 0, none⟩), .slice a n c, .func (.func 41) #[] #[]] w fun e w' => e = .returned (.tuple #[]) ∧ ∃ k l' s', J k l' s' w' ∧ k ≤ vis ∧ (k = vis ∨ 200000 ≤ l'.length) := by
  obtain ⟨v, sv, he, hown, hsv⟩ := hI.eye
  obtain ⟨i0, hi0, hz0, hz1, hz2⟩ := info_parts info3
  obtain ⟨c0, c2, c3, c4, cf⟩ := eye_cells he
  have f0 := cf 0
  clear cf
  have hne : v.ownBlock ≠ some b := fun e => by have := (hown.lt b e).1; have := hI.old; omega
  have lb : b < w.heap.size := lt_of_block he
  have hbase := hI.but.size
  have fa : ∀ o : Obj, (w.alloc o).frozen? ⟨b, 0, none⟩ = false := fun o => (World.frozen?_of_block (Below.heap_alloc w o b lb)).trans f0
  have h63 : l.length + 1 ≤ maxLen := by unfold maxLen; omega
  have hby : (l.length + 1) * 8 ≤ 140737488355328 := by omega
  unfold maxLen at hc
  have HV : Hid (vis = if rm = true then c else n) := hvis
  rcases a with _ | ad
  · obtain rfl : c = 0 := ha rfl
    obtain rfl : n = 0 := by omega
    cases rm
    · go_enter Tryz.func48, Tryz.ntmps48
      go_wp2_with (at_builtin; refine wpList_append_lies _ rfl (.tmp 11) (.tmp 14) 68 rfl w0.heap.size 3 i0 _ 1 8 Tryz.underlying68 hi0 hz0 hz1 hz2 rfl (by omega) v l.length (l.map (Value.int .i64)) rfl (hown.alloc _) ⟨w.heap.size, 0, none⟩ 1 1 [.int .i64 0] rfl rfl (World.news_of_block (cs := #[.int .i64 0]) (t := 3) (fr := (0, 0)) (heap_alloc_new w _)) (by simp [Value.oneCell']) (by omega) h63 hby (by simp; omega) (w.heap.size + 1) (by simp) ?_; intro gg cap w1 hown1 hgrow hat hlt; have g0 := (hgrow.cell_far ⟨b, 0, none⟩ (by simp; omega) (Ne.symm hne)).trans ((World.cell?_of_block (Below.heap_alloc w (.cells #[.int .i64 0] 3) b lb)).trans c0); have g1 := (hgrow.frozen_far ⟨b, 0, none⟩ (by simp; omega) (Ne.symm hne)).trans (fa (.cells #[.int .i64 0] 3)); have g4 := (hgrow.cell_far ⟨b, 4, none⟩ (by simp; omega) (Ne.symm hne)).trans ((World.cell?_of_block (Below.heap_alloc w (.cells #[.int .i64 0] 3) b lb)).trans c4))
      have hw1 : SeeI M w0 b (l ++ [((0 : Nat) : Int)]) ls mk t false (w1.setCell ⟨b, 0, none⟩ (.slice (some ⟨gg, 0, none⟩) (l.length + 1) cap)) ∧ But (fun k => k = b ∨ w0.heap.size ≤ k) w (w1.setCell ⟨b, 0, none⟩ (.slice (some ⟨gg, 0, none⟩) (l.length + 1) cap)) := by
        refine ⟨SeeI.push (v := v) ((hI.but.alloc _).grown hgrow fun k hk hlt' => ?_) hI.old ?_ hown1 ((hsv.alloc _).kept hgrow (own_ne hown hsv (by decide))), (((But.refl _ w).alloc _).grown hgrow fun k hk hlt' => ?_).setCell (fun _ => .inl rfl) _⟩
        · have := (hown.lt k hk).1; omega
        · rw [hgrow.block b (by simp; omega) (Ne.symm hne)]
          exact (Below.heap_alloc w _ b lb).trans he
        · exact .inr (hown.lt k hk).1
      go_loopw [6] (fun i wr => ∃ (k : Nat) (l' : List Int) (s' : List ByteArray), k ≤ 0 ∧ i = .int .i64 k ∧ J k l' s' wr) (fun i _ => 0 - (intOf i).toNat)
      case atStart => exact ⟨0, _, ls, Nat.zero_le _, rfl, hJ0 _ hw1.1 hw1.2⟩
      case round =>
        clear hw1 hown1 hgrow hat g0 g1 g4 c0 c2 c3 c4 f0 fa he hown hsv hI hJ0
        obtain ⟨k, l', s', hk, rfl, hJ⟩ := hrel
        obtain ⟨t', hI'⟩ := hJI _ _ _ _ hJ
        obtain ⟨v', sv', he', hown', -⟩ := hI'.eye
        obtain ⟨o', cc, rfl⟩ := ownsRow_form hown'
        obtain ⟨e0, -, -, -, -⟩ := eye_cells he'
        clear he' hown' hI'
        have hk0 : (0 : Int) ≤ (k : Int) := Int.natCast_nonneg _
        obtain rfl : k = 0 := by omega
        clear hstep hJI hvis ha hl hi0 hz0 hz1 hz2 hne lb hbase h63 hby
        go_wp2_with fail
        go_end0
        exact ⟨rfl, 0, l', s', hJ, by rw [HV.out]; simp, .inl (by rw [HV.out]; simp)⟩
    · go_enter Tryz.func48, Tryz.ntmps48
      go_wp2_with (at_builtin; refine wpList_append_lies _ rfl (.tmp 11) (.tmp 14) 68 rfl w0.heap.size 3 i0 _ 1 8 Tryz.underlying68 hi0 hz0 hz1 hz2 rfl (by omega) v l.length (l.map (Value.int .i64)) rfl (hown.alloc _) ⟨w.heap.size, 0, none⟩ 1 1 [.int .i64 0] rfl rfl (World.news_of_block (cs := #[.int .i64 0]) (t := 3) (fr := (0, 0)) (heap_alloc_new w _)) (by simp [Value.oneCell']) (by omega) h63 hby (by simp; omega) (w.heap.size + 1) (by simp) ?_; intro gg cap w1 hown1 hgrow hat hlt; have g0 := (hgrow.cell_far ⟨b, 0, none⟩ (by simp; omega) (Ne.symm hne)).trans ((World.cell?_of_block (Below.heap_alloc w (.cells #[.int .i64 0] 3) b lb)).trans c0); have g1 := (hgrow.frozen_far ⟨b, 0, none⟩ (by simp; omega) (Ne.symm hne)).trans (fa (.cells #[.int .i64 0] 3)); have g4 := (hgrow.cell_far ⟨b, 4, none⟩ (by simp; omega) (Ne.symm hne)).trans ((World.cell?_of_block (Below.heap_alloc w (.cells #[.int .i64 0] 3) b lb)).trans c4))
      have hw1 : SeeI M w0 b (l ++ [((0 : Nat) : Int)]) ls mk t true (w1.setCell ⟨b, 0, none⟩ (.slice (some ⟨gg, 0, none⟩) (l.length + 1) cap)) ∧ But (fun k => k = b ∨ w0.heap.size ≤ k) w (w1.setCell ⟨b, 0, none⟩ (.slice (some ⟨gg, 0, none⟩) (l.length + 1) cap)) := by
        refine ⟨SeeI.push (v := v) ((hI.but.alloc _).grown hgrow fun k hk hlt' => ?_) hI.old ?_ hown1 ((hsv.alloc _).kept hgrow (own_ne hown hsv (by decide))), (((But.refl _ w).alloc _).grown hgrow fun k hk hlt' => ?_).setCell (fun _ => .inl rfl) _⟩
        · have := (hown.lt k hk).1; omega
        · rw [hgrow.block b (by simp; omega) (Ne.symm hne)]
          exact (Below.heap_alloc w _ b lb).trans he
        · exact .inr (hown.lt k hk).1
      go_loopw [6] (fun i wr => ∃ (k : Nat) (l' : List Int) (s' : List ByteArray), k ≤ 0 ∧ i = .int .i64 k ∧ J k l' s' wr) (fun i _ => 0 - (intOf i).toNat)
      case atStart => exact ⟨0, _, ls, Nat.zero_le _, rfl, hJ0 _ hw1.1 hw1.2⟩
      case round =>
        clear hw1 hown1 hgrow hat g0 g1 g4 c0 c2 c3 c4 f0 fa he hown hsv hI hJ0
        obtain ⟨k, l', s', hk, rfl, hJ⟩ := hrel
        obtain ⟨t', hI'⟩ := hJI _ _ _ _ hJ
        obtain ⟨v', sv', he', hown', -⟩ := hI'.eye
        obtain ⟨o', cc, rfl⟩ := ownsRow_form hown'
        obtain ⟨e0, -, -, -, -⟩ := eye_cells he'
        clear he' hown' hI'
        have hk0 : (0 : Int) ≤ (k : Int) := Int.natCast_nonneg _
        obtain rfl : k = 0 := by omega
        clear hstep hJI hvis ha hl hi0 hz0 hz1 hz2 hne lb hbase h63 hby
        go_wp2_with fail
        go_end0
        exact ⟨rfl, 0, l', s', hJ, by rw [HV.out]; simp, .inl (by rw [HV.out]; simp)⟩
  · cases rm
    · go_enter Tryz.func48, Tryz.ntmps48
      go_wp2_with (at_builtin; refine wpList_append_lies _ rfl (.tmp 11) (.tmp 14) 68 rfl w0.heap.size 3 i0 _ 1 8 Tryz.underlying68 hi0 hz0 hz1 hz2 rfl (by omega) v l.length (l.map (Value.int .i64)) rfl (hown.alloc _) ⟨w.heap.size, 0, none⟩ 1 1 [.int .i64 n] rfl rfl (World.news_of_block (cs := #[.int .i64 n]) (t := 3) (fr := (0, 0)) (heap_alloc_new w _)) (by simp [Value.oneCell']) (by omega) h63 hby (by simp; omega) (w.heap.size + 1) (by simp) ?_; intro gg cap w1 hown1 hgrow hat hlt; have g0 := (hgrow.cell_far ⟨b, 0, none⟩ (by simp; omega) (Ne.symm hne)).trans ((World.cell?_of_block (Below.heap_alloc w (.cells #[.int .i64 n] 3) b lb)).trans c0); have g1 := (hgrow.frozen_far ⟨b, 0, none⟩ (by simp; omega) (Ne.symm hne)).trans (fa (.cells #[.int .i64 n] 3)); have g4 := (hgrow.cell_far ⟨b, 4, none⟩ (by simp; omega) (Ne.symm hne)).trans ((World.cell?_of_block (Below.heap_alloc w (.cells #[.int .i64 n] 3) b lb)).trans c4))
      have hw1 : SeeI M w0 b (l ++ [(n : Int)]) ls mk t false (w1.setCell ⟨b, 0, none⟩ (.slice (some ⟨gg, 0, none⟩) (l.length + 1) cap)) ∧ But (fun k => k = b ∨ w0.heap.size ≤ k) w (w1.setCell ⟨b, 0, none⟩ (.slice (some ⟨gg, 0, none⟩) (l.length + 1) cap)) := by
        refine ⟨SeeI.push (v := v) ((hI.but.alloc _).grown hgrow fun k hk hlt' => ?_) hI.old ?_ hown1 ((hsv.alloc _).kept hgrow (own_ne hown hsv (by decide))), (((But.refl _ w).alloc _).grown hgrow fun k hk hlt' => ?_).setCell (fun _ => .inl rfl) _⟩
        · have := (hown.lt k hk).1; omega
        · rw [hgrow.block b (by simp; omega) (Ne.symm hne)]
          exact (Below.heap_alloc w _ b lb).trans he
        · exact .inr (hown.lt k hk).1
      go_loopw [6] (fun i wr => ∃ (k : Nat) (l' : List Int) (s' : List ByteArray), k ≤ n ∧ i = .int .i64 k ∧ J k l' s' wr) (fun i _ => n - (intOf i).toNat)
      case atStart => exact ⟨0, _, ls, Nat.zero_le _, rfl, hJ0 _ hw1.1 hw1.2⟩
      case round =>
        clear hw1 hown1 hgrow hat g0 g1 g4 c0 c2 c3 c4 f0 fa he hown hsv hI hJ0
        obtain ⟨k, l', s', hk, rfl, hJ⟩ := hrel
        obtain ⟨t', hI'⟩ := hJI _ _ _ _ hJ
        obtain ⟨v', sv', he', hown', -⟩ := hI'.eye
        obtain ⟨o', cc, rfl⟩ := ownsRow_form hown'
        obtain ⟨e0, -, -, -, -⟩ := eye_cells he'
        clear he' hown' hI'
        have hk0 : (0 : Int) ≤ (k : Int) := Int.natCast_nonneg _
        rcases Nat.lt_or_ge k n with hkn | hkn
        · rcases Nat.lt_or_ge l'.length 200000 with hl' | hl'
          · have hs := hstep k l' s' wr (by rw [HV.out]; simp; omega) hl' hJ ad rfl
            have hl2 : (l'.length : Int) < 200000 := by omega
            clear hl' hstep hJI hJ hvis ha hl hi0 hz0 hz1 hz2 hne lb hbase h63 hby
            go_wp2_with (go_at_call 41; refine hs.mono ?_; rintro e w2 ⟨rfl, l'', s'', hJ''⟩)
            go_roundw
            case rel => exact ⟨k + 1, l'', s'', by omega, by go_num, hJ''⟩
            case measure => simp [intOf]; omega
          · clear hstep hJI hvis ha hl hi0 hz0 hz1 hz2 hne lb hbase h63 hby
            have HL : Hid (200000 ≤ l'.length) := hl'
            have hl2 : ((l'.length : Int) < 200000) = False := eq_false (by omega)
            clear hl'
            go_wp2_with fail
            go_end0
            exact ⟨rfl, k, l', s', hJ, by rw [HV.out]; simp; omega, .inr HL.out⟩
        · clear hstep hJI hvis ha hl hi0 hz0 hz1 hz2 hne lb hbase h63 hby
          obtain rfl : k = n := by omega
          go_wp2_with fail
          go_end0
          exact ⟨rfl, k, l', s', hJ, by rw [HV.out]; simp, .inl (by rw [HV.out]; simp)⟩
    · go_enter Tryz.func48, Tryz.ntmps48
      go_wp2_with (at_builtin; refine wpList_append_lies _ rfl (.tmp 11) (.tmp 14) 68 rfl w0.heap.size 3 i0 _ 1 8 Tryz.underlying68 hi0 hz0 hz1 hz2 rfl (by omega) v l.length (l.map (Value.int .i64)) rfl (hown.alloc _) ⟨w.heap.size, 0, none⟩ 1 1 [.int .i64 n] rfl rfl (World.news_of_block (cs := #[.int .i64 n]) (t := 3) (fr := (0, 0)) (heap_alloc_new w _)) (by simp [Value.oneCell']) (by omega) h63 hby (by simp; omega) (w.heap.size + 1) (by simp) ?_; intro gg cap w1 hown1 hgrow hat hlt; have g0 := (hgrow.cell_far ⟨b, 0, none⟩ (by simp; omega) (Ne.symm hne)).trans ((World.cell?_of_block (Below.heap_alloc w (.cells #[.int .i64 n] 3) b lb)).trans c0); have g1 := (hgrow.frozen_far ⟨b, 0, none⟩ (by simp; omega) (Ne.symm hne)).trans (fa (.cells #[.int .i64 n] 3)); have g4 := (hgrow.cell_far ⟨b, 4, none⟩ (by simp; omega) (Ne.symm hne)).trans ((World.cell?_of_block (Below.heap_alloc w (.cells #[.int .i64 n] 3) b lb)).trans c4))
      have hw1 : SeeI M w0 b (l ++ [(n : Int)]) ls mk t true (w1.setCell ⟨b, 0, none⟩ (.slice (some ⟨gg, 0, none⟩) (l.length + 1) cap)) ∧ But (fun k => k = b ∨ w0.heap.size ≤ k) w (w1.setCell ⟨b, 0, none⟩ (.slice (some ⟨gg, 0, none⟩) (l.length + 1) cap)) := by
        refine ⟨SeeI.push (v := v) ((hI.but.alloc _).grown hgrow fun k hk hlt' => ?_) hI.old ?_ hown1 ((hsv.alloc _).kept hgrow (own_ne hown hsv (by decide))), (((But.refl _ w).alloc _).grown hgrow fun k hk hlt' => ?_).setCell (fun _ => .inl rfl) _⟩
        · have := (hown.lt k hk).1; omega
        · rw [hgrow.block b (by simp; omega) (Ne.symm hne)]
          exact (Below.heap_alloc w _ b lb).trans he
        · exact .inr (hown.lt k hk).1
      go_loopw [6] (fun i wr => ∃ (k : Nat) (l' : List Int) (s' : List ByteArray), k ≤ c ∧ i = .int .i64 k ∧ J k l' s' wr) (fun i _ => c - (intOf i).toNat)
      case atStart => exact ⟨0, _, ls, Nat.zero_le _, rfl, hJ0 _ hw1.1 hw1.2⟩
      case round =>
        clear hw1 hown1 hgrow hat g0 g1 g4 c0 c2 c3 c4 f0 fa he hown hsv hI hJ0
        obtain ⟨k, l', s', hk, rfl, hJ⟩ := hrel
        obtain ⟨t', hI'⟩ := hJI _ _ _ _ hJ
        obtain ⟨v', sv', he', hown', -⟩ := hI'.eye
        obtain ⟨o', cc, rfl⟩ := ownsRow_form hown'
        obtain ⟨e0, -, -, -, -⟩ := eye_cells he'
        clear he' hown' hI'
        have hk0 : (0 : Int) ≤ (k : Int) := Int.natCast_nonneg _
        rcases Nat.lt_or_ge k c with hkn | hkn
        · rcases Nat.lt_or_ge l'.length 200000 with hl' | hl'
          · have hs := hstep k l' s' wr (by rw [HV.out]; simp; omega) hl' hJ ad rfl
            have hl2 : (l'.length : Int) < 200000 := by omega
            clear hl' hstep hJI hJ hvis ha hl hi0 hz0 hz1 hz2 hne lb hbase h63 hby
            go_wp2_with (go_at_call 41; refine hs.mono ?_; rintro e w2 ⟨rfl, l'', s'', hJ''⟩)
            go_roundw
            case rel => exact ⟨k + 1, l'', s'', by omega, by go_num, hJ''⟩
            case measure => simp [intOf]; omega
          · clear hstep hJI hvis ha hl hi0 hz0 hz1 hz2 hne lb hbase h63 hby
            have HL : Hid (200000 ≤ l'.length) := hl'
            have hl2 : ((l'.length : Int) < 200000) = False := eq_false (by omega)
            clear hl'
            go_wp2_with fail
            go_end0
            exact ⟨rfl, k, l', s', hJ, by rw [HV.out]; simp; omega, .inr HL.out⟩
        · clear hstep hJI hvis ha hl hi0 hz0 hz1 hz2 hne lb hbase h63 hby
          obtain rfl : k = c := by omega
          go_wp2_with fail
          go_end0
          exact ⟨rfl, k, l', s', hJ, by rw [HV.out]; simp, .inl (by rw [HV.out]; simp)⟩
theorem any_all_api_Span : AllAny 48 41 2 := by
  intro M w0 w b l ls mk rm t hI a n c vis hnc hc hvis ha hl J h1 h2 h3
  exact all_all_api_Span M w0 w b l ls mk rm t hI a n c vis hnc hc hvis ha hl J h1 h2 h3
end Go.Proofs.YtoplphimhbnelaaGreatDoor
namespace Go.Proofs.YtoplphimhbnelaaGreatDoor
open Go.RowKit
set_option maxRecDepth 100000
theorem hands_seeSpans : Hands 19 48 41 := by
  intro w b p q a n c R hla h
  go_enter Tryz.func19, Tryz.ntmps19
  go_wp2_with (go_at_call 48; refine h.mono ?_; rintro e w2 ⟨rfl, hr⟩)
  go_end0
  exact ⟨rfl, hr⟩
def S_seeSpans : Shape := allS 2 S_seeSpan
theorem impl_seeSpans : Impl 19 S_seeSpans := impl_all hands_seeSpans any_all_api_Span impl_seeSpan
end Go.Proofs.YtoplphimhbnelaaGreatDoor
namespace Go.Proofs.YtoplphimhbnelaaGreatDoor
open Go.RowKit
set_option maxRecDepth 100000
theorem runs_TopSharedRanges_5_1 : Runs 18 [(0, 19)] := by
  intro w b p q Q h
  simp only [Steps, Nat.add_zero] at h
  go_enter Tryz.func18, Tryz.ntmps18
  go_wp2_with fail
  refine h.mono ?_
  rintro e w1 ⟨rfl, h⟩
  go_wp2_with fail
  go_end0
  exact ⟨rfl, h⟩
def L_TopSharedRanges_5_1 : List (Nat × FuncId × Shape) := [(0, 19, S_seeSpans)]
def S_TopSharedRanges_5_1 : Shape := seqS (shp L_TopSharedRanges_5_1)
theorem impl_TopSharedRanges_5_1 : Impl 18 S_TopSharedRanges_5_1 := impl_seq L_TopSharedRanges_5_1 runs_TopSharedRanges_5_1 (by
  simp only [L_TopSharedRanges_5_1, List.mem_cons, List.not_mem_nil, or_false]
  rintro x (rfl)
  · exact impl_seeSpans)
end Go.Proofs.YtoplphimhbnelaaGreatDoor
namespace Go.Proofs.YtoplphimhbnelaaGreatDoor
open Go.RowKit
theorem fitsS_seeSpan : FitsBy S_seeSpan [.str, .str] 2 0 := fitsBy_cons fitsBy_str rfl (fitsBy_cons fitsBy_str rfl (fitsBy_nil _))
end Go.Proofs.YtoplphimhbnelaaGreatDoor
namespace Go.Proofs.YtoplphimhbnelaaGreatDoor
open Go.RowKit
set_option maxRecDepth 100000
attribute [local go_sem ↓] Go.wp_at_zero Go.wp_at_succ

set_option maxHeartbeats 6400000 in
theorem door_Ranges_1 : DoorNil YP_Ranges 8 := by
  intro K w Y hy hK
  obtain ⟨xa0, xn0, xc0, xs1, xs2, xs3, xs4, xs5, xs6, xs7, xz8, xz9, xg0, h⟩ := hy
  have uST := Tryz.underlying26
  have y0 : w.cell? ⟨Y, 0, none⟩ = some (.slice (some ⟨xg0, 0, none⟩) xn0 (xn0 + 2)) := (cell_of_row _ _ 0 _ _ _ h.y).trans rfl
  have RR : ∀ w', But (fun _ => False) w w' → Calls Tryz.prog 9 #[.slice (some ⟨xg0, 0, none⟩) xn0 (xn0 + 2)] w' fun e w'' => NilPost w' e w'' := fun w' hb => (rcheck_call w' xg0 xn0 (xn0 + 2) ((h.new0.2.strs (by omega)).but hb (by simp)) h.few0).mono fun e w'' ⟨⟨k, he, _⟩, hw⟩ => ⟨⟨_, he⟩, hw⟩
  have ly := lt_of_block h.y
  have hbA : But (fun _ => False) w w.drew := (But.refl _ w).drew
  clear h
  go_enter Tryz.func8, Tryz.ntmps8
  go_wp2_with fail
  refine (RR w (But.refl _ _)).mono ?_
  rintro e w1 ⟨⟨v, rfl⟩, hb1⟩
  go_wp2_with fail
  go_ret
  exact ⟨rfl, hb1⟩

set_option maxHeartbeats 6400000 in
theorem door_Ranges_2 : DoorNil YP_Ranges 10 := by
  intro K w Y hy hK
  obtain ⟨xa0, xn0, xc0, xs1, xs2, xs3, xs4, xs5, xs6, xs7, xz8, xz9, xg0, h⟩ := hy
  have uST := Tryz.underlying26
  have y0 : w.cell? ⟨Y, 0, none⟩ = some (.slice (some ⟨xg0, 0, none⟩) xn0 (xn0 + 2)) := (cell_of_row _ _ 0 _ _ _ h.y).trans rfl
  have y3 : w.cell? ⟨Y, 3, none⟩ = some (.string xs3) := (cell_of_row _ _ 3 _ _ _ h.y).trans rfl
  have RR : ∀ w', But (fun _ => False) w w' → Calls Tryz.prog 11 #[.slice (some ⟨xg0, 0, none⟩) xn0 (xn0 + 2), .string xs3] w' fun e w'' => NilPost w' e w'' := fun w' hb => (rof_call w' xg0 xn0 (xn0 + 2) xs3 ((h.new0.2.strs (by omega)).but hb (by simp)) h.few0).mono fun e w'' ⟨⟨i, x, he, _⟩, hw⟩ => ⟨⟨_, he⟩, hw⟩
  have ly := lt_of_block h.y
  have hbA : But (fun _ => False) w w.drew := (But.refl _ w).drew
  clear h
  go_enter Tryz.func10, Tryz.ntmps10
  go_wp2_with fail
  go_region_held3 (fun w' => w'.cell? ⟨Y, 0, none⟩ = some (.slice (some ⟨xg0, 0, none⟩) xn0 (xn0 + 2)) ∧ w'.cell? ⟨Y, 3, none⟩ = some (.string xs3)) (first | go_keep | (go_split_ands; refine ⟨?_, ?_⟩ <;> (rw [hb1.cell (by assumption) (by simp)]; assumption))) ((go_at_call 11; refine (RR _ hbA).mono ?_; rintro e w1 ⟨⟨v, rfl⟩, hb1⟩))
  all_goals
    go_wp2_with fail
    go_ret
    exact ⟨rfl, hbA.trans hb1 (by simp)⟩

set_option maxHeartbeats 6400000 in
theorem door_Ranges_3 : DoorNil YP_Ranges 12 := by
  intro K w Y hy hK
  obtain ⟨xa0, xn0, xc0, xs1, xs2, xs3, xs4, xs5, xs6, xs7, xz8, xz9, xg0, h⟩ := hy
  have uST := Tryz.underlying26
  have y0 : w.cell? ⟨Y, 0, none⟩ = some (.slice (some ⟨xg0, 0, none⟩) xn0 (xn0 + 2)) := (cell_of_row _ _ 0 _ _ _ h.y).trans rfl
  have y8 : w.cell? ⟨Y, 8, none⟩ = some (.int .i64 xz8) := (cell_of_row _ _ 8 _ _ _ h.y).trans rfl
  have RR : ∀ w', But (fun _ => False) w w' → Calls Tryz.prog 13 #[.slice (some ⟨xg0, 0, none⟩) xn0 (xn0 + 2), .int .i64 xz8] w' fun e w'' => NilPost w' e w'' := fun w' hb => (span_any w' xg0 xn0 (xn0 + 2) xz8 ((h.new0.2.strs (by omega)).but hb (by simp)) h.few0 (by have := h.k8; simp [InK, IntKind.min, IntKind.max, IntKind.bits, IntKind.signed] at this; omega)).mono fun e w'' ⟨⟨a, b, x, he⟩, hw⟩ => ⟨⟨_, he⟩, hw⟩
  have ly := lt_of_block h.y
  have hbA : But (fun _ => False) w w.drew := (But.refl _ w).drew
  clear h
  go_enter Tryz.func12, Tryz.ntmps12
  go_wp2_with fail
  go_region_held3 (fun w' => w'.cell? ⟨Y, 0, none⟩ = some (.slice (some ⟨xg0, 0, none⟩) xn0 (xn0 + 2)) ∧ w'.cell? ⟨Y, 8, none⟩ = some (.int .i64 xz8)) (first | go_keep | (go_split_ands; refine ⟨?_, ?_⟩ <;> (rw [hb1.cell (by assumption) (by simp)]; assumption))) ((go_at_call 13; refine (RR _ hbA).mono ?_; rintro e w1 ⟨⟨v, rfl⟩, hb1⟩))
  all_goals
    go_wp2_with fail
    go_ret
    exact ⟨rfl, hbA.trans hb1 (by simp)⟩

set_option maxHeartbeats 6400000 in
theorem door_Ranges_4 : DoorNil YP_Ranges 14 := by
  intro K w Y hy hK
  obtain ⟨xa0, xn0, xc0, xs1, xs2, xs3, xs4, xs5, xs6, xs7, xz8, xz9, xg0, h⟩ := hy
  have uST := Tryz.underlying26
  have y0 : w.cell? ⟨Y, 0, none⟩ = some (.slice (some ⟨xg0, 0, none⟩) xn0 (xn0 + 2)) := (cell_of_row _ _ 0 _ _ _ h.y).trans rfl
  have y3 : w.cell? ⟨Y, 3, none⟩ = some (.string xs3) := (cell_of_row _ _ 3 _ _ _ h.y).trans rfl
  have y9 : w.cell? ⟨Y, 9, none⟩ = some (.int .i64 xz9) := (cell_of_row _ _ 9 _ _ _ h.y).trans rfl
  have RR : ∀ w', But (fun _ => False) w w' → Calls Tryz.prog 15 #[.slice (some ⟨xg0, 0, none⟩) xn0 (xn0 + 2), .string xs3, .int .i64 xz9] w' fun e w'' => NilPost w' e w'' := fun w' hb => (rnode_call w' xg0 xn0 (xn0 + 2) xs3 xz9 ((h.new0.2.strs (by omega)).but hb (by simp)) h.few0)
  have ly := lt_of_block h.y
  have hbA : But (fun _ => False) w w.drew := (But.refl _ w).drew
  clear h
  go_enter Tryz.func14, Tryz.ntmps14
  go_wp2_with fail
  go_region_held3 (fun w' => w'.cell? ⟨Y, 0, none⟩ = some (.slice (some ⟨xg0, 0, none⟩) xn0 (xn0 + 2)) ∧ w'.cell? ⟨Y, 3, none⟩ = some (.string xs3) ∧ w'.cell? ⟨Y, 9, none⟩ = some (.int .i64 xz9)) (first | go_keep | (go_split_ands; refine ⟨?_, ?_, ?_⟩ <;> (rw [hb1.cell (by assumption) (by simp)]; assumption))) ((go_at_call 15; refine (RR _ hbA).mono ?_; rintro e w1 ⟨⟨v, rfl⟩, hb1⟩))
  all_goals
    go_wp2_with fail
    go_ret
    exact ⟨rfl, hbA.trans hb1 (by simp)⟩

set_option maxHeartbeats 6400000 in
theorem door_Ranges_5 : DoorOne YP_Ranges 16 18 := by
  intro K w Y hy hK
  obtain ⟨xa0, xn0, xc0, xs1, xs2, xs3, xs4, xs5, xs6, xs7, xz8, xz9, xg0, h⟩ := hy
  have uST := Tryz.underlying26
  have y0 : w.cell? ⟨Y, 0, none⟩ = some (.slice (some ⟨xg0, 0, none⟩) xn0 (xn0 + 2)) := (cell_of_row _ _ 0 _ _ _ h.y).trans rfl
  have y1 : w.cell? ⟨Y, 1, none⟩ = some (.string xs1) := (cell_of_row _ _ 1 _ _ _ h.y).trans rfl
  have y2 : w.cell? ⟨Y, 2, none⟩ = some (.string xs2) := (cell_of_row _ _ 2 _ _ _ h.y).trans rfl
  have RR : ∀ w', But (fun _ => False) w w' → Calls Tryz.prog 17 #[.slice (some ⟨xg0, 0, none⟩) xn0 (xn0 + 2), .agg #[.string xs1, .string xs2]] w' fun e w'' => RowPost [.str, .str] w' e w'' := fun w' hb => parts_call w' xg0 xn0 (xn0 + 2) xs1 xs2 ((h.new0.2.strs (by omega)).but hb (by simp)) h.few0
  have ly := lt_of_block h.y
  have hbA : But (fun _ => False) w w.drew := (But.refl _ w).drew
  clear h
  have hbB : But (fun _ => False) w (w.alloc (.cells #[.slice none 0 0] 40)).drew := ((But.refl _ w).alloc _).drew
  have vB : (w.alloc (.cells #[.slice none 0 0] 40)).drew.heap[w.heap.size]? = some (.cells #[.slice none 0 0] 40 (0, 0)) := heap_alloc_new w _
  have sB : (w.alloc (.cells #[.slice none 0 0] 40)).drew.heap.size = w.heap.size + 1 := by simp
  have hyne : w.heap.size ≠ Y := by omega
  go_enter Tryz.func16, Tryz.ntmps16
  go_wp2_with fail
  go_region_held3 (fun w' => w'.cell? ⟨Y, 0, none⟩ = some (.slice (some ⟨xg0, 0, none⟩) xn0 (xn0 + 2)) ∧ w'.cell? ⟨Y, 1, none⟩ = some (.string xs1) ∧ w'.cell? ⟨Y, 2, none⟩ = some (.string xs2))
    (first | go_keep | (go_split_ands; refine ⟨?_, ?_, ?_⟩ <;> (rw [hb1.cell (by assumption) (by simp)]; assumption)))
    (first
      | (go_at_call 17; refine (RR _ hbA).mono ?_; rintro e w1 ⟨v1, n1, x, rfl, ho1, hn1, hb1⟩; have H : Hid (But (fun _ => False) w w1 ∧ OutRow [.str, .str] w.heap.size w1 v1 n1) := ⟨hbA.trans hb1 (by simp), ho1⟩; obtain ⟨o', c', hv1⟩ := ho1.form; subst hv1; have k0 := (H.out.1.cell (p := ⟨Y, 0, none⟩) ly (by simp)).trans y0; have k1 := (H.out.1.cell (p := ⟨Y, 1, none⟩) ly (by simp)).trans y1; have k2 := (H.out.1.cell (p := ⟨Y, 2, none⟩) ly (by simp)).trans y2; have n0 := World.new_ne w1 _ k0)
      | (go_at_call 17; refine (RR _ hbB).mono ?_; rintro e w1 ⟨v1, n1, x, rfl, ho1, hn1, hb1⟩; have H : Hid (But (fun _ => False) w w1 ∧ OutRow [.str, .str] (w.heap.size + 1) w1 v1 n1) := ⟨hbB.trans hb1 (by simp), by rw [← sB]; exact ho1⟩; obtain ⟨o', c', hv1⟩ := ho1.form; subst hv1; have k0 := (H.out.1.cell (p := ⟨Y, 0, none⟩) ly (by simp)).trans y0; have k1 := (H.out.1.cell (p := ⟨Y, 1, none⟩) ly (by simp)).trans y1; have k2 := (H.out.1.cell (p := ⟨Y, 2, none⟩) ly (by simp)).trans y2; have kB := hb1.to vB (by simp); have kC := cell_of_one kB; have kD := free_of_one kB; have n0 := World.new_ne w1 _ k0))
  all_goals first
    | (have kB' := kB
       have HH := H.out
       go_wp2_with fail
       go_ret
       exact row_done2 impl_TopSharedRanges_5_1 rfl (by decide) fitsS_seeSpan rfl HH.1 kB' HH.2 (by omega) (by omega))
    | (have HH := H.out
       go_wp2_with fail
       go_ret
       exact row_done impl_TopSharedRanges_5_1 rfl (by decide) fitsS_seeSpan rfl HH.1 HH.2 (by omega) 40)
end Go.Proofs.YtoplphimhbnelaaGreatDoor
namespace Go.Proofs.YtoplphimhbnelaaGreatDoor
open Go.RowKit
set_option maxRecDepth 100000
attribute [local go_sem ↓] Go.wp_at_zero Go.wp_at_succ
set_option maxHeartbeats 1600000 in
theorem looks_TopSharedRanges_5_1 : Looks 18 := by
  intro w G A R L hG hR hc
  have hmk := make51'
  have lG := World.block_lt_of_cell? w _ hG
  obtain ⟨w1, hw1⟩ : ∃ w1, w1 = w.alloc (.cells (eyeCells (.slice none 0 0) (.slice none 0 0) false 0 false) 70) := ⟨_, rfl⟩
  have hb1 : But (fun _ => False) w w1 := by rw [hw1]; exact (But.refl _ _).alloc _
  have he1 : w1.heap[w.heap.size]? = some (.cells (eyeCells (.slice none 0 0) (.slice none 0 0) false 0 false) 70 (0, 0)) := by rw [hw1]; exact heap_alloc_new w _
  have hG1 : w1.cell? ⟨G, 0, none⟩ = some (.func (.func 18) #[] #[.pointer (some ⟨A, 0, none⟩)]) := (hb1.cell lG (by simp)).trans hG
  have hcc := hc.2.2 w1.drew ((Agree.refl R w).but hb1.drew (fun k hk => ⟨hR k hk, by simp⟩)) w.heap.size (fun h => Nat.lt_irrefl _ (hR _ h)) he1
  have HW : Hid (w1 = w.alloc (.cells (eyeCells (.slice none 0 0) (.slice none 0 0) false 0 false) 70)) := hw1
  clear hw1 hc hR
  go_enter Tryz.func36, Tryz.ntmps36
  go_wp2_with fail
  rw [← HW.out]
  refine wp_loop_rounds 2 ?_
  rw [rounds_succ]
  go_wp2_with fail
  go_region_with (go_at_call 18; refine hcc.mono ?_; rintro e w2 ⟨rfl, hS⟩)
  go_wp2_with fail
  rw [rounds_succ]
  go_wp2_with fail
  go_ret
  have hsz : w.heap.size < w1.heap.size := lt_of_block he1
  refine ⟨rfl, (hb1.drew.trans (S' := fun k => k = w.heap.size ∨ False) hS.but (fun i hi h => ?_)), (Has.of hS).mono ?_⟩
  · simp at h; omega
  · have : w1.drew.heap.size = w1.heap.size := rfl
    omega
end Go.Proofs.YtoplphimhbnelaaGreatDoor
namespace Go.Proofs.YtoplphimhbnelaaGreatDoor
open Go.RowKit Go.Joins Go.WideShapes Go.ChangeShapes
set_option maxRecDepth 100000
theorem flat_string : FlatT 9 [.txt] := flatT_txt (t := 9) (by kernel_rfl)
theorem lay_Lstring : LayT 22 [.row [.txt]] := layT_slice (e := 9) (by kernel_rfl) flat_string (by kernel_rfl) (by decide)
theorem flat_api_Span : FlatT 24 [.txt, .txt] := flatT_struct Tryz.underlying24 (by kernel_rfl) fun d k hd => match d, k, hd with
  | 0, k, h => ⟨0, _, _, rfl, flat_string, by decide, h⟩
  | 1, k, h => ⟨1, _, _, rfl, flat_string, by decide, h⟩
  | n + 2, k, h => by simp at h
theorem lay_api_Span : LayT 24 [.kd .txt, .kd .txt] := layT_flat flat_api_Span
theorem lay_string : LayT 9 [.kd .txt] := layT_flat flat_string
theorem flat_int : FlatT 3 [.num .i64] := flatT_num (t := 3) (k := .i64) (by kernel_rfl)
theorem lay_int : LayT 3 [.kd (.num .i64)] := layT_flat flat_int
theorem lay_stageposttop_SharedRanges : LayT 26 [.row [.txt], .kd .txt, .kd .txt, .kd .txt, .kd .txt, .kd .txt, .kd .txt, .kd .txt, .kd (.num .i64), .kd (.num .i64)] := layT_struct Tryz.underlying26 (by kernel_rfl) fun d k hd => match d, k, hd with
  | 0, k, h => ⟨0, _, _, rfl, lay_Lstring, by decide, h⟩
  | 1, k, h => ⟨1, _, _, rfl, lay_api_Span, by decide, h⟩
  | 2, k, h => ⟨1, _, _, rfl, lay_api_Span, by decide, h⟩
  | 3, k, h => ⟨2, _, _, rfl, lay_string, by decide, h⟩
  | 4, k, h => ⟨3, _, _, rfl, lay_api_Span, by decide, h⟩
  | 5, k, h => ⟨3, _, _, rfl, lay_api_Span, by decide, h⟩
  | 6, k, h => ⟨4, _, _, rfl, lay_api_Span, by decide, h⟩
  | 7, k, h => ⟨4, _, _, rfl, lay_api_Span, by decide, h⟩
  | 8, k, h => ⟨5, _, _, rfl, lay_int, by decide, h⟩
  | 9, k, h => ⟨6, _, _, rfl, lay_int, by decide, h⟩
  | n + 10, k, h => by simp at h
/-- The argument, opened. -/
theorem open_Ranges {H : Type} {enc : TypeId × Value → H} {W : World} {r : Reach} {base B : Nat} (G : Bound H B) (hB : B ≤ 1048576) {v : Value} {d : DataW H} {p : List MemPlace} (hok : Value.okWide Tryz.prog W r base 26 v) (ht : DataW.Trod enc Tryz.prog W 0 (fun _ => true) true 26 v d p)
    (hf : Fine W p) (hg : G.good d) : ∃ (xa0 : Option Addr) (xn0 xc0 : Nat) (xs1 : ByteArray) (xs2 : ByteArray) (xs3 : ByteArray) (xs4 : ByteArray) (xs5 : ByteArray) (xs6 : ByteArray) (xs7 : ByteArray) (xz8 : Int) (xz9 : Int), v = .agg #[.slice xa0 xn0 xc0, .string xs1, .string xs2, .string xs3, .string xs4, .string xs5, .string xs6, .string xs7, .int .i64 xz8, .int .i64 xz9] ∧ X_Ranges W xa0 xn0 xc0 xs1 xs2 xs3 xs4 xs5 xs6 xs7 xz8 xz9 := by
  obtain ⟨cs, rfl, hsz⟩ := okWide_struct Tryz.underlying26 hok
  obtain ⟨fuel, ht⟩ := ht
  obtain ⟨hl, hx⟩ := lay_stageposttop_SharedRanges H enc W B G fuel _ _ ht hf hg
  obtain ⟨v0, e0, h0⟩ := hx 0 _ rfl
  obtain ⟨v1, e1, h1⟩ := hx 1 _ rfl
  obtain ⟨v2, e2, h2⟩ := hx 2 _ rfl
  obtain ⟨v3, e3, h3⟩ := hx 3 _ rfl
  obtain ⟨v4, e4, h4⟩ := hx 4 _ rfl
  obtain ⟨v5, e5, h5⟩ := hx 5 _ rfl
  obtain ⟨v6, e6, h6⟩ := hx 6 _ rfl
  obtain ⟨v7, e7, h7⟩ := hx 7 _ rfl
  obtain ⟨v8, e8, h8⟩ := hx 8 _ rfl
  obtain ⟨v9, e9, h9⟩ := hx 9 _ rfl
  obtain ⟨xa0, xn0, xc0, rfl, le0, cap0, nil0, row0, big0⟩ := h0
  obtain ⟨xs1, rfl, k1⟩ := h1
  obtain ⟨xs2, rfl, k2⟩ := h2
  obtain ⟨xs3, rfl, k3⟩ := h3
  obtain ⟨xs4, rfl, k4⟩ := h4
  obtain ⟨xs5, rfl, k5⟩ := h5
  obtain ⟨xs6, rfl, k6⟩ := h6
  obtain ⟨xs7, rfl, k7⟩ := h7
  obtain ⟨xz8, rfl, k8⟩ := h8
  obtain ⟨xz9, rfl, k9⟩ := h9
  refine ⟨xa0, xn0, xc0, xs1, xs2, xs3, xs4, xs5, xs6, xs7, xz8, xz9, ?_, { le0 := le0, cap0 := cap0, nil0 := nil0, row0 := row0, big0 := Nat.le_trans big0 hB, k1 := k1, k2 := k2, k3 := k3, k4 := k4, k5 := k5, k6 := k6, k7 := k7, k8 := k8, k9 := k9 }⟩
  congr 1
  apply Array.ext'
  have hcl : (Value.agg cs).cells.toList = cs.toList := rfl
  rw [hcl] at e0 e1 e2 e3 e4 e5 e6 e7 e8 e9 hl
  refine List.ext_getElem? fun i => ?_
  match i with
  | 0 => exact e0
  | 1 => exact e1
  | 2 => exact e2
  | 3 => exact e3
  | 4 => exact e4
  | 5 => exact e5
  | 6 => exact e6
  | 7 => exact e7
  | 8 => exact e8
  | 9 => exact e9
  | n + 10 => rw [List.getElem?_eq_none (by rw [hl]; simp), List.getElem?_eq_none (by simp)]
theorem X_Ranges.but {W W' : World} {xa0 : Option Addr} {xn0 xc0 : Nat} {xs1 : ByteArray} {xs2 : ByteArray} {xs3 : ByteArray} {xs4 : ByteArray} {xs5 : ByteArray} {xs6 : ByteArray} {xs7 : ByteArray} {xz8 : Int} {xz9 : Int} (h : X_Ranges W xa0 xn0 xc0 xs1 xs2 xs3 xs4 xs5 xs6 xs7 xz8 xz9) (hb : But (fun _ => False) W W') : X_Ranges W' xa0 xn0 xc0 xs1 xs2 xs3 xs4 xs5 xs6 xs7 xz8 xz9 :=
  { h with row0 := h.row0.but (by decide) hb (by simp) }

/-- The law's function: apart, then alive. -/
theorem enter_Ranges (W : World) (xa0 : Option Addr) (xn0 xc0 : Nat) (xs1 : ByteArray) (xs2 : ByteArray) (xs3 : ByteArray) (xs4 : ByteArray) (xs5 : ByteArray) (xs6 : ByteArray) (xs7 : ByteArray) (xz8 : Int) (xz9 : Int) (h : X_Ranges W xa0 xn0 xc0 xs1 xs2 xs3 xs4 xs5 xs6 xs7 xz8 xz9)
    (hal : ∀ w, Below W.heap.size W w → Calls Tryz.prog 20 #[] w fun e w' => e = .returned (.bool true) ∧ Below W.heap.size W w') :
    Calls Tryz.prog 3 #[.agg #[.slice xa0 xn0 xc0, .string xs1, .string xs2, .string xs3, .string xs4, .string xs5, .string xs6, .string xs7, .int .i64 xz8, .int .i64 xz9]] W fun e W' => e = .returned (.bool true) ∧ Below W.heap.size W W' := by
  have cST : Tryz.prog.cellsOf 26 = 10 := by kernel_rfl
  have uST := Tryz.underlying26
  obtain ⟨W1, hW1⟩ : ∃ W1, (W.alloc (.cells #[.slice xa0 xn0 xc0, .string xs1, .string xs2, .string xs3, .string xs4, .string xs5, .string xs6, .string xs7, .int .i64 xz8, .int .i64 xz9] 26)).alloc (.cells #[.func (.func 8) #[] #[], .func (.func 10) #[] #[], .func (.func 12) #[] #[], .func (.func 14) #[] #[], .func (.func 16) #[] #[]] 34) = W1 := ⟨_, rfl⟩
  have hs : (W.alloc (.cells #[.slice xa0 xn0 xc0, .string xs1, .string xs2, .string xs3, .string xs4, .string xs5, .string xs6, .string xs7, .int .i64 xz8, .int .i64 xz9] 26)).heap.size = W.heap.size + 1 := by simp
  have b1 : But (fun _ => False) W W1 := by rw [← hW1]; exact ((But.refl _ _).alloc _).alloc _
  have g1 : W1.heap[W.heap.size + 1]? = some (.cells #[.func (.func 8) #[] #[], .func (.func 10) #[] #[], .func (.func 12) #[] #[], .func (.func 14) #[] #[], .func (.func 16) #[] #[]] 34 (0, 0)) := by rw [← hW1, ← hs]; exact heap_alloc_new _ _
  have hap := apart_Ranges (h.but b1) (W.heap.size + 1) (fun k hk => by
    match k, hk with
    | 0, _ => exact .inl ⟨_, (cell_of_row _ _ 0 _ _ _ g1).trans rfl, door_Ranges_1, Tryz.call8⟩
    | 1, _ => exact .inl ⟨_, (cell_of_row _ _ 1 _ _ _ g1).trans rfl, door_Ranges_2, Tryz.call10⟩
    | 2, _ => exact .inl ⟨_, (cell_of_row _ _ 2 _ _ _ g1).trans rfl, door_Ranges_3, Tryz.call12⟩
    | 3, _ => exact .inl ⟨_, (cell_of_row _ _ 3 _ _ _ g1).trans rfl, door_Ranges_4, Tryz.call14⟩
    | 4, _ => exact .inr ⟨_, _, (cell_of_row _ _ 4 _ _ _ g1).trans rfl, door_Ranges_5, looks_TopSharedRanges_5_1, Tryz.call16, Tryz.call18⟩
    | n + 5, hk => omega)
  clear h g1
  go_enter Tryz.func3, Tryz.ntmps3
  go_wp2_with fail
  refine hap.mono fun e w1 ⟨he, hb⟩ => ?_
  subst he
  have hb2 := b1.trans hb (by simp)
  go_wp2_with fail
  refine (hal w1 (hb2.below (Nat.le_refl _) (by simp))).mono fun e w2 ⟨he2, hb3⟩ => ?_
  subst he2
  go_wp2_with fail
  go_ret
  exact ⟨rfl, hb3⟩
end Go.Proofs.YtoplphimhbnelaaGreatDoor
