/-
  Walks of the functions that apart reaches (num, all, nums, look, same, alike, copied, own, see, the functions of crc): each by a contract; at the end the call of apart itself with any byte slice and any three numbers: it returns true and turns no old memory.
-/
import Derived.Test.YtlckcnkognnlpaaGreatDoorP1
import Derived.Deep.LoopGhost
set_option linter.all false
set_option linter.unusedVariables false
set_option linter.unusedSimpArgs false
section
namespace Go.Proofs.YtlckcnkognnlpaaGreatDoor
open Go.RowKit
set_option maxRecDepth 100000

set_option maxHeartbeats 3200000 in
theorem all_any (M : Nat → Prop) (w0 w : World) (b : Nat) (l : List Int) (mk rm : Bool) (t : Int) (hI : SeeI M w0 b l mk t rm w) (a : Option Addr) (n c vis : Nat) (hnc : n ≤ c) (hc : c ≤ maxLen)
    (hvis : vis = if rm then c else n) (ha : a = none → c = 0) (hl : l.length < 1000000)
    (J : Nat → List Int → World → Prop) (hJI : ∀ k l' w', J k l' w' → ∃ t', SeeI M w0 b l' mk t' rm w')
    (hJ0 : ∀ w', SeeI M w0 b (l ++ [(n : Int)]) mk t rm w' → But (fun k => k = b ∨ w0.heap.size ≤ k) w w' → J 0 (l ++ [(n : Int)]) w')
    (hstep : ∀ k l' w', k < vis → l'.length < 200000 → J k l' w' → ∀ ad, a = some ad → Calls Tryz.prog 30 #[.pointer (some ⟨b, 0, none⟩), .pointer (some (ad.add k))] w' fun e w'' => e = .returned (.tuple #[]) ∧ ∃ l'', J (k + 1) l'' w'') :
    Calls Tryz.prog 29 #[.pointer (some ⟨b, 0, none⟩), .slice a n c, .func (.func 30) #[] #[]] w fun e w' => e = .returned (.tuple #[]) ∧ ∃ k l', J k l' w' ∧ k ≤ vis ∧ (k = vis ∨ 200000 ≤ l'.length) := by
  obtain ⟨v, he, hown⟩ := hI.eye
  obtain ⟨i0, hi0, hz0, hz1, hz2⟩ := info_parts info3
  obtain ⟨c0, c2, c3, c4, cf⟩ := eye_cells he
  have f0 := cf 0
  clear cf
  have hne : v.ownBlock ≠ some b := fun e => by have := (hown.lt b e).1; have := hI.old; omega
  have lb : b < w.heap.size := lt_of_block he
  have hbase := hI.but.size
  have fa : ∀ o : Obj, (w.alloc o).frozen? ⟨b, 0, none⟩ = false := fun o => (World.frozen?_of_block (Below.heap_alloc w o b lb)).trans f0
  have h63 : l.length + 1 ≤ maxLen := by unfold maxLen; omega
  have hby : (l.length + 1) * 8 ≤ 140737488355328 := by omega
  unfold maxLen at hc
  have HV : Hid (vis = if rm = true then c else n) := hvis
  rcases a with _ | ad
  · obtain rfl : c = 0 := ha rfl
    obtain rfl : n = 0 := by omega
    cases rm
    · go_enter Tryz.func29, Tryz.ntmps29
      go_wp2_with (at_builtin; refine wpList_append_lies _ rfl (.tmp 11) (.tmp 14) 47 rfl w0.heap.size 3 i0 _ 1 8 Tryz.underlying47 hi0 hz0 hz1 hz2 rfl (by omega) v l.length (l.map (Value.int .i64)) rfl (hown.alloc _) ⟨w.heap.size, 0, none⟩ 1 1 [.int .i64 0] rfl rfl (World.news_of_block (cs := #[.int .i64 0]) (t := 3) (fr := (0, 0)) (heap_alloc_new w _)) (by simp [Value.oneCell']) (by omega) h63 hby (by simp; omega) (w.heap.size + 1) (by simp) ?_; intro gg cap w1 hown1 hgrow hat hlt; have g0 := (hgrow.cell_far ⟨b, 0, none⟩ (by simp; omega) (Ne.symm hne)).trans ((World.cell?_of_block (Below.heap_alloc w (.cells #[.int .i64 0] 3) b lb)).trans c0); have g1 := (hgrow.frozen_far ⟨b, 0, none⟩ (by simp; omega) (Ne.symm hne)).trans (fa (.cells #[.int .i64 0] 3)); have g4 := (hgrow.cell_far ⟨b, 4, none⟩ (by simp; omega) (Ne.symm hne)).trans ((World.cell?_of_block (Below.heap_alloc w (.cells #[.int .i64 0] 3) b lb)).trans c4))
      have hw1 : SeeI M w0 b (l ++ [((0 : Nat) : Int)]) mk t false (w1.setCell ⟨b, 0, none⟩ (.slice (some ⟨gg, 0, none⟩) (l.length + 1) cap)) ∧ But (fun k => k = b ∨ w0.heap.size ≤ k) w (w1.setCell ⟨b, 0, none⟩ (.slice (some ⟨gg, 0, none⟩) (l.length + 1) cap)) := by
        refine ⟨SeeI.push (v := v) ((hI.but.alloc _).grown hgrow fun k hk hlt' => ?_) hI.old ?_ hown1, (((But.refl _ w).alloc _).grown hgrow fun k hk hlt' => ?_).setCell (fun _ => .inl rfl) _⟩
        · have := (hown.lt k hk).1; omega
        · rw [hgrow.block b (by simp; omega) (Ne.symm hne)]
          exact (Below.heap_alloc w _ b lb).trans he
        · exact .inr (hown.lt k hk).1
      go_loopw [6] (fun i wr => ∃ (k : Nat) (l' : List Int), k ≤ 0 ∧ i = .int .i64 k ∧ J k l' wr) (fun i _ => 0 - (intOf i).toNat)
      case atStart => exact ⟨0, _, Nat.zero_le _, rfl, hJ0 _ hw1.1 hw1.2⟩
      case round =>
        clear hw1 hown1 hgrow hat g0 g1 g4 c0 c2 c3 c4 f0 fa he hown hI hJ0
        obtain ⟨k, l', hk, rfl, hJ⟩ := hrel
        obtain ⟨t', hI'⟩ := hJI _ _ _ hJ
        obtain ⟨v', he', hown'⟩ := hI'.eye
        obtain ⟨o', cc, rfl⟩ := ownsRow_form hown'
        obtain ⟨e0, -, -, -, -⟩ := eye_cells he'
        clear he' hown' hI'
        have hk0 : (0 : Int) ≤ (k : Int) := Int.natCast_nonneg _
        obtain rfl : k = 0 := by omega
        clear hstep hJI hvis ha hl hi0 hz0 hz1 hz2 hne lb hbase h63 hby
        go_wp2_with fail
        go_end0
        exact ⟨rfl, 0, l', hJ, by rw [HV.out]; simp, .inl (by rw [HV.out]; simp)⟩
    · go_enter Tryz.func29, Tryz.ntmps29
      go_wp2_with (at_builtin; refine wpList_append_lies _ rfl (.tmp 11) (.tmp 14) 47 rfl w0.heap.size 3 i0 _ 1 8 Tryz.underlying47 hi0 hz0 hz1 hz2 rfl (by omega) v l.length (l.map (Value.int .i64)) rfl (hown.alloc _) ⟨w.heap.size, 0, none⟩ 1 1 [.int .i64 0] rfl rfl (World.news_of_block (cs := #[.int .i64 0]) (t := 3) (fr := (0, 0)) (heap_alloc_new w _)) (by simp [Value.oneCell']) (by omega) h63 hby (by simp; omega) (w.heap.size + 1) (by simp) ?_; intro gg cap w1 hown1 hgrow hat hlt; have g0 := (hgrow.cell_far ⟨b, 0, none⟩ (by simp; omega) (Ne.symm hne)).trans ((World.cell?_of_block (Below.heap_alloc w (.cells #[.int .i64 0] 3) b lb)).trans c0); have g1 := (hgrow.frozen_far ⟨b, 0, none⟩ (by simp; omega) (Ne.symm hne)).trans (fa (.cells #[.int .i64 0] 3)); have g4 := (hgrow.cell_far ⟨b, 4, none⟩ (by simp; omega) (Ne.symm hne)).trans ((World.cell?_of_block (Below.heap_alloc w (.cells #[.int .i64 0] 3) b lb)).trans c4))
      have hw1 : SeeI M w0 b (l ++ [((0 : Nat) : Int)]) mk t true (w1.setCell ⟨b, 0, none⟩ (.slice (some ⟨gg, 0, none⟩) (l.length + 1) cap)) ∧ But (fun k => k = b ∨ w0.heap.size ≤ k) w (w1.setCell ⟨b, 0, none⟩ (.slice (some ⟨gg, 0, none⟩) (l.length + 1) cap)) := by
        refine ⟨SeeI.push (v := v) ((hI.but.alloc _).grown hgrow fun k hk hlt' => ?_) hI.old ?_ hown1, (((But.refl _ w).alloc _).grown hgrow fun k hk hlt' => ?_).setCell (fun _ => .inl rfl) _⟩
        · have := (hown.lt k hk).1; omega
        · rw [hgrow.block b (by simp; omega) (Ne.symm hne)]
          exact (Below.heap_alloc w _ b lb).trans he
        · exact .inr (hown.lt k hk).1
      go_loopw [6] (fun i wr => ∃ (k : Nat) (l' : List Int), k ≤ 0 ∧ i = .int .i64 k ∧ J k l' wr) (fun i _ => 0 - (intOf i).toNat)
      case atStart => exact ⟨0, _, Nat.zero_le _, rfl, hJ0 _ hw1.1 hw1.2⟩
      case round =>
        clear hw1 hown1 hgrow hat g0 g1 g4 c0 c2 c3 c4 f0 fa he hown hI hJ0
        obtain ⟨k, l', hk, rfl, hJ⟩ := hrel
        obtain ⟨t', hI'⟩ := hJI _ _ _ hJ
        obtain ⟨v', he', hown'⟩ := hI'.eye
        obtain ⟨o', cc, rfl⟩ := ownsRow_form hown'
        obtain ⟨e0, -, -, -, -⟩ := eye_cells he'
        clear he' hown' hI'
        have hk0 : (0 : Int) ≤ (k : Int) := Int.natCast_nonneg _
        obtain rfl : k = 0 := by omega
        clear hstep hJI hvis ha hl hi0 hz0 hz1 hz2 hne lb hbase h63 hby
        go_wp2_with fail
        go_end0
        exact ⟨rfl, 0, l', hJ, by rw [HV.out]; simp, .inl (by rw [HV.out]; simp)⟩
  · cases rm
    · go_enter Tryz.func29, Tryz.ntmps29
      go_wp2_with (at_builtin; refine wpList_append_lies _ rfl (.tmp 11) (.tmp 14) 47 rfl w0.heap.size 3 i0 _ 1 8 Tryz.underlying47 hi0 hz0 hz1 hz2 rfl (by omega) v l.length (l.map (Value.int .i64)) rfl (hown.alloc _) ⟨w.heap.size, 0, none⟩ 1 1 [.int .i64 n] rfl rfl (World.news_of_block (cs := #[.int .i64 n]) (t := 3) (fr := (0, 0)) (heap_alloc_new w _)) (by simp [Value.oneCell']) (by omega) h63 hby (by simp; omega) (w.heap.size + 1) (by simp) ?_; intro gg cap w1 hown1 hgrow hat hlt; have g0 := (hgrow.cell_far ⟨b, 0, none⟩ (by simp; omega) (Ne.symm hne)).trans ((World.cell?_of_block (Below.heap_alloc w (.cells #[.int .i64 n] 3) b lb)).trans c0); have g1 := (hgrow.frozen_far ⟨b, 0, none⟩ (by simp; omega) (Ne.symm hne)).trans (fa (.cells #[.int .i64 n] 3)); have g4 := (hgrow.cell_far ⟨b, 4, none⟩ (by simp; omega) (Ne.symm hne)).trans ((World.cell?_of_block (Below.heap_alloc w (.cells #[.int .i64 n] 3) b lb)).trans c4))
      have hw1 : SeeI M w0 b (l ++ [(n : Int)]) mk t false (w1.setCell ⟨b, 0, none⟩ (.slice (some ⟨gg, 0, none⟩) (l.length + 1) cap)) ∧ But (fun k => k = b ∨ w0.heap.size ≤ k) w (w1.setCell ⟨b, 0, none⟩ (.slice (some ⟨gg, 0, none⟩) (l.length + 1) cap)) := by
        refine ⟨SeeI.push (v := v) ((hI.but.alloc _).grown hgrow fun k hk hlt' => ?_) hI.old ?_ hown1, (((But.refl _ w).alloc _).grown hgrow fun k hk hlt' => ?_).setCell (fun _ => .inl rfl) _⟩
        · have := (hown.lt k hk).1; omega
        · rw [hgrow.block b (by simp; omega) (Ne.symm hne)]
          exact (Below.heap_alloc w _ b lb).trans he
        · exact .inr (hown.lt k hk).1
      go_loopw [6] (fun i wr => ∃ (k : Nat) (l' : List Int), k ≤ n ∧ i = .int .i64 k ∧ J k l' wr) (fun i _ => n - (intOf i).toNat)
      case atStart => exact ⟨0, _, Nat.zero_le _, rfl, hJ0 _ hw1.1 hw1.2⟩
      case round =>
        clear hw1 hown1 hgrow hat g0 g1 g4 c0 c2 c3 c4 f0 fa he hown hI hJ0
        obtain ⟨k, l', hk, rfl, hJ⟩ := hrel
        obtain ⟨t', hI'⟩ := hJI _ _ _ hJ
        obtain ⟨v', he', hown'⟩ := hI'.eye
        obtain ⟨o', cc, rfl⟩ := ownsRow_form hown'
        obtain ⟨e0, -, -, -, -⟩ := eye_cells he'
        clear he' hown' hI'
        have hk0 : (0 : Int) ≤ (k : Int) := Int.natCast_nonneg _
        rcases Nat.lt_or_ge k n with hkn | hkn
        · rcases Nat.lt_or_ge l'.length 200000 with hl' | hl'
          · have hs := hstep k l' wr (by rw [HV.out]; simp; omega) hl' hJ ad rfl
            have hl2 : (l'.length : Int) < 200000 := by omega
            clear hl' hstep hJI hJ hvis ha hl hi0 hz0 hz1 hz2 hne lb hbase h63 hby
            go_wp2_with (go_at_call 30; refine hs.mono ?_; rintro e w2 ⟨rfl, l'', hJ''⟩)
            go_roundw
            case rel => exact ⟨k + 1, l'', by omega, by go_num, hJ''⟩
            case measure => simp [intOf]; omega
          · clear hstep hJI hvis ha hl hi0 hz0 hz1 hz2 hne lb hbase h63 hby
            have HL : Hid (200000 ≤ l'.length) := hl'
            have hl2 : ((l'.length : Int) < 200000) = False := eq_false (by omega)
            clear hl'
            go_wp2_with fail
            go_end0
            exact ⟨rfl, k, l', hJ, by rw [HV.out]; simp; omega, .inr HL.out⟩
        · clear hstep hJI hvis ha hl hi0 hz0 hz1 hz2 hne lb hbase h63 hby
          obtain rfl : k = n := by omega
          go_wp2_with fail
          go_end0
          exact ⟨rfl, k, l', hJ, by rw [HV.out]; simp, .inl (by rw [HV.out]; simp)⟩
    · go_enter Tryz.func29, Tryz.ntmps29
      go_wp2_with (at_builtin; refine wpList_append_lies _ rfl (.tmp 11) (.tmp 14) 47 rfl w0.heap.size 3 i0 _ 1 8 Tryz.underlying47 hi0 hz0 hz1 hz2 rfl (by omega) v l.length (l.map (Value.int .i64)) rfl (hown.alloc _) ⟨w.heap.size, 0, none⟩ 1 1 [.int .i64 n] rfl rfl (World.news_of_block (cs := #[.int .i64 n]) (t := 3) (fr := (0, 0)) (heap_alloc_new w _)) (by simp [Value.oneCell']) (by omega) h63 hby (by simp; omega) (w.heap.size + 1) (by simp) ?_; intro gg cap w1 hown1 hgrow hat hlt; have g0 := (hgrow.cell_far ⟨b, 0, none⟩ (by simp; omega) (Ne.symm hne)).trans ((World.cell?_of_block (Below.heap_alloc w (.cells #[.int .i64 n] 3) b lb)).trans c0); have g1 := (hgrow.frozen_far ⟨b, 0, none⟩ (by simp; omega) (Ne.symm hne)).trans (fa (.cells #[.int .i64 n] 3)); have g4 := (hgrow.cell_far ⟨b, 4, none⟩ (by simp; omega) (Ne.symm hne)).trans ((World.cell?_of_block (Below.heap_alloc w (.cells #[.int .i64 n] 3) b lb)).trans c4))
      have hw1 : SeeI M w0 b (l ++ [(n : Int)]) mk t true (w1.setCell ⟨b, 0, none⟩ (.slice (some ⟨gg, 0, none⟩) (l.length + 1) cap)) ∧ But (fun k => k = b ∨ w0.heap.size ≤ k) w (w1.setCell ⟨b, 0, none⟩ (.slice (some ⟨gg, 0, none⟩) (l.length + 1) cap)) := by
        refine ⟨SeeI.push (v := v) ((hI.but.alloc _).grown hgrow fun k hk hlt' => ?_) hI.old ?_ hown1, (((But.refl _ w).alloc _).grown hgrow fun k hk hlt' => ?_).setCell (fun _ => .inl rfl) _⟩
        · have := (hown.lt k hk).1; omega
        · rw [hgrow.block b (by simp; omega) (Ne.symm hne)]
          exact (Below.heap_alloc w _ b lb).trans he
        · exact .inr (hown.lt k hk).1
      go_loopw [6] (fun i wr => ∃ (k : Nat) (l' : List Int), k ≤ c ∧ i = .int .i64 k ∧ J k l' wr) (fun i _ => c - (intOf i).toNat)
      case atStart => exact ⟨0, _, Nat.zero_le _, rfl, hJ0 _ hw1.1 hw1.2⟩
      case round =>
        clear hw1 hown1 hgrow hat g0 g1 g4 c0 c2 c3 c4 f0 fa he hown hI hJ0
        obtain ⟨k, l', hk, rfl, hJ⟩ := hrel
        obtain ⟨t', hI'⟩ := hJI _ _ _ hJ
        obtain ⟨v', he', hown'⟩ := hI'.eye
        obtain ⟨o', cc, rfl⟩ := ownsRow_form hown'
        obtain ⟨e0, -, -, -, -⟩ := eye_cells he'
        clear he' hown' hI'
        have hk0 : (0 : Int) ≤ (k : Int) := Int.natCast_nonneg _
        rcases Nat.lt_or_ge k c with hkn | hkn
        · rcases Nat.lt_or_ge l'.length 200000 with hl' | hl'
          · have hs := hstep k l' wr (by rw [HV.out]; simp; omega) hl' hJ ad rfl
            have hl2 : (l'.length : Int) < 200000 := by omega
            clear hl' hstep hJI hJ hvis ha hl hi0 hz0 hz1 hz2 hne lb hbase h63 hby
            go_wp2_with (go_at_call 30; refine hs.mono ?_; rintro e w2 ⟨rfl, l'', hJ''⟩)
            go_roundw
            case rel => exact ⟨k + 1, l'', by omega, by go_num, hJ''⟩
            case measure => simp [intOf]; omega
          · clear hstep hJI hvis ha hl hi0 hz0 hz1 hz2 hne lb hbase h63 hby
            have HL : Hid (200000 ≤ l'.length) := hl'
            have hl2 : ((l'.length : Int) < 200000) = False := eq_false (by omega)
            clear hl'
            go_wp2_with fail
            go_end0
            exact ⟨rfl, k, l', hJ, by rw [HV.out]; simp; omega, .inr HL.out⟩
        · clear hstep hJI hvis ha hl hi0 hz0 hz1 hz2 hne lb hbase h63 hby
          obtain rfl : k = c := by omega
          go_wp2_with fail
          go_end0
          exact ⟨rfl, k, l', hJ, by rw [HV.out]; simp, .inl (by rw [HV.out]; simp)⟩
end Go.Proofs.YtlckcnkognnlpaaGreatDoor
end
section
namespace Go.Proofs.YtlckcnkognnlpaaGreatDoor
open Go.RowKit
set_option maxRecDepth 100000
/-- nums, seeByteses, the closures and see hand on what their callees do. -/
theorem nums_call {w : World} {b : Nat} {la : Addr} {a : Option Addr} {n c : Nat} {R : World → Prop} (hla : w.cell? la = some (.slice a n c))
    (h : Calls Tryz.prog 29 #[.pointer (some ⟨b, 0, none⟩), .slice a n c, .func (.func 30) #[] #[]] w fun e w' => e = .returned (.tuple #[]) ∧ R w') :
    Calls Tryz.prog 14 #[.pointer (some ⟨b, 0, none⟩), .pointer (some la)] w fun e w' => e = .returned (.tuple #[]) ∧ R w' := by
  go_enter Tryz.func14, Tryz.ntmps14
  go_wp2_with (go_at_call 29; refine h.mono ?_; rintro e w2 ⟨rfl, hr⟩)
  go_end0
  exact ⟨rfl, hr⟩
theorem cloA_call {w : World} {b : Nat} {la : Addr} {R : World → Prop}
    (h : Calls Tryz.prog 14 #[.pointer (some ⟨b, 0, none⟩), .pointer (some la)] w fun e w' => e = .returned (.tuple #[]) ∧ R w') :
    Calls Tryz.prog 13 #[.pointer (some ⟨b, 0, none⟩), .pointer (some la)] w fun e w' => e = .returned (.tuple #[]) ∧ R w' := by
  go_enter Tryz.func13, Tryz.ntmps13
  go_wp2_with (go_at_call 14; refine h.mono ?_; rintro e w2 ⟨rfl, hr⟩)
  go_end0
  exact ⟨rfl, hr⟩
theorem cloB_call {w : World} {b : Nat} {la : Addr} {R : World → Prop}
    (h : Calls Tryz.prog 14 #[.pointer (some ⟨b, 0, none⟩), .pointer (some la)] w fun e w' => e = .returned (.tuple #[]) ∧ R w') :
    Calls Tryz.prog 17 #[.pointer (some ⟨b, 0, none⟩), .pointer (some la)] w fun e w' => e = .returned (.tuple #[]) ∧ R w' := by
  go_enter Tryz.func17, Tryz.ntmps17
  go_wp2_with (go_at_call 14; refine h.mono ?_; rintro e w2 ⟨rfl, hr⟩)
  go_end0
  exact ⟨rfl, hr⟩
theorem cloC_call {w : World} {b : Nat} {la : Addr} {R : World → Prop}
    (h : Calls Tryz.prog 14 #[.pointer (some ⟨b, 0, none⟩), .pointer (some la)] w fun e w' => e = .returned (.tuple #[]) ∧ R w') :
    Calls Tryz.prog 20 #[.pointer (some ⟨b, 0, none⟩), .pointer (some la)] w fun e w' => e = .returned (.tuple #[]) ∧ R w' := by
  go_enter Tryz.func20, Tryz.ntmps20
  go_wp2_with (go_at_call 14; refine h.mono ?_; rintro e w2 ⟨rfl, hr⟩)
  go_end0
  exact ⟨rfl, hr⟩
end Go.Proofs.YtlckcnkognnlpaaGreatDoor
end
