/-
  Walks of the functions that apart reaches (num, all, nums, look, same, alike, copied, own, see, the functions of frame and crc): each by a contract; at the end the call of apart itself with any two byte slices: it returns true and turns no old memory.
-/
import Derived.Test.YtjcgnogpmkgjkaaGreatDoorP2
import Derived.Deep.LoopGhost
import Derived.Laws.BytesArg
import Derived.Deep.RegionHeld3
import Derived.Deep.RegionWith
import Derived.Deep.QuietTactic
import Derived.BigQuiet
import Derived.Deep.DrawnRows
import Derived.Laws.Closers25b
import Derived.WalkMore
set_option linter.all false
set_option linter.unusedVariables false
set_option linter.unusedSimpArgs false
section
namespace Go.Proofs.YtjcgnogpmkgjkaaGreatDoor
open Go.RowKit
set_option maxRecDepth 100000

theorem info5 : (Tryz.prog.info? 5).map (fun i => (i.zero, i.size, i.bytes)) = some (some (.int .u8 0), 1, 1) := by kernel_rfl

/-- The bytes of a slice of n elements, at whatever address. -/
def At (w : World) (a : Option Addr) (zs : List Int) : Prop := (∀ z ∈ zs, 0 ≤ z ∧ z < 256) ∧ ∀ i, i < zs.length → ∃ ad, a = some ad ∧ w.cell? (ad.add i) = some (.int .u8 (zs.getD i 0))

theorem wpList_append_run {P : Program} (w : World) {ops : Array Oper} {rest : List Oper} {o : Oper} {a : Act} {Q : Exit → Act → World → Prop} (hgd : o.guard = none) (s x : Operand) (t : TypeId)
    (ho : o.op = .call { callee := .builtin .append, args := #[s, x], argTypes := #[t, t] }) (v sx v' : Value) (w' : World) (hs : a.eval s = v) (hx : a.eval x = sx)
    (hr : (Builtin.append_ #[t, t] o.type #[v, sx]).run P w = .ok v' w') (h : wpList P ops Q rest (a.put o.dst v') w') : wpList P ops Q (o :: rest) a w :=
  wpList_plain hgd fun K hK => by
    unfold Oper.wp execOp
    simp only [ho, resolve, invoke, builtin, Sem.run_bind, Sem.run_pure, Result.andThen_ok, List.map_toArray, List.map_cons, List.map_nil, hs, hx, hr]
    exact hK _ _ h

/-- make with room for two more, and the bytes laid into it. -/
theorem copied_run (w : World) (a : Option Addr) (n c : Nat) (zs : List Int) (hz : zs.length = n) (hn : n ≤ 2000) (ha : a = none → c = 0) (h : At w a zs) (ty : TypeId) :
    ∃ w', (Builtin.append_ #[22, 22] ty #[.slice (some ⟨w.heap.size, 0, none⟩) 0 (n + 2), .slice a n c]).run Tryz.prog (w.alloc (.cells (Array.replicate (n + 2) (.int .u8 0)) 5)) = .ok (.slice (some ⟨w.heap.size, 0, none⟩) n (n + 2)) w' ∧
      w'.heap[w.heap.size]? = some (.cells ((zs ++ [0, 0]).map (Value.int .u8)).toArray 5 (0, 0)) ∧ But (fun _ => False) w w' := by
  obtain ⟨i0, hi0, hz0, hz1, hz2⟩ := info_parts info5
  have hg := heap_alloc_new w (.cells (Array.replicate (n + 2) (.int .u8 0)) 5)
  have hb : But (fun _ => False) w (w.alloc (.cells (Array.replicate (n + 2) (.int .u8 0)) 5)) := (But.refl _ _).alloc _
  obtain ⟨w1, hw1⟩ : ∃ w1, w1 = w.alloc (.cells (Array.replicate (n + 2) (.int .u8 0)) 5) := ⟨_, rfl⟩
  rw [← hw1] at hg hb ⊢
  rcases a with _ | ad
  · obtain rfl : c = 0 := ha rfl
    have h0 : n = 0 := by
      rcases Nat.eq_zero_or_pos n with h0 | h0
      · exact h0
      · obtain ⟨ad, h1, _⟩ := h.2 0 (by omega); cases h1
    subst h0
    obtain rfl := List.eq_nil_of_length_eq_zero hz
    have hown : w1.ownsRow 0 5 1 (.slice (some ⟨w.heap.size, 0, none⟩) 0 2) 0 [] := ⟨rfl, .inr ⟨w.heap.size, 2, _, rfl, Nat.zero_le _, hg, by omega, by simp [maxLen], by simp, by simp⟩⟩
    exact ⟨w1, run_append_owned_none (P := Tryz.prog) w1 0 22 ty 5 i0 1 Tryz.underlying22 hi0 _ 0 _ hown, hg, hb⟩
  · have hr := run_append_room (P := Tryz.prog) w1 22 ty 5 i0 Tryz.underlying22 hi0 w.heap.size 0 (n + 2) _ hg ad n c (zs.map (Value.int .u8)) (by simp [hz, hz1]) (fun j u hj => by
      have hjn : j < zs.length := by simpa using (List.getElem?_eq_some_iff.1 hj).1
      obtain ⟨ad', h1, h2⟩ := h.2 j hjn
      obtain rfl := Option.some.inj h1
      rw [hb.cell (World.block_lt_of_cell? w _ h2) (by simp), h2]
      simp [hjn] at hj
      simp [hjn, hj]) (fun u hu => by
      obtain ⟨z, _, rfl⟩ := List.mem_map.1 hu
      rfl) (by omega) (by simp [hz1, hz])
    simp only [Nat.zero_add, Nat.zero_mul] at hr
    refine ⟨_, hr, ?_, ?_⟩
    · rw [setRow_heap w1 w.heap.size _ _ 5 _ hg]
      congr 2
      simp only [List.take_zero, List.nil_append, Array.toList_replicate, List.length_map, hz, List.drop_replicate, show n + 2 - n = 2 from by omega, List.map_append]
      rfl
    · refine ⟨hb.os, hb.tape, hb.output, by simpa using hb.size, fun k hk hn' => ?_⟩
      rw [setRow_other _ _ _ _ (by omega)]
      exact hb.block k hk hn'

theorem copied_call (w : World) (a : Option Addr) (n c : Nat) (zs : List Int) (hz : zs.length = n) (hn : n ≤ 2000) (ha : a = none → c = 0) (h : At w a zs) :
    Calls Tryz.prog 23 #[.slice a n c] w fun e w' => e = .returned (.slice (some ⟨w.heap.size, 0, none⟩) n (n + 2)) ∧ w'.heap[w.heap.size]? = some (.cells ((zs ++ [0, 0]).map (Value.int .u8)).toArray 5 (0, 0)) ∧ But (fun _ => False) w w' := by
  obtain ⟨i0, hi0, hz0, hz1, hz2⟩ := info_parts info5
  have hmk := run_make (P := Tryz.prog) w 22 5 i0 (.int .u8 0) Tryz.underlying22 hi0 hz0 .i64 .i64 0 ((n : Int) + 2) (by omega) (by omega) (by rw [hz2]; omega) (by omega)
  have hm : madeCells (Value.int .u8 0).cells (((n : Int) + 2).toNat * i0.size) = Array.replicate (n + 2) (.int .u8 0) := by
    have e : ((n : Int) + 2).toNat * i0.size = n + 2 := by rw [hz1]; omega
    rw [e]
    apply Array.ext
    · simp [madeCells]
    · intro i h1 h2
      simp [madeCells, Value.cells, Nat.mod_one]
  have e2 : ((n : Int) + 2).toNat = n + 2 := by omega
  rw [hm, e2] at hmk
  simp only [Int.toNat_zero] at hmk
  obtain ⟨w', hr, h1, h2⟩ := copied_run w a n c zs hz hn ha h 22
  clear hm e2
  go_enter Tryz.func23, Tryz.ntmps23
  go_wp2_with (at_builtin; refine wpList_append_run _ rfl (.tmp 6) (.tmp 7) 22 rfl _ _ _ w' rfl rfl hr ?_)
  go_ret
  exact ⟨rfl, h1, h2⟩
end Go.Proofs.YtjcgnogpmkgjkaaGreatDoor
end
section
namespace Go.Proofs.YtjcgnogpmkgjkaaGreatDoor
open Go.RowKit
set_option maxRecDepth 100000

/-- A row of bytes at a block's head: n of them are the slice's own, all are read with room. -/
def Row5 (w : World) (g : Nat) (zs : List Int) : Prop := w.heap[g]? = some (.cells (zs.map (Value.int .u8)).toArray 5 (0, 0)) ∧ ∀ z ∈ zs, 0 ≤ z ∧ z < 256

theorem At.but {S : Nat → Prop} {w w' : World} {a : Option Addr} {zs : List Int} (h : At w a zs) (hb : But S w w') (hs : ∀ k, k < w.heap.size → ¬ S k) : At w' a zs :=
  ⟨h.1, fun i hi => let ⟨ad, h1, h2⟩ := h.2 i hi; ⟨ad, h1, (hb.cell (World.block_lt_of_cell? w _ h2) (hs _ (World.block_lt_of_cell? w _ h2))).trans h2⟩⟩

set_option maxHeartbeats 1600000 in
theorem own_call (w : World) (a b : Option Addr) (n c m d : Nat) (zs ys : List Int) (hz : zs.length = n) (hn : n ≤ 2000) (ha : a = none → c = 0) (h : At w a zs)
    (hy : ys.length = m) (hm : m ≤ 2000) (hb : b = none → d = 0) (h' : At w b ys) :
    Calls Tryz.prog 5 #[.agg #[.slice a n c, .slice b m d]] w fun e w' => ∃ ga gb, e = .returned (.agg #[.slice (some ⟨ga, 0, none⟩) n (n + 2), .slice (some ⟨gb, 0, none⟩) m (m + 2)]) ∧
      w.heap.size ≤ ga ∧ w.heap.size ≤ gb ∧ ga ≠ gb ∧ Row5 w' ga (zs ++ [0, 0]) ∧ Row5 w' gb (ys ++ [0, 0]) ∧ But (fun _ => False) w w' := by
  have u24 := Tryz.underlying24
  have c24 : Tryz.prog.cellsOf 24 = 2 := by kernel_rfl
  obtain ⟨w1, hw1⟩ : ∃ w1, w1 = (w.alloc (.cells #[.slice a n c, .slice b m d] 24)).alloc (.cells #[.slice none 0 0, .slice none 0 0] 24) := ⟨_, rfl⟩
  have hs0 : (w.alloc (.cells #[.slice a n c, .slice b m d] 24)).heap.size = w.heap.size + 1 := by simp
  have hb1 : But (fun _ => False) w w1 := by rw [hw1]; exact ((But.refl _ _).alloc _).alloc _
  have x1 : w1.heap[w.heap.size]? = some (.cells #[.slice a n c, .slice b m d] 24 (0, 0)) := by rw [hw1, Below.heap_alloc _ _ _ (by simp)]; exact heap_alloc_new w _
  have r1 : w1.heap[w.heap.size + 1]? = some (.cells #[.slice none 0 0, .slice none 0 0] 24 (0, 0)) := by rw [hw1, ← hs0]; exact heap_alloc_new _ _
  have HW : Hid (w1 = (w.alloc (.cells #[.slice a n c, .slice b m d] 24)).alloc (.cells #[.slice none 0 0, .slice none 0 0] 24)) := hw1
  have hA := At.but h hb1 (by simp)
  have hB := At.but h' hb1 (by simp)
  clear hw1 hs0
  have lr := lt_of_block r1
  have H1 := copied_call w1 a n c zs hz hn ha hA
  go_enter Tryz.func5, Tryz.ntmps5
  go_wp2_with fail
  rw [← HW.out]
  refine H1.mono ?_
  rintro e w2 ⟨rfl, g2, hb2⟩
  have x2 := hb2.to x1 (by simp)
  have r2 := hb2.to r1 (by simp)
  have y0 : w2.cell? ⟨w.heap.size, 0, none⟩ = some (.slice a n c) := (cell_of_row _ _ 0 _ _ _ x2).trans rfl
  have y1 : w2.frozen? ⟨w.heap.size, 0, none⟩ = false := by simp [World.frozen?, x2]
  obtain ⟨w3, hw3⟩ : ∃ w3, w3 = w2.setCell ⟨w.heap.size, 0, none⟩ (.slice (some ⟨w1.heap.size, 0, none⟩) n (n + 2)) := ⟨_, rfl⟩
  have x3 : w3.heap[w.heap.size]? = some (.cells #[.slice (some ⟨w1.heap.size, 0, none⟩) n (n + 2), .slice b m d] 24 (0, 0)) := by rw [hw3, heap_setCell_same x2]; rfl
  have r3 : w3.heap[w.heap.size + 1]? = some (.cells #[.slice none 0 0, .slice none 0 0] 24 (0, 0)) := by rw [hw3, heap_setCell_far (by simp)]; exact r2
  have g3 : w3.heap[w1.heap.size]? = some (.cells ((zs ++ [0, 0]).map (Value.int .u8)).toArray 5 (0, 0)) := by rw [hw3, heap_setCell_far (by simp; omega)]; exact g2
  have hb3 : But (fun _ => False) w w3 := by rw [hw3]; exact (hb1.trans hb2 (by simp)).setCell (by simp) _
  have hB3 := At.but h' hb3 (by simp)
  have HW3 : w2.setCell ⟨w.heap.size, 0, none⟩ (.slice (some ⟨w1.heap.size, 0, none⟩) n (n + 2)) = w3 := hw3.symm
  have hsz3 : w1.heap.size < w3.heap.size := lt_of_block g3
  have z1 : w3.cell? ⟨w.heap.size, 1, none⟩ = some (.slice b m d) := (cell_of_row _ _ 1 _ _ _ x3).trans rfl
  have H3 := copied_call w3 b m d ys hy hm hb hB3
  clear hw3 x2 r2 x1 r1 g2
  go_wp2_with fail
  refine H3.mono ?_
  rintro e w4 ⟨rfl, g4, hb4⟩
  have x4 := hb4.to x3 (by simp)
  have r4 := hb4.to r3 (by simp)
  have g34 := hb4.to g3 (by simp)
  have v1 : w4.cell? ⟨w.heap.size, 1, none⟩ = some (.slice b m d) := (cell_of_row _ _ 1 _ _ _ x4).trans rfl
  have f1 : w4.frozen? ⟨w.heap.size, 1, none⟩ = false := by simp [World.frozen?, x4]
  obtain ⟨w5, hw5⟩ : ∃ w5, w5 = w4.setCell ⟨w.heap.size, 1, none⟩ (.slice (some ⟨w3.heap.size, 0, none⟩) m (m + 2)) := ⟨_, rfl⟩
  have x5 : w5.heap[w.heap.size]? = some (.cells #[.slice (some ⟨w1.heap.size, 0, none⟩) n (n + 2), .slice (some ⟨w3.heap.size, 0, none⟩) m (m + 2)] 24 (0, 0)) := by rw [hw5, heap_setCell_same x4]; rfl
  have r5 : w5.heap[w.heap.size + 1]? = some (.cells #[.slice none 0 0, .slice none 0 0] 24 (0, 0)) := by rw [hw5, heap_setCell_far (by simp)]; exact r4
  have ga5 : w5.heap[w1.heap.size]? = some (.cells ((zs ++ [0, 0]).map (Value.int .u8)).toArray 5 (0, 0)) := by rw [hw5, heap_setCell_far (by simp; omega)]; exact g34
  have gb5 : w5.heap[w3.heap.size]? = some (.cells ((ys ++ [0, 0]).map (Value.int .u8)).toArray 5 (0, 0)) := by rw [hw5, heap_setCell_far (by simp; omega)]; exact g4
  have hb5 : But (fun _ => False) w w5 := by rw [hw5]; exact (hb3.trans hb4 (by simp)).setCell (by simp) _
  have HW5 : w4.setCell ⟨w.heap.size, 1, none⟩ (.slice (some ⟨w3.heap.size, 0, none⟩) m (m + 2)) = w5 := hw5.symm
  have q0 : w5.cell? ⟨w.heap.size, 0, none⟩ = some (.slice (some ⟨w1.heap.size, 0, none⟩) n (n + 2)) := (cell_of_row _ _ 0 _ _ _ x5).trans rfl
  have q1 : w5.cell? ⟨w.heap.size, 1, none⟩ = some (.slice (some ⟨w3.heap.size, 0, none⟩) m (m + 2)) := (cell_of_row _ _ 1 _ _ _ x5).trans rfl
  have p0 : w5.cell? ⟨w.heap.size + 1, 0, none⟩ = some (.slice none 0 0) := (cell_of_row _ _ 0 _ _ _ r5).trans rfl
  have p1 : w5.cell? ⟨w.heap.size + 1, 1, none⟩ = some (.slice none 0 0) := (cell_of_row _ _ 1 _ _ _ r5).trans rfl
  have pf0 : w5.frozen? ⟨w.heap.size + 1, 0, none⟩ = false := by simp [World.frozen?, r5]
  have pf1 : w5.frozen? ⟨w.heap.size + 1, 1, none⟩ = false := by simp [World.frozen?, r5]
  have hsz5 : w3.heap.size < w5.heap.size := lt_of_block gb5
  clear hw5 x3 r3 x4 r4 g34 g4 z1 y0 y1
  go_wp2_with fail
  obtain ⟨w6, hw6⟩ : ∃ w6, w6 = (w5.setCell ⟨w.heap.size + 1, 0, none⟩ (.slice (some ⟨w1.heap.size, 0, none⟩) n (n + 2))).setCell ⟨w.heap.size + 1, 1, none⟩ (.slice (some ⟨w3.heap.size, 0, none⟩) m (m + 2)) := ⟨_, rfl⟩
  have r6 : w6.heap[w.heap.size + 1]? = some (.cells #[.slice (some ⟨w1.heap.size, 0, none⟩) n (n + 2), .slice (some ⟨w3.heap.size, 0, none⟩) m (m + 2)] 24 (0, 0)) := by
    rw [hw6, heap_setCell_same (heap_setCell_same r5 _)]; rfl
  have ga6 : Row5 w6 w1.heap.size (zs ++ [0, 0]) := by
    refine ⟨?_, fun z hz' => ?_⟩
    · rw [hw6, heap_setCell_far (by simp; omega), heap_setCell_far (by simp; omega)]; exact ga5
    · rcases List.mem_append.1 hz' with h0 | h0
      · exact h.1 z h0
      · simp at h0; omega
  have gb6 : Row5 w6 w3.heap.size (ys ++ [0, 0]) := by
    refine ⟨?_, fun z hz' => ?_⟩
    · rw [hw6, heap_setCell_far (by simp; omega), heap_setCell_far (by simp; omega)]; exact gb5
    · rcases List.mem_append.1 hz' with h0 | h0
      · exact h'.1 z h0
      · simp at h0; omega
  have hb6 : But (fun _ => False) w w6 := by rw [hw6]; exact (hb5.setCell (by simp) _).setCell (by simp) _
  have t0 : w6.cell? ⟨w.heap.size + 1, 0, none⟩ = some (.slice (some ⟨w1.heap.size, 0, none⟩) n (n + 2)) := (cell_of_row _ _ 0 _ _ _ r6).trans rfl
  have t1 : w6.cell? ⟨w.heap.size + 1, 1, none⟩ = some (.slice (some ⟨w3.heap.size, 0, none⟩) m (m + 2)) := (cell_of_row _ _ 1 _ _ _ r6).trans rfl
  rw [← hw6]
  clear hw6
  refine bodyPost_ret (v := .agg #[.slice (some ⟨w1.heap.size, 0, none⟩) n (n + 2), .slice (some ⟨w3.heap.size, 0, none⟩) m (m + 2)]) (by simp [results, Tryz.results5, go_sem, t0, t1]) rfl ⟨w1.heap.size, w3.heap.size, rfl, by omega, by omega, by omega, ga6, gb6, hb6⟩
end Go.Proofs.YtjcgnogpmkgjkaaGreatDoor
end
section
namespace Go.Proofs.YtjcgnogpmkgjkaaGreatDoor
open Go.RowKit
set_option maxRecDepth 100000

set_option maxHeartbeats 1600000 in
theorem more_call (w : World) (a : Option Addr) (n c : Nat) (s : Int) (zs : List Int) (hz : zs.length = n) (hn : n < 1000000000) (hAt : At w a zs) :
    Calls Tryz.prog 57 #[.int .u32 s, .slice a n c] w fun e w' => (∃ r, e = .returned (.int .u32 r)) ∧ w = w' := by
  go_enter Tryz.func57, Tryz.ntmps57
  go_wp2_with fail
  go_loop [0, 12] (fun s i => ∃ (k : Nat) (r : Int), k ≤ n ∧ s = .int .u32 r ∧ i = .int .i64 k) (fun _ i => n - (intOf i).toNat)
  case atStart => exact ⟨0, _, Nat.zero_le _, rfl, rfl⟩
  case round =>
    obtain ⟨k, r, hk, rfl, rfl⟩ := hrel
    have hk0 : (0 : Int) ≤ (k : Int) := Int.natCast_nonneg _
    rcases Nat.lt_or_ge k n with hkn | hkn
    · obtain ⟨ad, rfl, hc⟩ := hAt.2 k (by omega)
      have hki : (k : Int) < (n : Int) := by omega
      go_wp2_with fail
      go_loop [0, 20] (fun s i => ∃ (j : Nat) (r : Int), j ≤ 8 ∧ s = .int .u32 r ∧ i = .int .i64 j) (fun _ i => 8 - (intOf i).toNat)
      case atStart => exact ⟨0, _, Nat.zero_le _, rfl, rfl⟩
      case round =>
        obtain ⟨j, r1, hj, rfl, rfl⟩ := hrel
        have hj0 : (0 : Int) ≤ (j : Int) := Int.natCast_nonneg _
        rcases Nat.lt_or_ge j 8 with hj8 | hj8
        · have hji : (j : Int) < 8 := by omega
          go_wp2_with fail
          all_goals
            go_round
            case rel => exact ⟨j + 1, _, by omega, rfl, by go_num⟩
            case measure => simp [intOf]; omega
        · obtain rfl : j = 8 := by omega
          go_wp2_with fail
          go_round
          case rel => exact ⟨k + 1, _, by omega, rfl, by go_num⟩
          case measure => simp [intOf]; omega
    · obtain rfl : k = n := by omega
      go_wp2_with fail
      go_ret
      exact ⟨⟨_, rfl⟩, rfl⟩
end Go.Proofs.YtjcgnogpmkgjkaaGreatDoor
end
section
namespace Go.Proofs.YtjcgnogpmkgjkaaGreatDoor
open Go.RowKit
set_option maxRecDepth 100000

theorem sum_call (w : World) (a : Option Addr) (n c : Nat) (zs : List Int) (hz : zs.length = n) (hn : n < 1000000000) (hAt : At w a zs) :
    Calls Tryz.prog 36 #[.slice a n c] w fun e w' => (∃ r, e = .returned (.int .u32 r)) ∧ w = w' := by
  go_enter Tryz.func36, Tryz.ntmps36
  go_wp2_with (go_at_call 57; refine (more_call w a n c 0 zs hz hn hAt).mono ?_; rintro e w2 ⟨⟨r, rfl⟩, rfl⟩)
  go_ret
  exact ⟨⟨_, rfl⟩, rfl⟩

/-- A value that owns the bytes ws, in blocks from B on. -/
structure Own5 (B : Nat) (w : World) (v : Value) (ws : List Int) : Prop where
  own : w.ownsRow B 5 1 v ws.length (ws.map (Value.int .u8))
  b : ∀ z ∈ ws, 0 ≤ z ∧ z < 256

theorem Own5.nil (B : Nat) (w : World) : Own5 B w (.slice none 0 0) [] := ⟨World.ownsRow_nil _ _ _ _, by simp⟩
theorem Own5.but {B : Nat} {w w' : World} {v : Value} {ws : List Int} (h : Own5 B w v ws) (hb : But (fun _ => False) w w') : Own5 B w' v ws :=
  ⟨h.own.kept (row := none) ⟨hb.os, hb.tape, hb.output, hb.size, fun k hk _ => hb.block k hk (by simp)⟩ (by cases hv : v.ownBlock <;> simp), h.b⟩
theorem Own5.at {B : Nat} {w : World} {v : Value} {ws : List Int} (h : Own5 B w v ws) : ∃ o c, v = .slice o ws.length c ∧ ws.length ≤ c ∧ c ≤ maxLen ∧ At w o ws ∧ (o = none → c = 0) := by
  have hl := h.own.1
  rcases h.own.2 with ⟨hv, h0⟩ | ⟨g, cap, cur, hv, -, hg, h1, h2, -, -⟩
  · rw [h0]
    exact ⟨none, 0, hv, Nat.le_refl _, Nat.zero_le _, ⟨h.b, fun i hi => by omega⟩, fun _ => rfl⟩
  · refine ⟨some ⟨g, 0, none⟩, cap, hv, h1, h2, ⟨h.b, fun i hi => ⟨_, rfl, ?_⟩⟩, by simp⟩
    exact h.own.cells (g := g) (by rw [hv]; rfl) i _ (by simp [hi])

/-- append onto what is owned, from whatever slice of bytes. -/
theorem append_run (w : World) (B : Nat) (v : Value) (xs : List Int) (hv : Own5 B w v xs) (a : Option Addr) (n c : Nat) (zs : List Int) (hz : zs.length = n) (hn : xs.length + n < 1000000000) (ha : a = none → c = 0) (h : At w a zs) (hB : B ≤ w.heap.size) (ty : TypeId) :
    ∃ v' w', (Builtin.append_ #[22, 22] ty #[v, .slice a n c]).run Tryz.prog w = .ok v' w' ∧ Own5 B w' v' (xs ++ zs) ∧ But (fun k => B ≤ k) w w' := by
  obtain ⟨i0, hi0, hz0, hz1, hz2⟩ := info_parts info5
  rcases a with _ | ad
  · obtain rfl : c = 0 := ha rfl
    have h0 : n = 0 := by
      rcases Nat.eq_zero_or_pos n with h0 | h0
      · exact h0
      · obtain ⟨ad, h1, _⟩ := h.2 0 (by omega); cases h1
    subst h0
    obtain rfl := List.eq_nil_of_length_eq_zero hz
    exact ⟨v, w, run_append_owned_none (P := Tryz.prog) w B 22 ty 5 i0 1 Tryz.underlying22 hi0 _ _ _ hv.own, by simpa using hv, But.refl _ _⟩
  · obtain ⟨v', w', h1, h2, h3, -⟩ := run_append_own (P := Tryz.prog) w B 22 ty 5 i0 _ 1 1 Tryz.underlying22 hi0 hz0 hz1 hz2 rfl (by omega) v _ _ hv.own ad n c (zs.map (Value.int .u8)) (by simp [hz]) (fun j u hj => by
      have hjn : j < zs.length := by simpa using (List.getElem?_eq_some_iff.1 hj).1
      obtain ⟨ad', h1, h2⟩ := h.2 j hjn
      obtain rfl := Option.some.inj h1
      rw [h2]
      simp [hjn] at hj
      simp [hjn, hj]) (fun u hu => by
      obtain ⟨z, _, rfl⟩ := List.mem_map.1 hu
      rfl) (by unfold maxLen; omega) (by omega) hB
    refine ⟨v', w', h1, ⟨by simpa [hz] using h2, fun z hz' => ?_⟩, ⟨h3.os, h3.tape, h3.output, h3.size, fun k hk hn' => h3.block k hk (fun e => hn' (hv.own.lt k e.symm).1)⟩⟩
    rcases List.mem_append.1 hz' with h0 | h0
    · exact hv.b z h0
    · exact h.1 z h0

theorem But.low {B : Nat} {w w1 w' : World} (h : But (fun _ => False) w w1) (k : But (fun k => B ≤ k) w1 w') (hB : w.heap.size ≤ B) : But (fun _ => False) w w' :=
  h.trans k (fun i hi hs => by omega)

theorem Own5.push {B : Nat} {w w' : World} {v v' : Value} {ws : List Int} {x : Int} (h : Own5 B w v ws) (h' : w'.ownsRow B 5 1 v' (ws.length + 1) (ws.map (Value.int .u8) ++ [.int .u8 x])) (hx : 0 ≤ x ∧ x < 256) : Own5 B w' v' (ws ++ [x]) :=
  ⟨by simpa using h', fun z hz => by
    rcases List.mem_append.1 hz with h0 | h0
    · exact h.b z h0
    · obtain rfl := List.mem_singleton.1 h0; exact hx⟩

set_option maxHeartbeats 1600000 in
theorem sealed_call (w : World) (a : Option Addr) (n c : Nat) (zs : List Int) (hz : zs.length = n) (hn : n < 100000000) (ha : a = none → c = 0) (hAt : At w a zs) :
    Calls Tryz.prog 24 #[.slice a n c] w fun e w' => ∃ v ws, e = .returned v ∧ ws.length = n + 4 ∧ Own5 w.heap.size w' v ws ∧ But (fun _ => False) w w' := by
  obtain ⟨i0, hi0, hz0, hz1, hz2⟩ := info_parts info5
  obtain ⟨v1, w1, hr, ho, hb⟩ := append_run w w.heap.size _ [] (Own5.nil _ _) a n c zs hz (by simp; omega) ha hAt (Nat.le_refl _) 22
  have hb1 : But (fun _ => False) w w1 := (But.refl _ _).low hb (Nat.le_refl _)
  simp only [List.nil_append] at ho
  have hAt1 := At.but hAt hb (by intro k hk; omega)
  go_enter Tryz.func24, Tryz.ntmps24
  go_wp2_with (first | (at_builtin; refine wpList_append_run _ rfl _ _ 22 rfl _ _ _ w1 rfl rfl hr ?_) | (go_at_call 36; refine (sum_call w1 a n c zs hz (by omega) hAt1).mono ?_; rintro e w2 ⟨⟨r, rfl⟩, rfl⟩))
  go_loopw [3, 5] (fun v i wr => ∃ (k : Nat) (ws : List Int), k ≤ 4 ∧ i = .int .i64 k ∧ ws.length = n + k ∧ Own5 w.heap.size wr v ws ∧ But (fun _ => False) w wr) (fun _ i _ => 4 - (intOf i).toNat)
  case atStart => exact ⟨0, zs, Nat.zero_le _, rfl, by simpa using hz, ho, hb1⟩
  case round =>
    obtain ⟨k, ws, hk, rfl, hws, hown, hbr⟩ := hrel
    have hk0 : (0 : Int) ≤ (k : Int) := Int.natCast_nonneg _
    clear ho hb hb1 hAt1 hr hAt
    rcases Nat.lt_or_ge k 4 with hkn | hkn
    · have hks : k = 0 ∨ k = 1 ∨ k = 2 ∨ k = 3 := by omega
      have hbase := hbr.size
      have h63 : ws.length + 1 ≤ maxLen := by unfold maxLen; omega
      have hby : (ws.length + 1) * 1 ≤ 140737488355328 := by omega
      rcases hks with rfl | rfl | rfl | rfl
      · go_wp2_with (at_builtin; refine wpList_append_own _ rfl (.tmp 14) (.tmp 20) 22 rfl w.heap.size 5 i0 _ 1 1 Tryz.underlying22 hi0 hz0 hz1 hz2 rfl (by omega) _ ws.length (ws.map (Value.int .u8)) rfl (hown.own.alloc _) ⟨wr.heap.size, 0, none⟩ 1 1 [.int .u8 _] rfl rfl (World.news_of_block (cs := #[.int .u8 _]) (t := 5) (fr := (0, 0)) (heap_alloc_new wr _)) (by simp [Value.oneCell']) h63 hby (by simp; omega) ?_; intro v' w1 hown1 hgrow _)
        have hown2 := Own5.push hown hown1 (by omega)
        have hb2 : But (fun _ => False) w w1 := (hbr.alloc _).grown hgrow fun k hk hlt => by have := (hown.own.lt k hk).1; omega
        go_roundw
        case rel => exact ⟨1, _, by omega, by go_num, by simp; omega, hown2, hb2⟩
        case measure => simp [intOf]
      · go_wp2_with (at_builtin; refine wpList_append_own _ rfl (.tmp 14) (.tmp 20) 22 rfl w.heap.size 5 i0 _ 1 1 Tryz.underlying22 hi0 hz0 hz1 hz2 rfl (by omega) _ ws.length (ws.map (Value.int .u8)) rfl (hown.own.alloc _) ⟨wr.heap.size, 0, none⟩ 1 1 [.int .u8 _] rfl rfl (World.news_of_block (cs := #[.int .u8 _]) (t := 5) (fr := (0, 0)) (heap_alloc_new wr _)) (by simp [Value.oneCell']) h63 hby (by simp; omega) ?_; intro v' w1 hown1 hgrow _)
        have hown2 := Own5.push hown hown1 (by omega)
        have hb2 : But (fun _ => False) w w1 := (hbr.alloc _).grown hgrow fun k hk hlt => by have := (hown.own.lt k hk).1; omega
        go_roundw
        case rel => exact ⟨2, _, by omega, by go_num, by simp; omega, hown2, hb2⟩
        case measure => simp [intOf]
      · go_wp2_with (at_builtin; refine wpList_append_own _ rfl (.tmp 14) (.tmp 20) 22 rfl w.heap.size 5 i0 _ 1 1 Tryz.underlying22 hi0 hz0 hz1 hz2 rfl (by omega) _ ws.length (ws.map (Value.int .u8)) rfl (hown.own.alloc _) ⟨wr.heap.size, 0, none⟩ 1 1 [.int .u8 _] rfl rfl (World.news_of_block (cs := #[.int .u8 _]) (t := 5) (fr := (0, 0)) (heap_alloc_new wr _)) (by simp [Value.oneCell']) h63 hby (by simp; omega) ?_; intro v' w1 hown1 hgrow _)
        have hown2 := Own5.push hown hown1 (by omega)
        have hb2 : But (fun _ => False) w w1 := (hbr.alloc _).grown hgrow fun k hk hlt => by have := (hown.own.lt k hk).1; omega
        go_roundw
        case rel => exact ⟨3, _, by omega, by go_num, by simp; omega, hown2, hb2⟩
        case measure => simp [intOf]
      · go_wp2_with (at_builtin; refine wpList_append_own _ rfl (.tmp 14) (.tmp 20) 22 rfl w.heap.size 5 i0 _ 1 1 Tryz.underlying22 hi0 hz0 hz1 hz2 rfl (by omega) _ ws.length (ws.map (Value.int .u8)) rfl (hown.own.alloc _) ⟨wr.heap.size, 0, none⟩ 1 1 [.int .u8 _] rfl rfl (World.news_of_block (cs := #[.int .u8 _]) (t := 5) (fr := (0, 0)) (heap_alloc_new wr _)) (by simp [Value.oneCell']) h63 hby (by simp; omega) ?_; intro v' w1 hown1 hgrow _)
        have hown2 := Own5.push hown hown1 (by omega)
        have hb2 : But (fun _ => False) w w1 := (hbr.alloc _).grown hgrow fun k hk hlt => by have := (hown.own.lt k hk).1; omega
        go_roundw
        case rel => exact ⟨4, _, by omega, by go_num, by simp; omega, hown2, hb2⟩
        case measure => simp [intOf]
    · obtain rfl : k = 4 := by omega
      go_wp2_with fail
      go_ret
      exact ⟨_, ws, rfl, hws, hown, hbr⟩
end Go.Proofs.YtjcgnogpmkgjkaaGreatDoor
end
section
namespace Go.Proofs.YtjcgnogpmkgjkaaGreatDoor
open Go.RowKit
set_option maxRecDepth 100000
attribute [local go_sem ↓] Go.wp_at_zero Go.wp_at_succ

theorem conv_at {w : World} {p o n c : Nat} {zs : List Int} (hz : zs.length = n) (h : At w (some ⟨p, o, none⟩) zs) :
    (convert 22 9 (.slice (some ⟨p, o, none⟩) n c)).run Tryz.prog w = .ok (.string (strOfNums zs)) w :=
  run_convert_bytes_arg w 22 5 Tryz.underlying22 (by kernel_rfl) p o n c zs hz (fun i hi => by
    obtain ⟨ad, h1, h2⟩ := h.2 i (by omega)
    obtain rfl := Option.some.inj h1
    have e : (⟨p, o, none⟩ : Addr).add i = ⟨p, o + i, none⟩ := by unfold Addr.add; split <;> simp_all
    rwa [e] at h2) 9 (by kernel_rfl)

theorem At.take {w : World} {a : Option Addr} {zs : List Int} (h : At w a zs) (k : Nat) : At w a (zs.take k) :=
  ⟨fun z hz => h.1 z (List.mem_of_mem_take hz), fun i hi => by
    have : i < zs.length := by simp at hi; omega
    obtain ⟨ad, h1, h2⟩ := h.2 i this
    refine ⟨ad, h1, h2.trans ?_⟩
    simp at hi
    simp [List.getD, hi, this]⟩

theorem But.drewN {S : Nat → Prop} {a w : World} (h : But S a w) (n : Nat) : But S a (w.drewN n) := ⟨h.os, h.tape, h.output, h.size, h.block⟩

theorem opened_few (w : World) (a : Option Addr) (n c : Nat) (hn : n < 4) :
    Calls Tryz.prog 27 #[.slice a n c] w fun e w' => e = .returned (.tuple #[.slice none 0 0, .bool false]) ∧ But (fun _ => False) w w' := by
  have hlt : (n : Int) - 4 < 0 := by omega
  have hn0 : (0 : Int) ≤ n := by omega
  go_enter Tryz.func27, Tryz.ntmps27
  go_wp2_with fail
  go_quiet (fail)
  go_wp2_with fail
  go_ret2
  exact ⟨rfl, But.drewN (But.refl _ _) _⟩

def OpenedPost (w : World) (N : Nat) (e : Ending) (w' : World) : Prop := ∃ v ws ok, e = .returned (.tuple #[v, .bool ok]) ∧ (ok = true → ws.length = N) ∧ Own5 w.heap.size w' v ws ∧ But (fun _ => False) w w'

set_option maxHeartbeats 1600000 in
theorem opened_call (w : World) (p o N c : Nat) (zs : List Int) (hz : zs.length = N + 4) (hc : N + 4 ≤ c) (hc2 : c ≤ maxLen) (hn : N < 10000000) (hAt : At w (some ⟨p, o, none⟩) zs) :
    Calls Tryz.prog 27 #[.slice (some ⟨p, o, none⟩) ((N + 4 : Nat)) c] w fun e w' => OpenedPost w N e w' := by
  have k1 : (0 : Int) ≤ (N : Int) := Int.natCast_nonneg _
  have k2 : (N : Int) ≤ (c : Int) := by omega
  have hc0 : c ≤ 9223372036854775807 := by unfold maxLen at hc2; omega
  have S1 := sealed_call w.drew (some ⟨p, o, none⟩) N c (zs.take N) (by simp; omega) (by omega) (by simp) (hAt.take N)
  have C0 : (convert 22 9 (.slice (some ⟨p, o, none⟩) (N + 4) c)).run Tryz.prog w.drew = .ok (.string (strOfNums zs)) w.drew := conv_at hz (hAt.but (But.refl (fun _ => False) w).drew (by simp))
  have S2 : Calls Tryz.prog 24 #[.slice (some ⟨p, o, none⟩) N c] w.drew fun e w2 => ∃ g cap ws, e = .returned (.slice (some ⟨g, 0, none⟩) (N + 4) cap) ∧
      (convert 22 9 (.slice (some ⟨p, o, none⟩) (N + 4) c)).run Tryz.prog w2 = .ok (.string (strOfNums zs)) w2 ∧
      (convert 22 9 (.slice (some ⟨g, 0, none⟩) (N + 4) cap)).run Tryz.prog w2 = .ok (.string (strOfNums ws)) w2 ∧ At w2 (some ⟨p, o, none⟩) zs ∧ But (fun _ => False) w w2 := by
    refine S1.mono ?_
    rintro e w2 ⟨v, ws, rfl, hws, ho, hb⟩
    have hb2 : But (fun _ => False) w w2 := (But.refl _ w).drew.trans hb (by simp)
    obtain ⟨g, cap, hv, -, -⟩ := ho.own.form (by omega)
    obtain ⟨o', c', hv', -, -, hA', -⟩ := ho.at
    rw [hv] at hv'
    injection hv' with q1 q2 q3
    subst q1
    refine ⟨g, cap, ws, by rw [hv, hws], conv_at hz (hAt.but hb2 (by simp)), conv_at hws hA', hAt.but hb2 (by simp), hb2⟩
  clear S1 hAt
  go_enter Tryz.func27, Tryz.ntmps27
  go_wp2_with fail
  go_region_with (go_at_call 24; refine S2.mono ?_; rintro e w2 ⟨g, cap, ws, rfl, D0, D1, hA2, hb2⟩)
  all_goals
    obtain ⟨v', w3, hr, ho, hb3⟩ := append_run w2 w.heap.size _ [] (Own5.nil _ _) (some ⟨p, o, none⟩) N c (zs.take N) (by simp; omega) (by simp; omega) (by simp) (hA2.take N) hb2.size 22
    have hb4 : But (fun _ => False) w w3 := hb2.low hb3 (Nat.le_refl _)
    simp only [List.nil_append] at ho
    have hlen : (zs.take N).length = N := by simp; omega
    clear D0 D1 hA2 C0 S2
    go_wp2_with (at_builtin; refine wpList_append_run _ rfl _ _ 22 rfl _ _ _ w3 rfl rfl hr ?_)
    · go_ret2
      exact ⟨_, [], false, rfl, by simp, Own5.nil _ _, hb2⟩
    · go_ret2
      exact ⟨_, _, true, rfl, fun _ => hlen, ho, hb4⟩
end Go.Proofs.YtjcgnogpmkgjkaaGreatDoor
end
section
namespace Go.Proofs.YtjcgnogpmkgjkaaGreatDoor
open Go.RowKit
set_option maxRecDepth 100000

theorem sealed_lit (w w1 : World) (x0 x1 x2 x3 : Int) (hw : w1 = w.alloc (.cells #[.int .u8 x0, .int .u8 x1, .int .u8 x2, .int .u8 x3] 5))
    (h : (0 ≤ x0 ∧ x0 < 256) ∧ (0 ≤ x1 ∧ x1 < 256) ∧ (0 ≤ x2 ∧ x2 < 256) ∧ (0 ≤ x3 ∧ x3 < 256)) :
    Calls Tryz.prog 24 #[.slice (some ⟨w.heap.size, 0, none⟩) 4 4] w1 fun e w' => ∃ v ws, e = .returned v ∧ ws.length = 8 ∧ Own5 w.heap.size w' v ws ∧ But (fun _ => False) w w' := by
  have hb : But (fun _ => False) w w1 := by rw [hw]; exact (But.refl _ _).alloc _
  have hg : w1.heap[w.heap.size]? = some (.cells #[.int .u8 x0, .int .u8 x1, .int .u8 x2, .int .u8 x3] 5 (0, 0)) := by rw [hw]; exact heap_alloc_new w _
  have hA : At w1 (some ⟨w.heap.size, 0, none⟩) [x0, x1, x2, x3] := by
    refine ⟨by simp; omega, fun i hi => ⟨_, rfl, ?_⟩⟩
    have e : (⟨w.heap.size, 0, none⟩ : Addr).add i = ⟨w.heap.size, i, none⟩ := by unfold Addr.add; split <;> simp_all
    rw [e, cell_of_row _ _ i _ _ _ hg]
    have hi4 : i < 4 := hi
    have : i = 0 ∨ i = 1 ∨ i = 2 ∨ i = 3 := by omega
    rcases this with rfl | rfl | rfl | rfl <;> rfl
  refine (sealed_call w1 _ 4 4 _ rfl (by omega) (by simp) hA).mono ?_
  rintro e w' ⟨v, ws, h1, h2, h3, h4⟩
  refine ⟨v, ws, h1, h2, ⟨?_, h3.b⟩, hb.trans h4 (by simp)⟩
  obtain ⟨q1, q2⟩ := h3.own
  refine ⟨q1, ?_⟩
  rcases q2 with q2 | ⟨g, cap, cur, p1, p2, p3⟩
  · exact .inl q2
  · exact .inr ⟨g, cap, cur, p1, Nat.le_trans hb.size p2, p3⟩

theorem Own5.mono {B B' : Nat} {w : World} {v : Value} {ws : List Int} (h : Own5 B w v ws) (hB : B' ≤ B) : Own5 B' w v ws := by
  refine ⟨?_, h.b⟩
  obtain ⟨q1, q2⟩ := h.own
  refine ⟨q1, ?_⟩
  rcases q2 with q2 | ⟨g, cap, cur, p1, p2, p3⟩
  · exact .inl q2
  · exact .inr ⟨g, cap, cur, p1, Nat.le_trans hB p2, p3⟩

set_option maxHeartbeats 1600000 in
theorem fappend_call (w : World) (a b : Option Addr) (n c m d : Nat) (zs ys : List Int) (hz : zs.length = n) (hn : n ≤ 2000) (ha : a = none → c = 0) (hA : At w a zs)
    (hy : ys.length = m) (hm : m ≤ 2000) (hb : b = none → d = 0) (hB : At w b ys) :
    Calls Tryz.prog 8 #[.slice a n c, .slice b m d] w fun e w' => ∃ v ws x, e = .returned (.tuple #[v, .int .i64 x]) ∧ Own5 w.heap.size w' v ws ∧ ws.length ≤ 5000 ∧ But (fun _ => False) w w' := by
  obtain ⟨v1, w1, hr, ho, hb1'⟩ := append_run w w.heap.size _ [] (Own5.nil _ _) a n c zs hz (by simp; omega) ha hA (Nat.le_refl _) 22
  have hb1 : But (fun _ => False) w w1 := (But.refl _ _).low hb1' (Nat.le_refl _)
  simp only [List.nil_append] at ho
  have hm0 : (0 : Int) ≤ (m : Int) := Int.natCast_nonneg _
  have hm2 : (m : Int) ≤ 2000 := by omega
  go_enter Tryz.func8, Tryz.ntmps8
  go_wp2_with (at_builtin; refine wpList_append_run _ rfl (.const _) (.tmp 12) 22 rfl _ _ _ w1 rfl rfl hr ?_)
  refine (sealed_lit w1 _ _ _ _ _ rfl ⟨by omega, by omega, by omega, by omega⟩).mono ?_
  rintro e w2 ⟨v2, ws2, rfl, hl2, ho2, hb2⟩
  have hbw2 : But (fun _ => False) w w2 := hb1.trans hb2 (by simp)
  obtain ⟨o2, c2, hv2, hc2, -, hA2, hn2⟩ := ho2.at
  obtain ⟨v3, w3, hr3, ho3, hb3'⟩ := append_run w2 w.heap.size v1 zs (ho.but hb2) o2 ws2.length c2 ws2 rfl (by omega) hn2 hA2 hbw2.size 22
  rw [← hv2] at hr3
  have HZ : Hid (ws2.length = 8) := hl2
  have hbw3 : But (fun _ => False) w w3 := hbw2.low hb3' (Nat.le_refl _)
  have S3 := sealed_call w3 b m d ys hy (by omega) hb (hB.but hbw3 (by simp))
  clear hr hA hv2 hc2 hA2 hn2 hl2
  go_wp2_with (at_builtin; refine wpList_append_run _ rfl (.tmp 14) (.tmp 27) 22 rfl _ _ _ w3 rfl rfl hr3 ?_)
  refine S3.mono ?_
  rintro e w4 ⟨v4, ws4, rfl, hl4, ho4, hb4⟩
  have hbw4 : But (fun _ => False) w w4 := hbw3.trans hb4 (by simp)
  obtain ⟨o4, c4, hv4, hc4, -, hA4, hn4⟩ := ho4.at
  obtain ⟨v5, w5, hr5, ho5, hb5'⟩ := append_run w4 w.heap.size v3 _ (ho3.but hb4) o4 ws4.length c4 ws4 rfl (by have := HZ.out; simp; omega) hn4 hA4 hbw4.size 22
  rw [← hv4] at hr5
  have hbw5 : But (fun _ => False) w w5 := hbw4.low hb5' (Nat.le_refl _)
  have HL : Hid (ws4.length = m + 4) := hl4
  clear hr3 S3 hv4 hc4 hA4 hn4 hl4
  go_wp2_with (at_builtin; refine wpList_append_run _ rfl (.tmp 29) (.tmp 31) 22 rfl _ _ _ w5 rfl rfl hr5 ?_)
  go_ret2
  exact ⟨_, _, _, rfl, ho5, by have := HL.out; have := HZ.out; simp; omega, hbw5⟩
end Go.Proofs.YtjcgnogpmkgjkaaGreatDoor
end
section
namespace Go.Proofs.YtjcgnogpmkgjkaaGreatDoor
open Go.RowKit
set_option maxRecDepth 100000
attribute [local go_sem ↓] Go.wp_at_zero Go.wp_at_succ

theorem At.drop {w : World} {p o : Nat} {zs : List Int} (h : At w (some ⟨p, o, none⟩) zs) (k : Nat) : At w (some ⟨p, o + k, none⟩) (zs.drop k) :=
  ⟨fun z hz => h.1 z (List.mem_of_mem_drop hz), fun i hi => by
    have hi' : k + i < zs.length := by simp at hi; omega
    obtain ⟨ad, h1, h2⟩ := h.2 (k + i) hi'
    obtain rfl := Option.some.inj h1
    have e1 : (⟨p, o, none⟩ : Addr).add (k + i) = ⟨p, o + (k + i), none⟩ := by unfold Addr.add; split <;> simp_all
    have e2 : (⟨p, o + k, none⟩ : Addr).add i = ⟨p, o + k + i, none⟩ := by unfold Addr.add; split <;> simp_all
    refine ⟨_, rfl, ?_⟩
    rw [e2, Nat.add_assoc, ← e1, h2]
    simp [List.getD]⟩

def ReadPost (w : World) (n : Nat) (e : Ending) (w' : World) : Prop :=
  ∃ v k x ws, e = .returned (.tuple #[v, .int .i64 k, .int .i64 x]) ∧ Own5 w.heap.size w' v ws ∧ ws.length ≤ n ∧ (x = 0 → ∃ K : Nat, k = K ∧ 12 ≤ K ∧ K ≤ n ∧ ws.length + 12 = K) ∧ But (fun _ => False) w w'

theorem read_few (w : World) (a : Option Addr) (n c : Nat) (hn : n < 8) :
    Calls Tryz.prog 12 #[.slice a n c] w fun e w' => ReadPost w n e w' := by
  have hlt : (n : Int) < 8 := by omega
  have hn0 : (0 : Int) ≤ n := by omega
  go_enter Tryz.func12, Tryz.ntmps12
  go_wp2_with fail
  go_ret3
  exact ⟨_, 0, 4, [], rfl, Own5.nil _ _, by simp, by simp, But.refl _ _⟩

set_option maxHeartbeats 3200000 in
theorem read_call (w : World) (p o n c : Nat) (zs : List Int) (hz : zs.length = n) (h8 : 8 ≤ n) (hn : n ≤ 2000) (hc : n ≤ c) (hc2 : c ≤ maxLen) (hA : At w (some ⟨p, o, none⟩) zs) :
    Calls Tryz.prog 12 #[.slice (some ⟨p, o, none⟩) n c] w fun e w' => ReadPost w n e w' := by
  have hn8 : (8 : Int) ≤ (n : Int) := by omega
  have hnc : (n : Int) ≤ (c : Int) := by omega
  have h8c : (8 : Int) ≤ (c : Int) := by omega
  have hn2 : (n : Int) ≤ 2000 := by omega
  have hc0 : c ≤ 9223372036854775807 := by unfold maxLen at hc2; omega
  have O1 := opened_call w p o 4 c (zs.take 8) (by simp; omega) (by omega) hc2 (by omega) (hA.take 8)
  go_enter Tryz.func12, Tryz.ntmps12
  go_wp2_with fail
  refine O1.mono ?_
  rintro e w1 ⟨v1, ws1, ok1, rfl, hok1, ho1, hb1⟩
  cases ok1
  · go_wp2_with fail
    go_ret3
    exact ⟨_, 0, 6, [], rfl, Own5.nil _ _, by simp, by simp, hb1⟩
  · have hl1 := hok1 rfl
    obtain ⟨g1, cap1, hv1, -, -⟩ := ho1.own.form (by omega)
    rw [hl1] at hv1
    obtain ⟨o1, c1, hv1', hlc, -, hA1, -⟩ := ho1.at
    rw [hv1] at hv1'
    injection hv1' with q1 q2 q3
    subst q1
    match ws1, hl1 with
    | [y0, y1, y2, y3], _ =>
    have m0 := hA1.2 0 (by simp)
    have m1 := hA1.2 1 (by simp)
    have m2 := hA1.2 2 (by simp)
    have m3 := hA1.2 3 (by simp)
    simp [Addr.add] at m0 m1 m2 m3
    have bb := hA1.1
    simp at bb
    obtain ⟨⟨b00, b01⟩, ⟨b10, b11⟩, ⟨b20, b21⟩, ⟨b30, b31⟩⟩ := bb
    have hc4 : (4 : Int) ≤ (cap1 : Int) := by simp at hlc; omega
    rw [hv1]
    clear hv1 ho1 O1 hlc hok1 q2 q3 hl1 hA1
    go_wp2_with fail
    go_quiet (fail)
    generalize hE : bits BinOp.or IntKind.u32 (bits BinOp.or IntKind.u32 (bits BinOp.or IntKind.u32 y0 (y1 * 256)) (y2 * 65536)) (y3 * 16777216) = E
    have hE0 : 0 ≤ E := hE ▸ bits_lo_u32 _ _ _
    clear hE m0 m1 m2 m3 b00 b01 b10 b11 b20 b21 b30 b31
    obtain ⟨Z, rfl⟩ : ∃ Z : Nat, E = (Z : Int) := ⟨E.toNat, by omega⟩
    have hb2 : But (fun _ => False) w (w1.drewN nq) := ⟨hb1.os, hb1.tape, hb1.output, hb1.size, hb1.block⟩
    generalize w1.drewN nq = w2 at hb2 ⊢
    by_cases hbig : (1048576 : Int) < (Z : Int)
    · go_wp2_with fail
      go_ret3
      exact ⟨_, 0, 6, [], rfl, Own5.nil _ _, by simp, by simp, hb2⟩
    · have hZ : (Z : Int) ≤ 1048576 := by omega
      clear hbig
      by_cases hsh : (n : Int) < 8 + (Z : Int) + 4
      · go_wp2_with fail
        go_ret3
        exact ⟨_, 0, 4, [], rfl, Own5.nil _ _, by simp, by simp, hb2⟩
      · have hle : 8 + (Z : Int) + 4 ≤ (n : Int) := by omega
        have hlc2 : 8 + (Z : Int) + 4 ≤ (c : Int) := by omega
        clear hsh
        have O2 := opened_call w2 p (o + 8) Z (c - 8) ((zs.drop 8).take (Z + 4)) (by simp; omega) (by omega) (by omega) (by omega) (((hA.but hb2 (by simp)).drop 8).take (Z + 4))
        go_wp2_with fail
        rw [show 8 + Z - 4 = Z + 4 from by omega]
        refine O2.mono ?_
        rintro e w3 ⟨v3, ws3, ok3, rfl, hok3, ho3, hb3⟩
        have hb4 : But (fun _ => False) w w3 := hb2.trans hb3 (by simp)
        have ho4 := ho3.mono hb2.size
        clear O2
        cases ok3
        · go_wp2_with fail
          go_ret3
          exact ⟨_, 0, 6, [], rfl, Own5.nil _ _, by simp, by simp, hb4⟩
        · have hl3 := hok3 rfl
          have HL : Hid (ws3.length = Z) := hl3
          clear hok3 hl3
          go_wp2_with fail
          go_ret3
          refine ⟨_, _, 0, ws3, rfl, ho4, ?_, fun _ => ⟨8 + Z + 4, by simp, by omega, by omega, ?_⟩, hb4⟩
          · have := HL.out; omega
          · have := HL.out; omega
end Go.Proofs.YtjcgnogpmkgjkaaGreatDoor
end
section
namespace Go.Proofs.YtjcgnogpmkgjkaaGreatDoor
open Go.RowKit
set_option maxRecDepth 100000

theorem read_any (w : World) (p o n c : Nat) (zs : List Int) (hz : zs.length = n) (hn : n ≤ 2000) (hc : n ≤ c) (hc2 : c ≤ maxLen) (hA : At w (some ⟨p, o, none⟩) zs) :
    Calls Tryz.prog 12 #[.slice (some ⟨p, o, none⟩) n c] w fun e w' => ReadPost w n e w' := by
  rcases Nat.lt_or_ge n 8 with h | h
  · exact read_few w _ n c h
  · exact read_call w p o n c zs hz h hn hc hc2 hA

/-- A list of slices of bytes, all of them in blocks from B on. -/
structure Recs (B : Nat) (w : World) (v : Value) (xs : List Value) : Prop where
  own : w.ownsRow B 22 1 v xs.length xs
  each : ∀ x ∈ xs, ∃ ws, Own5 B w x ws

theorem Own5.other {B : Nat} {w w' : World} {x : Value} {ws : List Int} (h : Own5 B w x ws) {row : Option Nat} (hg : w.grownBy w' row)
    (hr : ∀ k, row = some k → ∃ cs e fr, w.heap[k]? = some (.cells cs e fr) ∧ e ≠ 5) : Own5 B w' x ws := by
  refine ⟨h.own.kept hg ?_, h.b⟩
  rcases h.own.2 with ⟨hv, -⟩ | ⟨g, cap, cur, hv, -, hgg, -⟩
  · left; rw [hv]; rfl
  · right
    intro e
    rw [hv] at e
    obtain ⟨cs, el, fr, h1, h2⟩ := hr g e.symm
    rw [hgg] at h1
    injection h1 with h1
    injection h1 with q1 q2 q3
    exact h2 q2.symm

theorem Recs.but {B : Nat} {w w' : World} {v : Value} {xs : List Value} (h : Recs B w v xs) (hb : But (fun _ => False) w w') : Recs B w' v xs :=
  ⟨h.own.kept (row := none) ⟨hb.os, hb.tape, hb.output, hb.size, fun k hk _ => hb.block k hk (by simp)⟩ (by cases hv : v.ownBlock <;> simp), fun x hx => let ⟨ws, h1⟩ := h.each x hx; ⟨ws, h1.but hb⟩⟩

theorem Recs.push {B : Nat} {w w' : World} {v v' x : Value} {xs : List Value} {ws : List Int} (h : Recs B w v xs) (hx : Own5 B w x ws) (hg : w.grownBy w' v.ownBlock) (h' : w'.ownsRow B 22 1 v' (xs.length + 1) (xs ++ [x])) : Recs B w' v' (xs ++ [x]) := by
  have hr : ∀ k, v.ownBlock = some k → ∃ cs e fr, w.heap[k]? = some (.cells cs e fr) ∧ e ≠ 5 := fun k hk => by
    rcases h.own.2 with ⟨hv, -⟩ | ⟨g, cap, cur, hv, -, hgg, -⟩
    · rw [hv] at hk; cases hk
    · rw [hv] at hk
      obtain rfl : g = k := by simpa [Value.ownBlock] using hk
      exact ⟨cur, 22, (0, 0), hgg, by decide⟩
  refine ⟨by simpa using h', fun y hy => ?_⟩
  rcases List.mem_append.1 hy with h0 | h0
  · obtain ⟨ws', h1⟩ := h.each y h0
    exact ⟨ws', h1.other hg hr⟩
  · obtain rfl := List.mem_singleton.1 h0
    exact ⟨ws, hx.other hg hr⟩

theorem info22 : (Tryz.prog.info? 22).map (fun i => (i.zero, i.size, i.bytes)) = some (some (.slice none 0 0), 1, 24) := by kernel_rfl

set_option maxHeartbeats 3200000 in
theorem scan_call (w : World) (p n c : Nat) (zs : List Int) (hz : zs.length = n) (hn : n ≤ 2000) (hc : n ≤ c) (hc2 : c ≤ maxLen) (hA : At w (some ⟨p, 0, none⟩) zs) :
    Calls Tryz.prog 15 #[.slice (some ⟨p, 0, none⟩) n c] w fun e w' => ∃ v k x xs, e = .returned (.tuple #[v, .int .i64 k, .int .i64 x]) ∧ Recs w.heap.size w' v xs ∧ xs.length ≤ 2000 ∧ But (fun _ => False) w w' := by
  obtain ⟨i0, hi0, hz0, hz1, hz2⟩ := info_parts info22
  have hnc : (n : Int) ≤ (c : Int) := by omega
  have hn2 : (n : Int) ≤ 2000 := by omega
  go_enter Tryz.func15, Tryz.ntmps15
  go_wp2_with fail
  go_step3
  go_wp2_with fail
  go_step3
  go_wp2_with fail
  go_loopw [2, 3] (fun v i wr => ∃ (k : Nat) (xs : List Value), k ≤ n ∧ i = .int .i64 k ∧ xs.length * 12 ≤ k ∧ Recs w.heap.size wr v xs ∧ But (fun _ => False) w wr) (fun _ i _ => n - (intOf i).toNat)
  case atStart => exact ⟨0, [], Nat.zero_le _, rfl, by simp, ⟨World.ownsRow_nil _ _ _ _, by simp⟩, But.refl _ _⟩
  case round =>
    obtain ⟨k, xs, hk, rfl, hxs, hR, hbr⟩ := hrel
    have hk0 : (0 : Int) ≤ (k : Int) := Int.natCast_nonneg _
    rcases Nat.lt_or_ge k n with hkn | hkn
    · have hki : (k : Int) < (n : Int) := by omega
      have hkc : (k : Int) < (c : Int) := by omega
      have hkc' : (k : Int) ≤ (c : Int) := by omega
      have hkl : (k : Int) ≤ (n : Int) := by omega
      have hAk := (hA.but hbr (by simp)).drop k
      rw [Nat.zero_add] at hAk
      have R := read_any wr p k (n - k) (c - k) (zs.drop k) (by simp; omega) (by omega) (by omega) (by omega) hAk
      clear hAk
      go_wp2_with fail
      refine R.mono ?_
      rintro e w1 ⟨v1, kk, x, ws, rfl, ho1, hws, hx, hb1⟩
      obtain ⟨o', c', hv1, -⟩ := ho1.at
      subst hv1
      have hb2 : But (fun _ => False) w w1 := hbr.trans hb1 (by simp)
      have hR1 := hR.but hb1
      clear R hR hA
      by_cases hx0 : x = 0
      · obtain ⟨K, rfl, hK12, hKn, -⟩ := hx hx0
        subst hx0
        clear hx
        have ho2 := ho1.mono hbr.size
        have hone : ∀ u ∈ [Value.slice o' ws.length c'], u.oneCell' = true := by
          intro u hu
          obtain rfl := List.mem_singleton.1 hu
          rfl
        have h63 : xs.length + 1 ≤ maxLen := by unfold maxLen; omega
        have hby : (xs.length + 1) * 24 ≤ 140737488355328 := by omega
        have hsz := hb2.size
        have hbs : w.heap.size ≤ (w1.alloc (.cells #[.slice o' ws.length c'] 22)).heap.size := by simp; omega
        have hKK : (k : Int) + (K : Int) ≤ (n : Int) := by omega
        have hK0 : (0 : Int) ≤ (K : Int) := by omega
        rcases Nat.lt_or_ge (k + K) n with hend | hend
        · have hne : ((k : Int) + (K : Int) = (n : Int)) = False := eq_false (by omega)
          go_wp2_with (at_builtin; refine wpList_append_own _ rfl (.tmp 26) (.tmp 28) 40 rfl w.heap.size 22 i0 _ 1 24 Tryz.underlying40 hi0 hz0 hz1 hz2 rfl (by omega) _ xs.length xs rfl (hR1.own.alloc _) ⟨w1.heap.size, 0, none⟩ 1 1 [.slice o' ws.length c'] rfl rfl (World.news_of_block (cs := #[.slice o' ws.length c']) (t := 22) (fr := (0, 0)) (heap_alloc_new w1 _)) hone h63 hby hbs ?_; intro v' w2 hown' hgrow' _)
          have hP := Recs.push (hR1.but ((But.refl _ _).alloc _)) (ho2.but ((But.refl _ _).alloc _)) hgrow' hown'
          have hb3 : But (fun _ => False) w w2 := (hb2.alloc _).grown hgrow' fun q hq hlt => by have := (hR1.own.lt q hq).1; omega
          go_roundw
          case rel => exact ⟨k + K, _, by omega, by go_num, by simp; omega, hP, hb3⟩
          case measure => simp [intOf]; omega
        · have hne : (k : Int) + (K : Int) = (n : Int) := by omega
          go_wp2_with (at_builtin; refine wpList_append_own _ rfl (.tmp 26) (.tmp 28) 40 rfl w.heap.size 22 i0 _ 1 24 Tryz.underlying40 hi0 hz0 hz1 hz2 rfl (by omega) _ xs.length xs rfl (hR1.own.alloc _) ⟨w1.heap.size, 0, none⟩ 1 1 [.slice o' ws.length c'] rfl rfl (World.news_of_block (cs := #[.slice o' ws.length c']) (t := 22) (fr := (0, 0)) (heap_alloc_new w1 _)) hone h63 hby hbs ?_; intro v' w2 hown' hgrow' _)
          have hP := Recs.push (hR1.but ((But.refl _ _).alloc _)) (ho2.but ((But.refl _ _).alloc _)) hgrow' hown'
          have hb3 : But (fun _ => False) w w2 := (hb2.alloc _).grown hgrow' fun q hq hlt => by have := (hR1.own.lt q hq).1; omega
          rw [Exit.noGoto_ret]
          go_ret3
          exact ⟨_, _, _, _, rfl, hP, by simp; omega, hb3⟩
      · have hx1 : (x == 0) = false := by simpa using hx0
        clear hx hx0
        go_wp2_with fail
        rw [Exit.noGoto_ret]
        go_ret3
        exact ⟨_, _, _, _, rfl, hR1, by omega, hb2⟩
    · obtain rfl : k = n := by omega
      clear hA
      go_wp2_with fail
      try rw [Exit.noGoto_ret]
      go_ret3
      exact ⟨_, _, _, _, rfl, hR, by omega, hbr⟩
end Go.Proofs.YtjcgnogpmkgjkaaGreatDoor
end
section
namespace Go.Proofs.YtjcgnogpmkgjkaaGreatDoor
open Go.RowKit
set_option maxRecDepth 100000
attribute [local go_sem ↓] Go.wp_at_zero Go.wp_at_succ

/-- What a call of the claim hands back: one closure over one variable, which holds v. -/
structure Clo (f : FuncId) (t : TypeId) (B : Nat) (w : World) (G A : Nat) (v : Value) : Prop where
  newG : B ≤ G
  newA : B ≤ A
  row : w.heap[G]? = some (.cells #[.func (.func f) #[] #[.pointer (some ⟨A, 0, none⟩)]] 36 (0, 0))
  var : w.heap[A]? = some (.cells #[v] t (0, 0))

/-- The two slices of bytes behind y. -/
structure Pair (w : World) (Y ga gb n m : Nat) (zs ys : List Int) : Prop where
  y : w.heap[Y]? = some (.cells #[.slice (some ⟨ga, 0, none⟩) n (n + 2), .slice (some ⟨gb, 0, none⟩) m (m + 2)] 24 (0, 0))
  a : At w (some ⟨ga, 0, none⟩) zs
  b : At w (some ⟨gb, 0, none⟩) ys
  la : zs.length = n + 2
  lb : ys.length = m + 2
  hn : n ≤ 2000
  hm : m ≤ 2000

theorem Row5.at {w : World} {g : Nat} {zs : List Int} (h : Row5 w g zs) : At w (some ⟨g, 0, none⟩) zs :=
  ⟨h.2, fun i hi => by
    refine ⟨_, rfl, ?_⟩
    have e : (⟨g, 0, none⟩ : Addr).add i = ⟨g, i, none⟩ := by unfold Addr.add; split <;> simp_all
    rw [e, cell_of_row _ _ i _ _ _ h.1]
    simp [hi]⟩

theorem clo_of {B : Nat} {w1 : World} (f : FuncId) (t : TypeId) (v : Value) (hB : B ≤ w1.heap.size) :
    Clo f t B ((w1.alloc (.cells #[v] t)).alloc (.cells #[.func (.func f) #[] #[.pointer (some ⟨w1.heap.size, 0, none⟩)]] 36)) (w1.heap.size + 1) w1.heap.size v := by
  have hs : (w1.alloc (.cells #[v] t)).heap.size = w1.heap.size + 1 := by simp
  refine ⟨by omega, hB, ?_, ?_⟩
  · rw [← hs]; exact heap_alloc_new _ _
  · rw [Below.heap_alloc _ _ _ (by simp)]; exact heap_alloc_new _ _

theorem clo_of2 {B : Nat} {w1 : World} {S : Nat} {v0 : Value} {t : TypeId} (f : FuncId) (v : Value) (h : w1.heap[S]? = some (.cells #[v0] t (0, 0))) (hB : B ≤ S) :
    Clo f t B ((w1.setCell ⟨S, 0, none⟩ v).alloc (.cells #[.func (.func f) #[] #[.pointer (some ⟨S, 0, none⟩)]] 36)) w1.heap.size S v := by
  have hs := size_setCell w1 ⟨S, 0, none⟩ v
  have hl := lt_of_block h
  refine ⟨by omega, hB, ?_, ?_⟩
  · rw [← hs]; exact heap_alloc_new _ _
  · rw [Below.heap_alloc _ _ _ (by omega)]; exact one_setCell h
theorem grownBy_setCell (w : World) (a : Addr) (u : Value) : w.grownBy (w.setCell a u) (some a.block) :=
  ⟨rfl, rfl, rfl, by simp [World.setCell], fun k _ hne => Below.heap_setCell w a u k (fun e => hne (by rw [e]))⟩

set_option maxHeartbeats 3200000 in
theorem door2 (w : World) (Y ga gb n m : Nat) (zs ys : List Int) (hP : Pair w Y ga gb n m zs ys) :
    Calls Tryz.prog 11 #[.pointer (some ⟨Y, 0, none⟩)] w fun e w' => ∃ G A v ws, e = .returned (.slice (some ⟨G, 0, none⟩) 1 1) ∧ Clo 13 22 w.heap.size w' G A v ∧ Own5 w.heap.size w' v ws ∧ ws.length ≤ 5000 ∧ But (fun _ => False) w w' := by
  have u24 := Tryz.underlying24
  have y0 : w.cell? ⟨Y, 0, none⟩ = some (.slice (some ⟨ga, 0, none⟩) n (n + 2)) := (cell_of_row _ _ 0 _ _ _ hP.y).trans rfl
  have R := read_any w ga 0 n (n + 2) (zs.take n) (by have := hP.la; simp; omega) hP.hn (by omega) (by have := hP.hn; unfold maxLen; omega) (hP.a.take n)
  have hn := hP.hn
  clear hP
  go_enter Tryz.func11, Tryz.ntmps11
  go_wp2_with fail
  refine R.mono ?_
  rintro e w1 ⟨v1, kk, x, ws, rfl, ho1, hws, hx, hb1⟩
  obtain ⟨o', c', hv1, -⟩ := ho1.at
  subst hv1
  go_wp2_with fail
  go_ret
  exact ⟨_, _, _, ws, rfl, clo_of 13 22 _ hb1.size, ho1.but (((But.refl _ _).alloc _).alloc _), by omega, (hb1.alloc _).alloc _⟩

set_option maxHeartbeats 3200000 in
theorem door3 (w : World) (Y ga gb n m : Nat) (zs ys : List Int) (hP : Pair w Y ga gb n m zs ys) :
    Calls Tryz.prog 14 #[.pointer (some ⟨Y, 0, none⟩)] w fun e w' => ∃ G A v xs, e = .returned (.slice (some ⟨G, 0, none⟩) 1 1) ∧ Clo 16 40 w.heap.size w' G A v ∧ Recs w.heap.size w' v xs ∧ xs.length ≤ 2000 ∧ But (fun _ => False) w w' := by
  have u24 := Tryz.underlying24
  have y0 : w.cell? ⟨Y, 0, none⟩ = some (.slice (some ⟨ga, 0, none⟩) n (n + 2)) := (cell_of_row _ _ 0 _ _ _ hP.y).trans rfl
  have R := scan_call w ga n (n + 2) (zs.take n) (by have := hP.la; simp; omega) hP.hn (by omega) (by have := hP.hn; unfold maxLen; omega) (hP.a.take n)
  have hn := hP.hn
  clear hP
  go_enter Tryz.func14, Tryz.ntmps14
  go_wp2_with fail
  refine R.mono ?_
  rintro e w1 ⟨v1, kk, x, xs, rfl, ho1, hxs, hb1⟩
  obtain ⟨o', c', hv1⟩ := ownsRow_form ho1.own
  subst hv1
  go_wp2_with fail
  go_ret
  exact ⟨_, _, _, xs, rfl, clo_of 16 40 _ hb1.size, ho1.but (((But.refl _ _).alloc _).alloc _), by omega, (hb1.alloc _).alloc _⟩

set_option maxHeartbeats 3200000 in
theorem door1 (w : World) (Y ga gb n m : Nat) (zs ys : List Int) (hP : Pair w Y ga gb n m zs ys) :
    Calls Tryz.prog 7 #[.pointer (some ⟨Y, 0, none⟩)] w fun e w' => ∃ G A v ws, e = .returned (.slice (some ⟨G, 0, none⟩) 1 1) ∧ Clo 9 22 w.heap.size w' G A v ∧ Own5 w.heap.size w' v ws ∧ ws.length ≤ 5000 ∧ But (fun _ => False) w w' := by
  have u24 := Tryz.underlying24
  have y0 : w.cell? ⟨Y, 0, none⟩ = some (.slice (some ⟨ga, 0, none⟩) n (n + 2)) := (cell_of_row _ _ 0 _ _ _ hP.y).trans rfl
  have y1 : w.cell? ⟨Y, 1, none⟩ = some (.slice (some ⟨gb, 0, none⟩) m (m + 2)) := (cell_of_row _ _ 1 _ _ _ hP.y).trans rfl
  have ZA := hP.a.take n
  have ZB := hP.b.take m
  have RR : ∀ w', But (fun _ => False) w w' → Calls Tryz.prog 8 #[.slice (some ⟨ga, 0, none⟩) n (n + 2), .slice (some ⟨gb, 0, none⟩) m (m + 2)] w' fun e w'' => ∃ v ws x, e = .returned (.tuple #[v, .int .i64 x]) ∧ Own5 w'.heap.size w'' v ws ∧ ws.length ≤ 5000 ∧ But (fun _ => False) w' w'' := fun w' hb =>
    fappend_call w' (some ⟨ga, 0, none⟩) (some ⟨gb, 0, none⟩) n (n + 2) m (m + 2) (zs.take n) (ys.take m) (by have := hP.la; simp; omega) hP.hn (by simp) (ZA.but hb (by simp)) (by have := hP.lb; simp; omega) hP.hm (by simp) (ZB.but hb (by simp))
  have ly := lt_of_block hP.y
  have hbA : But (fun _ => False) w w.drew := (But.refl _ w).drew
  have hbB : But (fun _ => False) w (w.alloc (.cells #[.slice none 0 0] 22)).drew := ((But.refl _ w).alloc _).drew
  have vB : (w.alloc (.cells #[.slice none 0 0] 22)).drew.heap[w.heap.size]? = some (.cells #[.slice none 0 0] 22 (0, 0)) := heap_alloc_new w _
  have hyne : w.heap.size ≠ Y := by omega
  clear hP ZA ZB
  go_enter Tryz.func7, Tryz.ntmps7
  go_wp2_with fail
  go_region_held3 (fun w' => w'.cell? ⟨Y, 0, none⟩ = some (.slice (some ⟨ga, 0, none⟩) n (n + 2)) ∧ w'.cell? ⟨Y, 1, none⟩ = some (.slice (some ⟨gb, 0, none⟩) m (m + 2)))
    (first | go_keep | (go_split_ands; refine ⟨?_, ?_⟩ <;> (rw [hb1.cell (by assumption) (by simp)]; assumption)))
    (first
      | (go_at_call 8; refine (RR _ hbA).mono ?_; rintro e w1 ⟨v1, ws, x, rfl, ho1, hws, hb1⟩; have H : Hid (But (fun _ => False) w w1 ∧ Own5 w.heap.size w1 v1 ws) := ⟨hbA.trans hb1 (by simp), ho1⟩; obtain ⟨o', c', hv1, hxx⟩ := ho1.at; clear hxx; subst hv1; have k0 := (hb1.cell (p := ⟨Y, 0, none⟩) ly (by simp)).trans y0; have k1 := (hb1.cell (p := ⟨Y, 1, none⟩) ly (by simp)).trans y1; have n0 := World.new_ne w1 _ k0; have n1 := World.new_ne w1 _ k1)
      | (go_at_call 8; refine (RR _ hbB).mono ?_; rintro e w1 ⟨v1, ws, x, rfl, ho1, hws, hb1⟩; have H : Hid (But (fun _ => False) w w1 ∧ Own5 w.heap.size w1 v1 ws) := ⟨hbB.trans hb1 (by simp), ho1.mono hbB.size⟩; obtain ⟨o', c', hv1, hxx⟩ := ho1.at; clear hxx; subst hv1; have k0 := (H.out.1.cell (p := ⟨Y, 0, none⟩) ly (by simp)).trans y0; have k1 := (H.out.1.cell (p := ⟨Y, 1, none⟩) ly (by simp)).trans y1; have k2 := hb1.to vB (by simp); have k3 := cell_of_one k2; have k4 := free_of_one k2; have n0 := World.new_ne w1 _ k0; have n1 := World.new_ne w1 _ k1))
  all_goals first
    | (have k2' := k2
       have HH := H.out
       go_wp2_with fail
       go_ret
       exact ⟨_, _, _, ws, rfl, clo_of2 9 _ k2' (Nat.le_refl _), (HH.2.other (grownBy_setCell _ _ _) (fun k hk => by injection hk with hk; subst hk; exact ⟨_, _, _, k2', by decide⟩)).but ((But.refl _ _).alloc _), by omega, (HH.1.setCell (fun h => by simp at h) _).alloc _⟩)
    | (have HH := H.out
       go_wp2_with fail
       go_ret
       exact ⟨_, _, _, ws, rfl, clo_of 9 22 _ HH.1.size, HH.2.but (((But.refl _ _).alloc _).alloc _), by omega, (HH.1.alloc _).alloc _⟩)
end Go.Proofs.YtjcgnogpmkgjkaaGreatDoor
end
