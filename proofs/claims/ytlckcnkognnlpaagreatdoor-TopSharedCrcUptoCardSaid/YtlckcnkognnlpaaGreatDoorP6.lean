/-
  Walks of the functions that apart reaches (num, all, nums, look, same, alike, copied, own, see, the functions of crc): each by a contract; at the end the call of apart itself with any byte slice and any three numbers: it returns true and turns no old memory.
-/
import Derived.Test.YtlckcnkognnlpaaGreatDoorP5
set_option linter.all false
set_option linter.unusedVariables false
set_option linter.unusedSimpArgs false
section
namespace Go.Proofs.YtlckcnkognnlpaaGreatDoor
open Go.RowKit
set_option maxRecDepth 100000

set_option maxHeartbeats 16000000 in
theorem apart_walk (W : World) (a : Option Addr) (n c : Nat) (s t u : Int) (C0 : Nat) (zs : List Int) (hnc : n ≤ c) (hc : c ≤ maxLen) (ha : a = none → c = 0) (hz : zs.length = n) (hA : At W a zs) (hs : U32 s) (ht : I64 t) (hu : U32 u)
    (hC : W.heap[C0]? = some (.cells #[.func (.func 7) #[] #[], .func (.func 9) #[] #[], .func (.func 11) #[] #[], .func (.func 15) #[] #[], .func (.func 18) #[] #[]] 32 (0, 0))) :
    Calls Tryz.prog 4 #[.agg #[.slice a n c, .int .u32 s, .int .i64 t, .int .u32 u], .func (.func 5) #[] #[], .func (.func 6) #[] #[], .slice (some ⟨C0, 0, none⟩) 5 5] W fun e w' => e = .returned (.bool true) ∧ But (fun _ => False) W w' := by
  have u25 := Tryz.underlying25
  have c25 : Tryz.prog.cellsOf 25 = 4 := by kernel_rfl
  have u50 := Tryz.underlying50
  have c50 : Tryz.prog.cellsOf 50 = 5 := by kernel_rfl
  have HU : Hid (U32 s ∧ I64 t ∧ U32 u) := ⟨hs, ht, hu⟩
  clear hs ht hu
  -- x's block and the first eye's
  obtain ⟨w1, hw1⟩ : ∃ w1, w1 = (W.alloc (.cells #[.slice a n c, .int .u32 s, .int .i64 t, .int .u32 u] 25)).alloc (.cells (eyeCells (.slice none 0 0) false 0 false) 50) := ⟨_, rfl⟩
  have hs0 : (W.alloc (.cells #[.slice a n c, .int .u32 s, .int .i64 t, .int .u32 u] 25)).heap.size = W.heap.size + 1 := by simp
  have hb1 : But (fun _ => False) W w1 := by rw [hw1]; exact ((But.refl _ _).alloc _).alloc _
  have x1 : w1.heap[W.heap.size]? = some (.cells #[.slice a n c, .int .u32 s, .int .i64 t, .int .u32 u] 25 (0, 0)) := by rw [hw1, Below.heap_alloc _ _ _ (by simp)]; exact heap_alloc_new W _
  have f1 : w1.heap[W.heap.size + 1]? = some (.cells (eyeCells (.slice none 0 0) false 0 false) 50 (0, 0)) := by rw [hw1, ← hs0]; exact heap_alloc_new _ _
  have HW : (W.alloc (.cells #[.slice a n c, .int .u32 s, .int .i64 t, .int .u32 u] 25)).alloc (.cells #[.slice none 0 0, .slice none 0 0, .bool false, .int .i64 0, .bool false] 50) = w1 := hw1.symm
  clear hw1
  have aW : ∀ {o : Option Addr} {xs : List Int}, At W o xs → (∀ ad, o = some ad → 0 < xs.length → ad.block < W.heap.size) := fun h ad e hl => by
    obtain ⟨ad', q1, q2⟩ := h.2 0 hl
    rw [e] at q1
    obtain rfl := Option.some.inj q1
    have := World.block_lt_of_cell? W _ q2
    rwa [add_block] at this
  go_enter Tryz.func4, Tryz.ntmps4
  go_wp2_with fail
  refine (see_first w1 (W.heap.size + 1) W.heap.size f1 a n c s t u x1 (by omega) hnc hc ha zs hz (hA.but hb1 (by simp)) (fun ad e hl => by have := aW hA ad e hl; omega) HU.out.1 HU.out.2.1 HU.out.2.2).mono ?_
  rintro e w2 ⟨rfl, hS⟩
  obtain ⟨v, hv, hown⟩ := hS.eye
  have hlen := seen_len [] n zs
  obtain ⟨o1, c1, rfl⟩ := ownsRow_form hown
  obtain ⟨L, hL⟩ : ∃ L, L = (seen [] n zs ++ [s] ++ [t] ++ [u]).length := ⟨_, rfl⟩
  have hlen2 : L = (seen [] n zs).length + 3 := by rw [hL]; simp
  rw [← hL] at hv
  have hb2 : But (fun _ => False) W w2 := hb1.trans hS.but (fun i hi h => by simp at h; omega)
  have x2 := hS.but.to x1 (by simp)
  obtain ⟨e0, e1, e2, e3, e4⟩ := eye_all hv
  clear hS hown hL x1 f1 HW hs0
  have hLs : L < 1000000 := by simp at hlen; omega
  have HLn : Hid (¬ 2000 < L → n ≤ 2000) := by show _ → _; simp at hlen; omega
  have HZ : Hid (zs.length = n) := hz
  clear hlen hlen2 hz
  have GR := great_call w2 o1 L c1 false false 0 hLs
  unfold eyeCells at GR
  go_wp2_with fail
  refine GR.mono ?_
  rintro e w3 ⟨rfl, hb3⟩
  by_cases hg : 2000 < L
  · have hgd : decide (2000 < L) = true := by simpa using hg
    rw [hgd]
    clear hgd
    go_wp2_with fail
    go_ret
    exact ⟨rfl, hb2.trans hb3 (by simp)⟩
  · have hgd : decide (2000 < L) = false := by simpa using hg
    rw [hgd]
    have hn := HLn.out hg
    have hbw : But (fun _ => False) W w3 := hb2.trans hb3 (by simp)
    have x3 := hb3.to x2 (by simp)
    clear hg GR hLs HLn e0 e1 e2 e3 e4 hv x2 hb3 hb2
    go_wp2_with fail
    have cW := lt_of_block hC
    go_loopw [10] (fun i wr => ∃ k : Nat, k ≤ 5 ∧ i = .int .i64 k ∧ But (fun _ => False) W wr ∧ wr.heap[W.heap.size]? = some (.cells #[.slice a n c, .int .u32 s, .int .i64 t, .int .u32 u] 25 (0, 0))) (fun i _ => 5 - (intOf i).toNat)
    case atStart => exact ⟨0, by omega, rfl, hbw, x3⟩
    case round =>
      obtain ⟨k, hk, rfl, hbW, xr⟩ := hrel
      have cr := hbW.to hC (by simp)
      have y0 : wr.cell? ⟨W.heap.size, 0, none⟩ = some (.slice a n c) := (cell_of_row _ _ 0 _ _ _ xr).trans rfl
      have y1 : wr.cell? ⟨W.heap.size, 1, none⟩ = some (.int .u32 s) := (cell_of_row _ _ 1 _ _ _ xr).trans rfl
      have y2 : wr.cell? ⟨W.heap.size, 2, none⟩ = some (.int .i64 t) := (cell_of_row _ _ 2 _ _ _ xr).trans rfl
      have y3 : wr.cell? ⟨W.heap.size, 3, none⟩ = some (.int .u32 u) := (cell_of_row _ _ 3 _ _ _ xr).trans rfl
      have hsz := hbW.size
      have OW := own_call wr a n c s t u zs HZ.out hn ha (hA.but hbW (by simp))
      have lX := lt_of_block xr
      clear hbw x3 hA
      have hks : k = 0 ∨ k = 1 ∨ k = 2 ∨ k = 3 ∨ k = 4 ∨ k = 5 := by omega
      rcases hks with rfl | rfl | rfl | rfl | rfl | rfl
      · go_wp2_with fail
        refine OW.mono ?_
        rintro e v1 ⟨ga, rfl, hga, ra, hb1⟩
        clear OW
        obtain ⟨v2, hv2⟩ : ∃ v2, v2 = (((((v1.alloc (.cells #[.slice (some ⟨ga, 0, none⟩) n (n + 2), .int .u32 s, .int .i64 t, .int .u32 u] 25)).alloc (.cells #[.slice none 0 0, .slice none 0 0, .bool false, .int .i64 0, .bool true] 50)).alloc (.cells #[.slice none 0 0, .slice none 0 0, .bool false, .int .i64 0, .bool true] 50)).alloc (.cells #[.slice none 0 0, .slice none 0 0, .bool false, .int .i64 0, .bool true] 50)).alloc (.cells #[.slice none 0 0, .slice none 0 0, .bool false, .int .i64 0, .bool true] 50)) := ⟨_, rfl⟩
        obtain ⟨hb2, yy, k1, k2, k3, k4, sz2⟩ := alloc5 v1 v2 _ hv2
        have HV2 := hv2.symm
        clear hv2
        have hb12 := hb1.trans hb2 (by simp)
        have hYC : YC v2 v1.heap.size ga n s t u := ⟨yy, (row5_row ra (by have := HZ.out; simp; omega)).keep hb2 (by simp), HU.out.1, HU.out.2.1, HU.out.2.2, hn⟩
        have lt2 : ga < v1.heap.size := lt_of_block ra.1
        obtain ⟨Y, hY⟩ : ∃ Y, v1.heap.size = Y := ⟨_, rfl⟩
        rw [hY] at k1 k2 k3 k4 sz2 lt2 yy hYC
        have cr2 := hb12.to cr (by simp)
        have hsY : wr.heap.size ≤ Y := by have := hb1.size; omega
        have nK : ∀ k, Y < k → ¬ KC ga Y k := fun k hk h => by rcases h with h | h <;> omega
        have LOW : ∀ k, KC ga Y k → W.heap.size < k ∧ k ≤ Y := fun k h => by rcases h with h | h <;> omega
        obtain ⟨L0, hR0⟩ := yc_reads hYC
        have MK := yc_marks hYC
        have hYK := hYC
        have nL0 : L0.length < 1000000 := by have := hR0.1; omega
        have sc2 : Sc (.cells #[.slice a n c, .int .u32 s, .int .i64 t, .int .u32 u] 25) 6 W v2 Y (KC ga Y) L0 := ⟨(hbW.trans hb1 (by simp)).trans hb2 (by simp), hb12.to xr (by simp), hR0, LOW, by omega⟩
        clear ra hb1 hb2 hb12 yy y0 y1 y2 y3 xr hR0
        -- see(&was, &y)
        have S10 := sc2.rd.2 v2 (Agree.refl _ _) (Y + 1) (nK _ (by omega)) k1
        go_wp2_with fail
        refine S10.mono ?_
        rintro e v3 ⟨rfl, hS3⟩
        clear S10 HV2 hY
        have z3 := hS3.but.size
        have ag3 := sc2.agrees hS3.but (by intro k hk; have := LOW k hk; rintro (h | h) <;> first | omega | exact h)
        have sc3 := sc2.step hS3.but (by intro k hk; have := LOW k hk; rintro (h | h) <;> first | omega | exact h) (by intro k hk; rintro (h | h) <;> first | omega | exact h)
        have h1 := Has.of hS3
        have e2 := hS3.but.to k2 (by rintro (h | h) <;> first | omega | exact h)
        have e3 := hS3.but.to k3 (by rintro (h | h) <;> first | omega | exact h)
        have e4 := hS3.but.to k4 (by rintro (h | h) <;> first | omega | exact h)
        have cl := lt_of_block cr
        have cr3 := hS3.but.to cr2 (by rintro (h | h) <;> first | omega | exact h)
        have d0 : v3.cell? ⟨C0, 0, none⟩ = some (.func (.func 7) #[] #[]) := (cell_of_row _ _ 0 _ _ _ cr3).trans rfl
        clear hS3 k1 k2 k3 k4 cr2
        -- l := calls[i](&y)
        have S11 := door1 v3 Y ga n s t u (hYC.agree ag3)
        go_wp2_with fail
        refine S11.mono ?_
        rintro e v4 ⟨rfl, hb4⟩
        clear S11 d0 cr3
        have z4 := hb4.size
        have ag4 := ag3.trans (sc3.agrees hb4 (by simp))
        have sc4 := sc3.quiet hb4
        have h1 := h1.quiet hb4
        have e2 := hb4.to e2 (by simp)
        have e3 := hb4.to e3 (by simp)
        have e4 := hb4.to e4 (by simp)
        clear sc3 sc2 hYC
        -- see(&is, &y)
        have S12 := sc4.rd.2 v4 (Agree.refl _ _) (Y + 1 + 1) (nK _ (by omega)) e2
        go_wp2_with fail
        refine S12.mono ?_
        rintro e v5 ⟨rfl, hS5⟩
        clear S12
        have z5 := hS5.but.size
        have ag5 := ag4.trans (sc4.agrees hS5.but (by intro k hk; have := LOW k hk; rintro (h | h) <;> first | omega | exact h))
        have sc5 := sc4.step hS5.but (by intro k hk; have := LOW k hk; rintro (h | h) <;> first | omega | exact h) (by intro k hk; rintro (h | h) <;> first | omega | exact h)
        have h2 := Has.of hS5
        have h1 := h1.step hS5.but (by rintro (h | h) <;> first | omega | exact h) (fun k cs hk => by have := not3 e2 (by decide) k cs hk; rintro (h | h) <;> first | omega | exact h)
        have e3 := hS5.but.to e3 (by rintro (h | h) <;> first | omega | exact h)
        have e4 := hS5.but.to e4 (by rintro (h | h) <;> first | omega | exact h)
        clear hS5 sc4 e2
        -- told := look(l)
        have S13 := look_nil v5
        go_wp2_with fail
        refine S13.mono ?_
        rintro e v6 ⟨t1, rfl, hb6⟩
        clear S13
        have z6 := hb6.size
        have ag6 := ag5.trans (sc5.agrees hb6 (by simp))
        have sc6 := sc5.quiet hb6
        have h1 := h1.quiet hb6
        have h2 := h2.quiet hb6
        have e3 := hb6.to e3 (by simp)
        have e4 := hb6.to e4 (by simp)
        clear sc5 hb6
        -- see(&eye{mark, room}, &y)
        obtain ⟨v7, hv7⟩ : ∃ v7, v6.alloc (.cells #[.slice none 0 0, .slice none 0 0, .bool true, .int .i64 0, .bool true] 50) = v7 := ⟨_, rfl⟩
        obtain ⟨E5, hE5⟩ : ∃ E5, v6.heap.size = E5 := ⟨_, rfl⟩
        have em : v7.heap[E5]? = some (.cells (eyeCells (.slice none 0 0) true 0 true) 50 (0, 0)) := by rw [← hv7, ← hE5]; exact heap_alloc_new _ _
        have hb7 : But (fun _ => False) v6 v7 := by rw [← hv7]; exact (But.refl _ _).alloc _
        have ag7 := ag6.trans (sc6.agrees hb7 (by simp))
        have sc7 := sc6.quiet hb7
        have z7 := hb7.size
        have hN3 : ∀ k cs, v7.heap[k]? = some (.cells cs 3 (0, 0)) → ¬ KC ga Y k := fun k cs hk h => by
          have hy7 := hYK.agree ag7
          rcases h with h | h
          · obtain ⟨cur, q, -⟩ := hy7.row
            rw [h, q] at hk; simp at hk
          · rw [h, hy7.y] at hk; simp at hk
        have S14 := MK v7 ag7 E5 (nK _ (by omega)) em
        go_wp2_with fail
        refine S14.mono ?_
        rintro e v8 ⟨rfl, hb8, L1, hR8⟩
        clear S14 hv7 MK ag3 ag6 ag7 ag4 ag5
        have z8 := hb8.size
        have lw := LOW
        have nm : ∀ k, Y < k → k < E5 → ¬ (k = E5 ∨ KC ga Y k) := fun k q1 q2 h => by
          rcases h with h | h
          · omega
          · have := lw k h; omega
        have nl : ∀ k, k ≤ W.heap.size → ¬ (k = E5 ∨ KC ga Y k) := fun k q1 h => by
          rcases h with h | h
          · omega
          · have := lw k h; omega
        have nL1 : L1.length < 1000000 := by have := hR8.1; omega
        have sc8 : Sc (.cells #[.slice a n c, .int .u32 s, .int .i64 t, .int .u32 u] 25) 6 W v8 Y (KC ga Y) L1 := ⟨sc7.all.trans hb8 (fun i hi h => nl i (by omega) h), hb8.to sc7.x (nl _ (by omega)), hR8, LOW, by omega⟩
        have n3 : ∀ k cs, v7.heap[k]? = some (.cells cs 3 (0, 0)) → ¬ (k = E5 ∨ KC ga Y k) := fun k cs hk => by
          have q1 := not3 em (by decide) k cs hk
          rintro (h | h)
          · exact q1 h
          · have ll := lw k h
            exact hN3 k cs hk h
        have h1 := (h1.quiet hb7).step hb8 (nm _ (by omega) (by omega)) n3
        have h2 := (h2.quiet hb7).step hb8 (nm _ (by omega) (by omega)) n3
        have e3 := hb8.to (hb7.to e3 (by simp)) (nm _ (by omega) (by omega))
        have e4 := hb8.to (hb7.to e4 (by simp)) (nm _ (by omega) (by omega))
        clear sc6 sc7 hb7 hb8 n3 em nm nl hR8
        -- was.same(is), alike(told, look(l), -1)
        obtain ⟨va, Ca, ha1, ha2⟩ := h1
        obtain ⟨vb, Cb, hc1, hc2⟩ := h2
        have SM := same_call v8 L0 va vb Ca Cb false true false true 0 0 nL0 ha2 hc2
        unfold eyeCells at SM
        obtain ⟨p0, p1, p2, p3, p4⟩ := eye_all ha1
        obtain ⟨q0, q1, q2, q3, q4⟩ := eye_all hc1
        clear ha1 ha2 hc1 hc2
        go_wp2_with fail
        refine SM.mono ?_
        rintro e v9 ⟨rfl, hb9⟩
        clear SM p0 p1 p2 p3 p4 q0 q1 q2 q3 q4
        have S9 := look_nil v9
        go_wp2_with fail
        refine S9.mono ?_
        rintro e v10 ⟨t2, rfl, hb10⟩
        clear S9
        have AL := alike_nil v10 t1 t2 (-1)
        go_wp2_with fail
        refine AL.mono ?_
        rintro e v11 ⟨rfl, hvv⟩
        subst hvv
        clear AL
        have hb811 := hb9.trans hb10 (by simp)
        have z11 := hb811.size
        have sc11 := sc8.quiet hb811
        have e3 := hb811.to e3 (by simp)
        have e4 := hb811.to e4 (by simp)
        clear hb9 hb10 hb811 sc8
        -- see(&over, &y)
        have S17 := sc11.rd.2 v10 (Agree.refl _ _) (Y + 1 + 1 + 1) (nK _ (by omega)) e3
        go_wp2_with fail
        refine S17.mono ?_
        rintro e v17 ⟨rfl, hS12⟩
        clear S17
        have z17 := hS12.but.size
        have sc17 := sc11.step hS12.but (by intro k hk; have := LOW k hk; rintro (h | h) <;> first | omega | exact h) (by intro k hk; rintro (h | h) <;> first | omega | exact h)
        have h3 := Has.of hS12
        have e4 := hS12.but.to e4 (by rintro (h | h) <;> first | omega | exact h)
        clear hS12 sc11 e3
        go_wp2_with fail
        refine wp_loop_rounds 1 ?_
        rw [rounds_succ]
        -- see(&gone, &y), over.same(gone)
        have S25 := sc17.rd.2 v17 (Agree.refl _ _) (Y + 1 + 1 + 1 + 1) (nK _ (by omega)) e4
        go_wp2_with fail
        refine S25.mono ?_
        rintro e v18 ⟨rfl, hS18⟩
        clear S25
        have h3 := h3.step hS18.but (by rintro (h | h) <;> first | omega | exact h) (fun k cs hk => by have := not3 e4 (by decide) k cs hk; rintro (h | h) <;> first | omega | exact h)
        have h4 := Has.of hS18
        have sc18 := sc17.step hS18.but (by intro k hk; have := LOW k hk; rintro (h | h) <;> first | omega | exact h) (by intro k hk; rintro (h | h) <;> first | omega | exact h)
        obtain ⟨va, Ca, ha1, ha2⟩ := h3
        obtain ⟨vb, Cb, hc1, hc2⟩ := h4
        have SM := same_call v18 L1 va vb Ca Cb false true false true 0 0 nL1 ha2 hc2
        unfold eyeCells at SM
        obtain ⟨p0, p1, p2, p3, p4⟩ := eye_all ha1
        obtain ⟨q0, q1, q2, q3, q4⟩ := eye_all hc1
        clear ha1 ha2 hc1 hc2 hS18 sc17 e4
        go_wp2_with fail
        refine SM.mono ?_
        rintro e v19 ⟨rfl, hb19⟩
        clear SM p0 p1 p2 p3 p4 q0 q1 q2 q3 q4
        have sc19 := sc18.quiet hb19
        go_wp2_with fail
        go_roundw
        case rel => exact ⟨0 + 1, by omega, by go_num, sc19.all, sc19.x⟩
        case measure => simp [intOf]
      · go_wp2_with fail
        refine OW.mono ?_
        rintro e v1 ⟨ga, rfl, hga, ra, hb1⟩
        clear OW
        obtain ⟨v2, hv2⟩ : ∃ v2, v2 = (((((v1.alloc (.cells #[.slice (some ⟨ga, 0, none⟩) n (n + 2), .int .u32 s, .int .i64 t, .int .u32 u] 25)).alloc (.cells #[.slice none 0 0, .slice none 0 0, .bool false, .int .i64 0, .bool true] 50)).alloc (.cells #[.slice none 0 0, .slice none 0 0, .bool false, .int .i64 0, .bool true] 50)).alloc (.cells #[.slice none 0 0, .slice none 0 0, .bool false, .int .i64 0, .bool true] 50)).alloc (.cells #[.slice none 0 0, .slice none 0 0, .bool false, .int .i64 0, .bool true] 50)) := ⟨_, rfl⟩
        obtain ⟨hb2, yy, k1, k2, k3, k4, sz2⟩ := alloc5 v1 v2 _ hv2
        have HV2 := hv2.symm
        clear hv2
        have hb12 := hb1.trans hb2 (by simp)
        have hYC : YC v2 v1.heap.size ga n s t u := ⟨yy, (row5_row ra (by have := HZ.out; simp; omega)).keep hb2 (by simp), HU.out.1, HU.out.2.1, HU.out.2.2, hn⟩
        have lt2 : ga < v1.heap.size := lt_of_block ra.1
        obtain ⟨Y, hY⟩ : ∃ Y, v1.heap.size = Y := ⟨_, rfl⟩
        rw [hY] at k1 k2 k3 k4 sz2 lt2 yy hYC
        have cr2 := hb12.to cr (by simp)
        have hsY : wr.heap.size ≤ Y := by have := hb1.size; omega
        have nK : ∀ k, Y < k → ¬ KC ga Y k := fun k hk h => by rcases h with h | h <;> omega
        have LOW : ∀ k, KC ga Y k → W.heap.size < k ∧ k ≤ Y := fun k h => by rcases h with h | h <;> omega
        obtain ⟨L0, hR0⟩ := yc_reads hYC
        have MK := yc_marks hYC
        have hYK := hYC
        have nL0 : L0.length < 1000000 := by have := hR0.1; omega
        have sc2 : Sc (.cells #[.slice a n c, .int .u32 s, .int .i64 t, .int .u32 u] 25) 6 W v2 Y (KC ga Y) L0 := ⟨(hbW.trans hb1 (by simp)).trans hb2 (by simp), hb12.to xr (by simp), hR0, LOW, by omega⟩
        clear ra hb1 hb2 hb12 yy y0 y1 y2 y3 xr hR0
        -- see(&was, &y)
        have S10 := sc2.rd.2 v2 (Agree.refl _ _) (Y + 1) (nK _ (by omega)) k1
        go_wp2_with fail
        refine S10.mono ?_
        rintro e v3 ⟨rfl, hS3⟩
        clear S10 HV2 hY
        have z3 := hS3.but.size
        have ag3 := sc2.agrees hS3.but (by intro k hk; have := LOW k hk; rintro (h | h) <;> first | omega | exact h)
        have sc3 := sc2.step hS3.but (by intro k hk; have := LOW k hk; rintro (h | h) <;> first | omega | exact h) (by intro k hk; rintro (h | h) <;> first | omega | exact h)
        have h1 := Has.of hS3
        have e2 := hS3.but.to k2 (by rintro (h | h) <;> first | omega | exact h)
        have e3 := hS3.but.to k3 (by rintro (h | h) <;> first | omega | exact h)
        have e4 := hS3.but.to k4 (by rintro (h | h) <;> first | omega | exact h)
        have cl := lt_of_block cr
        have cr3 := hS3.but.to cr2 (by rintro (h | h) <;> first | omega | exact h)
        have d0 : v3.cell? ⟨C0, 1, none⟩ = some (.func (.func 9) #[] #[]) := (cell_of_row _ _ 1 _ _ _ cr3).trans rfl
        clear hS3 k1 k2 k3 k4 cr2
        -- l := calls[i](&y)
        have S11 := door2 v3 Y ga n s t u (hYC.agree ag3)
        go_wp2_with fail
        refine S11.mono ?_
        rintro e v4 ⟨rfl, hb4⟩
        clear S11 d0 cr3
        have z4 := hb4.size
        have ag4 := ag3.trans (sc3.agrees hb4 (by simp))
        have sc4 := sc3.quiet hb4
        have h1 := h1.quiet hb4
        have e2 := hb4.to e2 (by simp)
        have e3 := hb4.to e3 (by simp)
        have e4 := hb4.to e4 (by simp)
        clear sc3 sc2 hYC
        -- see(&is, &y)
        have S12 := sc4.rd.2 v4 (Agree.refl _ _) (Y + 1 + 1) (nK _ (by omega)) e2
        go_wp2_with fail
        refine S12.mono ?_
        rintro e v5 ⟨rfl, hS5⟩
        clear S12
        have z5 := hS5.but.size
        have ag5 := ag4.trans (sc4.agrees hS5.but (by intro k hk; have := LOW k hk; rintro (h | h) <;> first | omega | exact h))
        have sc5 := sc4.step hS5.but (by intro k hk; have := LOW k hk; rintro (h | h) <;> first | omega | exact h) (by intro k hk; rintro (h | h) <;> first | omega | exact h)
        have h2 := Has.of hS5
        have h1 := h1.step hS5.but (by rintro (h | h) <;> first | omega | exact h) (fun k cs hk => by have := not3 e2 (by decide) k cs hk; rintro (h | h) <;> first | omega | exact h)
        have e3 := hS5.but.to e3 (by rintro (h | h) <;> first | omega | exact h)
        have e4 := hS5.but.to e4 (by rintro (h | h) <;> first | omega | exact h)
        clear hS5 sc4 e2
        -- told := look(l)
        have S13 := look_nil v5
        go_wp2_with fail
        refine S13.mono ?_
        rintro e v6 ⟨t1, rfl, hb6⟩
        clear S13
        have z6 := hb6.size
        have ag6 := ag5.trans (sc5.agrees hb6 (by simp))
        have sc6 := sc5.quiet hb6
        have h1 := h1.quiet hb6
        have h2 := h2.quiet hb6
        have e3 := hb6.to e3 (by simp)
        have e4 := hb6.to e4 (by simp)
        clear sc5 hb6
        -- see(&eye{mark, room}, &y)
        obtain ⟨v7, hv7⟩ : ∃ v7, v6.alloc (.cells #[.slice none 0 0, .slice none 0 0, .bool true, .int .i64 0, .bool true] 50) = v7 := ⟨_, rfl⟩
        obtain ⟨E5, hE5⟩ : ∃ E5, v6.heap.size = E5 := ⟨_, rfl⟩
        have em : v7.heap[E5]? = some (.cells (eyeCells (.slice none 0 0) true 0 true) 50 (0, 0)) := by rw [← hv7, ← hE5]; exact heap_alloc_new _ _
        have hb7 : But (fun _ => False) v6 v7 := by rw [← hv7]; exact (But.refl _ _).alloc _
        have ag7 := ag6.trans (sc6.agrees hb7 (by simp))
        have sc7 := sc6.quiet hb7
        have z7 := hb7.size
        have hN3 : ∀ k cs, v7.heap[k]? = some (.cells cs 3 (0, 0)) → ¬ KC ga Y k := fun k cs hk h => by
          have hy7 := hYK.agree ag7
          rcases h with h | h
          · obtain ⟨cur, q, -⟩ := hy7.row
            rw [h, q] at hk; simp at hk
          · rw [h, hy7.y] at hk; simp at hk
        have S14 := MK v7 ag7 E5 (nK _ (by omega)) em
        go_wp2_with fail
        refine S14.mono ?_
        rintro e v8 ⟨rfl, hb8, L1, hR8⟩
        clear S14 hv7 MK ag3 ag6 ag7 ag4 ag5
        have z8 := hb8.size
        have lw := LOW
        have nm : ∀ k, Y < k → k < E5 → ¬ (k = E5 ∨ KC ga Y k) := fun k q1 q2 h => by
          rcases h with h | h
          · omega
          · have := lw k h; omega
        have nl : ∀ k, k ≤ W.heap.size → ¬ (k = E5 ∨ KC ga Y k) := fun k q1 h => by
          rcases h with h | h
          · omega
          · have := lw k h; omega
        have nL1 : L1.length < 1000000 := by have := hR8.1; omega
        have sc8 : Sc (.cells #[.slice a n c, .int .u32 s, .int .i64 t, .int .u32 u] 25) 6 W v8 Y (KC ga Y) L1 := ⟨sc7.all.trans hb8 (fun i hi h => nl i (by omega) h), hb8.to sc7.x (nl _ (by omega)), hR8, LOW, by omega⟩
        have n3 : ∀ k cs, v7.heap[k]? = some (.cells cs 3 (0, 0)) → ¬ (k = E5 ∨ KC ga Y k) := fun k cs hk => by
          have q1 := not3 em (by decide) k cs hk
          rintro (h | h)
          · exact q1 h
          · have ll := lw k h
            exact hN3 k cs hk h
        have h1 := (h1.quiet hb7).step hb8 (nm _ (by omega) (by omega)) n3
        have h2 := (h2.quiet hb7).step hb8 (nm _ (by omega) (by omega)) n3
        have e3 := hb8.to (hb7.to e3 (by simp)) (nm _ (by omega) (by omega))
        have e4 := hb8.to (hb7.to e4 (by simp)) (nm _ (by omega) (by omega))
        clear sc6 sc7 hb7 hb8 n3 em nm nl hR8
        -- was.same(is), alike(told, look(l), -1)
        obtain ⟨va, Ca, ha1, ha2⟩ := h1
        obtain ⟨vb, Cb, hc1, hc2⟩ := h2
        have SM := same_call v8 L0 va vb Ca Cb false true false true 0 0 nL0 ha2 hc2
        unfold eyeCells at SM
        obtain ⟨p0, p1, p2, p3, p4⟩ := eye_all ha1
        obtain ⟨q0, q1, q2, q3, q4⟩ := eye_all hc1
        clear ha1 ha2 hc1 hc2
        go_wp2_with fail
        refine SM.mono ?_
        rintro e v9 ⟨rfl, hb9⟩
        clear SM p0 p1 p2 p3 p4 q0 q1 q2 q3 q4
        have S9 := look_nil v9
        go_wp2_with fail
        refine S9.mono ?_
        rintro e v10 ⟨t2, rfl, hb10⟩
        clear S9
        have AL := alike_nil v10 t1 t2 (-1)
        go_wp2_with fail
        refine AL.mono ?_
        rintro e v11 ⟨rfl, hvv⟩
        subst hvv
        clear AL
        have hb811 := hb9.trans hb10 (by simp)
        have z11 := hb811.size
        have sc11 := sc8.quiet hb811
        have e3 := hb811.to e3 (by simp)
        have e4 := hb811.to e4 (by simp)
        clear hb9 hb10 hb811 sc8
        -- see(&over, &y)
        have S17 := sc11.rd.2 v10 (Agree.refl _ _) (Y + 1 + 1 + 1) (nK _ (by omega)) e3
        go_wp2_with fail
        refine S17.mono ?_
        rintro e v17 ⟨rfl, hS12⟩
        clear S17
        have z17 := hS12.but.size
        have sc17 := sc11.step hS12.but (by intro k hk; have := LOW k hk; rintro (h | h) <;> first | omega | exact h) (by intro k hk; rintro (h | h) <;> first | omega | exact h)
        have h3 := Has.of hS12
        have e4 := hS12.but.to e4 (by rintro (h | h) <;> first | omega | exact h)
        clear hS12 sc11 e3
        go_wp2_with fail
        refine wp_loop_rounds 1 ?_
        rw [rounds_succ]
        -- see(&gone, &y), over.same(gone)
        have S25 := sc17.rd.2 v17 (Agree.refl _ _) (Y + 1 + 1 + 1 + 1) (nK _ (by omega)) e4
        go_wp2_with fail
        refine S25.mono ?_
        rintro e v18 ⟨rfl, hS18⟩
        clear S25
        have h3 := h3.step hS18.but (by rintro (h | h) <;> first | omega | exact h) (fun k cs hk => by have := not3 e4 (by decide) k cs hk; rintro (h | h) <;> first | omega | exact h)
        have h4 := Has.of hS18
        have sc18 := sc17.step hS18.but (by intro k hk; have := LOW k hk; rintro (h | h) <;> first | omega | exact h) (by intro k hk; rintro (h | h) <;> first | omega | exact h)
        obtain ⟨va, Ca, ha1, ha2⟩ := h3
        obtain ⟨vb, Cb, hc1, hc2⟩ := h4
        have SM := same_call v18 L1 va vb Ca Cb false true false true 0 0 nL1 ha2 hc2
        unfold eyeCells at SM
        obtain ⟨p0, p1, p2, p3, p4⟩ := eye_all ha1
        obtain ⟨q0, q1, q2, q3, q4⟩ := eye_all hc1
        clear ha1 ha2 hc1 hc2 hS18 sc17 e4
        go_wp2_with fail
        refine SM.mono ?_
        rintro e v19 ⟨rfl, hb19⟩
        clear SM p0 p1 p2 p3 p4 q0 q1 q2 q3 q4
        have sc19 := sc18.quiet hb19
        go_wp2_with fail
        go_roundw
        case rel => exact ⟨1 + 1, by omega, by go_num, sc19.all, sc19.x⟩
        case measure => simp [intOf]
      · go_wp2_with fail
        refine OW.mono ?_
        rintro e v1 ⟨ga, rfl, hga, ra, hb1⟩
        clear OW
        obtain ⟨v2, hv2⟩ : ∃ v2, v2 = (((((v1.alloc (.cells #[.slice (some ⟨ga, 0, none⟩) n (n + 2), .int .u32 s, .int .i64 t, .int .u32 u] 25)).alloc (.cells #[.slice none 0 0, .slice none 0 0, .bool false, .int .i64 0, .bool true] 50)).alloc (.cells #[.slice none 0 0, .slice none 0 0, .bool false, .int .i64 0, .bool true] 50)).alloc (.cells #[.slice none 0 0, .slice none 0 0, .bool false, .int .i64 0, .bool true] 50)).alloc (.cells #[.slice none 0 0, .slice none 0 0, .bool false, .int .i64 0, .bool true] 50)) := ⟨_, rfl⟩
        obtain ⟨hb2, yy, k1, k2, k3, k4, sz2⟩ := alloc5 v1 v2 _ hv2
        have HV2 := hv2.symm
        clear hv2
        have hb12 := hb1.trans hb2 (by simp)
        have hYC : YC v2 v1.heap.size ga n s t u := ⟨yy, (row5_row ra (by have := HZ.out; simp; omega)).keep hb2 (by simp), HU.out.1, HU.out.2.1, HU.out.2.2, hn⟩
        have lt2 : ga < v1.heap.size := lt_of_block ra.1
        obtain ⟨Y, hY⟩ : ∃ Y, v1.heap.size = Y := ⟨_, rfl⟩
        rw [hY] at k1 k2 k3 k4 sz2 lt2 yy hYC
        have cr2 := hb12.to cr (by simp)
        have hsY : wr.heap.size ≤ Y := by have := hb1.size; omega
        have nK : ∀ k, Y < k → ¬ KC ga Y k := fun k hk h => by rcases h with h | h <;> omega
        have LOW : ∀ k, KC ga Y k → W.heap.size < k ∧ k ≤ Y := fun k h => by rcases h with h | h <;> omega
        obtain ⟨L0, hR0⟩ := yc_reads hYC
        have MK := yc_marks hYC
        have hYK := hYC
        have nL0 : L0.length < 1000000 := by have := hR0.1; omega
        have sc2 : Sc (.cells #[.slice a n c, .int .u32 s, .int .i64 t, .int .u32 u] 25) 6 W v2 Y (KC ga Y) L0 := ⟨(hbW.trans hb1 (by simp)).trans hb2 (by simp), hb12.to xr (by simp), hR0, LOW, by omega⟩
        clear ra hb1 hb2 hb12 yy y0 y1 y2 y3 xr hR0
        -- see(&was, &y)
        have S10 := sc2.rd.2 v2 (Agree.refl _ _) (Y + 1) (nK _ (by omega)) k1
        go_wp2_with fail
        refine S10.mono ?_
        rintro e v3 ⟨rfl, hS3⟩
        clear S10 HV2 hY
        have z3 := hS3.but.size
        have ag3 := sc2.agrees hS3.but (by intro k hk; have := LOW k hk; rintro (h | h) <;> first | omega | exact h)
        have sc3 := sc2.step hS3.but (by intro k hk; have := LOW k hk; rintro (h | h) <;> first | omega | exact h) (by intro k hk; rintro (h | h) <;> first | omega | exact h)
        have h1 := Has.of hS3
        have e2 := hS3.but.to k2 (by rintro (h | h) <;> first | omega | exact h)
        have e3 := hS3.but.to k3 (by rintro (h | h) <;> first | omega | exact h)
        have e4 := hS3.but.to k4 (by rintro (h | h) <;> first | omega | exact h)
        have cl := lt_of_block cr
        have cr3 := hS3.but.to cr2 (by rintro (h | h) <;> first | omega | exact h)
        have d0 : v3.cell? ⟨C0, 2, none⟩ = some (.func (.func 11) #[] #[]) := (cell_of_row _ _ 2 _ _ _ cr3).trans rfl
        clear hS3 k1 k2 k3 k4 cr2
        -- l := calls[i](&y)
        have S11 := door3 v3 Y ga n s t u (hYC.agree ag3)
        go_wp2_with fail
        refine S11.mono ?_
        rintro e v4 ⟨G, A, rfl, hg, hb4⟩
        clear S11 d0 cr3
        have z4 := hb4.size
        have ag4 := ag3.trans (sc3.agrees hb4 (by simp))
        have sc4 := sc3.quiet hb4
        have h1 := h1.quiet hb4
        have e2 := hb4.to e2 (by simp)
        have e3 := hb4.to e3 (by simp)
        have e4 := hb4.to e4 (by simp)
        have lG := lt_of_block hg.row
        have nG := hg.new
        clear sc3 sc2 hYC
        -- see(&is, &y)
        have S12 := sc4.rd.2 v4 (Agree.refl _ _) (Y + 1 + 1) (nK _ (by omega)) e2
        go_wp2_with fail
        refine S12.mono ?_
        rintro e v5 ⟨rfl, hS5⟩
        clear S12
        have z5 := hS5.but.size
        have ag5 := ag4.trans (sc4.agrees hS5.but (by intro k hk; have := LOW k hk; rintro (h | h) <;> first | omega | exact h))
        have sc5 := sc4.step hS5.but (by intro k hk; have := LOW k hk; rintro (h | h) <;> first | omega | exact h) (by intro k hk; rintro (h | h) <;> first | omega | exact h)
        have h2 := Has.of hS5
        have h1 := h1.step hS5.but (by rintro (h | h) <;> first | omega | exact h) (fun k cs hk => by have := not3 e2 (by decide) k cs hk; rintro (h | h) <;> first | omega | exact h)
        have e3 := hS5.but.to e3 (by rintro (h | h) <;> first | omega | exact h)
        have e4 := hS5.but.to e4 (by rintro (h | h) <;> first | omega | exact h)
        have gr5 := hS5.but.to hg.row (by rintro (h | h) <;> first | omega | exact h)
        have bb5 : But (fun k => k < v3.heap.size) v4 v5 := hS5.but.mono (fun i _ h => by rcases h with h | h <;> first | omega | exact h.elim)
        obtain ⟨⟨LL, hLL⟩, hM⟩ := hg.shows_
        clear hS5 sc4 hg e2
        -- told := look(l)
        have S13 := look13 (cell_of_one gr5) hLL bb5
        have g0 := cell_of_one gr5
        go_wp2_with fail
        refine S13.mono ?_
        rintro e v6 ⟨t1, rfl, hb6, ht1⟩
        clear S13 g0
        have z6 := hb6.size
        have ag6 := ag5.trans (sc5.agrees hb6 (by simp))
        have sc6 := sc5.quiet hb6
        have h1 := h1.quiet hb6
        have h2 := h2.quiet hb6
        have hT := ht1.has
        have nt1 := ht1.new
        have e3 := hb6.to e3 (by simp)
        have e4 := hb6.to e4 (by simp)
        have gr6 := hb6.to gr5 (by simp)
        have bb6 := bb5.trans hb6 (by simp)
        have lt1 : t1 < v6.heap.size := by obtain ⟨_, _, q, _⟩ := ht1.eye; exact lt_of_block q
        clear sc5 gr5 bb5 hb6 ht1
        -- see(&eye{mark, room}, &y)
        obtain ⟨v7, hv7⟩ : ∃ v7, v6.alloc (.cells #[.slice none 0 0, .slice none 0 0, .bool true, .int .i64 0, .bool true] 50) = v7 := ⟨_, rfl⟩
        obtain ⟨E5, hE5⟩ : ∃ E5, v6.heap.size = E5 := ⟨_, rfl⟩
        have em : v7.heap[E5]? = some (.cells (eyeCells (.slice none 0 0) true 0 true) 50 (0, 0)) := by rw [← hv7, ← hE5]; exact heap_alloc_new _ _
        have hb7 : But (fun _ => False) v6 v7 := by rw [← hv7]; exact (But.refl _ _).alloc _
        have ag7 := ag6.trans (sc6.agrees hb7 (by simp))
        have sc7 := sc6.quiet hb7
        have z7 := hb7.size
        have hN3 : ∀ k cs, v7.heap[k]? = some (.cells cs 3 (0, 0)) → ¬ KC ga Y k := fun k cs hk h => by
          have hy7 := hYK.agree ag7
          rcases h with h | h
          · obtain ⟨cur, q, -⟩ := hy7.row
            rw [h, q] at hk; simp at hk
          · rw [h, hy7.y] at hk; simp at hk
        have S14 := MK v7 ag7 E5 (nK _ (by omega)) em
        go_wp2_with fail
        refine S14.mono ?_
        rintro e v8 ⟨rfl, hb8, L1, hR8⟩
        clear S14 hv7 MK ag3 ag6 ag7 ag4 ag5
        have z8 := hb8.size
        have lw := LOW
        have nm : ∀ k, Y < k → k < E5 → ¬ (k = E5 ∨ KC ga Y k) := fun k q1 q2 h => by
          rcases h with h | h
          · omega
          · have := lw k h; omega
        have nl : ∀ k, k ≤ W.heap.size → ¬ (k = E5 ∨ KC ga Y k) := fun k q1 h => by
          rcases h with h | h
          · omega
          · have := lw k h; omega
        have nL1 : L1.length < 1000000 := by have := hR8.1; omega
        have sc8 : Sc (.cells #[.slice a n c, .int .u32 s, .int .i64 t, .int .u32 u] 25) 6 W v8 Y (KC ga Y) L1 := ⟨sc7.all.trans hb8 (fun i hi h => nl i (by omega) h), hb8.to sc7.x (nl _ (by omega)), hR8, LOW, by omega⟩
        have n3 : ∀ k cs, v7.heap[k]? = some (.cells cs 3 (0, 0)) → ¬ (k = E5 ∨ KC ga Y k) := fun k cs hk => by
          have q1 := not3 em (by decide) k cs hk
          rintro (h | h)
          · exact q1 h
          · have ll := lw k h
            exact hN3 k cs hk h
        have h1 := (h1.quiet hb7).step hb8 (nm _ (by omega) (by omega)) n3
        have h2 := (h2.quiet hb7).step hb8 (nm _ (by omega) (by omega)) n3
        have hT := (hT.quiet hb7).step hb8 (nm _ (by omega) (by omega)) n3
        have e3 := hb8.to (hb7.to e3 (by simp)) (nm _ (by omega) (by omega))
        have e4 := hb8.to (hb7.to e4 (by simp)) (nm _ (by omega) (by omega))
        have gr8 := hb8.to (hb7.to gr6 (by simp)) (nm _ (by omega) (by omega))
        have bb8 := (bb6.trans hb7 (by simp)).trans hb8 (fun i hi h => by rcases h with h | h <;> first | omega | (have := lw i h; omega))
        clear sc6 sc7 gr6 bb6 hb7 hb8 n3 em nm nl hR8
        -- was.same(is), alike(told, look(l), -1)
        obtain ⟨va, Ca, ha1, ha2⟩ := h1
        obtain ⟨vb, Cb, hc1, hc2⟩ := h2
        have SM := same_call v8 L0 va vb Ca Cb false true false true 0 0 nL0 ha2 hc2
        unfold eyeCells at SM
        obtain ⟨p0, p1, p2, p3, p4⟩ := eye_all ha1
        obtain ⟨q0, q1, q2, q3, q4⟩ := eye_all hc1
        clear ha1 ha2 hc1 hc2
        go_wp2_with fail
        refine SM.mono ?_
        rintro e v9 ⟨rfl, hb9⟩
        clear SM p0 p1 p2 p3 p4 q0 q1 q2 q3 q4
        have gr9 := hb9.to gr8 (by simp)
        have bb9 := bb8.trans hb9 (by simp)
        have S9 := look13 (cell_of_one gr9) hLL bb9
        go_wp2_with fail
        refine S9.mono ?_
        rintro e v10 ⟨t2, rfl, hb10, ht2⟩
        clear S9
        obtain ⟨w1a, C1a, qa1, qa2⟩ := (hT.quiet hb9).quiet hb10
        obtain ⟨w2a, C2a, qb1, qb2⟩ := ht2.has
        have nLL : LL.length < 1000000 := by have := hLL.1; omega
        have AL := alike_call v10 t1 t2 LL w1a w2a C1a C2a false false false false 0 0 nLL qa1 qb1 qa2 qb2
        clear qa1 qa2 qb1 qb2 hT ht2
        go_wp2_with fail
        refine AL.mono ?_
        rintro e v11 ⟨rfl, hb11⟩
        clear AL
        have hb811 := (hb9.trans hb10 (by simp)).trans hb11 (by simp)
        have z11 := hb811.size
        have sc11 := sc8.quiet hb811
        have e3 := hb811.to e3 (by simp)
        have e4 := hb811.to e4 (by simp)
        have gr11 := hb811.to gr8 (by simp)
        have bb11 := bb8.trans hb811 (by simp)
        clear hb9 hb10 hb11 hb811 sc8 gr8 gr9 bb8 bb9
        -- see(&over, &y)
        have S17 := sc11.rd.2 v11 (Agree.refl _ _) (Y + 1 + 1 + 1) (nK _ (by omega)) e3
        go_wp2_with fail
        refine S17.mono ?_
        rintro e v12 ⟨rfl, hS12⟩
        clear S17
        have z12 := hS12.but.size
        have sc12 := sc11.step hS12.but (by intro k hk; have := LOW k hk; rintro (h | h) <;> first | omega | exact h) (by intro k hk; rintro (h | h) <;> first | omega | exact h)
        have h3 := Has.of hS12
        have e4 := hS12.but.to e4 (by rintro (h | h) <;> first | omega | exact h)
        have gr12 := hS12.but.to gr11 (by rintro (h | h) <;> first | omega | exact h)
        have bb12 := bb11.trans hS12.but (fun i hi h => by rcases h with h | h <;> first | omega | exact h.elim)
        clear hS12 sc11 gr11 bb11 e3
        -- the loop over the results: one of them
        have S21 := look13 (cell_of_one gr12) hLL bb12
        go_wp2_with fail
        refine wp_loop_rounds 2 ?_
        rw [rounds_succ]
        go_wp2_with fail
        refine S21.mono ?_
        rintro e v13 ⟨t3, rfl, hb13, -⟩
        clear S21
        have z13 := hb13.size
        obtain ⟨v14, hv14⟩ : ∃ v14, v13.alloc (.cells #[.slice none 0 0, .slice none 0 0, .bool true, .int .i64 1000000, .bool false] 50) = v14 := ⟨_, rfl⟩
        obtain ⟨E6, hE6⟩ : ∃ E6, v13.heap.size = E6 := ⟨_, rfl⟩
        have em : v14.heap[E6]? = some (.cells (eyeCells (.slice none 0 0) true 1000000 false) 50 (0, 0)) := by rw [← hv14, ← hE6]; exact heap_alloc_new _ _
        have hb14 : But (fun _ => False) v12 v14 := by rw [← hv14]; exact hb13.alloc _
        have bb14 := bb12.trans hb14 (by simp)
        have gr13 := hb13.to gr12 (by simp)
        have g13 := cell_of_one gr13
        have S22 := hM v14 bb14 E6 1000000 (by omega) (by omega) (by omega) em
        go_wp2_with fail
        refine S22.mono ?_
        rintro e v15 ⟨rfl, hb15, L', hL'⟩
        clear S22 hv14 g13 gr13 hM hLL
        have z14 := hb14.size
        have z15 := hb15.size
        have hG5 : ∀ {k : Nat} {cs : Array Value} {e : TypeId}, v14.heap[k]? = some (.cells cs e (0, 0)) → e ≠ 5 → k ≠ E6 → ¬ (k = E6 ∨ (v3.heap.size ≤ k ∧ ∃ cs fr, v14.heap[k]? = some (.cells cs 5 fr))) := by
          rintro k cs e' hk h5 hne (h | ⟨-, cs', fr', h⟩)
          · exact hne h
          · rw [hk] at h; simp at h; exact h5 h.2.1
        have gr14 := hb14.to gr12 (by simp)
        have gr15 := hb15.to gr14 (hG5 gr14 (by decide) (by omega))
        have e14 := hb14.to e4 (by simp)
        have e4 := hb15.to e14 (hG5 e14 (by decide) (by omega))
        have sc14 := sc12.quiet hb14
        have sc15 := sc14.step hb15 (by intro k hk h; have := LOW k hk; omega) (by intro k hk; omega)
        have h3 := (h3.quiet hb14).step hb15 (by omega) (fun k cs hk => hG5 hk (by decide) (not3 em (by decide) k cs hk))
        clear hb13 hb14 hb15 sc12 sc14 gr12 bb12 bb14 e14 gr14 hG5 em
        have S23 := look13 (cell_of_one gr15) hL' (But.refl _ _)
        go_wp2_with fail
        refine S23.mono ?_
        rintro e v16 ⟨t4, rfl, hb16, -⟩
        clear S23
        have AS := alike_self v16 t3 t4
        go_wp2_with fail
        refine AS.mono ?_
        rintro e v17 ⟨rfl, hb17⟩
        clear AS
        have hb1517 := hb16.trans hb17 (by simp)
        have sc17 := sc15.quiet hb1517
        have e4 := hb1517.to e4 (by simp)
        have h3 := h3.quiet hb1517
        have z17 := hb1517.size
        clear hb16 hb17 hb1517 sc15 gr15 hL'
        -- see(&gone, &y), over.same(gone)
        have S25 := sc17.rd.2 v17 (Agree.refl _ _) (Y + 1 + 1 + 1 + 1) (nK _ (by omega)) e4
        go_wp2_with fail
        rw [rounds_succ]
        go_wp2_with fail
        refine S25.mono ?_
        rintro e v18 ⟨rfl, hS18⟩
        clear S25
        have h3 := h3.step hS18.but (by rintro (h | h) <;> first | omega | exact h) (fun k cs hk => by have := not3 e4 (by decide) k cs hk; rintro (h | h) <;> first | omega | exact h)
        have h4 := Has.of hS18
        have sc18 := sc17.step hS18.but (by intro k hk; have := LOW k hk; rintro (h | h) <;> first | omega | exact h) (by intro k hk; rintro (h | h) <;> first | omega | exact h)
        obtain ⟨va, Ca, ha1, ha2⟩ := h3
        obtain ⟨vb, Cb, hc1, hc2⟩ := h4
        have SM := same_call v18 L1 va vb Ca Cb false true false true 0 0 nL1 ha2 hc2
        unfold eyeCells at SM
        obtain ⟨p0, p1, p2, p3, p4⟩ := eye_all ha1
        obtain ⟨q0, q1, q2, q3, q4⟩ := eye_all hc1
        clear ha1 ha2 hc1 hc2 hS18 sc17 e4
        go_wp2_with fail
        refine SM.mono ?_
        rintro e v19 ⟨rfl, hb19⟩
        clear SM p0 p1 p2 p3 p4 q0 q1 q2 q3 q4
        have sc19 := sc18.quiet hb19
        go_wp2_with fail
        go_roundw
        case rel => exact ⟨2 + 1, by omega, by go_num, sc19.all, sc19.x⟩
        case measure => simp [intOf]
      · go_wp2_with fail
        refine OW.mono ?_
        rintro e v1 ⟨ga, rfl, hga, ra, hb1⟩
        clear OW
        obtain ⟨v2, hv2⟩ : ∃ v2, v2 = (((((v1.alloc (.cells #[.slice (some ⟨ga, 0, none⟩) n (n + 2), .int .u32 s, .int .i64 t, .int .u32 u] 25)).alloc (.cells #[.slice none 0 0, .slice none 0 0, .bool false, .int .i64 0, .bool true] 50)).alloc (.cells #[.slice none 0 0, .slice none 0 0, .bool false, .int .i64 0, .bool true] 50)).alloc (.cells #[.slice none 0 0, .slice none 0 0, .bool false, .int .i64 0, .bool true] 50)).alloc (.cells #[.slice none 0 0, .slice none 0 0, .bool false, .int .i64 0, .bool true] 50)) := ⟨_, rfl⟩
        obtain ⟨hb2, yy, k1, k2, k3, k4, sz2⟩ := alloc5 v1 v2 _ hv2
        have HV2 := hv2.symm
        clear hv2
        have hb12 := hb1.trans hb2 (by simp)
        have hYC : YC v2 v1.heap.size ga n s t u := ⟨yy, (row5_row ra (by have := HZ.out; simp; omega)).keep hb2 (by simp), HU.out.1, HU.out.2.1, HU.out.2.2, hn⟩
        have lt2 : ga < v1.heap.size := lt_of_block ra.1
        obtain ⟨Y, hY⟩ : ∃ Y, v1.heap.size = Y := ⟨_, rfl⟩
        rw [hY] at k1 k2 k3 k4 sz2 lt2 yy hYC
        have cr2 := hb12.to cr (by simp)
        have hsY : wr.heap.size ≤ Y := by have := hb1.size; omega
        have nK : ∀ k, Y < k → ¬ KC ga Y k := fun k hk h => by rcases h with h | h <;> omega
        have LOW : ∀ k, KC ga Y k → W.heap.size < k ∧ k ≤ Y := fun k h => by rcases h with h | h <;> omega
        obtain ⟨L0, hR0⟩ := yc_reads hYC
        have MK := yc_marks hYC
        have hYK := hYC
        have nL0 : L0.length < 1000000 := by have := hR0.1; omega
        have sc2 : Sc (.cells #[.slice a n c, .int .u32 s, .int .i64 t, .int .u32 u] 25) 6 W v2 Y (KC ga Y) L0 := ⟨(hbW.trans hb1 (by simp)).trans hb2 (by simp), hb12.to xr (by simp), hR0, LOW, by omega⟩
        clear ra hb1 hb2 hb12 yy y0 y1 y2 y3 xr hR0
        -- see(&was, &y)
        have S10 := sc2.rd.2 v2 (Agree.refl _ _) (Y + 1) (nK _ (by omega)) k1
        go_wp2_with fail
        refine S10.mono ?_
        rintro e v3 ⟨rfl, hS3⟩
        clear S10 HV2 hY
        have z3 := hS3.but.size
        have ag3 := sc2.agrees hS3.but (by intro k hk; have := LOW k hk; rintro (h | h) <;> first | omega | exact h)
        have sc3 := sc2.step hS3.but (by intro k hk; have := LOW k hk; rintro (h | h) <;> first | omega | exact h) (by intro k hk; rintro (h | h) <;> first | omega | exact h)
        have h1 := Has.of hS3
        have e2 := hS3.but.to k2 (by rintro (h | h) <;> first | omega | exact h)
        have e3 := hS3.but.to k3 (by rintro (h | h) <;> first | omega | exact h)
        have e4 := hS3.but.to k4 (by rintro (h | h) <;> first | omega | exact h)
        have cl := lt_of_block cr
        have cr3 := hS3.but.to cr2 (by rintro (h | h) <;> first | omega | exact h)
        have d0 : v3.cell? ⟨C0, 3, none⟩ = some (.func (.func 15) #[] #[]) := (cell_of_row _ _ 3 _ _ _ cr3).trans rfl
        clear hS3 k1 k2 k3 k4 cr2
        -- l := calls[i](&y)
        have S11 := door4 v3 Y ga n s t u (hYC.agree ag3)
        go_wp2_with fail
        refine S11.mono ?_
        rintro e v4 ⟨G, A, rfl, hg, hb4⟩
        clear S11 d0 cr3
        have z4 := hb4.size
        have ag4 := ag3.trans (sc3.agrees hb4 (by simp))
        have sc4 := sc3.quiet hb4
        have h1 := h1.quiet hb4
        have e2 := hb4.to e2 (by simp)
        have e3 := hb4.to e3 (by simp)
        have e4 := hb4.to e4 (by simp)
        have lG := lt_of_block hg.row
        have nG := hg.new
        clear sc3 sc2 hYC
        -- see(&is, &y)
        have S12 := sc4.rd.2 v4 (Agree.refl _ _) (Y + 1 + 1) (nK _ (by omega)) e2
        go_wp2_with fail
        refine S12.mono ?_
        rintro e v5 ⟨rfl, hS5⟩
        clear S12
        have z5 := hS5.but.size
        have ag5 := ag4.trans (sc4.agrees hS5.but (by intro k hk; have := LOW k hk; rintro (h | h) <;> first | omega | exact h))
        have sc5 := sc4.step hS5.but (by intro k hk; have := LOW k hk; rintro (h | h) <;> first | omega | exact h) (by intro k hk; rintro (h | h) <;> first | omega | exact h)
        have h2 := Has.of hS5
        have h1 := h1.step hS5.but (by rintro (h | h) <;> first | omega | exact h) (fun k cs hk => by have := not3 e2 (by decide) k cs hk; rintro (h | h) <;> first | omega | exact h)
        have e3 := hS5.but.to e3 (by rintro (h | h) <;> first | omega | exact h)
        have e4 := hS5.but.to e4 (by rintro (h | h) <;> first | omega | exact h)
        have gr5 := hS5.but.to hg.row (by rintro (h | h) <;> first | omega | exact h)
        have bb5 : But (fun k => k < v3.heap.size) v4 v5 := hS5.but.mono (fun i _ h => by rcases h with h | h <;> first | omega | exact h.elim)
        obtain ⟨⟨LL, hLL⟩, hM⟩ := hg.shows_
        clear hS5 sc4 hg e2
        -- told := look(l)
        have S13 := look17 (cell_of_one gr5) hLL bb5
        have g0 := cell_of_one gr5
        go_wp2_with fail
        refine S13.mono ?_
        rintro e v6 ⟨t1, rfl, hb6, ht1⟩
        clear S13 g0
        have z6 := hb6.size
        have ag6 := ag5.trans (sc5.agrees hb6 (by simp))
        have sc6 := sc5.quiet hb6
        have h1 := h1.quiet hb6
        have h2 := h2.quiet hb6
        have hT := ht1.has
        have nt1 := ht1.new
        have e3 := hb6.to e3 (by simp)
        have e4 := hb6.to e4 (by simp)
        have gr6 := hb6.to gr5 (by simp)
        have bb6 := bb5.trans hb6 (by simp)
        have lt1 : t1 < v6.heap.size := by obtain ⟨_, _, q, _⟩ := ht1.eye; exact lt_of_block q
        clear sc5 gr5 bb5 hb6 ht1
        -- see(&eye{mark, room}, &y)
        obtain ⟨v7, hv7⟩ : ∃ v7, v6.alloc (.cells #[.slice none 0 0, .slice none 0 0, .bool true, .int .i64 0, .bool true] 50) = v7 := ⟨_, rfl⟩
        obtain ⟨E5, hE5⟩ : ∃ E5, v6.heap.size = E5 := ⟨_, rfl⟩
        have em : v7.heap[E5]? = some (.cells (eyeCells (.slice none 0 0) true 0 true) 50 (0, 0)) := by rw [← hv7, ← hE5]; exact heap_alloc_new _ _
        have hb7 : But (fun _ => False) v6 v7 := by rw [← hv7]; exact (But.refl _ _).alloc _
        have ag7 := ag6.trans (sc6.agrees hb7 (by simp))
        have sc7 := sc6.quiet hb7
        have z7 := hb7.size
        have hN3 : ∀ k cs, v7.heap[k]? = some (.cells cs 3 (0, 0)) → ¬ KC ga Y k := fun k cs hk h => by
          have hy7 := hYK.agree ag7
          rcases h with h | h
          · obtain ⟨cur, q, -⟩ := hy7.row
            rw [h, q] at hk; simp at hk
          · rw [h, hy7.y] at hk; simp at hk
        have S14 := MK v7 ag7 E5 (nK _ (by omega)) em
        go_wp2_with fail
        refine S14.mono ?_
        rintro e v8 ⟨rfl, hb8, L1, hR8⟩
        clear S14 hv7 MK ag3 ag6 ag7 ag4 ag5
        have z8 := hb8.size
        have lw := LOW
        have nm : ∀ k, Y < k → k < E5 → ¬ (k = E5 ∨ KC ga Y k) := fun k q1 q2 h => by
          rcases h with h | h
          · omega
          · have := lw k h; omega
        have nl : ∀ k, k ≤ W.heap.size → ¬ (k = E5 ∨ KC ga Y k) := fun k q1 h => by
          rcases h with h | h
          · omega
          · have := lw k h; omega
        have nL1 : L1.length < 1000000 := by have := hR8.1; omega
        have sc8 : Sc (.cells #[.slice a n c, .int .u32 s, .int .i64 t, .int .u32 u] 25) 6 W v8 Y (KC ga Y) L1 := ⟨sc7.all.trans hb8 (fun i hi h => nl i (by omega) h), hb8.to sc7.x (nl _ (by omega)), hR8, LOW, by omega⟩
        have n3 : ∀ k cs, v7.heap[k]? = some (.cells cs 3 (0, 0)) → ¬ (k = E5 ∨ KC ga Y k) := fun k cs hk => by
          have q1 := not3 em (by decide) k cs hk
          rintro (h | h)
          · exact q1 h
          · have ll := lw k h
            exact hN3 k cs hk h
        have h1 := (h1.quiet hb7).step hb8 (nm _ (by omega) (by omega)) n3
        have h2 := (h2.quiet hb7).step hb8 (nm _ (by omega) (by omega)) n3
        have hT := (hT.quiet hb7).step hb8 (nm _ (by omega) (by omega)) n3
        have e3 := hb8.to (hb7.to e3 (by simp)) (nm _ (by omega) (by omega))
        have e4 := hb8.to (hb7.to e4 (by simp)) (nm _ (by omega) (by omega))
        have gr8 := hb8.to (hb7.to gr6 (by simp)) (nm _ (by omega) (by omega))
        have bb8 := (bb6.trans hb7 (by simp)).trans hb8 (fun i hi h => by rcases h with h | h <;> first | omega | (have := lw i h; omega))
        clear sc6 sc7 gr6 bb6 hb7 hb8 n3 em nm nl hR8
        -- was.same(is), alike(told, look(l), -1)
        obtain ⟨va, Ca, ha1, ha2⟩ := h1
        obtain ⟨vb, Cb, hc1, hc2⟩ := h2
        have SM := same_call v8 L0 va vb Ca Cb false true false true 0 0 nL0 ha2 hc2
        unfold eyeCells at SM
        obtain ⟨p0, p1, p2, p3, p4⟩ := eye_all ha1
        obtain ⟨q0, q1, q2, q3, q4⟩ := eye_all hc1
        clear ha1 ha2 hc1 hc2
        go_wp2_with fail
        refine SM.mono ?_
        rintro e v9 ⟨rfl, hb9⟩
        clear SM p0 p1 p2 p3 p4 q0 q1 q2 q3 q4
        have gr9 := hb9.to gr8 (by simp)
        have bb9 := bb8.trans hb9 (by simp)
        have S9 := look17 (cell_of_one gr9) hLL bb9
        go_wp2_with fail
        refine S9.mono ?_
        rintro e v10 ⟨t2, rfl, hb10, ht2⟩
        clear S9
        obtain ⟨w1a, C1a, qa1, qa2⟩ := (hT.quiet hb9).quiet hb10
        obtain ⟨w2a, C2a, qb1, qb2⟩ := ht2.has
        have nLL : LL.length < 1000000 := by have := hLL.1; omega
        have AL := alike_call v10 t1 t2 LL w1a w2a C1a C2a false false false false 0 0 nLL qa1 qb1 qa2 qb2
        clear qa1 qa2 qb1 qb2 hT ht2
        go_wp2_with fail
        refine AL.mono ?_
        rintro e v11 ⟨rfl, hb11⟩
        clear AL
        have hb811 := (hb9.trans hb10 (by simp)).trans hb11 (by simp)
        have z11 := hb811.size
        have sc11 := sc8.quiet hb811
        have e3 := hb811.to e3 (by simp)
        have e4 := hb811.to e4 (by simp)
        have gr11 := hb811.to gr8 (by simp)
        have bb11 := bb8.trans hb811 (by simp)
        clear hb9 hb10 hb11 hb811 sc8 gr8 gr9 bb8 bb9
        -- see(&over, &y)
        have S17 := sc11.rd.2 v11 (Agree.refl _ _) (Y + 1 + 1 + 1) (nK _ (by omega)) e3
        go_wp2_with fail
        refine S17.mono ?_
        rintro e v12 ⟨rfl, hS12⟩
        clear S17
        have z12 := hS12.but.size
        have sc12 := sc11.step hS12.but (by intro k hk; have := LOW k hk; rintro (h | h) <;> first | omega | exact h) (by intro k hk; rintro (h | h) <;> first | omega | exact h)
        have h3 := Has.of hS12
        have e4 := hS12.but.to e4 (by rintro (h | h) <;> first | omega | exact h)
        have gr12 := hS12.but.to gr11 (by rintro (h | h) <;> first | omega | exact h)
        have bb12 := bb11.trans hS12.but (fun i hi h => by rcases h with h | h <;> first | omega | exact h.elim)
        clear hS12 sc11 gr11 bb11 e3
        -- the loop over the results: one of them
        have S21 := look17 (cell_of_one gr12) hLL bb12
        go_wp2_with fail
        refine wp_loop_rounds 2 ?_
        rw [rounds_succ]
        go_wp2_with fail
        refine S21.mono ?_
        rintro e v13 ⟨t3, rfl, hb13, -⟩
        clear S21
        have z13 := hb13.size
        obtain ⟨v14, hv14⟩ : ∃ v14, v13.alloc (.cells #[.slice none 0 0, .slice none 0 0, .bool true, .int .i64 1000000, .bool false] 50) = v14 := ⟨_, rfl⟩
        obtain ⟨E6, hE6⟩ : ∃ E6, v13.heap.size = E6 := ⟨_, rfl⟩
        have em : v14.heap[E6]? = some (.cells (eyeCells (.slice none 0 0) true 1000000 false) 50 (0, 0)) := by rw [← hv14, ← hE6]; exact heap_alloc_new _ _
        have hb14 : But (fun _ => False) v12 v14 := by rw [← hv14]; exact hb13.alloc _
        have bb14 := bb12.trans hb14 (by simp)
        have gr13 := hb13.to gr12 (by simp)
        have g13 := cell_of_one gr13
        have S22 := hM v14 bb14 E6 1000000 (by omega) (by omega) (by omega) em
        go_wp2_with fail
        refine S22.mono ?_
        rintro e v15 ⟨rfl, hb15, L', hL'⟩
        clear S22 hv14 g13 gr13 hM hLL
        have z14 := hb14.size
        have z15 := hb15.size
        have hG5 : ∀ {k : Nat} {cs : Array Value} {e : TypeId}, v14.heap[k]? = some (.cells cs e (0, 0)) → e ≠ 5 → k ≠ E6 → ¬ (k = E6 ∨ (v3.heap.size ≤ k ∧ ∃ cs fr, v14.heap[k]? = some (.cells cs 5 fr))) := by
          rintro k cs e' hk h5 hne (h | ⟨-, cs', fr', h⟩)
          · exact hne h
          · rw [hk] at h; simp at h; exact h5 h.2.1
        have gr14 := hb14.to gr12 (by simp)
        have gr15 := hb15.to gr14 (hG5 gr14 (by decide) (by omega))
        have e14 := hb14.to e4 (by simp)
        have e4 := hb15.to e14 (hG5 e14 (by decide) (by omega))
        have sc14 := sc12.quiet hb14
        have sc15 := sc14.step hb15 (by intro k hk h; have := LOW k hk; omega) (by intro k hk; omega)
        have h3 := (h3.quiet hb14).step hb15 (by omega) (fun k cs hk => hG5 hk (by decide) (not3 em (by decide) k cs hk))
        clear hb13 hb14 hb15 sc12 sc14 gr12 bb12 bb14 e14 gr14 hG5 em
        have S23 := look17 (cell_of_one gr15) hL' (But.refl _ _)
        go_wp2_with fail
        refine S23.mono ?_
        rintro e v16 ⟨t4, rfl, hb16, -⟩
        clear S23
        have AS := alike_self v16 t3 t4
        go_wp2_with fail
        refine AS.mono ?_
        rintro e v17 ⟨rfl, hb17⟩
        clear AS
        have hb1517 := hb16.trans hb17 (by simp)
        have sc17 := sc15.quiet hb1517
        have e4 := hb1517.to e4 (by simp)
        have h3 := h3.quiet hb1517
        have z17 := hb1517.size
        clear hb16 hb17 hb1517 sc15 gr15 hL'
        -- see(&gone, &y), over.same(gone)
        have S25 := sc17.rd.2 v17 (Agree.refl _ _) (Y + 1 + 1 + 1 + 1) (nK _ (by omega)) e4
        go_wp2_with fail
        rw [rounds_succ]
        go_wp2_with fail
        refine S25.mono ?_
        rintro e v18 ⟨rfl, hS18⟩
        clear S25
        have h3 := h3.step hS18.but (by rintro (h | h) <;> first | omega | exact h) (fun k cs hk => by have := not3 e4 (by decide) k cs hk; rintro (h | h) <;> first | omega | exact h)
        have h4 := Has.of hS18
        have sc18 := sc17.step hS18.but (by intro k hk; have := LOW k hk; rintro (h | h) <;> first | omega | exact h) (by intro k hk; rintro (h | h) <;> first | omega | exact h)
        obtain ⟨va, Ca, ha1, ha2⟩ := h3
        obtain ⟨vb, Cb, hc1, hc2⟩ := h4
        have SM := same_call v18 L1 va vb Ca Cb false true false true 0 0 nL1 ha2 hc2
        unfold eyeCells at SM
        obtain ⟨p0, p1, p2, p3, p4⟩ := eye_all ha1
        obtain ⟨q0, q1, q2, q3, q4⟩ := eye_all hc1
        clear ha1 ha2 hc1 hc2 hS18 sc17 e4
        go_wp2_with fail
        refine SM.mono ?_
        rintro e v19 ⟨rfl, hb19⟩
        clear SM p0 p1 p2 p3 p4 q0 q1 q2 q3 q4
        have sc19 := sc18.quiet hb19
        go_wp2_with fail
        go_roundw
        case rel => exact ⟨3 + 1, by omega, by go_num, sc19.all, sc19.x⟩
        case measure => simp [intOf]
      · go_wp2_with fail
        refine OW.mono ?_
        rintro e v1 ⟨ga, rfl, hga, ra, hb1⟩
        clear OW
        obtain ⟨v2, hv2⟩ : ∃ v2, v2 = (((((v1.alloc (.cells #[.slice (some ⟨ga, 0, none⟩) n (n + 2), .int .u32 s, .int .i64 t, .int .u32 u] 25)).alloc (.cells #[.slice none 0 0, .slice none 0 0, .bool false, .int .i64 0, .bool true] 50)).alloc (.cells #[.slice none 0 0, .slice none 0 0, .bool false, .int .i64 0, .bool true] 50)).alloc (.cells #[.slice none 0 0, .slice none 0 0, .bool false, .int .i64 0, .bool true] 50)).alloc (.cells #[.slice none 0 0, .slice none 0 0, .bool false, .int .i64 0, .bool true] 50)) := ⟨_, rfl⟩
        obtain ⟨hb2, yy, k1, k2, k3, k4, sz2⟩ := alloc5 v1 v2 _ hv2
        have HV2 := hv2.symm
        clear hv2
        have hb12 := hb1.trans hb2 (by simp)
        have hYC : YC v2 v1.heap.size ga n s t u := ⟨yy, (row5_row ra (by have := HZ.out; simp; omega)).keep hb2 (by simp), HU.out.1, HU.out.2.1, HU.out.2.2, hn⟩
        have lt2 : ga < v1.heap.size := lt_of_block ra.1
        obtain ⟨Y, hY⟩ : ∃ Y, v1.heap.size = Y := ⟨_, rfl⟩
        rw [hY] at k1 k2 k3 k4 sz2 lt2 yy hYC
        have cr2 := hb12.to cr (by simp)
        have hsY : wr.heap.size ≤ Y := by have := hb1.size; omega
        have nK : ∀ k, Y < k → ¬ KC ga Y k := fun k hk h => by rcases h with h | h <;> omega
        have LOW : ∀ k, KC ga Y k → W.heap.size < k ∧ k ≤ Y := fun k h => by rcases h with h | h <;> omega
        obtain ⟨L0, hR0⟩ := yc_reads hYC
        have MK := yc_marks hYC
        have hYK := hYC
        have nL0 : L0.length < 1000000 := by have := hR0.1; omega
        have sc2 : Sc (.cells #[.slice a n c, .int .u32 s, .int .i64 t, .int .u32 u] 25) 6 W v2 Y (KC ga Y) L0 := ⟨(hbW.trans hb1 (by simp)).trans hb2 (by simp), hb12.to xr (by simp), hR0, LOW, by omega⟩
        clear ra hb1 hb2 hb12 yy y0 y1 y2 y3 xr hR0
        -- see(&was, &y)
        have S10 := sc2.rd.2 v2 (Agree.refl _ _) (Y + 1) (nK _ (by omega)) k1
        go_wp2_with fail
        refine S10.mono ?_
        rintro e v3 ⟨rfl, hS3⟩
        clear S10 HV2 hY
        have z3 := hS3.but.size
        have ag3 := sc2.agrees hS3.but (by intro k hk; have := LOW k hk; rintro (h | h) <;> first | omega | exact h)
        have sc3 := sc2.step hS3.but (by intro k hk; have := LOW k hk; rintro (h | h) <;> first | omega | exact h) (by intro k hk; rintro (h | h) <;> first | omega | exact h)
        have h1 := Has.of hS3
        have e2 := hS3.but.to k2 (by rintro (h | h) <;> first | omega | exact h)
        have e3 := hS3.but.to k3 (by rintro (h | h) <;> first | omega | exact h)
        have e4 := hS3.but.to k4 (by rintro (h | h) <;> first | omega | exact h)
        have cl := lt_of_block cr
        have cr3 := hS3.but.to cr2 (by rintro (h | h) <;> first | omega | exact h)
        have d0 : v3.cell? ⟨C0, 4, none⟩ = some (.func (.func 18) #[] #[]) := (cell_of_row _ _ 4 _ _ _ cr3).trans rfl
        clear hS3 k1 k2 k3 k4 cr2
        -- l := calls[i](&y)
        have S11 := door5 v3 Y ga n s t u (hYC.agree ag3)
        go_wp2_with fail
        refine S11.mono ?_
        rintro e v4 ⟨G, A, rfl, hg, hb4⟩
        clear S11 d0 cr3
        have z4 := hb4.size
        have ag4 := ag3.trans (sc3.agrees hb4 (by simp))
        have sc4 := sc3.quiet hb4
        have h1 := h1.quiet hb4
        have e2 := hb4.to e2 (by simp)
        have e3 := hb4.to e3 (by simp)
        have e4 := hb4.to e4 (by simp)
        have lG := lt_of_block hg.row
        have nG := hg.new
        clear sc3 sc2 hYC
        -- see(&is, &y)
        have S12 := sc4.rd.2 v4 (Agree.refl _ _) (Y + 1 + 1) (nK _ (by omega)) e2
        go_wp2_with fail
        refine S12.mono ?_
        rintro e v5 ⟨rfl, hS5⟩
        clear S12
        have z5 := hS5.but.size
        have ag5 := ag4.trans (sc4.agrees hS5.but (by intro k hk; have := LOW k hk; rintro (h | h) <;> first | omega | exact h))
        have sc5 := sc4.step hS5.but (by intro k hk; have := LOW k hk; rintro (h | h) <;> first | omega | exact h) (by intro k hk; rintro (h | h) <;> first | omega | exact h)
        have h2 := Has.of hS5
        have h1 := h1.step hS5.but (by rintro (h | h) <;> first | omega | exact h) (fun k cs hk => by have := not3 e2 (by decide) k cs hk; rintro (h | h) <;> first | omega | exact h)
        have e3 := hS5.but.to e3 (by rintro (h | h) <;> first | omega | exact h)
        have e4 := hS5.but.to e4 (by rintro (h | h) <;> first | omega | exact h)
        have gr5 := hS5.but.to hg.row (by rintro (h | h) <;> first | omega | exact h)
        have bb5 : But (fun k => k < v3.heap.size) v4 v5 := hS5.but.mono (fun i _ h => by rcases h with h | h <;> first | omega | exact h.elim)
        obtain ⟨⟨LL, hLL⟩, hM⟩ := hg.shows_
        clear hS5 sc4 hg e2
        -- told := look(l)
        have S13 := look20 (cell_of_one gr5) hLL bb5
        have g0 := cell_of_one gr5
        go_wp2_with fail
        refine S13.mono ?_
        rintro e v6 ⟨t1, rfl, hb6, ht1⟩
        clear S13 g0
        have z6 := hb6.size
        have ag6 := ag5.trans (sc5.agrees hb6 (by simp))
        have sc6 := sc5.quiet hb6
        have h1 := h1.quiet hb6
        have h2 := h2.quiet hb6
        have hT := ht1.has
        have nt1 := ht1.new
        have e3 := hb6.to e3 (by simp)
        have e4 := hb6.to e4 (by simp)
        have gr6 := hb6.to gr5 (by simp)
        have bb6 := bb5.trans hb6 (by simp)
        have lt1 : t1 < v6.heap.size := by obtain ⟨_, _, q, _⟩ := ht1.eye; exact lt_of_block q
        clear sc5 gr5 bb5 hb6 ht1
        -- see(&eye{mark, room}, &y)
        obtain ⟨v7, hv7⟩ : ∃ v7, v6.alloc (.cells #[.slice none 0 0, .slice none 0 0, .bool true, .int .i64 0, .bool true] 50) = v7 := ⟨_, rfl⟩
        obtain ⟨E5, hE5⟩ : ∃ E5, v6.heap.size = E5 := ⟨_, rfl⟩
        have em : v7.heap[E5]? = some (.cells (eyeCells (.slice none 0 0) true 0 true) 50 (0, 0)) := by rw [← hv7, ← hE5]; exact heap_alloc_new _ _
        have hb7 : But (fun _ => False) v6 v7 := by rw [← hv7]; exact (But.refl _ _).alloc _
        have ag7 := ag6.trans (sc6.agrees hb7 (by simp))
        have sc7 := sc6.quiet hb7
        have z7 := hb7.size
        have hN3 : ∀ k cs, v7.heap[k]? = some (.cells cs 3 (0, 0)) → ¬ KC ga Y k := fun k cs hk h => by
          have hy7 := hYK.agree ag7
          rcases h with h | h
          · obtain ⟨cur, q, -⟩ := hy7.row
            rw [h, q] at hk; simp at hk
          · rw [h, hy7.y] at hk; simp at hk
        have S14 := MK v7 ag7 E5 (nK _ (by omega)) em
        go_wp2_with fail
        refine S14.mono ?_
        rintro e v8 ⟨rfl, hb8, L1, hR8⟩
        clear S14 hv7 MK ag3 ag6 ag7 ag4 ag5
        have z8 := hb8.size
        have lw := LOW
        have nm : ∀ k, Y < k → k < E5 → ¬ (k = E5 ∨ KC ga Y k) := fun k q1 q2 h => by
          rcases h with h | h
          · omega
          · have := lw k h; omega
        have nl : ∀ k, k ≤ W.heap.size → ¬ (k = E5 ∨ KC ga Y k) := fun k q1 h => by
          rcases h with h | h
          · omega
          · have := lw k h; omega
        have nL1 : L1.length < 1000000 := by have := hR8.1; omega
        have sc8 : Sc (.cells #[.slice a n c, .int .u32 s, .int .i64 t, .int .u32 u] 25) 6 W v8 Y (KC ga Y) L1 := ⟨sc7.all.trans hb8 (fun i hi h => nl i (by omega) h), hb8.to sc7.x (nl _ (by omega)), hR8, LOW, by omega⟩
        have n3 : ∀ k cs, v7.heap[k]? = some (.cells cs 3 (0, 0)) → ¬ (k = E5 ∨ KC ga Y k) := fun k cs hk => by
          have q1 := not3 em (by decide) k cs hk
          rintro (h | h)
          · exact q1 h
          · have ll := lw k h
            exact hN3 k cs hk h
        have h1 := (h1.quiet hb7).step hb8 (nm _ (by omega) (by omega)) n3
        have h2 := (h2.quiet hb7).step hb8 (nm _ (by omega) (by omega)) n3
        have hT := (hT.quiet hb7).step hb8 (nm _ (by omega) (by omega)) n3
        have e3 := hb8.to (hb7.to e3 (by simp)) (nm _ (by omega) (by omega))
        have e4 := hb8.to (hb7.to e4 (by simp)) (nm _ (by omega) (by omega))
        have gr8 := hb8.to (hb7.to gr6 (by simp)) (nm _ (by omega) (by omega))
        have bb8 := (bb6.trans hb7 (by simp)).trans hb8 (fun i hi h => by rcases h with h | h <;> first | omega | (have := lw i h; omega))
        clear sc6 sc7 gr6 bb6 hb7 hb8 n3 em nm nl hR8
        -- was.same(is), alike(told, look(l), -1)
        obtain ⟨va, Ca, ha1, ha2⟩ := h1
        obtain ⟨vb, Cb, hc1, hc2⟩ := h2
        have SM := same_call v8 L0 va vb Ca Cb false true false true 0 0 nL0 ha2 hc2
        unfold eyeCells at SM
        obtain ⟨p0, p1, p2, p3, p4⟩ := eye_all ha1
        obtain ⟨q0, q1, q2, q3, q4⟩ := eye_all hc1
        clear ha1 ha2 hc1 hc2
        go_wp2_with fail
        refine SM.mono ?_
        rintro e v9 ⟨rfl, hb9⟩
        clear SM p0 p1 p2 p3 p4 q0 q1 q2 q3 q4
        have gr9 := hb9.to gr8 (by simp)
        have bb9 := bb8.trans hb9 (by simp)
        have S9 := look20 (cell_of_one gr9) hLL bb9
        go_wp2_with fail
        refine S9.mono ?_
        rintro e v10 ⟨t2, rfl, hb10, ht2⟩
        clear S9
        obtain ⟨w1a, C1a, qa1, qa2⟩ := (hT.quiet hb9).quiet hb10
        obtain ⟨w2a, C2a, qb1, qb2⟩ := ht2.has
        have nLL : LL.length < 1000000 := by have := hLL.1; omega
        have AL := alike_call v10 t1 t2 LL w1a w2a C1a C2a false false false false 0 0 nLL qa1 qb1 qa2 qb2
        clear qa1 qa2 qb1 qb2 hT ht2
        go_wp2_with fail
        refine AL.mono ?_
        rintro e v11 ⟨rfl, hb11⟩
        clear AL
        have hb811 := (hb9.trans hb10 (by simp)).trans hb11 (by simp)
        have z11 := hb811.size
        have sc11 := sc8.quiet hb811
        have e3 := hb811.to e3 (by simp)
        have e4 := hb811.to e4 (by simp)
        have gr11 := hb811.to gr8 (by simp)
        have bb11 := bb8.trans hb811 (by simp)
        clear hb9 hb10 hb11 hb811 sc8 gr8 gr9 bb8 bb9
        -- see(&over, &y)
        have S17 := sc11.rd.2 v11 (Agree.refl _ _) (Y + 1 + 1 + 1) (nK _ (by omega)) e3
        go_wp2_with fail
        refine S17.mono ?_
        rintro e v12 ⟨rfl, hS12⟩
        clear S17
        have z12 := hS12.but.size
        have sc12 := sc11.step hS12.but (by intro k hk; have := LOW k hk; rintro (h | h) <;> first | omega | exact h) (by intro k hk; rintro (h | h) <;> first | omega | exact h)
        have h3 := Has.of hS12
        have e4 := hS12.but.to e4 (by rintro (h | h) <;> first | omega | exact h)
        have gr12 := hS12.but.to gr11 (by rintro (h | h) <;> first | omega | exact h)
        have bb12 := bb11.trans hS12.but (fun i hi h => by rcases h with h | h <;> first | omega | exact h.elim)
        clear hS12 sc11 gr11 bb11 e3
        -- the loop over the results: one of them
        have S21 := look20 (cell_of_one gr12) hLL bb12
        go_wp2_with fail
        refine wp_loop_rounds 2 ?_
        rw [rounds_succ]
        go_wp2_with fail
        refine S21.mono ?_
        rintro e v13 ⟨t3, rfl, hb13, -⟩
        clear S21
        have z13 := hb13.size
        obtain ⟨v14, hv14⟩ : ∃ v14, v13.alloc (.cells #[.slice none 0 0, .slice none 0 0, .bool true, .int .i64 1000000, .bool false] 50) = v14 := ⟨_, rfl⟩
        obtain ⟨E6, hE6⟩ : ∃ E6, v13.heap.size = E6 := ⟨_, rfl⟩
        have em : v14.heap[E6]? = some (.cells (eyeCells (.slice none 0 0) true 1000000 false) 50 (0, 0)) := by rw [← hv14, ← hE6]; exact heap_alloc_new _ _
        have hb14 : But (fun _ => False) v12 v14 := by rw [← hv14]; exact hb13.alloc _
        have bb14 := bb12.trans hb14 (by simp)
        have gr13 := hb13.to gr12 (by simp)
        have g13 := cell_of_one gr13
        have S22 := hM v14 bb14 E6 1000000 (by omega) (by omega) (by omega) em
        go_wp2_with fail
        refine S22.mono ?_
        rintro e v15 ⟨rfl, hb15, L', hL'⟩
        clear S22 hv14 g13 gr13 hM hLL
        have z14 := hb14.size
        have z15 := hb15.size
        have hG5 : ∀ {k : Nat} {cs : Array Value} {e : TypeId}, v14.heap[k]? = some (.cells cs e (0, 0)) → e ≠ 5 → k ≠ E6 → ¬ (k = E6 ∨ (v3.heap.size ≤ k ∧ ∃ cs fr, v14.heap[k]? = some (.cells cs 5 fr))) := by
          rintro k cs e' hk h5 hne (h | ⟨-, cs', fr', h⟩)
          · exact hne h
          · rw [hk] at h; simp at h; exact h5 h.2.1
        have gr14 := hb14.to gr12 (by simp)
        have gr15 := hb15.to gr14 (hG5 gr14 (by decide) (by omega))
        have e14 := hb14.to e4 (by simp)
        have e4 := hb15.to e14 (hG5 e14 (by decide) (by omega))
        have sc14 := sc12.quiet hb14
        have sc15 := sc14.step hb15 (by intro k hk h; have := LOW k hk; omega) (by intro k hk; omega)
        have h3 := (h3.quiet hb14).step hb15 (by omega) (fun k cs hk => hG5 hk (by decide) (not3 em (by decide) k cs hk))
        clear hb13 hb14 hb15 sc12 sc14 gr12 bb12 bb14 e14 gr14 hG5 em
        have S23 := look20 (cell_of_one gr15) hL' (But.refl _ _)
        go_wp2_with fail
        refine S23.mono ?_
        rintro e v16 ⟨t4, rfl, hb16, -⟩
        clear S23
        have AS := alike_self v16 t3 t4
        go_wp2_with fail
        refine AS.mono ?_
        rintro e v17 ⟨rfl, hb17⟩
        clear AS
        have hb1517 := hb16.trans hb17 (by simp)
        have sc17 := sc15.quiet hb1517
        have e4 := hb1517.to e4 (by simp)
        have h3 := h3.quiet hb1517
        have z17 := hb1517.size
        clear hb16 hb17 hb1517 sc15 gr15 hL'
        -- see(&gone, &y), over.same(gone)
        have S25 := sc17.rd.2 v17 (Agree.refl _ _) (Y + 1 + 1 + 1 + 1) (nK _ (by omega)) e4
        go_wp2_with fail
        rw [rounds_succ]
        go_wp2_with fail
        refine S25.mono ?_
        rintro e v18 ⟨rfl, hS18⟩
        clear S25
        have h3 := h3.step hS18.but (by rintro (h | h) <;> first | omega | exact h) (fun k cs hk => by have := not3 e4 (by decide) k cs hk; rintro (h | h) <;> first | omega | exact h)
        have h4 := Has.of hS18
        have sc18 := sc17.step hS18.but (by intro k hk; have := LOW k hk; rintro (h | h) <;> first | omega | exact h) (by intro k hk; rintro (h | h) <;> first | omega | exact h)
        obtain ⟨va, Ca, ha1, ha2⟩ := h3
        obtain ⟨vb, Cb, hc1, hc2⟩ := h4
        have SM := same_call v18 L1 va vb Ca Cb false true false true 0 0 nL1 ha2 hc2
        unfold eyeCells at SM
        obtain ⟨p0, p1, p2, p3, p4⟩ := eye_all ha1
        obtain ⟨q0, q1, q2, q3, q4⟩ := eye_all hc1
        clear ha1 ha2 hc1 hc2 hS18 sc17 e4
        go_wp2_with fail
        refine SM.mono ?_
        rintro e v19 ⟨rfl, hb19⟩
        clear SM p0 p1 p2 p3 p4 q0 q1 q2 q3 q4
        have sc19 := sc18.quiet hb19
        go_wp2_with fail
        go_roundw
        case rel => exact ⟨4 + 1, by omega, by go_num, sc19.all, sc19.x⟩
        case measure => simp [intOf]
      · go_wp2_with fail
        go_ret
        exact ⟨rfl, hbW⟩
end Go.Proofs.YtlckcnkognnlpaaGreatDoor
end
section
namespace Go.Proofs.YtlckcnkognnlpaaGreatDoor
open Go.RowKit
theorem apart_from (W : World) (a : Option Addr) (n c : Nat) (s t u : Int) (zs : List Int) (hnc : n ≤ c) (hc : c ≤ maxLen) (ha : a = none → c = 0) (hz : zs.length = n) (hA : At W a zs) (hs : U32 s) (ht : I64 t) (hu : U32 u) :
    Calls Tryz.prog 4 #[.agg #[.slice a n c, .int .u32 s, .int .i64 t, .int .u32 u], .func (.func 5) #[] #[], .func (.func 6) #[] #[], .slice (some ⟨W.heap.size + 1, 0, none⟩) 5 5]
      ((W.alloc (.cells #[.slice a n c, .int .u32 s, .int .i64 t, .int .u32 u] 25)).alloc (.cells #[.func (.func 7) #[] #[], .func (.func 9) #[] #[], .func (.func 11) #[] #[], .func (.func 15) #[] #[], .func (.func 18) #[] #[]] 32)) fun e w' => e = .returned (.bool true) ∧ Below W.heap.size W w' := by
  have hb1 : But (fun _ => False) W ((W.alloc (.cells #[.slice a n c, .int .u32 s, .int .i64 t, .int .u32 u] 25)).alloc (.cells #[.func (.func 7) #[] #[], .func (.func 9) #[] #[], .func (.func 11) #[] #[], .func (.func 15) #[] #[], .func (.func 18) #[] #[]] 32)) := ((But.refl _ _).alloc _).alloc _
  have hs0 : (W.alloc (.cells #[.slice a n c, .int .u32 s, .int .i64 t, .int .u32 u] 25)).heap.size = W.heap.size + 1 := by simp
  refine (apart_walk _ a n c s t u (W.heap.size + 1) zs hnc hc ha hz (hA.but hb1 (by simp)) hs ht hu (by rw [← hs0]; exact heap_alloc_new _ _)).mono ?_
  rintro e w' ⟨he, hb2⟩
  exact ⟨he, (hb1.trans hb2 (by simp)).below (Nat.le_refl _) (by simp)⟩
end Go.Proofs.YtlckcnkognnlpaaGreatDoor
end
