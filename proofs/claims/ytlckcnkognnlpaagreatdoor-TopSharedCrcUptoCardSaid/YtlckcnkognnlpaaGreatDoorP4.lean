/-
  Walks of the functions that apart reaches (num, all, nums, look, same, alike, copied, own, see, the functions of crc): each by a contract; at the end the call of apart itself with any byte slice and any three numbers: it returns true and turns no old memory.
-/
import Derived.Test.YtlckcnkognnlpaaGreatDoorP2
import Derived.Deep.LoopGhost
import Derived.Laws.BytesArg
import Derived.Deep.RegionHeld3
import Derived.Deep.RegionWith
import Derived.Deep.QuietTactic
import Derived.BigQuiet
import Derived.Deep.DrawnRows
import Derived.Test.YtlckcnkognnlpaaGreatDoorP1
import Derived.Test.YtlckcnkognnlpaaGreatDoorProg
import Derived.WalkLawsBesides
import Derived.KernelRfl
import Derived.Deep.RegionLaw
import Derived.Laws.Closers25b
set_option linter.all false
set_option linter.unusedVariables false
set_option linter.unusedSimpArgs false
section
namespace Go.Proofs.YtlckcnkognnlpaaGreatDoor
open Go.RowKit
set_option maxRecDepth 100000

theorem info5 : (Tryz.prog.info? 5).map (fun i => (i.zero, i.size, i.bytes)) = some (some (.int .u8 0), 1, 1) := by kernel_rfl

/-- The bytes of a slice of n elements, at whatever address. -/
def At (w : World) (a : Option Addr) (zs : List Int) : Prop := (∀ z ∈ zs, 0 ≤ z ∧ z < 256) ∧ ∀ i, i < zs.length → ∃ ad, a = some ad ∧ w.cell? (ad.add i) = some (.int .u8 (zs.getD i 0))

theorem wpList_append_run {P : Program} (w : World) {ops : Array Oper} {rest : List Oper} {o : Oper} {a : Act} {Q : Exit → Act → World → Prop} (hgd : o.guard = none) (s x : Operand) (t : TypeId)
    (ho : o.op = .call { callee := .builtin .append, args := #[s, x], argTypes := #[t, t] }) (v sx v' : Value) (w' : World) (hs : a.eval s = v) (hx : a.eval x = sx)
    (hr : (Builtin.append_ #[t, t] o.type #[v, sx]).run P w = .ok v' w') (h : wpList P ops Q rest (a.put o.dst v') w') : wpList P ops Q (o :: rest) a w :=
  wpList_plain hgd fun K hK => by
    unfold Oper.wp execOp
    simp only [ho, resolve, invoke, builtin, Sem.run_bind, Sem.run_pure, Result.andThen_ok, List.map_toArray, List.map_cons, List.map_nil, hs, hx, hr]
    exact hK _ _ h

/-- make with room for two more, and the bytes laid into it. -/
theorem copied_run (w : World) (a : Option Addr) (n c : Nat) (zs : List Int) (hz : zs.length = n) (hn : n ≤ 2000) (ha : a = none → c = 0) (h : At w a zs) (ty : TypeId) :
    ∃ w', (Builtin.append_ #[22, 22] ty #[.slice (some ⟨w.heap.size, 0, none⟩) 0 (n + 2), .slice a n c]).run Tryz.prog (w.alloc (.cells (Array.replicate (n + 2) (.int .u8 0)) 5)) = .ok (.slice (some ⟨w.heap.size, 0, none⟩) n (n + 2)) w' ∧
      w'.heap[w.heap.size]? = some (.cells ((zs ++ [0, 0]).map (Value.int .u8)).toArray 5 (0, 0)) ∧ But (fun _ => False) w w' := by
  obtain ⟨i0, hi0, hz0, hz1, hz2⟩ := info_parts info5
  have hg := heap_alloc_new w (.cells (Array.replicate (n + 2) (.int .u8 0)) 5)
  have hb : But (fun _ => False) w (w.alloc (.cells (Array.replicate (n + 2) (.int .u8 0)) 5)) := (But.refl _ _).alloc _
  obtain ⟨w1, hw1⟩ : ∃ w1, w1 = w.alloc (.cells (Array.replicate (n + 2) (.int .u8 0)) 5) := ⟨_, rfl⟩
  rw [← hw1] at hg hb ⊢
  rcases a with _ | ad
  · obtain rfl : c = 0 := ha rfl
    have h0 : n = 0 := by
      rcases Nat.eq_zero_or_pos n with h0 | h0
      · exact h0
      · obtain ⟨ad, h1, _⟩ := h.2 0 (by omega); cases h1
    subst h0
    obtain rfl := List.eq_nil_of_length_eq_zero hz
    have hown : w1.ownsRow 0 5 1 (.slice (some ⟨w.heap.size, 0, none⟩) 0 2) 0 [] := ⟨rfl, .inr ⟨w.heap.size, 2, _, rfl, Nat.zero_le _, hg, by omega, by simp [maxLen], by simp, by simp⟩⟩
    exact ⟨w1, run_append_owned_none (P := Tryz.prog) w1 0 22 ty 5 i0 1 Tryz.underlying22 hi0 _ 0 _ hown, hg, hb⟩
  · have hr := run_append_room (P := Tryz.prog) w1 22 ty 5 i0 Tryz.underlying22 hi0 w.heap.size 0 (n + 2) _ hg ad n c (zs.map (Value.int .u8)) (by simp [hz, hz1]) (fun j u hj => by
      have hjn : j < zs.length := by simpa using (List.getElem?_eq_some_iff.1 hj).1
      obtain ⟨ad', h1, h2⟩ := h.2 j hjn
      obtain rfl := Option.some.inj h1
      rw [hb.cell (World.block_lt_of_cell? w _ h2) (by simp), h2]
      simp [hjn] at hj
      simp [hjn, hj]) (fun u hu => by
      obtain ⟨z, _, rfl⟩ := List.mem_map.1 hu
      rfl) (by omega) (by simp [hz1, hz])
    simp only [Nat.zero_add, Nat.zero_mul] at hr
    refine ⟨_, hr, ?_, ?_⟩
    · rw [setRow_heap w1 w.heap.size _ _ 5 _ hg]
      congr 2
      simp only [List.take_zero, List.nil_append, Array.toList_replicate, List.length_map, hz, List.drop_replicate, show n + 2 - n = 2 from by omega, List.map_append]
      rfl
    · refine ⟨hb.os, hb.tape, hb.output, by simpa using hb.size, fun k hk hn' => ?_⟩
      rw [setRow_other _ _ _ _ (by omega)]
      exact hb.block k hk hn'

theorem copied_call (w : World) (a : Option Addr) (n c : Nat) (zs : List Int) (hz : zs.length = n) (hn : n ≤ 2000) (ha : a = none → c = 0) (h : At w a zs) :
    Calls Tryz.prog 26 #[.slice a n c] w fun e w' => e = .returned (.slice (some ⟨w.heap.size, 0, none⟩) n (n + 2)) ∧ w'.heap[w.heap.size]? = some (.cells ((zs ++ [0, 0]).map (Value.int .u8)).toArray 5 (0, 0)) ∧ But (fun _ => False) w w' := by
  obtain ⟨i0, hi0, hz0, hz1, hz2⟩ := info_parts info5
  have hmk := run_make (P := Tryz.prog) w 22 5 i0 (.int .u8 0) Tryz.underlying22 hi0 hz0 .i64 .i64 0 ((n : Int) + 2) (by omega) (by omega) (by rw [hz2]; omega) (by omega)
  have hm : madeCells (Value.int .u8 0).cells (((n : Int) + 2).toNat * i0.size) = Array.replicate (n + 2) (.int .u8 0) := by
    have e : ((n : Int) + 2).toNat * i0.size = n + 2 := by rw [hz1]; omega
    rw [e]
    apply Array.ext
    · simp [madeCells]
    · intro i h1 h2
      simp [madeCells, Value.cells, Nat.mod_one]
  have e2 : ((n : Int) + 2).toNat = n + 2 := by omega
  rw [hm, e2] at hmk
  simp only [Int.toNat_zero] at hmk
  obtain ⟨w', hr, h1, h2⟩ := copied_run w a n c zs hz hn ha h 22
  clear hm e2
  go_enter Tryz.func26, Tryz.ntmps26
  go_wp2_with (at_builtin; refine wpList_append_run _ rfl (.tmp 6) (.tmp 7) 22 rfl _ _ _ w' rfl rfl hr ?_)
  go_ret
  exact ⟨rfl, h1, h2⟩
end Go.Proofs.YtlckcnkognnlpaaGreatDoor
end
section
namespace Go.Proofs.YtlckcnkognnlpaaGreatDoor
open Go.RowKit
set_option maxRecDepth 100000

/-- A row of bytes at a block's head: n of them are the slice's own, all are read with room. -/
def Row5 (w : World) (g : Nat) (zs : List Int) : Prop := w.heap[g]? = some (.cells (zs.map (Value.int .u8)).toArray 5 (0, 0)) ∧ ∀ z ∈ zs, 0 ≤ z ∧ z < 256

theorem At.but {S : Nat → Prop} {w w' : World} {a : Option Addr} {zs : List Int} (h : At w a zs) (hb : But S w w') (hs : ∀ k, k < w.heap.size → ¬ S k) : At w' a zs :=
  ⟨h.1, fun i hi => let ⟨ad, h1, h2⟩ := h.2 i hi; ⟨ad, h1, (hb.cell (World.block_lt_of_cell? w _ h2) (hs _ (World.block_lt_of_cell? w _ h2))).trans h2⟩⟩

end Go.Proofs.YtlckcnkognnlpaaGreatDoor
end
section
namespace Go.Proofs.YtlckcnkognnlpaaGreatDoor
open Go.RowKit
set_option maxRecDepth 100000

set_option maxHeartbeats 1600000 in
theorem more_call (w : World) (a : Option Addr) (n c : Nat) (s : Int) (zs : List Int) (hz : zs.length = n) (hn : n < 1000000000) (hAt : At w a zs) :
    Calls Tryz.prog 10 #[.int .u32 s, .slice a n c] w fun e w' => (∃ r, e = .returned (.int .u32 r)) ∧ w = w' := by
  go_enter Tryz.func10, Tryz.ntmps10
  go_wp2_with fail
  go_loop [0, 12] (fun s i => ∃ (k : Nat) (r : Int), k ≤ n ∧ s = .int .u32 r ∧ i = .int .i64 k) (fun _ i => n - (intOf i).toNat)
  case atStart => exact ⟨0, _, Nat.zero_le _, rfl, rfl⟩
  case round =>
    obtain ⟨k, r, hk, rfl, rfl⟩ := hrel
    have hk0 : (0 : Int) ≤ (k : Int) := Int.natCast_nonneg _
    rcases Nat.lt_or_ge k n with hkn | hkn
    · obtain ⟨ad, rfl, hc⟩ := hAt.2 k (by omega)
      have hki : (k : Int) < (n : Int) := by omega
      go_wp2_with fail
      go_loop [0, 20] (fun s i => ∃ (j : Nat) (r : Int), j ≤ 8 ∧ s = .int .u32 r ∧ i = .int .i64 j) (fun _ i => 8 - (intOf i).toNat)
      case atStart => exact ⟨0, _, Nat.zero_le _, rfl, rfl⟩
      case round =>
        obtain ⟨j, r1, hj, rfl, rfl⟩ := hrel
        have hj0 : (0 : Int) ≤ (j : Int) := Int.natCast_nonneg _
        rcases Nat.lt_or_ge j 8 with hj8 | hj8
        · have hji : (j : Int) < 8 := by omega
          go_wp2_with fail
          all_goals
            go_round
            case rel => exact ⟨j + 1, _, by omega, rfl, by go_num⟩
            case measure => simp [intOf]; omega
        · obtain rfl : j = 8 := by omega
          go_wp2_with fail
          go_round
          case rel => exact ⟨k + 1, _, by omega, rfl, by go_num⟩
          case measure => simp [intOf]; omega
    · obtain rfl : k = n := by omega
      go_wp2_with fail
      go_ret
      exact ⟨⟨_, rfl⟩, rfl⟩
end Go.Proofs.YtlckcnkognnlpaaGreatDoor
end
section
namespace Go.Proofs.YtlckcnkognnlpaaGreatDoor
open Go.RowKit
set_option maxRecDepth 100000

theorem sum_call (w : World) (a : Option Addr) (n c : Nat) (zs : List Int) (hz : zs.length = n) (hn : n < 1000000000) (hAt : At w a zs) :
    Calls Tryz.prog 8 #[.slice a n c] w fun e w' => (∃ r, e = .returned (.int .u32 r)) ∧ w = w' := by
  go_enter Tryz.func8, Tryz.ntmps8
  go_wp2_with (go_at_call 10; refine (more_call w a n c 0 zs hz hn hAt).mono ?_; rintro e w2 ⟨⟨r, rfl⟩, rfl⟩)
  go_ret
  exact ⟨⟨_, rfl⟩, rfl⟩

/-- A value that owns the bytes ws, in blocks from B on. -/
structure Own5 (B : Nat) (w : World) (v : Value) (ws : List Int) : Prop where
  own : w.ownsRow B 5 1 v ws.length (ws.map (Value.int .u8))
  b : ∀ z ∈ ws, 0 ≤ z ∧ z < 256

theorem Own5.nil (B : Nat) (w : World) : Own5 B w (.slice none 0 0) [] := ⟨World.ownsRow_nil _ _ _ _, by simp⟩
theorem Own5.but {B : Nat} {w w' : World} {v : Value} {ws : List Int} (h : Own5 B w v ws) (hb : But (fun _ => False) w w') : Own5 B w' v ws :=
  ⟨h.own.kept (row := none) ⟨hb.os, hb.tape, hb.output, hb.size, fun k hk _ => hb.block k hk (by simp)⟩ (by cases hv : v.ownBlock <;> simp), h.b⟩
theorem Own5.at {B : Nat} {w : World} {v : Value} {ws : List Int} (h : Own5 B w v ws) : ∃ o c, v = .slice o ws.length c ∧ ws.length ≤ c ∧ c ≤ maxLen ∧ At w o ws ∧ (o = none → c = 0) := by
  have hl := h.own.1
  rcases h.own.2 with ⟨hv, h0⟩ | ⟨g, cap, cur, hv, -, hg, h1, h2, -, -⟩
  · rw [h0]
    exact ⟨none, 0, hv, Nat.le_refl _, Nat.zero_le _, ⟨h.b, fun i hi => by omega⟩, fun _ => rfl⟩
  · refine ⟨some ⟨g, 0, none⟩, cap, hv, h1, h2, ⟨h.b, fun i hi => ⟨_, rfl, ?_⟩⟩, by simp⟩
    exact h.own.cells (g := g) (by rw [hv]; rfl) i _ (by simp [hi])

/-- append onto what is owned, from whatever slice of bytes. -/
theorem append_run (w : World) (B : Nat) (v : Value) (xs : List Int) (hv : Own5 B w v xs) (a : Option Addr) (n c : Nat) (zs : List Int) (hz : zs.length = n) (hn : xs.length + n < 1000000000) (ha : a = none → c = 0) (h : At w a zs) (hB : B ≤ w.heap.size) (ty : TypeId) :
    ∃ v' w', (Builtin.append_ #[22, 22] ty #[v, .slice a n c]).run Tryz.prog w = .ok v' w' ∧ Own5 B w' v' (xs ++ zs) ∧ But (fun k => B ≤ k) w w' := by
  obtain ⟨i0, hi0, hz0, hz1, hz2⟩ := info_parts info5
  rcases a with _ | ad
  · obtain rfl : c = 0 := ha rfl
    have h0 : n = 0 := by
      rcases Nat.eq_zero_or_pos n with h0 | h0
      · exact h0
      · obtain ⟨ad, h1, _⟩ := h.2 0 (by omega); cases h1
    subst h0
    obtain rfl := List.eq_nil_of_length_eq_zero hz
    exact ⟨v, w, run_append_owned_none (P := Tryz.prog) w B 22 ty 5 i0 1 Tryz.underlying22 hi0 _ _ _ hv.own, by simpa using hv, But.refl _ _⟩
  · obtain ⟨v', w', h1, h2, h3, -⟩ := run_append_own (P := Tryz.prog) w B 22 ty 5 i0 _ 1 1 Tryz.underlying22 hi0 hz0 hz1 hz2 rfl (by omega) v _ _ hv.own ad n c (zs.map (Value.int .u8)) (by simp [hz]) (fun j u hj => by
      have hjn : j < zs.length := by simpa using (List.getElem?_eq_some_iff.1 hj).1
      obtain ⟨ad', h1, h2⟩ := h.2 j hjn
      obtain rfl := Option.some.inj h1
      rw [h2]
      simp [hjn] at hj
      simp [hjn, hj]) (fun u hu => by
      obtain ⟨z, _, rfl⟩ := List.mem_map.1 hu
      rfl) (by unfold maxLen; omega) (by omega) hB
    refine ⟨v', w', h1, ⟨by simpa [hz] using h2, fun z hz' => ?_⟩, ⟨h3.os, h3.tape, h3.output, h3.size, fun k hk hn' => h3.block k hk (fun e => hn' (hv.own.lt k e.symm).1)⟩⟩
    rcases List.mem_append.1 hz' with h0 | h0
    · exact hv.b z h0
    · exact h.1 z h0

theorem But.low {B : Nat} {w w1 w' : World} (h : But (fun _ => False) w w1) (k : But (fun k => B ≤ k) w1 w') (hB : w.heap.size ≤ B) : But (fun _ => False) w w' :=
  h.trans k (fun i hi hs => by omega)

theorem Own5.push {B : Nat} {w w' : World} {v v' : Value} {ws : List Int} {x : Int} (h : Own5 B w v ws) (h' : w'.ownsRow B 5 1 v' (ws.length + 1) (ws.map (Value.int .u8) ++ [.int .u8 x])) (hx : 0 ≤ x ∧ x < 256) : Own5 B w' v' (ws ++ [x]) :=
  ⟨by simpa using h', fun z hz => by
    rcases List.mem_append.1 hz with h0 | h0
    · exact h.b z h0
    · obtain rfl := List.mem_singleton.1 h0; exact hx⟩

set_option maxHeartbeats 1600000 in
theorem sealed_call (w : World) (a : Option Addr) (n c : Nat) (zs : List Int) (hz : zs.length = n) (hn : n < 100000000) (ha : a = none → c = 0) (hAt : At w a zs) :
    Calls Tryz.prog 12 #[.slice a n c] w fun e w' => ∃ v ws, e = .returned v ∧ ws.length = n + 4 ∧ Own5 w.heap.size w' v ws ∧ But (fun _ => False) w w' := by
  obtain ⟨i0, hi0, hz0, hz1, hz2⟩ := info_parts info5
  obtain ⟨v1, w1, hr, ho, hb⟩ := append_run w w.heap.size _ [] (Own5.nil _ _) a n c zs hz (by simp; omega) ha hAt (Nat.le_refl _) 22
  have hb1 : But (fun _ => False) w w1 := (But.refl _ _).low hb (Nat.le_refl _)
  simp only [List.nil_append] at ho
  have hAt1 := At.but hAt hb (by intro k hk; omega)
  go_enter Tryz.func12, Tryz.ntmps12
  go_wp2_with (first | (at_builtin; refine wpList_append_run _ rfl _ _ 22 rfl _ _ _ w1 rfl rfl hr ?_) | (go_at_call 8; refine (sum_call w1 a n c zs hz (by omega) hAt1).mono ?_; rintro e w2 ⟨⟨r, rfl⟩, rfl⟩))
  go_loopw [3, 5] (fun v i wr => ∃ (k : Nat) (ws : List Int), k ≤ 4 ∧ i = .int .i64 k ∧ ws.length = n + k ∧ Own5 w.heap.size wr v ws ∧ But (fun _ => False) w wr) (fun _ i _ => 4 - (intOf i).toNat)
  case atStart => exact ⟨0, zs, Nat.zero_le _, rfl, by simpa using hz, ho, hb1⟩
  case round =>
    obtain ⟨k, ws, hk, rfl, hws, hown, hbr⟩ := hrel
    have hk0 : (0 : Int) ≤ (k : Int) := Int.natCast_nonneg _
    clear ho hb hb1 hAt1 hr hAt
    rcases Nat.lt_or_ge k 4 with hkn | hkn
    · have hks : k = 0 ∨ k = 1 ∨ k = 2 ∨ k = 3 := by omega
      have hbase := hbr.size
      have h63 : ws.length + 1 ≤ maxLen := by unfold maxLen; omega
      have hby : (ws.length + 1) * 1 ≤ 140737488355328 := by omega
      rcases hks with rfl | rfl | rfl | rfl
      · go_wp2_with (at_builtin; refine wpList_append_own _ rfl (.tmp 14) (.tmp 20) 22 rfl w.heap.size 5 i0 _ 1 1 Tryz.underlying22 hi0 hz0 hz1 hz2 rfl (by omega) _ ws.length (ws.map (Value.int .u8)) rfl (hown.own.alloc _) ⟨wr.heap.size, 0, none⟩ 1 1 [.int .u8 _] rfl rfl (World.news_of_block (cs := #[.int .u8 _]) (t := 5) (fr := (0, 0)) (heap_alloc_new wr _)) (by simp [Value.oneCell']) h63 hby (by simp; omega) ?_; intro v' w1 hown1 hgrow _)
        have hown2 := Own5.push hown hown1 (by omega)
        have hb2 : But (fun _ => False) w w1 := (hbr.alloc _).grown hgrow fun k hk hlt => by have := (hown.own.lt k hk).1; omega
        go_roundw
        case rel => exact ⟨1, _, by omega, by go_num, by simp; omega, hown2, hb2⟩
        case measure => simp [intOf]
      · go_wp2_with (at_builtin; refine wpList_append_own _ rfl (.tmp 14) (.tmp 20) 22 rfl w.heap.size 5 i0 _ 1 1 Tryz.underlying22 hi0 hz0 hz1 hz2 rfl (by omega) _ ws.length (ws.map (Value.int .u8)) rfl (hown.own.alloc _) ⟨wr.heap.size, 0, none⟩ 1 1 [.int .u8 _] rfl rfl (World.news_of_block (cs := #[.int .u8 _]) (t := 5) (fr := (0, 0)) (heap_alloc_new wr _)) (by simp [Value.oneCell']) h63 hby (by simp; omega) ?_; intro v' w1 hown1 hgrow _)
        have hown2 := Own5.push hown hown1 (by omega)
        have hb2 : But (fun _ => False) w w1 := (hbr.alloc _).grown hgrow fun k hk hlt => by have := (hown.own.lt k hk).1; omega
        go_roundw
        case rel => exact ⟨2, _, by omega, by go_num, by simp; omega, hown2, hb2⟩
        case measure => simp [intOf]
      · go_wp2_with (at_builtin; refine wpList_append_own _ rfl (.tmp 14) (.tmp 20) 22 rfl w.heap.size 5 i0 _ 1 1 Tryz.underlying22 hi0 hz0 hz1 hz2 rfl (by omega) _ ws.length (ws.map (Value.int .u8)) rfl (hown.own.alloc _) ⟨wr.heap.size, 0, none⟩ 1 1 [.int .u8 _] rfl rfl (World.news_of_block (cs := #[.int .u8 _]) (t := 5) (fr := (0, 0)) (heap_alloc_new wr _)) (by simp [Value.oneCell']) h63 hby (by simp; omega) ?_; intro v' w1 hown1 hgrow _)
        have hown2 := Own5.push hown hown1 (by omega)
        have hb2 : But (fun _ => False) w w1 := (hbr.alloc _).grown hgrow fun k hk hlt => by have := (hown.own.lt k hk).1; omega
        go_roundw
        case rel => exact ⟨3, _, by omega, by go_num, by simp; omega, hown2, hb2⟩
        case measure => simp [intOf]
      · go_wp2_with (at_builtin; refine wpList_append_own _ rfl (.tmp 14) (.tmp 20) 22 rfl w.heap.size 5 i0 _ 1 1 Tryz.underlying22 hi0 hz0 hz1 hz2 rfl (by omega) _ ws.length (ws.map (Value.int .u8)) rfl (hown.own.alloc _) ⟨wr.heap.size, 0, none⟩ 1 1 [.int .u8 _] rfl rfl (World.news_of_block (cs := #[.int .u8 _]) (t := 5) (fr := (0, 0)) (heap_alloc_new wr _)) (by simp [Value.oneCell']) h63 hby (by simp; omega) ?_; intro v' w1 hown1 hgrow _)
        have hown2 := Own5.push hown hown1 (by omega)
        have hb2 : But (fun _ => False) w w1 := (hbr.alloc _).grown hgrow fun k hk hlt => by have := (hown.own.lt k hk).1; omega
        go_roundw
        case rel => exact ⟨4, _, by omega, by go_num, by simp; omega, hown2, hb2⟩
        case measure => simp [intOf]
    · obtain rfl : k = 4 := by omega
      go_wp2_with fail
      go_ret
      exact ⟨_, ws, rfl, hws, hown, hbr⟩
end Go.Proofs.YtlckcnkognnlpaaGreatDoor
end
section
namespace Go.Proofs.YtlckcnkognnlpaaGreatDoor
open Go.RowKit
set_option maxRecDepth 100000
attribute [local go_sem ↓] Go.wp_at_zero Go.wp_at_succ

theorem conv_at {w : World} {p o n c : Nat} {zs : List Int} (hz : zs.length = n) (h : At w (some ⟨p, o, none⟩) zs) :
    (convert 22 9 (.slice (some ⟨p, o, none⟩) n c)).run Tryz.prog w = .ok (.string (strOfNums zs)) w :=
  run_convert_bytes_arg w 22 5 Tryz.underlying22 (by kernel_rfl) p o n c zs hz (fun i hi => by
    obtain ⟨ad, h1, h2⟩ := h.2 i (by omega)
    obtain rfl := Option.some.inj h1
    have e : (⟨p, o, none⟩ : Addr).add i = ⟨p, o + i, none⟩ := by unfold Addr.add; split <;> simp_all
    rwa [e] at h2) 9 (by kernel_rfl)

theorem At.take {w : World} {a : Option Addr} {zs : List Int} (h : At w a zs) (k : Nat) : At w a (zs.take k) :=
  ⟨fun z hz => h.1 z (List.mem_of_mem_take hz), fun i hi => by
    have : i < zs.length := by simp at hi; omega
    obtain ⟨ad, h1, h2⟩ := h.2 i this
    refine ⟨ad, h1, h2.trans ?_⟩
    simp at hi
    simp [List.getD, hi, this]⟩

theorem But.drewN {S : Nat → Prop} {a w : World} (h : But S a w) (n : Nat) : But S a (w.drewN n) := ⟨h.os, h.tape, h.output, h.size, h.block⟩

theorem opened_few (w : World) (a : Option Addr) (n c : Nat) (hn : n < 4) :
    Calls Tryz.prog 16 #[.slice a n c] w fun e w' => e = .returned (.tuple #[.slice none 0 0, .bool false]) ∧ But (fun _ => False) w w' := by
  have hlt : (n : Int) - 4 < 0 := by omega
  have hn0 : (0 : Int) ≤ n := by omega
  go_enter Tryz.func16, Tryz.ntmps16
  go_wp2_with fail
  go_quiet (fail)
  go_wp2_with fail
  go_ret2
  exact ⟨rfl, But.drewN (But.refl _ _) _⟩

def OpenedPost (w : World) (N : Nat) (e : Ending) (w' : World) : Prop := ∃ v ws ok, e = .returned (.tuple #[v, .bool ok]) ∧ (ok = true → ws.length = N) ∧ Own5 w.heap.size w' v ws ∧ But (fun _ => False) w w'

set_option maxHeartbeats 1600000 in
theorem opened_call (w : World) (p o N c : Nat) (zs : List Int) (hz : zs.length = N + 4) (hc : N + 4 ≤ c) (hc2 : c ≤ maxLen) (hn : N < 10000000) (hAt : At w (some ⟨p, o, none⟩) zs) :
    Calls Tryz.prog 16 #[.slice (some ⟨p, o, none⟩) ((N + 4 : Nat)) c] w fun e w' => OpenedPost w N e w' := by
  have k1 : (0 : Int) ≤ (N : Int) := Int.natCast_nonneg _
  have k2 : (N : Int) ≤ (c : Int) := by omega
  have hc0 : c ≤ 9223372036854775807 := by unfold maxLen at hc2; omega
  have S1 := sealed_call w.drew (some ⟨p, o, none⟩) N c (zs.take N) (by simp; omega) (by omega) (by simp) (hAt.take N)
  have C0 : (convert 22 9 (.slice (some ⟨p, o, none⟩) (N + 4) c)).run Tryz.prog w.drew = .ok (.string (strOfNums zs)) w.drew := conv_at hz (hAt.but (But.refl (fun _ => False) w).drew (by simp))
  have S2 : Calls Tryz.prog 12 #[.slice (some ⟨p, o, none⟩) N c] w.drew fun e w2 => ∃ g cap ws, e = .returned (.slice (some ⟨g, 0, none⟩) (N + 4) cap) ∧
      (convert 22 9 (.slice (some ⟨p, o, none⟩) (N + 4) c)).run Tryz.prog w2 = .ok (.string (strOfNums zs)) w2 ∧
      (convert 22 9 (.slice (some ⟨g, 0, none⟩) (N + 4) cap)).run Tryz.prog w2 = .ok (.string (strOfNums ws)) w2 ∧ At w2 (some ⟨p, o, none⟩) zs ∧ But (fun _ => False) w w2 := by
    refine S1.mono ?_
    rintro e w2 ⟨v, ws, rfl, hws, ho, hb⟩
    have hb2 : But (fun _ => False) w w2 := (But.refl _ w).drew.trans hb (by simp)
    obtain ⟨g, cap, hv, -, -⟩ := ho.own.form (by omega)
    obtain ⟨o', c', hv', -, -, hA', -⟩ := ho.at
    rw [hv] at hv'
    injection hv' with q1 q2 q3
    subst q1
    refine ⟨g, cap, ws, by rw [hv, hws], conv_at hz (hAt.but hb2 (by simp)), conv_at hws hA', hAt.but hb2 (by simp), hb2⟩
  clear S1 hAt
  go_enter Tryz.func16, Tryz.ntmps16
  go_wp2_with fail
  go_region_with (go_at_call 12; refine S2.mono ?_; rintro e w2 ⟨g, cap, ws, rfl, D0, D1, hA2, hb2⟩)
  all_goals
    obtain ⟨v', w3, hr, ho, hb3⟩ := append_run w2 w.heap.size _ [] (Own5.nil _ _) (some ⟨p, o, none⟩) N c (zs.take N) (by simp; omega) (by simp; omega) (by simp) (hA2.take N) hb2.size 22
    have hb4 : But (fun _ => False) w w3 := hb2.low hb3 (Nat.le_refl _)
    simp only [List.nil_append] at ho
    have hlen : (zs.take N).length = N := by simp; omega
    clear D0 D1 hA2 C0 S2
    go_wp2_with (at_builtin; refine wpList_append_run _ rfl _ _ 22 rfl _ _ _ w3 rfl rfl hr ?_)
    · go_ret2
      exact ⟨_, [], false, rfl, by simp, Own5.nil _ _, hb2⟩
    · go_ret2
      exact ⟨_, _, true, rfl, fun _ => hlen, ho, hb4⟩
end Go.Proofs.YtlckcnkognnlpaaGreatDoor
end
section
namespace Go.Proofs.YtlckcnkognnlpaaGreatDoor
open Go.RowKit
set_option maxRecDepth 100000

theorem Own5.mono {B B' : Nat} {w : World} {v : Value} {ws : List Int} (h : Own5 B w v ws) (hB : B' ≤ B) : Own5 B' w v ws := by
  refine ⟨?_, h.b⟩
  obtain ⟨q1, q2⟩ := h.own
  refine ⟨q1, ?_⟩
  rcases q2 with q2 | ⟨g, cap, cur, p1, p2, p3⟩
  · exact .inl q2
  · exact .inr ⟨g, cap, cur, p1, Nat.le_trans hB p2, p3⟩

end Go.Proofs.YtlckcnkognnlpaaGreatDoor
end
section
namespace Go.Proofs.YtlckcnkognnlpaaGreatDoor
open Go.RowKit
set_option maxRecDepth 100000
attribute [local go_sem ↓] Go.wp_at_zero Go.wp_at_succ

theorem Own5.other {B : Nat} {w w' : World} {x : Value} {ws : List Int} (h : Own5 B w x ws) {row : Option Nat} (hg : w.grownBy w' row)
    (hr : ∀ k, row = some k → ∃ cs e fr, w.heap[k]? = some (.cells cs e fr) ∧ e ≠ 5) : Own5 B w' x ws := by
  refine ⟨h.own.kept hg ?_, h.b⟩
  rcases h.own.2 with ⟨hv, -⟩ | ⟨g, cap, cur, hv, -, hgg, -⟩
  · left; rw [hv]; rfl
  · right
    intro e
    rw [hv] at e
    obtain ⟨cs, el, fr, h1, h2⟩ := hr g e.symm
    rw [hgg] at h1
    injection h1 with h1
    injection h1 with q1 q2 q3
    exact h2 q2.symm

/-- What a call of the claim hands back: one closure over one variable, which holds v. -/
structure Clo (f : FuncId) (t : TypeId) (B : Nat) (w : World) (G A : Nat) (v : Value) : Prop where
  newG : B ≤ G
  newA : B ≤ A
  row : w.heap[G]? = some (.cells #[.func (.func f) #[] #[.pointer (some ⟨A, 0, none⟩)]] 38 (0, 0))
  var : w.heap[A]? = some (.cells #[v] t (0, 0))

theorem Row5.at {w : World} {g : Nat} {zs : List Int} (h : Row5 w g zs) : At w (some ⟨g, 0, none⟩) zs :=
  ⟨h.2, fun i hi => by
    refine ⟨_, rfl, ?_⟩
    have e : (⟨g, 0, none⟩ : Addr).add i = ⟨g, i, none⟩ := by unfold Addr.add; split <;> simp_all
    rw [e, cell_of_row _ _ i _ _ _ h.1]
    simp [hi]⟩

theorem clo_of {B : Nat} {w1 : World} (f : FuncId) (t : TypeId) (v : Value) (hB : B ≤ w1.heap.size) :
    Clo f t B ((w1.alloc (.cells #[v] t)).alloc (.cells #[.func (.func f) #[] #[.pointer (some ⟨w1.heap.size, 0, none⟩)]] 38)) (w1.heap.size + 1) w1.heap.size v := by
  have hs : (w1.alloc (.cells #[v] t)).heap.size = w1.heap.size + 1 := by simp
  refine ⟨by omega, hB, ?_, ?_⟩
  · rw [← hs]; exact heap_alloc_new _ _
  · rw [Below.heap_alloc _ _ _ (by simp)]; exact heap_alloc_new _ _

theorem clo_of2 {B : Nat} {w1 : World} {S : Nat} {v0 : Value} {t : TypeId} (f : FuncId) (v : Value) (h : w1.heap[S]? = some (.cells #[v0] t (0, 0))) (hB : B ≤ S) :
    Clo f t B ((w1.setCell ⟨S, 0, none⟩ v).alloc (.cells #[.func (.func f) #[] #[.pointer (some ⟨S, 0, none⟩)]] 38)) w1.heap.size S v := by
  have hs := size_setCell w1 ⟨S, 0, none⟩ v
  have hl := lt_of_block h
  refine ⟨by omega, hB, ?_, ?_⟩
  · rw [← hs]; exact heap_alloc_new _ _
  · rw [Below.heap_alloc _ _ _ (by omega)]; exact one_setCell h
theorem grownBy_setCell (w : World) (a : Addr) (u : Value) : w.grownBy (w.setCell a u) (some a.block) :=
  ⟨rfl, rfl, rfl, by simp [World.setCell], fun k _ hne => Below.heap_setCell w a u k (fun e => hne (by rw [e]))⟩

end Go.Proofs.YtlckcnkognnlpaaGreatDoor
end
section
namespace Go.Proofs.YtlckcnkognnlpaaGreatDoor
open Go.RowKit
set_option maxRecDepth 100000
theorem fin_k (z : Int) (h : 0 ≤ z ∧ z ≤ 300) : ∃ k : Nat, k ≤ 300 ∧ Ending.returned (.int .i64 z) = .returned (.int .i64 (k : Int)) := ⟨z.toNat, by omega, by rw [Int.toNat_of_nonneg h.1]⟩
theorem wr_c (b : UInt8) (c : Int) (h : 0 ≤ c ∧ c ≤ 24) : 0 ≤ wrap64 (c + wrap64 (b.toNat : Int)) ∧ wrap64 (c + wrap64 (b.toNat : Int)) ≤ 300 := by
  have := b.toNat_lt
  simp only [wrap64]; omega
theorem wr_0 (b : UInt8) : 0 ≤ wrap64 (wrap64 (b.toNat : Int)) ∧ wrap64 (wrap64 (b.toNat : Int)) ≤ 300 := by
  have := b.toNat_lt
  simp only [wrap64]; omega
set_option maxHeartbeats 1600000 in
theorem len32_call (w : World) (x : Int) (hx : 0 ≤ x ∧ x < 4294967296) :
    Calls Tryz.prog 31 #[.int .u32 x] w fun e w' => (∃ k : Nat, k ≤ 300 ∧ e = .returned (.int .i64 k)) ∧ w = w' := by
  rcases Int.lt_or_le x 65536 with h1 | h1
  · rcases Int.lt_or_le x 256 with h2 | h2
    · go_enter Tryz.func31, Tryz.ntmps31
      go_wp2_with fail
      go_ret
      exact ⟨fin_k _ (wr_0 _), rfl⟩
    · have h3 : 0 ≤ x / 256 ∧ x / 256 < 256 := by omega
      obtain ⟨h3, h4⟩ := h3
      go_enter Tryz.func31, Tryz.ntmps31
      go_wp2_with fail
      go_ret
      exact ⟨fin_k _ (wr_c _ _ (by omega)), rfl⟩
  · have h5 : 0 ≤ x / 65536 ∧ x / 65536 < 65536 := by omega
    obtain ⟨h5, h6⟩ := h5
    rcases Int.lt_or_le (x / 65536) 256 with h2 | h2
    · go_enter Tryz.func31, Tryz.ntmps31
      go_wp2_with fail
      go_ret
      exact ⟨fin_k _ (wr_c _ _ (by omega)), rfl⟩
    · have h3 : 0 ≤ x / 65536 / 256 ∧ x / 65536 / 256 < 256 := by omega
      obtain ⟨h3, h4⟩ := h3
      go_enter Tryz.func31, Tryz.ntmps31
      go_wp2_with fail
      trace_state
      go_ret
      exact ⟨fin_k _ (wr_c _ _ (by omega)), rfl⟩
end Go.Proofs.YtlckcnkognnlpaaGreatDoor
end
section
namespace Go.Proofs.YtlckcnkognnlpaaGreatDoor
open Go.RowKit
set_option maxRecDepth 100000
attribute [local go_sem ↓] Go.wp_at_zero Go.wp_at_succ

def BurstPost (w : World) (n : Nat) (e : Ending) (w' : World) : Prop := ∃ v ws x, e = .returned (.tuple #[v, .int .i64 x]) ∧ Own5 w.heap.size w' v ws ∧ ws.length ≤ n ∧ But (fun _ => False) w w'

theorem Own5.store {B : Nat} {w : World} {g n cap q : Nat} {ws : List Int} {z : Int} (h : Own5 B w (.slice (some ⟨g, 0, none⟩) n cap) ws) (hn : ws.length = n) (hq : q < n) (hz : 0 ≤ z ∧ z < 256) :
    Own5 B (w.setCell ⟨g, q, none⟩ (.int .u8 z)) (.slice (some ⟨g, 0, none⟩) n cap) (ws.set q z) := by
  refine ⟨⟨by simp, ?_⟩, fun y hy => ?_⟩
  · rcases h.own.2 with ⟨hv, -⟩ | ⟨g', cap', cur, hv, q0, q1, q2, q3, q4, q5⟩
    · cases hv
    · cases hv
      refine .inr ⟨g, cap, cur.setIfInBounds q (.int .u8 z), by simp, q0, heap_setCell_same q1 _, by simpa using q2, q3, by simpa using q4, ?_⟩
      rw [List.length_set, Array.toList_setIfInBounds, List.take_set, q5, List.map_set]
  · rcases List.mem_or_eq_of_mem_set hy with h0 | h0
    · exact h.b y h0
    · rw [h0]; exact hz

set_option maxHeartbeats 3200000 in
theorem burst_call (w : World) (p o n c : Nat) (t u : Int) (zs : List Int) (hz : zs.length = n) (hn : n ≤ 10000) (hA : At w (some ⟨p, o, none⟩) zs) (ht : -9223372036854775808 ≤ t ∧ t < 9223372036854775808) (hu : 0 ≤ u ∧ u < 4294967296) :
    Calls Tryz.prog 19 #[.slice (some ⟨p, o, none⟩) n c, .int .i64 t, .int .u32 u] w fun e w' => BurstPost w n e w' := by
  have LC := len32_call w u hu
  obtain ⟨v1, w1, hr, ho, hb⟩ := append_run w w.heap.size _ [] (Own5.nil _ _) (some ⟨p, o, none⟩) n c zs hz (by simp; omega) (by simp) hA (Nat.le_refl _) 22
  have hb1 : But (fun _ => False) w w1 := (But.refl _ _).low hb (Nat.le_refl _)
  simp only [List.nil_append] at ho
  have hn0 : (0 : Int) ≤ (n : Int) := Int.natCast_nonneg _
  have hn1 : (n : Int) ≤ 10000 := by omega
  rcases Int.lt_or_le t 0 with hneg | hpos
  · go_enter Tryz.func19, Tryz.ntmps19
    go_wp2_with fail
    refine LC.mono ?_
    rintro e w2 ⟨⟨k, hk, rfl⟩, rfl⟩
    have hk0 : (0 : Int) ≤ (k : Int) := Int.natCast_nonneg _
    have hk1 : (k : Int) ≤ 300 := by omega
    clear LC
    go_wp2_with fail
    go_ret2
    exact ⟨_, [], 2, rfl, Own5.nil _ _, by simp, But.refl _ _⟩
  · go_enter Tryz.func19, Tryz.ntmps19
    go_wp2_with fail
    refine LC.mono ?_
    rintro e w2 ⟨⟨k, hk, rfl⟩, rfl⟩
    have hk0 : (0 : Int) ≤ (k : Int) := Int.natCast_nonneg _
    have hk1 : (k : Int) ≤ 300 := by omega
    clear LC
    rcases Nat.eq_zero_or_pos k with hkz | hkp
    · subst hkz
      go_wp2_with (at_builtin; refine wpList_append_run _ rfl (.const _) (.tmp 30) 22 rfl _ _ _ w1 rfl rfl hr ?_)
      refine wp_loop_rounds 1 ?_
      rw [rounds_succ]
      go_wp2_with fail
      go_ret2
      exact ⟨_, zs, 0, rfl, ho, by omega, hb1⟩
    · have hkp' : (1 : Int) ≤ (k : Int) := by omega
      rcases Int.lt_or_le (8 * (n : Int) - 1 - ((k : Int) - 1)) t with hbig | hin
      · go_wp2_with fail
        go_ret2
        exact ⟨_, [], 2, rfl, Own5.nil _ _, by simp, But.refl _ _⟩
      · obtain ⟨T, rfl⟩ : ∃ T : Nat, t = (T : Int) := ⟨t.toNat, by omega⟩
        obtain ⟨g, cap, hv1, -, -⟩ := ho.own.form (by omega)
        rw [hz] at hv1
        subst hv1
        have hTk : (T : Int) + (k : Int) ≤ 8 * (n : Int) := by omega
        go_wp2_with (at_builtin; refine wpList_append_run _ rfl (.const _) (.tmp 30) 22 rfl _ _ _ w1 rfl rfl hr ?_)
        clear hr hA
        go_loopw [10] (fun i wr => ∃ (j : Nat) (ws : List Int), j ≤ k ∧ i = .int .i64 j ∧ ws.length = n ∧ Own5 w.heap.size wr (.slice (some ⟨g, 0, none⟩) n cap) ws ∧ But (fun _ => False) w wr) (fun i _ => k - (intOf i).toNat)
        case atStart => exact ⟨0, zs, Nat.zero_le _, rfl, hz, ho, hb1⟩
        case round =>
          clear ho hb1 hb
          obtain ⟨j, ws, hj, rfl, hws, hown, hbr⟩ := hrel
          have hj0 : (0 : Int) ≤ (j : Int) := Int.natCast_nonneg _
          rcases Nat.lt_or_ge j k with hjk | hjk
          · have hji : (j : Int) ≤ (k : Int) - 1 := by omega
            have hq : (T + j) / 8 < n := by omega
            have hQ0 : (0 : Int) ≤ ((T : Int) + (j : Int)) / 8 := by omega
            have hQ1 : ((T : Int) + (j : Int)) / 8 < (n : Int) := by omega
            have hQ2 : (((T : Int) + (j : Int)) / 8).toNat = (T + j) / 8 := by omega
            obtain ⟨cur, hg, hlen, hcur⟩ : ∃ cur : Array Value, wr.heap[g]? = some (.cells cur 5 (0, 0)) ∧ n ≤ cur.size ∧ cur.toList.take n = ws.map (Value.int .u8) := by
              rcases hown.own.2 with ⟨hv, -⟩ | ⟨g', cap', cur, hv, -, q1, q2, -, q4, q5⟩
              · cases hv
              · cases hv
                exact ⟨cur, q1, by omega, by rw [← q5, hws]; simp⟩
            have hcell : wr.cell? ⟨g, (T + j) / 8, none⟩ = some (.int .u8 (ws.getD ((T + j) / 8) 0)) := by
              rw [cell_of_row _ _ _ _ _ _ hg]
              have h5 : (cur.toList.take n)[(T + j) / 8]? = some (.int .u8 (ws.getD ((T + j) / 8) 0)) := by rw [hcur]; simp [show (T + j) / 8 < ws.length from by omega]
              rw [List.getElem?_take, if_pos hq] at h5
              simpa using h5
            have hfr : wr.frozen? ⟨g, (T + j) / 8, none⟩ = false := by simp [World.frozen?, hg]
            go_wp2_with fail
            · go_region
              all_goals
                have hst := Own5.store (q := (T + j) / 8) (z := bits BinOp.xor IntKind.u8 (ws.getD ((T + j) / 8) 0) (2 ^ ((T + j) % 8) % 256)) hown hws hq ⟨bits_lo_u8 _ _ _, by have := bits_hi_u8 BinOp.xor (ws.getD ((T + j) / 8) 0) (2 ^ ((T + j) % 8) % 256); omega⟩
                have hb4 : But (fun _ => False) w (wr.setCell ⟨g, (T + j) / 8, none⟩ (.int .u8 (bits BinOp.xor IntKind.u8 (ws.getD ((T + j) / 8) 0) (2 ^ ((T + j) % 8) % 256)))) := hbr.setCell (fun h => by have := (hown.own.lt g rfl).1; simp at h; omega) _
                have hget : ws.getD ((T + j) / 8) 0 = ws[(T + j) / 8]'(by omega) := by simp [List.getD, show (T + j) / 8 < ws.length from by omega]
                rw [hget] at hst hb4
                clear hcell hfr hg hlen hcur hget
                go_wp2_with fail
                go_roundw
                case rel => exact ⟨j + 1, _, by omega, by go_num, by simpa using hws, hst.but (But.refl _ _).drew, hb4.drew⟩
                case measure => simp [intOf]; omega
            · clear hcell hfr hg hlen hcur
              go_roundw
              case rel => exact ⟨j + 1, ws, by omega, by go_num, hws, hown, hbr⟩
              case measure => simp [intOf]; omega
          · obtain rfl : j = k := by omega
            have hend : ((j : Int) ≤ (j : Int) - 1) = False := eq_false (by omega)
            go_wp2_with fail
            go_ret2
            exact ⟨_, ws, 0, rfl, hown, by omega, hbr⟩
end Go.Proofs.YtlckcnkognnlpaaGreatDoor
end
