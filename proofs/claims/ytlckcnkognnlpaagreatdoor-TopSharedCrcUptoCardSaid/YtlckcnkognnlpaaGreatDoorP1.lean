/-
  Walks of the functions that apart reaches (num, all, nums, look, same, alike, copied, own, see, the functions of crc): each by a contract; at the end the call of apart itself with any byte slice and any three numbers: it returns true and turns no old memory.
-/
import Derived.WalkKit
import Derived.Deep.AppendLies
import Derived.Test.YtlckcnkognnlpaaGreatDoorProg
import Derived.Deep.RegionHeld3
import Derived.Deep.RegionLaw
import Derived.Deep.DrawnRows
import Derived.KernelRfl
set_option linter.all false
set_option linter.unusedVariables false
set_option linter.unusedSimpArgs false
section
namespace Go.Proofs.YtlckcnkognnlpaaGreatDoor
open Go.RowKit

/-- Of the blocks that were there, those alone that S names may have turned. -/
structure But (S : Nat → Prop) (w w' : World) : Prop where
  os : w'.os = w.os
  tape : w'.tape = w.tape
  output : w'.output = w.output
  size : w.heap.size ≤ w'.heap.size
  block : ∀ k, k < w.heap.size → ¬ S k → w'.heap[k]? = w.heap[k]?

namespace But
theorem refl (S : Nat → Prop) (w : World) : But S w w := ⟨rfl, rfl, rfl, Nat.le_refl _, fun _ _ _ => rfl⟩
theorem trans {S S' : Nat → Prop} {a b c : World} (h : But S a b) (k : But S' b c) (hs : ∀ i, i < a.heap.size → S' i → S i) : But S a c :=
  ⟨k.os.trans h.os, k.tape.trans h.tape, k.output.trans h.output, Nat.le_trans h.size k.size, fun i hi hn => (k.block i (Nat.lt_of_lt_of_le hi h.size) (fun e => hn (hs i hi e))).trans (h.block i hi hn)⟩
theorem mono {S S' : Nat → Prop} {a b : World} (h : But S a b) (hs : ∀ i, i < a.heap.size → S i → S' i) : But S' a b :=
  ⟨h.os, h.tape, h.output, h.size, fun i hi hn => h.block i hi (fun e => hn (hs i hi e))⟩
theorem drew {S : Nat → Prop} {a w : World} (h : But S a w) : But S a w.drew := ⟨h.os, h.tape, h.output, h.size, h.block⟩
theorem alloc {S : Nat → Prop} {a w : World} (h : But S a w) (o : Obj) : But S a (w.alloc o) :=
  ⟨h.os, h.tape, h.output, Nat.le_trans h.size (by simp), fun i hi hn => (Below.heap_alloc w o i (Nat.lt_of_lt_of_le hi h.size)).trans (h.block i hi hn)⟩
theorem setCell {S : Nat → Prop} {a w : World} (h : But S a w) {p : Addr} (hp : p.block < a.heap.size → S p.block) (u : Value) : But S a (w.setCell p u) :=
  ⟨h.os, h.tape, h.output, Nat.le_trans h.size (by simp [World.setCell]), fun i hi hn => (Below.heap_setCell w p u i (fun e => hn (e ▸ hp (e ▸ hi)))).trans (h.block i hi hn)⟩
theorem grown {S : Nat → Prop} {a w w' : World} {row : Option Nat} (h : But S a w) (hg : w.grownBy w' row) (hr : ∀ k, row = some k → k < a.heap.size → S k) : But S a w' :=
  ⟨hg.os.trans h.os, hg.tape.trans h.tape, hg.output.trans h.output, Nat.le_trans h.size hg.size,
    fun i hi hn => (hg.block i (Nat.lt_of_lt_of_le hi h.size) (fun e => hn (hr i e.symm hi))).trans (h.block i hi hn)⟩
theorem below {S : Nat → Prop} {B : Nat} {a w : World} (h : But S a w) (hB : B ≤ a.heap.size) (hs : ∀ k, k < B → ¬ S k) : Below B a w :=
  ⟨h.os, h.tape, h.output, h.size, fun k hk => h.block k (Nat.lt_of_lt_of_le hk hB) (hs k hk)⟩
theorem cell {S : Nat → Prop} {a w : World} (h : But S a w) {p : Addr} (hp : p.block < a.heap.size) (hn : ¬ S p.block) : w.cell? p = a.cell? p := World.cell?_of_block (h.block p.block hp hn)
theorem to {S : Nat → Prop} {a w : World} (h : But S a w) {k : Nat} {o : Obj} (hk : a.heap[k]? = some o) (hn : ¬ S k) : w.heap[k]? = some o := by
  rw [h.block k (lt_of_block hk) hn]; exact hk
end But

theorem heap_setCell_same {w : World} {b o : Nat} {cs : Array Value} {e : TypeId} {fr : Nat × Nat} (h : w.heap[b]? = some (.cells cs e fr)) (u : Value) :
    (w.setCell ⟨b, o, none⟩ u).heap[b]? = some (.cells (cs.setIfInBounds o u) e fr) := by
  have hlt := lt_of_block h
  have h' : w.heap[b] = .cells cs e fr := by simpa [Array.getElem?_eq_getElem hlt] using h
  show (w.heap.modify b _)[b]? = _
  rw [Array.getElem?_eq_getElem (by simpa using hlt), Array.getElem_modify_self, h']
  rfl
theorem heap_setCell_far {w : World} {a : Addr} {k : Nat} (h : k ≠ a.block) (u : Value) : (w.setCell a u).heap[k]? = w.heap[k]? := Below.heap_setCell w a u k h
theorem size_setCell (w : World) (a : Addr) (u : Value) : (w.setCell a u).heap.size = w.heap.size := by simp [World.setCell]

/-- An eye's five cells. -/
def eyeCells (v : Value) (mk : Bool) (t : Int) (rm : Bool) : Array Value := #[v, .slice none 0 0, .bool mk, .int .i64 t, .bool rm]
/-- An eye at block b, on its way since the world w0: what it has seen, and what has turned since. -/
structure SeeI (M : Nat → Prop) (w0 : World) (b : Nat) (l : List Int) (mk : Bool) (t : Int) (rm : Bool) (w : World) : Prop where
  but : But (fun k => k = b ∨ M k) w0 w
  old : b < w0.heap.size
  eye : ∃ v, w.heap[b]? = some (.cells (eyeCells v mk t rm) 50 (0, 0)) ∧ w.ownsRow w0.heap.size 3 1 v l.length (l.map (Value.int .i64))

theorem SeeI.start {M : Nat → Prop} {w : World} {b : Nat} {mk rm : Bool} {t : Int} (h : w.heap[b]? = some (.cells (eyeCells (.slice none 0 0) mk t rm) 50 (0, 0))) : SeeI M w b [] mk t rm w :=
  ⟨But.refl _ _, lt_of_block h, _, h, World.ownsRow_nil _ _ _ _⟩

/-- One number more, behind the append: `w1` is the world behind the append, `v'` the new value, which is stored. -/
theorem SeeI.push {M : Nat → Prop} {w0 w1 : World} {b : Nat} {l : List Int} {mk rm : Bool} {t : Int} {v v' : Value} {z : Int}
    (hb : But (fun k => k = b ∨ M k) w0 w1) (old : b < w0.heap.size) (he : w1.heap[b]? = some (.cells (eyeCells v mk t rm) 50 (0, 0)))
    (hown : w1.ownsRow w0.heap.size 3 1 v' (l.length + 1) (l.map (Value.int .i64) ++ [.int .i64 z])) :
    SeeI M w0 b (l ++ [z]) mk t rm (w1.setCell ⟨b, 0, none⟩ v') := by
  refine ⟨hb.setCell (fun _ => .inl rfl) _, old, v', ?_, ?_⟩
  · rw [heap_setCell_same he]; rfl
  · have := ownsRow_setCell_below hown (a := ⟨b, 0, none⟩) old v'
    simpa using this
end Go.Proofs.YtlckcnkognnlpaaGreatDoor
end
section
namespace Go.Proofs.YtlckcnkognnlpaaGreatDoor
open Go.RowKit
set_option maxRecDepth 100000
attribute [local go_sem ↓] Go.wp_at_zero Go.wp_at_succ

theorem info3 : (Tryz.prog.info? 3).map (fun i => (i.zero, i.size, i.bytes)) = some (some (.int .i64 0), 1, 8) := by kernel_rfl

/-- What the five cells of an eye hold, for the walk. -/
theorem eye_cells {w : World} {b : Nat} {v : Value} {mk rm : Bool} {t : Int} (he : w.heap[b]? = some (.cells (eyeCells v mk t rm) 50 (0, 0))) :
    w.cell? ⟨b, 0, none⟩ = some v ∧ w.cell? ⟨b, 2, none⟩ = some (.bool mk) ∧ w.cell? ⟨b, 3, none⟩ = some (.int .i64 t) ∧ w.cell? ⟨b, 4, none⟩ = some (.bool rm) ∧
      (∀ o, w.frozen? ⟨b, o, none⟩ = false) := by
  refine ⟨?_, ?_, ?_, ?_, ?_⟩ <;> simp [World.cell?, World.frozen?, he, eyeCells]

set_option maxHeartbeats 3200000 in
theorem num_read (M : Nat → Prop) (w0 w : World) (b : Nat) (l : List Int) (t : Int) (rm : Bool) (hI : SeeI M w0 b l false t rm w) (xa : Addr) (z : Int)
    (hx : w.cell? xa = some (.int .u8 z)) (hz : 0 ≤ z ∧ z < 256) (hl : l.length < 1000000)
    (hxo : xa.block < w0.heap.size) :
    Calls Tryz.prog 30 #[.pointer (some ⟨b, 0, none⟩), .pointer (some xa)] w fun e w' => e = .returned (.tuple #[]) ∧ SeeI M w0 b (l ++ [z]) false t rm w' := by
  obtain ⟨v, he, hown⟩ := hI.eye
  obtain ⟨i0, hi0, hz0, hz1, hz2⟩ := info_parts info3
  obtain ⟨c0, c2, c3, c4, cf⟩ := eye_cells he
  have f0 := cf 0
  clear cf
  have hne : v.ownBlock ≠ some b := fun e => by have := (hown.lt b e).1; have := hI.old; omega
  have lb := World.block_lt_of_cell? w _ c0
  have lx := World.block_lt_of_cell? w _ hx
  have hnx : v.ownBlock ≠ some xa.block := fun e => by have := (hown.lt _ e).1; omega
  go_enter Tryz.func30, Tryz.ntmps30
  go_wp2_with fail
  have hbase := hI.but.size
  have hwz : IntKind.i64.wrap z = z := by rw [IntKind.wrap_i64]; omega
  have fa : ∀ o : Obj, (w.alloc o).frozen? ⟨b, 0, none⟩ = false := fun o => (World.frozen?_of_block (Below.heap_alloc w o b lb)).trans f0
  have h63 : l.length + 1 ≤ maxLen := by unfold maxLen; omega
  have hby : (l.length + 1) * 8 ≤ 140737488355328 := by omega
  go_region_law ((refine step_append_lies _ (by rfl) _ _ _ (by rfl) w0.heap.size 3 i0 _ 1 8 Tryz.underlying47 hi0 hz0 hz1 hz2 rfl (by omega) v l.length (l.map (Value.int .i64)) (by rfl) ((hown.alloc _).drew) ⟨w.heap.size, 0, none⟩ 1 1 [.int .i64 z] (by rfl) (by rfl) (World.news_of_block (cs := #[.int .i64 z]) (t := 3) (fr := (0, 0)) (heap_alloc_new w _)) (by simp [Value.oneCell']) (by omega) h63 hby (by simp; omega) (w.heap.size + 1) (by simp) ?_; intro gg cap w1 hown1 hgrow hat hlt; have g0 := (hgrow.cell_far ⟨b, 0, none⟩ (by simp; omega) (Ne.symm hne)).trans ((World.cell?_of_block (Below.heap_alloc w (.cells #[.int .i64 z] 3) b lb)).trans c0); have g1 := (hgrow.frozen_far ⟨b, 0, none⟩ (by simp; omega) (Ne.symm hne)).trans (fa (.cells #[.int .i64 z] 3))))
  all_goals
    go_end0
    refine ⟨rfl, SeeI.push (v := v) ((hI.but.alloc _).drew.grown hgrow fun k hk hlt' => ?_) hI.old ?_ hown1⟩
    · have := (hown.lt k hk).1; omega
    · rw [hgrow.block b (by simp; omega) (Ne.symm hne)]
      exact (Below.heap_alloc w _ b lb).trans he
end Go.Proofs.YtlckcnkognnlpaaGreatDoor
end
section
namespace Go.Proofs.YtlckcnkognnlpaaGreatDoor
open Go.RowKit
set_option maxRecDepth 100000
attribute [local go_sem ↓] Go.wp_at_zero Go.wp_at_succ

theorem ownsRow_form {w : World} {base : Nat} {e : TypeId} {size : Nat} {v : Value} {n : Nat} {xs : List Value} (h : w.ownsRow base e size v n xs) : ∃ o c, v = .slice o n c := by
  rcases h.2 with ⟨rfl, rfl⟩ | ⟨g, cap, cur, rfl, _⟩
  · exact ⟨none, 0, rfl⟩
  · exact ⟨_, _, rfl⟩

theorem eye_set3 {w : World} {b : Nat} {v : Value} {mk rm : Bool} {t u' : Int} (he : w.heap[b]? = some (.cells (eyeCells v mk t rm) 50 (0, 0))) :
    (w.setCell ⟨b, 3, none⟩ (.int .i64 u')).heap[b]? = some (.cells (eyeCells v mk u' rm) 50 (0, 0)) := by
  rw [heap_setCell_same he]; rfl

set_option maxHeartbeats 3200000 in
theorem num_mark (M : Nat → Prop) (w0 w : World) (b : Nat) (l : List Int) (t : Int) (rm : Bool) (hI : SeeI M w0 b l true t rm w) (p q : Nat) (cur : Array Value) (x : Value)
    (hx : w.heap[p]? = some (.cells cur 5 (0, 0))) (hq : cur[q]? = some x) (hp : M p) (hpo : p < w0.heap.size) (ht : 0 ≤ t ∧ t < 1000000000000) (hl : l.length < 1000000) :
    Calls Tryz.prog 30 #[.pointer (some ⟨b, 0, none⟩), .pointer (some ⟨p, q, none⟩)] w fun e w' => e = .returned (.tuple #[]) ∧
      ∃ z, 0 ≤ z ∧ z < 256 ∧ w'.heap[p]? = some (.cells (cur.setIfInBounds q (.int .u8 z)) 5 (0, 0)) ∧ SeeI M w0 b (l ++ [z]) true (t + 1) rm w' ∧ But (fun k => k = b ∨ k = p ∨ w0.heap.size ≤ k) w w' := by
  obtain ⟨v, he, hown⟩ := hI.eye
  obtain ⟨i0, hi0, hz0, hz1, hz2⟩ := info_parts info3
  have hpb : p ≠ b := fun e => by rw [e, he] at hx; simp at hx
  obtain ⟨z, hz⟩ : ∃ z, z = (t + 1) % 256 := ⟨_, rfl⟩
  have hzb : 0 ≤ z ∧ z < 256 := by omega
  -- the world behind the two stores
  obtain ⟨w2, hw2⟩ : ∃ w2, w2 = (w.setCell ⟨b, 3, none⟩ (.int .i64 (t + 1))).setCell ⟨p, q, none⟩ (.int .u8 z) := ⟨_, rfl⟩
  have he2 : w2.heap[b]? = some (.cells (eyeCells v true (t + 1) rm) 50 (0, 0)) := by
    rw [hw2, heap_setCell_far (by simpa using hpb.symm)]; exact eye_set3 he
  have hown1 : (w.setCell ⟨b, 3, none⟩ (.int .i64 (t + 1))).ownsRow w0.heap.size 3 1 v l.length (l.map (Value.int .i64)) := ownsRow_setCell_below hown (a := ⟨b, 3, none⟩) hI.old _
  have hown2 : w2.ownsRow w0.heap.size 3 1 v l.length (l.map (Value.int .i64)) := by rw [hw2]; exact ownsRow_setCell_below hown1 (a := ⟨p, q, none⟩) hpo _
  have hb2 : But (fun k => k = b ∨ M k) w0 w2 := by rw [hw2]; exact (hI.but.setCell (fun _ => .inl rfl) _).setCell (fun _ => .inr hp) _
  have hb3 : But (fun k => k = b ∨ k = p ∨ w0.heap.size ≤ k) w w2 := by rw [hw2]; exact ((But.refl _ _).setCell (fun _ => .inl rfl) _).setCell (fun _ => .inr (.inl rfl)) _
  have hp2 : w2.heap[p]? = some (.cells (cur.setIfInBounds q (.int .u8 z)) 5 (0, 0)) := by
    rw [hw2]; exact heap_setCell_same (by rw [heap_setCell_far (by simpa using hpb)]; exact hx) _
  obtain ⟨c0, c2, c3, c4, cf⟩ := eye_cells he
  have f3 := cf 3
  have fp : w.frozen? ⟨p, q, none⟩ = false := by simp [World.frozen?, hx]
  have cp : w.cell? ⟨p, q, none⟩ = some x := by simp [World.cell?, hx, hq]
  clear cf
  obtain ⟨d0, d2, d3, d4, df⟩ := eye_cells he2
  have f0 := df 0
  clear df
  have hqs : q < cur.size := (Array.getElem?_eq_some_iff.1 hq).1
  have cx : w2.cell? ⟨p, q, none⟩ = some (.int .u8 z) := by simp [World.cell?, hp2, hqs]
  have hne : v.ownBlock ≠ some b := fun e => by have := (hown.lt b e).1; have := hI.old; omega
  have hnx : v.ownBlock ≠ some p := fun e => by have := (hown.lt p e).1; omega
  have lb : b < w2.heap.size := lt_of_block he2
  have lx : p < w2.heap.size := lt_of_block hp2
  have hbase := hb2.size
  have hwz : IntKind.i64.wrap z = z := by rw [IntKind.wrap_i64]; omega
  have hwu : IntKind.u8.wrap (t + 1) = z := by rw [hz, IntKind.wrap_u8]
  have fa : ∀ o : Obj, (w2.alloc o).frozen? ⟨b, 0, none⟩ = false := fun o => (World.frozen?_of_block (Below.heap_alloc w2 o b lb)).trans f0
  have h63 : l.length + 1 ≤ maxLen := by unfold maxLen; omega
  have hby : (l.length + 1) * 8 ≤ 140737488355328 := by omega
  have HW : Hid (w2 = (w.setCell ⟨b, 3, none⟩ (.int .i64 (t + 1))).setCell ⟨p, q, none⟩ (.int .u8 z)) := hw2
  clear hw2 hz
  go_enter Tryz.func30, Tryz.ntmps30
  go_wp2_with fail
  rw [← HW.out]
  clear c0 c2 c3 c4 f3 fp cp hown hown1 hx hq he
  go_region_law ((refine step_append_lies _ (by rfl) _ _ _ (by rfl) w0.heap.size 3 i0 _ 1 8 Tryz.underlying47 hi0 hz0 hz1 hz2 rfl (by omega) v l.length (l.map (Value.int .i64)) (by rfl) ((hown2.alloc _).drew) ⟨w2.heap.size, 0, none⟩ 1 1 [.int .i64 z] (by rfl) (by rfl) (World.news_of_block (cs := #[.int .i64 z]) (t := 3) (fr := (0, 0)) (heap_alloc_new w2 _)) (by simp [Value.oneCell']) (by omega) h63 hby (by simp; omega) (w2.heap.size + 1) (by simp) ?_; intro gg cap w1 hown1 hgrow hat hlt; have g0 := (hgrow.cell_far ⟨b, 0, none⟩ (by simp; omega) (Ne.symm hne)).trans ((World.cell?_of_block (Below.heap_alloc w2 (.cells #[.int .i64 z] 3) b lb)).trans d0); have g1 := (hgrow.frozen_far ⟨b, 0, none⟩ (by simp; omega) (Ne.symm hne)).trans (fa (.cells #[.int .i64 z] 3))))
  all_goals
    go_end0
    refine ⟨rfl, z, hzb.1, hzb.2, ?_, SeeI.push (v := v) ((hb2.alloc _).drew.grown hgrow fun k hk hlt' => ?_) hI.old ?_ hown1, ((hb3.alloc _).drew.grown hgrow fun k hk hlt' => .inr (.inr (hown2.lt k hk).1)).setCell (fun _ => .inl rfl) _⟩
    · rw [heap_setCell_far (by simpa using hpb), hgrow.block p (by simp; omega) (Ne.symm hnx)]
      exact (Below.heap_alloc w2 _ p lx).trans hp2
    · have := (hown2.lt k hk).1; omega
    · rw [hgrow.block b (by simp; omega) (Ne.symm hne)]
      exact (Below.heap_alloc w2 _ b lb).trans he2
end Go.Proofs.YtlckcnkognnlpaaGreatDoor
end
section
namespace Go.Proofs.YtlckcnkognnlpaaGreatDoor
open Go.RowKit
set_option maxRecDepth 100000
attribute [local go_sem ↓] Go.wp_at_zero Go.wp_at_succ

set_option maxHeartbeats 3200000 in
theorem num32_read (M : Nat → Prop) (w0 w : World) (b : Nat) (l : List Int) (t : Int) (rm : Bool) (hI : SeeI M w0 b l false t rm w) (xa : Addr) (z : Int)
    (hx : w.cell? xa = some (.int .u32 z)) (hz : 0 ≤ z ∧ z < 4294967296) (hl : l.length < 1000000) (hxo : xa.block < w0.heap.size) :
    Calls Tryz.prog 27 #[.pointer (some ⟨b, 0, none⟩), .pointer (some xa)] w fun e w' => e = .returned (.tuple #[]) ∧ SeeI M w0 b (l ++ [z]) false t rm w' := by
  obtain ⟨v, he, hown⟩ := hI.eye
  obtain ⟨i0, hi0, hz0, hz1, hz2⟩ := info_parts info3
  obtain ⟨c0, c2, c3, c4, cf⟩ := eye_cells he
  have f0 := cf 0
  clear cf
  have hne : v.ownBlock ≠ some b := fun e => by have := (hown.lt b e).1; have := hI.old; omega
  have lb := World.block_lt_of_cell? w _ c0
  have lx := World.block_lt_of_cell? w _ hx
  have hnx : v.ownBlock ≠ some xa.block := fun e => by have := (hown.lt _ e).1; omega
  go_enter Tryz.func27, Tryz.ntmps27
  go_wp2_with fail
  have hbase := hI.but.size
  have hwz : IntKind.i64.wrap z = z := by rw [IntKind.wrap_i64]; omega
  have fa : ∀ o : Obj, (w.alloc o).frozen? ⟨b, 0, none⟩ = false := fun o => (World.frozen?_of_block (Below.heap_alloc w o b lb)).trans f0
  have h63 : l.length + 1 ≤ maxLen := by unfold maxLen; omega
  have hby : (l.length + 1) * 8 ≤ 140737488355328 := by omega
  go_region_law ((refine step_append_lies _ (by rfl) _ _ _ (by rfl) w0.heap.size 3 i0 _ 1 8 Tryz.underlying47 hi0 hz0 hz1 hz2 rfl (by omega) v l.length (l.map (Value.int .i64)) (by rfl) ((hown.alloc _).drew) ⟨w.heap.size, 0, none⟩ 1 1 [.int .i64 z] (by rfl) (by rfl) (World.news_of_block (cs := #[.int .i64 z]) (t := 3) (fr := (0, 0)) (heap_alloc_new w _)) (by simp [Value.oneCell']) (by omega) h63 hby (by simp; omega) (w.heap.size + 1) (by simp) ?_; intro gg cap w1 hown1 hgrow hat hlt; have g0 := (hgrow.cell_far ⟨b, 0, none⟩ (by simp; omega) (Ne.symm hne)).trans ((World.cell?_of_block (Below.heap_alloc w (.cells #[.int .i64 z] 3) b lb)).trans c0); have g1 := (hgrow.frozen_far ⟨b, 0, none⟩ (by simp; omega) (Ne.symm hne)).trans (fa (.cells #[.int .i64 z] 3))))
  all_goals
    go_end0
    refine ⟨rfl, SeeI.push (v := v) ((hI.but.alloc _).drew.grown hgrow fun k hk hlt' => ?_) hI.old ?_ hown1⟩
    · have := (hown.lt k hk).1; omega
    · rw [hgrow.block b (by simp; omega) (Ne.symm hne)]
      exact (Below.heap_alloc w _ b lb).trans he

set_option maxHeartbeats 3200000 in
theorem num32_mark (M : Nat → Prop) (w0 w : World) (b : Nat) (l : List Int) (t : Int) (rm : Bool) (hI : SeeI M w0 b l true t rm w) (p q : Nat) (cur : Array Value) (ty : TypeId) (x : Value)
    (hx : w.heap[p]? = some (.cells cur ty (0, 0))) (hty : ty ≠ 50) (hq : cur[q]? = some x) (hp : M p) (hpo : p < w0.heap.size) (ht : 0 ≤ t ∧ t < 1000000000000) (hl : l.length < 1000000) :
    Calls Tryz.prog 27 #[.pointer (some ⟨b, 0, none⟩), .pointer (some ⟨p, q, none⟩)] w fun e w' => e = .returned (.tuple #[]) ∧
      ∃ z, 0 ≤ z ∧ z < 4294967296 ∧ w'.heap[p]? = some (.cells (cur.setIfInBounds q (.int .u32 z)) ty (0, 0)) ∧ SeeI M w0 b (l ++ [z]) true (t + 1) rm w' ∧ But (fun k => k = b ∨ k = p ∨ w0.heap.size ≤ k) w w' := by
  obtain ⟨v, he, hown⟩ := hI.eye
  obtain ⟨i0, hi0, hz0, hz1, hz2⟩ := info_parts info3
  have hpb : p ≠ b := fun e => by rw [e, he] at hx; simp at hx; exact hty hx.2.symm
  obtain ⟨z, hz⟩ : ∃ z, z = (t + 1) % 4294967296 := ⟨_, rfl⟩
  have hzb : 0 ≤ z ∧ z < 4294967296 := by omega
  -- the world behind the two stores
  obtain ⟨w2, hw2⟩ : ∃ w2, w2 = (w.setCell ⟨b, 3, none⟩ (.int .i64 (t + 1))).setCell ⟨p, q, none⟩ (.int .u32 z) := ⟨_, rfl⟩
  have he2 : w2.heap[b]? = some (.cells (eyeCells v true (t + 1) rm) 50 (0, 0)) := by
    rw [hw2, heap_setCell_far (by simpa using hpb.symm)]; exact eye_set3 he
  have hown1 : (w.setCell ⟨b, 3, none⟩ (.int .i64 (t + 1))).ownsRow w0.heap.size 3 1 v l.length (l.map (Value.int .i64)) := ownsRow_setCell_below hown (a := ⟨b, 3, none⟩) hI.old _
  have hown2 : w2.ownsRow w0.heap.size 3 1 v l.length (l.map (Value.int .i64)) := by rw [hw2]; exact ownsRow_setCell_below hown1 (a := ⟨p, q, none⟩) hpo _
  have hb2 : But (fun k => k = b ∨ M k) w0 w2 := by rw [hw2]; exact (hI.but.setCell (fun _ => .inl rfl) _).setCell (fun _ => .inr hp) _
  have hb3 : But (fun k => k = b ∨ k = p ∨ w0.heap.size ≤ k) w w2 := by rw [hw2]; exact ((But.refl _ _).setCell (fun _ => .inl rfl) _).setCell (fun _ => .inr (.inl rfl)) _
  have hp2 : w2.heap[p]? = some (.cells (cur.setIfInBounds q (.int .u32 z)) ty (0, 0)) := by
    rw [hw2]; exact heap_setCell_same (by rw [heap_setCell_far (by simpa using hpb)]; exact hx) _
  obtain ⟨c0, c2, c3, c4, cf⟩ := eye_cells he
  have f3 := cf 3
  have fp : w.frozen? ⟨p, q, none⟩ = false := by simp [World.frozen?, hx]
  have cp : w.cell? ⟨p, q, none⟩ = some x := by simp [World.cell?, hx, hq]
  clear cf
  obtain ⟨d0, d2, d3, d4, df⟩ := eye_cells he2
  have f0 := df 0
  clear df
  have hqs : q < cur.size := (Array.getElem?_eq_some_iff.1 hq).1
  have cx : w2.cell? ⟨p, q, none⟩ = some (.int .u32 z) := by simp [World.cell?, hp2, hqs]
  have hne : v.ownBlock ≠ some b := fun e => by have := (hown.lt b e).1; have := hI.old; omega
  have hnx : v.ownBlock ≠ some p := fun e => by have := (hown.lt p e).1; omega
  have lb : b < w2.heap.size := lt_of_block he2
  have lx : p < w2.heap.size := lt_of_block hp2
  have hbase := hb2.size
  have hwz : IntKind.i64.wrap z = z := by rw [IntKind.wrap_i64]; omega
  have hwu : IntKind.u32.wrap (t + 1) = z := by rw [hz, IntKind.wrap_u32]
  have fa : ∀ o : Obj, (w2.alloc o).frozen? ⟨b, 0, none⟩ = false := fun o => (World.frozen?_of_block (Below.heap_alloc w2 o b lb)).trans f0
  have h63 : l.length + 1 ≤ maxLen := by unfold maxLen; omega
  have hby : (l.length + 1) * 8 ≤ 140737488355328 := by omega
  have HW : Hid (w2 = (w.setCell ⟨b, 3, none⟩ (.int .i64 (t + 1))).setCell ⟨p, q, none⟩ (.int .u32 z)) := hw2
  clear hw2 hz
  go_enter Tryz.func27, Tryz.ntmps27
  go_wp2_with fail
  rw [← HW.out]
  clear c0 c2 c3 c4 f3 fp cp hown hown1 hx hq he
  go_region_law ((refine step_append_lies _ (by rfl) _ _ _ (by rfl) w0.heap.size 3 i0 _ 1 8 Tryz.underlying47 hi0 hz0 hz1 hz2 rfl (by omega) v l.length (l.map (Value.int .i64)) (by rfl) ((hown2.alloc _).drew) ⟨w2.heap.size, 0, none⟩ 1 1 [.int .i64 z] (by rfl) (by rfl) (World.news_of_block (cs := #[.int .i64 z]) (t := 3) (fr := (0, 0)) (heap_alloc_new w2 _)) (by simp [Value.oneCell']) (by omega) h63 hby (by simp; omega) (w2.heap.size + 1) (by simp) ?_; intro gg cap w1 hown1 hgrow hat hlt; have g0 := (hgrow.cell_far ⟨b, 0, none⟩ (by simp; omega) (Ne.symm hne)).trans ((World.cell?_of_block (Below.heap_alloc w2 (.cells #[.int .i64 z] 3) b lb)).trans d0); have g1 := (hgrow.frozen_far ⟨b, 0, none⟩ (by simp; omega) (Ne.symm hne)).trans (fa (.cells #[.int .i64 z] 3))))
  all_goals
    go_end0
    refine ⟨rfl, z, hzb.1, hzb.2, ?_, SeeI.push (v := v) ((hb2.alloc _).drew.grown hgrow fun k hk hlt' => ?_) hI.old ?_ hown1, ((hb3.alloc _).drew.grown hgrow fun k hk hlt' => .inr (.inr (hown2.lt k hk).1)).setCell (fun _ => .inl rfl) _⟩
    · rw [heap_setCell_far (by simpa using hpb), hgrow.block p (by simp; omega) (Ne.symm hnx)]
      exact (Below.heap_alloc w2 _ p lx).trans hp2
    · have := (hown2.lt k hk).1; omega
    · rw [hgrow.block b (by simp; omega) (Ne.symm hne)]
      exact (Below.heap_alloc w2 _ b lb).trans he2
end Go.Proofs.YtlckcnkognnlpaaGreatDoor
end
section
namespace Go.Proofs.YtlckcnkognnlpaaGreatDoor
open Go.RowKit
set_option maxRecDepth 100000
attribute [local go_sem ↓] Go.wp_at_zero Go.wp_at_succ

set_option maxHeartbeats 3200000 in
theorem num64_read (M : Nat → Prop) (w0 w : World) (b : Nat) (l : List Int) (t : Int) (rm : Bool) (hI : SeeI M w0 b l false t rm w) (xa : Addr) (z : Int)
    (hx : w.cell? xa = some (.int .i64 z)) (hz : -9223372036854775808 ≤ z ∧ z < 9223372036854775808) (hl : l.length < 1000000) (hxo : xa.block < w0.heap.size) :
    Calls Tryz.prog 28 #[.pointer (some ⟨b, 0, none⟩), .pointer (some xa)] w fun e w' => e = .returned (.tuple #[]) ∧ SeeI M w0 b (l ++ [z]) false t rm w' := by
  obtain ⟨v, he, hown⟩ := hI.eye
  obtain ⟨i0, hi0, hz0, hz1, hz2⟩ := info_parts info3
  obtain ⟨c0, c2, c3, c4, cf⟩ := eye_cells he
  have f0 := cf 0
  clear cf
  have hne : v.ownBlock ≠ some b := fun e => by have := (hown.lt b e).1; have := hI.old; omega
  have lb := World.block_lt_of_cell? w _ c0
  have lx := World.block_lt_of_cell? w _ hx
  have hnx : v.ownBlock ≠ some xa.block := fun e => by have := (hown.lt _ e).1; omega
  go_enter Tryz.func28, Tryz.ntmps28
  go_wp2_with fail
  have hbase := hI.but.size
  have hwz : IntKind.i64.wrap z = z := by rw [IntKind.wrap_i64]; omega
  have fa : ∀ o : Obj, (w.alloc o).frozen? ⟨b, 0, none⟩ = false := fun o => (World.frozen?_of_block (Below.heap_alloc w o b lb)).trans f0
  have h63 : l.length + 1 ≤ maxLen := by unfold maxLen; omega
  have hby : (l.length + 1) * 8 ≤ 140737488355328 := by omega
  go_region_law ((refine step_append_lies _ (by rfl) _ _ _ (by rfl) w0.heap.size 3 i0 _ 1 8 Tryz.underlying47 hi0 hz0 hz1 hz2 rfl (by omega) v l.length (l.map (Value.int .i64)) (by rfl) ((hown.alloc _).drew) ⟨w.heap.size, 0, none⟩ 1 1 [.int .i64 z] (by rfl) (by rfl) (World.news_of_block (cs := #[.int .i64 z]) (t := 3) (fr := (0, 0)) (heap_alloc_new w _)) (by simp [Value.oneCell']) (by omega) h63 hby (by simp; omega) (w.heap.size + 1) (by simp) ?_; intro gg cap w1 hown1 hgrow hat hlt; have g0 := (hgrow.cell_far ⟨b, 0, none⟩ (by simp; omega) (Ne.symm hne)).trans ((World.cell?_of_block (Below.heap_alloc w (.cells #[.int .i64 z] 3) b lb)).trans c0); have g1 := (hgrow.frozen_far ⟨b, 0, none⟩ (by simp; omega) (Ne.symm hne)).trans (fa (.cells #[.int .i64 z] 3))))
  all_goals
    go_end0
    refine ⟨rfl, SeeI.push (v := v) ((hI.but.alloc _).drew.grown hgrow fun k hk hlt' => ?_) hI.old ?_ hown1⟩
    · have := (hown.lt k hk).1; omega
    · rw [hgrow.block b (by simp; omega) (Ne.symm hne)]
      exact (Below.heap_alloc w _ b lb).trans he

set_option maxHeartbeats 3200000 in
theorem num64_mark (M : Nat → Prop) (w0 w : World) (b : Nat) (l : List Int) (t : Int) (rm : Bool) (hI : SeeI M w0 b l true t rm w) (p q : Nat) (cur : Array Value) (ty : TypeId) (x : Value)
    (hx : w.heap[p]? = some (.cells cur ty (0, 0))) (hty : ty ≠ 50) (hq : cur[q]? = some x) (hp : M p) (hpo : p < w0.heap.size) (ht : 0 ≤ t ∧ t < 1000000000000) (hl : l.length < 1000000) :
    Calls Tryz.prog 28 #[.pointer (some ⟨b, 0, none⟩), .pointer (some ⟨p, q, none⟩)] w fun e w' => e = .returned (.tuple #[]) ∧
      ∃ z, -9223372036854775808 ≤ z ∧ z < 9223372036854775808 ∧ w'.heap[p]? = some (.cells (cur.setIfInBounds q (.int .i64 z)) ty (0, 0)) ∧ SeeI M w0 b (l ++ [z]) true (t + 1) rm w' ∧ But (fun k => k = b ∨ k = p ∨ w0.heap.size ≤ k) w w' := by
  obtain ⟨v, he, hown⟩ := hI.eye
  obtain ⟨i0, hi0, hz0, hz1, hz2⟩ := info_parts info3
  have hpb : p ≠ b := fun e => by rw [e, he] at hx; simp at hx; exact hty hx.2.symm
  have hzb : -9223372036854775808 ≤ (t + 1) ∧ (t + 1) < 9223372036854775808 := by omega
  -- the world behind the two stores
  obtain ⟨w2, hw2⟩ : ∃ w2, w2 = (w.setCell ⟨b, 3, none⟩ (.int .i64 (t + 1))).setCell ⟨p, q, none⟩ (.int .i64 (t + 1)) := ⟨_, rfl⟩
  have he2 : w2.heap[b]? = some (.cells (eyeCells v true (t + 1) rm) 50 (0, 0)) := by
    rw [hw2, heap_setCell_far (by simpa using hpb.symm)]; exact eye_set3 he
  have hown1 : (w.setCell ⟨b, 3, none⟩ (.int .i64 (t + 1))).ownsRow w0.heap.size 3 1 v l.length (l.map (Value.int .i64)) := ownsRow_setCell_below hown (a := ⟨b, 3, none⟩) hI.old _
  have hown2 : w2.ownsRow w0.heap.size 3 1 v l.length (l.map (Value.int .i64)) := by rw [hw2]; exact ownsRow_setCell_below hown1 (a := ⟨p, q, none⟩) hpo _
  have hb2 : But (fun k => k = b ∨ M k) w0 w2 := by rw [hw2]; exact (hI.but.setCell (fun _ => .inl rfl) _).setCell (fun _ => .inr hp) _
  have hb3 : But (fun k => k = b ∨ k = p ∨ w0.heap.size ≤ k) w w2 := by rw [hw2]; exact ((But.refl _ _).setCell (fun _ => .inl rfl) _).setCell (fun _ => .inr (.inl rfl)) _
  have hp2 : w2.heap[p]? = some (.cells (cur.setIfInBounds q (.int .i64 (t + 1))) ty (0, 0)) := by
    rw [hw2]; exact heap_setCell_same (by rw [heap_setCell_far (by simpa using hpb)]; exact hx) _
  obtain ⟨c0, c2, c3, c4, cf⟩ := eye_cells he
  have f3 := cf 3
  have fp : w.frozen? ⟨p, q, none⟩ = false := by simp [World.frozen?, hx]
  have cp : w.cell? ⟨p, q, none⟩ = some x := by simp [World.cell?, hx, hq]
  clear cf
  obtain ⟨d0, d2, d3, d4, df⟩ := eye_cells he2
  have f0 := df 0
  clear df
  have hqs : q < cur.size := (Array.getElem?_eq_some_iff.1 hq).1
  have cx : w2.cell? ⟨p, q, none⟩ = some (.int .i64 (t + 1)) := by simp [World.cell?, hp2, hqs]
  have hne : v.ownBlock ≠ some b := fun e => by have := (hown.lt b e).1; have := hI.old; omega
  have hnx : v.ownBlock ≠ some p := fun e => by have := (hown.lt p e).1; omega
  have lb : b < w2.heap.size := lt_of_block he2
  have lx : p < w2.heap.size := lt_of_block hp2
  have hbase := hb2.size
  have hwz : IntKind.i64.wrap (t + 1) = (t + 1) := by rw [IntKind.wrap_i64]; omega
  have fa : ∀ o : Obj, (w2.alloc o).frozen? ⟨b, 0, none⟩ = false := fun o => (World.frozen?_of_block (Below.heap_alloc w2 o b lb)).trans f0
  have h63 : l.length + 1 ≤ maxLen := by unfold maxLen; omega
  have hby : (l.length + 1) * 8 ≤ 140737488355328 := by omega
  have HW : Hid (w2 = (w.setCell ⟨b, 3, none⟩ (.int .i64 (t + 1))).setCell ⟨p, q, none⟩ (.int .i64 (t + 1))) := hw2
  clear hw2
  go_enter Tryz.func28, Tryz.ntmps28
  go_wp2_with fail
  rw [← HW.out]
  clear c0 c2 c3 c4 f3 fp cp hown hown1 hx hq he
  go_region_law ((refine step_append_lies _ (by rfl) _ _ _ (by rfl) w0.heap.size 3 i0 _ 1 8 Tryz.underlying47 hi0 hz0 hz1 hz2 rfl (by omega) v l.length (l.map (Value.int .i64)) (by rfl) ((hown2.alloc _).drew) ⟨w2.heap.size, 0, none⟩ 1 1 [.int .i64 (t + 1)] (by rfl) (by rfl) (World.news_of_block (cs := #[.int .i64 (t + 1)]) (t := 3) (fr := (0, 0)) (heap_alloc_new w2 _)) (by simp [Value.oneCell']) (by omega) h63 hby (by simp; omega) (w2.heap.size + 1) (by simp) ?_; intro gg cap w1 hown1 hgrow hat hlt; have g0 := (hgrow.cell_far ⟨b, 0, none⟩ (by simp; omega) (Ne.symm hne)).trans ((World.cell?_of_block (Below.heap_alloc w2 (.cells #[.int .i64 (t + 1)] 3) b lb)).trans d0); have g1 := (hgrow.frozen_far ⟨b, 0, none⟩ (by simp; omega) (Ne.symm hne)).trans (fa (.cells #[.int .i64 (t + 1)] 3))))
  all_goals
    go_end0
    refine ⟨rfl, (t + 1), hzb.1, hzb.2, ?_, SeeI.push (v := v) ((hb2.alloc _).drew.grown hgrow fun k hk hlt' => ?_) hI.old ?_ hown1, ((hb3.alloc _).drew.grown hgrow fun k hk hlt' => .inr (.inr (hown2.lt k hk).1)).setCell (fun _ => .inl rfl) _⟩
    · rw [heap_setCell_far (by simpa using hpb), hgrow.block p (by simp; omega) (Ne.symm hnx)]
      exact (Below.heap_alloc w2 _ p lx).trans hp2
    · have := (hown2.lt k hk).1; omega
    · rw [hgrow.block b (by simp; omega) (Ne.symm hne)]
      exact (Below.heap_alloc w2 _ b lb).trans he2
end Go.Proofs.YtlckcnkognnlpaaGreatDoor
end
