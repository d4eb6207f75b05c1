/-
  A part of the proof that the called functions turn nothing that came in, and that what they hand back lies apart; nothing is assumed.
-/
import Derived.WalkKit
import Derived.Deep.AppendLies
import Derived.Test.YtoplphimhbnelaaGreatDoorProg
import Derived.Laws.MakeOwn
import Derived.Laws.OwnMore
import Derived.Laws.Tables
import Derived.Deep.Slices
import Derived.ChangeArms
import Derived.DataReads
import Derived.Lib.SmallJoins
import Derived.Deep.RegionHeld3
import Derived.Deep.RegionLaw
import Derived.Deep.DrawnRows
import Derived.KernelRfl
import Derived.WalkLawsBesides
import Derived.Deep.QuietTactic
import Derived.BigQuiet
import Derived.Deep.RegionWith
import Derived.Deep.LoopGhost
import Derived.Laws.BytesString
import Derived.Laws.Concat
set_option linter.all false
set_option linter.unusedVariables false
set_option linter.unusedSimpArgs false
namespace Go.Proofs.YtoplphimhbnelaaGreatDoor
open Go.RowKit

/-- Of the blocks that were there, those alone that S names may have turned. -/
structure But (S : Nat → Prop) (w w' : World) : Prop where
  os : w'.os = w.os
  tape : w'.tape = w.tape
  output : w'.output = w.output
  size : w.heap.size ≤ w'.heap.size
  block : ∀ k, k < w.heap.size → ¬ S k → w'.heap[k]? = w.heap[k]?

namespace But
theorem refl (S : Nat → Prop) (w : World) : But S w w := ⟨rfl, rfl, rfl, Nat.le_refl _, fun _ _ _ => rfl⟩
theorem trans {S S' : Nat → Prop} {a b c : World} (h : But S a b) (k : But S' b c) (hs : ∀ i, i < a.heap.size → S' i → S i) : But S a c :=
  ⟨k.os.trans h.os, k.tape.trans h.tape, k.output.trans h.output, Nat.le_trans h.size k.size, fun i hi hn => (k.block i (Nat.lt_of_lt_of_le hi h.size) (fun e => hn (hs i hi e))).trans (h.block i hi hn)⟩
theorem mono {S S' : Nat → Prop} {a b : World} (h : But S a b) (hs : ∀ i, i < a.heap.size → S i → S' i) : But S' a b :=
  ⟨h.os, h.tape, h.output, h.size, fun i hi hn => h.block i hi (fun e => hn (hs i hi e))⟩
theorem drew {S : Nat → Prop} {a w : World} (h : But S a w) : But S a w.drew := ⟨h.os, h.tape, h.output, h.size, h.block⟩
theorem alloc {S : Nat → Prop} {a w : World} (h : But S a w) (o : Obj) : But S a (w.alloc o) :=
  ⟨h.os, h.tape, h.output, Nat.le_trans h.size (by simp), fun i hi hn => (Below.heap_alloc w o i (Nat.lt_of_lt_of_le hi h.size)).trans (h.block i hi hn)⟩
theorem setCell {S : Nat → Prop} {a w : World} (h : But S a w) {p : Addr} (hp : p.block < a.heap.size → S p.block) (u : Value) : But S a (w.setCell p u) :=
  ⟨h.os, h.tape, h.output, Nat.le_trans h.size (by simp [World.setCell]), fun i hi hn => (Below.heap_setCell w p u i (fun e => hn (e ▸ hp (e ▸ hi)))).trans (h.block i hi hn)⟩
theorem grown {S : Nat → Prop} {a w w' : World} {row : Option Nat} (h : But S a w) (hg : w.grownBy w' row) (hr : ∀ k, row = some k → k < a.heap.size → S k) : But S a w' :=
  ⟨hg.os.trans h.os, hg.tape.trans h.tape, hg.output.trans h.output, Nat.le_trans h.size hg.size,
    fun i hi hn => (hg.block i (Nat.lt_of_lt_of_le hi h.size) (fun e => hn (hr i e.symm hi))).trans (h.block i hi hn)⟩
theorem below {S : Nat → Prop} {B : Nat} {a w : World} (h : But S a w) (hB : B ≤ a.heap.size) (hs : ∀ k, k < B → ¬ S k) : Below B a w :=
  ⟨h.os, h.tape, h.output, h.size, fun k hk => h.block k (Nat.lt_of_lt_of_le hk hB) (hs k hk)⟩
theorem cell {S : Nat → Prop} {a w : World} (h : But S a w) {p : Addr} (hp : p.block < a.heap.size) (hn : ¬ S p.block) : w.cell? p = a.cell? p := World.cell?_of_block (h.block p.block hp hn)
theorem to {S : Nat → Prop} {a w : World} (h : But S a w) {k : Nat} {o : Obj} (hk : a.heap[k]? = some o) (hn : ¬ S k) : w.heap[k]? = some o := by
  rw [h.block k (lt_of_block hk) hn]; exact hk
end But

theorem heap_setCell_same {w : World} {b o : Nat} {cs : Array Value} {e : TypeId} {fr : Nat × Nat} (h : w.heap[b]? = some (.cells cs e fr)) (u : Value) :
    (w.setCell ⟨b, o, none⟩ u).heap[b]? = some (.cells (cs.setIfInBounds o u) e fr) := by
  have hlt := lt_of_block h
  have h' : w.heap[b] = .cells cs e fr := by simpa [Array.getElem?_eq_getElem hlt] using h
  show (w.heap.modify b _)[b]? = _
  rw [Array.getElem?_eq_getElem (by simpa using hlt), Array.getElem_modify_self, h']
  rfl
theorem heap_setCell_far {w : World} {a : Addr} {k : Nat} (h : k ≠ a.block) (u : Value) : (w.setCell a u).heap[k]? = w.heap[k]? := Below.heap_setCell w a u k h
theorem size_setCell (w : World) (a : Addr) (u : Value) : (w.setCell a u).heap.size = w.heap.size := by simp [World.setCell]

/-- A block's cells written over, one behind the other. -/
def stores (w : World) (b : Nat) : Nat → List Value → World
  | _, [] => w
  | k, v :: vs => stores (w.setCell ⟨b, k, none⟩ v) b (k + 1) vs
theorem stores_far {b i : Nat} (hi : i ≠ b) : ∀ (vs : List Value) (w : World) (k : Nat), (stores w b k vs).heap[i]? = w.heap[i]?
  | [], _, _ => rfl
  | v :: vs, w, k => (stores_far hi vs (w.setCell ⟨b, k, none⟩ v) (k + 1)).trans (heap_setCell_far (a := ⟨b, k, none⟩) hi v)
theorem stores_size {b : Nat} : ∀ (vs : List Value) (w : World) (k : Nat), (stores w b k vs).heap.size = w.heap.size
  | [], _, _ => rfl
  | v :: vs, w, k => (stores_size vs (w.setCell ⟨b, k, none⟩ v) (k + 1)).trans (size_setCell _ _ _)
theorem stores_but {S : Nat → Prop} {a : World} {b : Nat} (hb : b < a.heap.size → S b) : ∀ (vs : List Value) (w : World) (k : Nat), But S a w → But S a (stores w b k vs)
  | [], _, _, h => h
  | v :: vs, w, k, h => stores_but hb vs (w.setCell ⟨b, k, none⟩ v) (k + 1) (h.setCell hb v)
theorem stores_from {b : Nat} {e : TypeId} {fr : Nat × Nat} : ∀ (vs pre post : List Value) (w : World) (k : Nat), w.heap[b]? = some (.cells (pre ++ post).toArray e fr) → pre.length = k → post.length = vs.length → (stores w b k vs).heap[b]? = some (.cells (pre ++ vs).toArray e fr)
  | [], pre, post, w, k, h, _, hl => by
    obtain rfl := List.eq_nil_of_length_eq_zero hl
    exact h
  | v :: vs, pre, post, w, k, h, hk, hl => by
    cases post with
    | nil => simp at hl
    | cons p post =>
      have h1 : (w.setCell ⟨b, k, none⟩ v).heap[b]? = some (.cells ((pre ++ [v]) ++ post).toArray e fr) := by
        rw [heap_setCell_same h]
        congr 2
        apply Array.ext'
        rw [Array.toList_setIfInBounds]
        subst hk
        simp
      have := stores_from vs (pre ++ [v]) post (w.setCell ⟨b, k, none⟩ v) (k + 1) h1 (by simp [hk]) (by simpa using hl)
      simpa [stores] using this
theorem stores_all {w : World} {b : Nat} {e : TypeId} {fr : Nat × Nat} {cs : Array Value} (h : w.heap[b]? = some (.cells cs e fr)) (vs : List Value) (hl : cs.size = vs.length) : (stores w b 0 vs).heap[b]? = some (.cells vs.toArray e fr) :=
  stores_from vs [] cs.toList w 0 (by simpa using h) rfl (by simpa using hl)
/-- An eye's five cells. -/
def eyeCells (v sv : Value) (mk : Bool) (t : Int) (rm : Bool) : Array Value := #[v, sv, .bool mk, .int .i64 t, .bool rm]
/-- An eye at block b, on its way since the world w0: the numbers and the strings that it has seen, and what has turned since. -/
structure SeeI (M : Nat → Prop) (w0 : World) (b : Nat) (l : List Int) (ls : List ByteArray) (mk : Bool) (t : Int) (rm : Bool) (w : World) : Prop where
  but : But (fun k => k = b ∨ M k) w0 w
  old : b < w0.heap.size
  eye : ∃ v sv, w.heap[b]? = some (.cells (eyeCells v sv mk t rm) 70 (0, 0)) ∧ w.ownsRow w0.heap.size 3 1 v l.length (l.map (Value.int .i64)) ∧ w.ownsRow w0.heap.size 9 1 sv ls.length (ls.map Value.string)

theorem SeeI.start {M : Nat → Prop} {w : World} {b : Nat} {mk rm : Bool} {t : Int} (h : w.heap[b]? = some (.cells (eyeCells (.slice none 0 0) (.slice none 0 0) mk t rm) 70 (0, 0))) : SeeI M w b [] [] mk t rm w :=
  ⟨But.refl _ _, lt_of_block h, _, _, h, World.ownsRow_nil _ _ _ _, World.ownsRow_nil _ _ _ _⟩

/-- Rows of other elements do not meet. -/
theorem own_ne {w : World} {B B' : Nat} {e e' : TypeId} {v v' : Value} {n n' : Nat} {xs xs' : List Value} (h : w.ownsRow B e 1 v n xs) (h' : w.ownsRow B' e' 1 v' n' xs') (he : e ≠ e') : v'.ownBlock = none ∨ v'.ownBlock ≠ v.ownBlock := by
  rcases h'.2 with ⟨rfl, -⟩ | ⟨g', cap', cur', rfl, -, hg', -⟩
  · exact .inl rfl
  · right
    rcases h.2 with ⟨rfl, -⟩ | ⟨g, cap, cur, rfl, -, hg, -⟩
    · simp [Value.ownBlock]
    · intro e2
      have e3 : g' = g := by simpa [Value.ownBlock] using e2
      rw [e3, hg] at hg'
      simp at hg'
      exact he hg'.2

/-- One number more, behind the append. -/
theorem SeeI.push {M : Nat → Prop} {w0 w1 : World} {b : Nat} {l : List Int} {ls : List ByteArray} {mk rm : Bool} {t : Int} {v v' sv : Value} {z : Int}
    (hb : But (fun k => k = b ∨ M k) w0 w1) (old : b < w0.heap.size) (he : w1.heap[b]? = some (.cells (eyeCells v sv mk t rm) 70 (0, 0)))
    (hown : w1.ownsRow w0.heap.size 3 1 v' (l.length + 1) (l.map (Value.int .i64) ++ [.int .i64 z])) (hsv : w1.ownsRow w0.heap.size 9 1 sv ls.length (ls.map Value.string)) :
    SeeI M w0 b (l ++ [z]) ls mk t rm (w1.setCell ⟨b, 0, none⟩ v') := by
  refine ⟨hb.setCell (fun _ => .inl rfl) _, old, v', sv, ?_, ?_, ?_⟩
  · rw [heap_setCell_same he]; rfl
  · have := ownsRow_setCell_below hown (a := ⟨b, 0, none⟩) old v'
    simpa using this
  · exact ownsRow_setCell_below hsv (a := ⟨b, 0, none⟩) old v'
/-- One string more. -/
theorem SeeI.pushS {M : Nat → Prop} {w0 w1 : World} {b : Nat} {l : List Int} {ls : List ByteArray} {mk rm : Bool} {t : Int} {v v' sv : Value} {z : ByteArray}
    (hb : But (fun k => k = b ∨ M k) w0 w1) (old : b < w0.heap.size) (he : w1.heap[b]? = some (.cells (eyeCells v sv mk t rm) 70 (0, 0)))
    (hown : w1.ownsRow w0.heap.size 3 1 v l.length (l.map (Value.int .i64))) (hsv : w1.ownsRow w0.heap.size 9 1 v' (ls.length + 1) (ls.map Value.string ++ [.string z])) :
    SeeI M w0 b l (ls ++ [z]) mk t rm (w1.setCell ⟨b, 1, none⟩ v') := by
  refine ⟨hb.setCell (fun _ => .inl rfl) _, old, v, v', ?_, ?_, ?_⟩
  · rw [heap_setCell_same he]; rfl
  · exact ownsRow_setCell_below hown (a := ⟨b, 1, none⟩) old v'
  · have := ownsRow_setCell_below hsv (a := ⟨b, 1, none⟩) old v'
    simpa using this
end Go.Proofs.YtoplphimhbnelaaGreatDoor
namespace Go.Proofs.YtoplphimhbnelaaGreatDoor
open Go.RowKit

/-- What was seen: the numbers and the strings. -/
abbrev Seen := List Int × List ByteArray
def InK (k : IntKind) (z : Int) : Prop := k.min ≤ z ∧ z ≤ k.max

/-- A value of the same kind. -/
inductive Kin : Value → Value → Prop
  | same (v : Value) : Kin v v
  | int {k : IntKind} {z z' : Int} : InK k z' → Kin (.int k z) (.int k z')
  | str {a b : ByteArray} : Kin (.string a) (.string b)
  | bool {a b : Bool} : Kin (.bool a) (.bool b)
theorem Kin.trans {a b c : Value} (h : Kin a b) (k : Kin b c) : Kin a c := by
  cases h with
  | same => exact k
  | int h1 => cases k with
    | same => exact .int h1
    | int h2 => exact .int h2
  | str => cases k <;> exact .str
  | bool => cases k <;> exact .bool

/-- On the blocks of K the two worlds are alike. -/
def Agree (K : Nat → Prop) (w w1 : World) : Prop := ∀ k, K k → w1.heap[k]? = w.heap[k]?
theorem Agree.refl (K : Nat → Prop) (w : World) : Agree K w w := fun _ _ => rfl
theorem Agree.trans {K : Nat → Prop} {a b c : World} (h : Agree K a b) (h' : Agree K b c) : Agree K a c := fun k hk => (h' k hk).trans (h k hk)
theorem Agree.symm {K : Nat → Prop} {a b : World} (h : Agree K a b) : Agree K b a := fun k hk => (h k hk).symm
theorem Agree.but {K S : Nat → Prop} {a w w1 : World} (h : Agree K a w) (hb : But S w w1) (hk : ∀ k, K k → k < w.heap.size ∧ ¬ S k) : Agree K a w1 := fun k h1 => (hb.block k (hk k h1).1 (hk k h1).2).trans (h k h1)

/-- On the blocks of K the cells are of the same kinds. -/
structure Pres (K : Nat → Prop) (w w' : World) : Prop where
  cell : ∀ p q v, K p → w.cell? ⟨p, q, none⟩ = some v → ∃ v', w'.cell? ⟨p, q, none⟩ = some v' ∧ Kin v v'
  fr : ∀ p q, K p → w'.frozen? ⟨p, q, none⟩ = w.frozen? ⟨p, q, none⟩
theorem Pres.refl (K : Nat → Prop) (w : World) : Pres K w w := ⟨fun _ _ v _ h => ⟨v, h, .same v⟩, fun _ _ _ => rfl⟩
theorem Pres.trans {K : Nat → Prop} {a b c : World} (h : Pres K a b) (k : Pres K b c) : Pres K a c :=
  ⟨fun p q v hp hv => by
    obtain ⟨v1, h1, k1⟩ := h.cell p q v hp hv
    obtain ⟨v2, h2, k2⟩ := k.cell p q v1 hp h1
    exact ⟨v2, h2, k1.trans k2⟩, fun p q hp => (k.fr p q hp).trans (h.fr p q hp)⟩
theorem Pres.of_agree {K : Nat → Prop} {a b : World} (h : Agree K a b) : Pres K a b :=
  ⟨fun p _ v hp hv => ⟨v, (World.cell?_of_block (h p hp)).trans hv, .same v⟩, fun p _ hp => World.frozen?_of_block (h p hp)⟩
theorem Pres.set {K : Nat → Prop} {w w' : World} {p q : Nat} {cs : Array Value} {e : TypeId} {fr : Nat × Nat} {x v : Value} (h : w.heap[p]? = some (.cells cs e fr)) (hq : cs[q]? = some x) (hk : Kin x v)
    (h' : w'.heap[p]? = some (.cells (cs.setIfInBounds q v) e fr)) (ho : ∀ k, K k → k ≠ p → w'.heap[k]? = w.heap[k]?) : Pres K w w' := by
  refine ⟨fun p' q' u hp hu => ?_, fun p' q' hp => ?_⟩
  · by_cases e1 : p' = p
    · subst e1
      have hu' : cs[q']? = some u := by simpa [World.cell?, h] using hu
      have hn : w'.cell? ⟨p', q', none⟩ = (cs.setIfInBounds q v)[q']? := by simp [World.cell?, h']
      rw [hn]
      by_cases e2 : q = q'
      · subst e2
        have hlt := (Array.getElem?_eq_some_iff.1 hq).1
        rw [hq] at hu'
        obtain rfl := Option.some.inj hu'
        exact ⟨v, by simp [hlt], hk⟩
      · exact ⟨u, by rw [Array.getElem?_setIfInBounds_ne e2]; exact hu', .same u⟩
    · exact ⟨u, (World.cell?_of_block (ho p' hp e1)).trans hu, .same u⟩
  · by_cases e1 : p' = p
    · subst e1
      simp [World.frozen?, h, h']
    · exact World.frozen?_of_block (ho p' hp e1)

/-- What lies at a place: that it lies whole (its rows in blocks of K; writable; with its room), what is seen of it, how many strings that are at most, how many numbers above the bound. -/
structure Shape where
  fit : (Nat → Prop) → Bool → Bool → World → Nat → Nat → Prop
  sees : Bool → World → Nat → Nat → Seen → Seen
  few : Bool → World → Nat → Nat → Nat
  bump : Nat
structure Shape.Ok (S : Shape) : Prop where
  agree : ∀ {K : Nat → Prop} {mk rm : Bool} {w w' : World} {p q : Nat}, Agree K w w' → K p → S.fit K mk rm w p q → S.fit K mk rm w' p q ∧ (∀ s, S.sees rm w' p q s = S.sees rm w p q s) ∧ S.few rm w' p q = S.few rm w p q
  pres : ∀ {K : Nat → Prop} {mk rm : Bool} {w w' : World} {p q : Nat}, Pres K w w' → K p → S.fit K mk rm w p q → S.fit K mk rm w' p q ∧ S.few rm w' p q = S.few rm w p q
  weak : ∀ {K : Nat → Prop} {rm : Bool} {w : World} {p q : Nat}, S.fit K true rm w p q → S.fit K false rm w p q
  len : ∀ (rm : Bool) (w : World) (p q : Nat) (s : Seen), (S.sees rm w p q s).1.length ≤ max s.1.length 200000 + S.bump ∧ (S.sees rm w p q s).2.length ≤ s.2.length + S.few rm w p q

def cellInt (w : World) (p q : Nat) : Int := match w.cell? ⟨p, q, none⟩ with
  | some (.int _ z) => IntKind.i64.wrap z
  | _ => 0
def cellStr (w : World) (p q : Nat) : ByteArray := match w.cell? ⟨p, q, none⟩ with
  | some (.string x) => x
  | _ => default
def cellYes (w : World) (p q : Nat) : Int := match w.cell? ⟨p, q, none⟩ with
  | some (.bool true) => 1
  | _ => 0

def numS (k : IntKind) : Shape where
  fit _ mk _ w p q := (∃ z, w.cell? ⟨p, q, none⟩ = some (.int k z) ∧ InK k z) ∧ (mk = true → w.frozen? ⟨p, q, none⟩ = false)
  sees _ w p q s := (s.1 ++ [cellInt w p q], s.2)
  few _ _ _ _ := 0
  bump := 1
def strS : Shape where
  fit _ mk _ w p q := (∃ x, w.cell? ⟨p, q, none⟩ = some (.string x)) ∧ (mk = true → w.frozen? ⟨p, q, none⟩ = false)
  sees _ w p q s := (s.1, s.2 ++ [cellStr w p q])
  few _ _ _ _ := 1
  bump := 0
/-- A truth value is written where it is but read. -/
def yesS : Shape where
  fit _ _ _ w p q := (∃ x, w.cell? ⟨p, q, none⟩ = some (.bool x)) ∧ w.frozen? ⟨p, q, none⟩ = false
  sees _ w p q s := (s.1 ++ [cellYes w p q], s.2)
  few _ _ _ _ := 0
  bump := 1
theorem numS_ok (k : IntKind) : (numS k).Ok :=
  ⟨fun {K mk rm w w' p q} h hp hf => by
    have hc : w'.cell? ⟨p, q, none⟩ = w.cell? ⟨p, q, none⟩ := World.cell?_of_block (h p hp)
    have hr : w'.frozen? ⟨p, q, none⟩ = w.frozen? ⟨p, q, none⟩ := World.frozen?_of_block (h p hp)
    refine ⟨?_, fun s => ?_, rfl⟩
    · obtain ⟨⟨z, h1, h2⟩, h3⟩ := hf
      exact ⟨⟨z, hc.trans h1, h2⟩, fun e => hr.trans (h3 e)⟩
    · simp only [numS, cellInt, hc],
   fun {K mk rm w w' p q} h hp hf => by
    obtain ⟨⟨z, h1, h2⟩, h3⟩ := hf
    obtain ⟨v', h4, h5⟩ := h.cell p q _ hp h1
    refine ⟨⟨?_, fun e => (h.fr p q hp).trans (h3 e)⟩, rfl⟩
    cases h5 with
    | same => exact ⟨z, h4, h2⟩
    | int h6 => exact ⟨_, h4, h6⟩,
   fun hf => ⟨hf.1, fun e => by cases e⟩,
   fun rm w p q s => by refine ⟨?_, ?_⟩ <;> simp [numS] <;> omega⟩
theorem strS_ok : strS.Ok :=
  ⟨fun {K mk rm w w' p q} h hp hf => by
    have hc : w'.cell? ⟨p, q, none⟩ = w.cell? ⟨p, q, none⟩ := World.cell?_of_block (h p hp)
    have hr : w'.frozen? ⟨p, q, none⟩ = w.frozen? ⟨p, q, none⟩ := World.frozen?_of_block (h p hp)
    refine ⟨?_, fun s => ?_, rfl⟩
    · obtain ⟨⟨z, h1⟩, h3⟩ := hf
      exact ⟨⟨z, hc.trans h1⟩, fun e => hr.trans (h3 e)⟩
    · simp only [strS, cellStr, hc],
   fun {K mk rm w w' p q} h hp hf => by
    obtain ⟨⟨z, h1⟩, h3⟩ := hf
    obtain ⟨v', h4, h5⟩ := h.cell p q _ hp h1
    refine ⟨⟨?_, fun e => (h.fr p q hp).trans (h3 e)⟩, rfl⟩
    cases h5 with
    | same => exact ⟨z, h4⟩
    | str => exact ⟨_, h4⟩,
   fun hf => ⟨hf.1, fun e => by cases e⟩,
   fun rm w p q s => by refine ⟨?_, ?_⟩ <;> simp [strS] <;> omega⟩
theorem yesS_ok : yesS.Ok :=
  ⟨fun {K mk rm w w' p q} h hp hf => by
    have hc : w'.cell? ⟨p, q, none⟩ = w.cell? ⟨p, q, none⟩ := World.cell?_of_block (h p hp)
    have hr : w'.frozen? ⟨p, q, none⟩ = w.frozen? ⟨p, q, none⟩ := World.frozen?_of_block (h p hp)
    refine ⟨?_, fun s => ?_, rfl⟩
    · obtain ⟨⟨z, h1⟩, h3⟩ := hf
      exact ⟨⟨z, hc.trans h1⟩, hr.trans h3⟩
    · simp only [yesS, cellYes, hc],
   fun {K mk rm w w' p q} h hp hf => by
    obtain ⟨⟨z, h1⟩, h3⟩ := hf
    obtain ⟨v', h4, h5⟩ := h.cell p q _ hp h1
    refine ⟨⟨?_, (h.fr p q hp).trans h3⟩, rfl⟩
    cases h5 with
    | same => exact ⟨z, h4⟩
    | bool => exact ⟨_, h4⟩,
   fun hf => hf,
   fun rm w p q s => by refine ⟨?_, ?_⟩ <;> simp [yesS] <;> omega⟩

def nilS : Shape where
  fit _ _ _ _ _ _ := True
  sees _ _ _ _ s := s
  few _ _ _ _ := 0
  bump := 0
def atS (d : Nat) (A : Shape) : Shape where
  fit K mk rm w p q := A.fit K mk rm w p (q + d)
  sees rm w p q s := A.sees rm w p (q + d) s
  few rm w p q := A.few rm w p (q + d)
  bump := A.bump
def thenS (A B : Shape) : Shape where
  fit K mk rm w p q := A.fit K mk rm w p q ∧ B.fit K mk rm w p q
  sees rm w p q s := B.sees rm w p q (A.sees rm w p q s)
  few rm w p q := A.few rm w p q + B.few rm w p q
  bump := A.bump + B.bump
def seqS : List (Nat × Shape) → Shape
  | [] => nilS
  | (d, A) :: r => thenS (atS d A) (seqS r)
theorem nilS_ok : nilS.Ok := ⟨fun _ _ _ => ⟨trivial, fun _ => rfl, rfl⟩, fun _ _ _ => ⟨trivial, rfl⟩, fun _ => trivial, fun _ _ _ _ s => by refine ⟨?_, ?_⟩ <;> simp [nilS] <;> omega⟩
theorem atS_ok {A : Shape} (d : Nat) (h : A.Ok) : (atS d A).Ok := ⟨fun ha hp hf => h.agree ha hp hf, fun ha hp hf => h.pres ha hp hf, fun hf => h.weak hf, fun rm w p q s => h.len rm w p (q + d) s⟩
theorem thenS_ok {A B : Shape} (hA : A.Ok) (hB : B.Ok) : (thenS A B).Ok :=
  ⟨fun ha hp hf => by
    obtain ⟨a1, a2, a3⟩ := hA.agree ha hp hf.1
    obtain ⟨b1, b2, b3⟩ := hB.agree ha hp hf.2
    refine ⟨⟨a1, b1⟩, fun s => ?_, ?_⟩
    · simp only [thenS, a2, b2]
    · simp only [thenS, a3, b3],
   fun ha hp hf => by
    obtain ⟨a1, a3⟩ := hA.pres ha hp hf.1
    obtain ⟨b1, b3⟩ := hB.pres ha hp hf.2
    exact ⟨⟨a1, b1⟩, by simp only [thenS, a3, b3]⟩,
   fun hf => ⟨hA.weak hf.1, hB.weak hf.2⟩,
   fun rm w p q s => by
    have h1 := hA.len rm w p q s
    have h2 := hB.len rm w p q (A.sees rm w p q s)
    simp only [thenS]
    omega⟩
theorem seqS_ok : ∀ {l : List (Nat × Shape)}, (∀ x ∈ l, x.2.Ok) → (seqS l).Ok
  | [], _ => nilS_ok
  | (d, A) :: r, h => thenS_ok (atS_ok d (h (d, A) (List.mem_cons_self ..))) (seqS_ok fun x hx => h x (List.mem_cons_of_mem _ hx))

def goAll (f : Nat → Seen → Seen) : Nat → Nat → Seen → Seen
  | 0, _, s => s
  | m + 1, i, s => if s.1.length < 200000 then goAll f m (i + 1) (f i s) else s
def sumFrom (f : Nat → Nat) : Nat → Nat → Nat
  | 0, _ => 0
  | m + 1, i => f i + sumFrom f m (i + 1)
theorem goAll_len {f : Nat → Seen → Seen} {g : Nat → Nat} {B : Nat} (h : ∀ i s, (f i s).1.length ≤ max s.1.length 200000 + B ∧ (f i s).2.length ≤ s.2.length + g i) :
    ∀ m i s, (goAll f m i s).1.length ≤ max s.1.length (200000 + B) ∧ (goAll f m i s).2.length ≤ s.2.length + sumFrom g m i
  | 0, i, s => by
    simp only [goAll, sumFrom]
    omega
  | m + 1, i, s => by
    have h1 := h i s
    have h2 := goAll_len h m (i + 1) (f i s)
    simp only [goAll, sumFrom]
    split
    · omega
    · omega
theorem goAll_congr {f f' : Nat → Seen → Seen} {N : Nat} (h : ∀ i s, i < N → f' i s = f i s) : ∀ m i s, i + m ≤ N → goAll f' m i s = goAll f m i s
  | 0, _, _, _ => rfl
  | m + 1, i, s, hi => by
    simp only [goAll, h i s (by omega)]
    split
    · exact goAll_congr h m (i + 1) _ (by omega)
    · rfl
theorem sumFrom_congr {f f' : Nat → Nat} {N : Nat} (h : ∀ i, i < N → f' i = f i) : ∀ m i, i + m ≤ N → sumFrom f' m i = sumFrom f m i
  | 0, _, _ => rfl
  | m + 1, i, hi => by
    simp only [sumFrom, h i (by omega)]
    rw [sumFrom_congr h m (i + 1) (by omega)]
theorem sumFrom_le {f : Nat → Nat} {B : Nat} : ∀ m i, (∀ j, i ≤ j → j < i + m → f j ≤ B) → sumFrom f m i ≤ m * B
  | 0, _, _ => by simp [sumFrom]
  | m + 1, i, h => by
    have h1 := h i (Nat.le_refl _) (by omega)
    have h2 := sumFrom_le m (i + 1) (fun j hj hj' => h j (by omega) (by omega))
    simp only [sumFrom, Nat.succ_mul]
    omega
theorem goAll_end {f : Nat → Seen → Seen} {m i : Nat} {s : Seen} (h : m = 0 ∨ 200000 ≤ s.1.length) : goAll f m i s = s := by
  cases m with
  | zero => rfl
  | succ m =>
    simp only [goAll]
    rw [if_neg (by omega)]

def visN (rm : Bool) (n c : Nat) : Nat := if rm = true then c else n
def allSees (es : Nat) (A : Shape) (rm : Bool) (w : World) : Option Value → Seen → Seen
  | some (.slice (some ad) n c), s => goAll (fun i s => A.sees rm w ad.block (ad.off + i * es) s) (visN rm n c) 0 (s.1 ++ [(n : Int)], s.2)
  | some (.slice none n _), s => (s.1 ++ [(n : Int)], s.2)
  | _, s => s
def allFew (es : Nat) (A : Shape) (rm : Bool) (w : World) : Option Value → Nat
  | some (.slice (some ad) n c) => sumFrom (fun i => A.few rm w ad.block (ad.off + i * es)) (visN rm n c) 0
  | _ => 0
/-- A slice: its header at the place, its elements (es cells each) of a shape. -/
def allS (es : Nat) (A : Shape) : Shape where
  fit K mk rm w p q := ∃ a n c, w.cell? ⟨p, q, none⟩ = some (.slice a n c) ∧ n ≤ c ∧ c ≤ maxLen ∧ (a = none → c = 0) ∧
    ∀ ad, a = some ad → 0 < visN rm n c → ad.spot = none ∧ K ad.block ∧ ∀ i, i < visN rm n c → A.fit K mk rm w ad.block (ad.off + i * es)
  sees rm w p q s := allSees es A rm w (w.cell? ⟨p, q, none⟩) s
  few rm w p q := allFew es A rm w (w.cell? ⟨p, q, none⟩)
  bump := A.bump + 1
theorem allS_ok {A : Shape} (es : Nat) (hA : A.Ok) : (allS es A).Ok :=
  ⟨fun {K mk rm w w' p q} h hp hf => by
    obtain ⟨a, n, c, h1, h2, h3, h4, h5⟩ := hf
    have hc : w'.cell? ⟨p, q, none⟩ = w.cell? ⟨p, q, none⟩ := World.cell?_of_block (h p hp)
    refine ⟨⟨a, n, c, hc.trans h1, h2, h3, h4, fun ad e h0 => ?_⟩, fun s => ?_, ?_⟩
    · obtain ⟨q1, q2, q3⟩ := h5 ad e h0
      exact ⟨q1, q2, fun i hi => (hA.agree h q2 (q3 i hi)).1⟩
    · simp only [allS, hc, h1]
      rcases a with _ | ad
      · rfl
      · simp only [allSees]
        refine goAll_congr (N := visN rm n c) (fun i s hi => ?_) _ _ _ (by omega)
        obtain ⟨q1, q2, q3⟩ := h5 ad rfl (by omega)
        exact (hA.agree h q2 (q3 i hi)).2.1 s
    · simp only [allS, hc, h1]
      rcases a with _ | ad
      · rfl
      · simp only [allFew]
        refine sumFrom_congr (N := visN rm n c) (fun i hi => ?_) _ _ (by omega)
        obtain ⟨q1, q2, q3⟩ := h5 ad rfl (by omega)
        exact (hA.agree h q2 (q3 i hi)).2.2,
   fun {K mk rm w w' p q} h hp hf => by
    obtain ⟨a, n, c, h1, h2, h3, h4, h5⟩ := hf
    obtain ⟨v', h6, h7⟩ := h.cell p q _ hp h1
    cases h7
    refine ⟨⟨a, n, c, h6, h2, h3, h4, fun ad e h0 => ?_⟩, ?_⟩
    · obtain ⟨q1, q2, q3⟩ := h5 ad e h0
      exact ⟨q1, q2, fun i hi => (hA.pres h q2 (q3 i hi)).1⟩
    · simp only [allS, h6, h1]
      rcases a with _ | ad
      · rfl
      · simp only [allFew]
        refine sumFrom_congr (N := visN rm n c) (fun i hi => ?_) _ _ (by omega)
        obtain ⟨q1, q2, q3⟩ := h5 ad rfl (by omega)
        exact (hA.pres h q2 (q3 i hi)).2,
   fun hf => by
    obtain ⟨a, n, c, h1, h2, h3, h4, h5⟩ := hf
    refine ⟨a, n, c, h1, h2, h3, h4, fun ad e h0 => ?_⟩
    obtain ⟨q1, q2, q3⟩ := h5 ad e h0
    exact ⟨q1, q2, fun i hi => hA.weak (q3 i hi)⟩,
   fun rm w p q s => by
    simp only [allS]
    generalize w.cell? ⟨p, q, none⟩ = o
    by_cases h : ∃ ad n c, o = some (.slice (some ad) n c)
    · obtain ⟨ad, n, c, rfl⟩ := h
      have h1 := goAll_len (f := fun i s => A.sees rm w ad.block (ad.off + i * es) s) (g := fun i => A.few rm w ad.block (ad.off + i * es)) (B := A.bump) (fun i s => hA.len rm w _ _ s) (visN rm n c) 0 (s.1 ++ [(n : Int)], s.2)
      simp only [allSees, allFew]
      simp only [List.length_append, List.length_cons, List.length_nil] at h1
      omega
    · by_cases h2 : ∃ n c, o = some (.slice none n c)
      · obtain ⟨n, c, rfl⟩ := h2
        simp only [allSees, List.length_append, List.length_cons, List.length_nil]
        omega
      · have e : allSees es A rm w o s = s := by
          unfold allSees
          split
          · exact absurd ⟨_, _, _, rfl⟩ h
          · exact absurd ⟨_, _, rfl⟩ h2
          · rfl
        rw [e]
        omega⟩
theorem add_none {ad : Addr} (h : ad.spot = none) (n : Nat) : ad.add n = ⟨ad.block, ad.off + n, none⟩ := by
  obtain ⟨b, o, s⟩ := ad
  obtain rfl : s = none := h
  unfold Addr.add
  split <;> simp_all
end Go.Proofs.YtoplphimhbnelaaGreatDoor
namespace Go.Proofs.YtoplphimhbnelaaGreatDoor
open Go.RowKit

/-- The function f, called with an eye and a place, sees the shape S there. -/
structure Impl (f : FuncId) (S : Shape) : Prop where
  ok : S.Ok
  read : ∀ (K : Nat → Prop) (w0 w : World) (b : Nat) (s : Seen) (t : Int) (rm : Bool) (p q : Nat), SeeI (fun _ => False) w0 b s.1 s.2 false t rm w → (∀ k, K k → k < w0.heap.size ∧ k ≠ b) → K p → S.fit K false rm w p q →
    max s.1.length 200000 + S.bump < 1000000 → s.2.length + S.few rm w p q ≤ 2000000000000 →
    Calls Tryz.prog f #[.pointer (some ⟨b, 0, none⟩), .pointer (some ⟨p, q, none⟩)] w fun e w' => e = .returned (.tuple #[]) ∧ SeeI (fun _ => False) w0 b (S.sees rm w p q s).1 (S.sees rm w p q s).2 false t rm w'
  mark : ∀ (K : Nat → Prop) (w0 w : World) (b : Nat) (s : Seen) (t : Int) (rm : Bool) (p q T : Nat), SeeI K w0 b s.1 s.2 true t rm w → (∀ k, K k → k < w0.heap.size ∧ k ≠ b) → K p → S.fit K true rm w p q →
    max s.1.length 200000 + S.bump < 1000000 → s.2.length + S.few rm w p q ≤ 2000000000000 → 0 ≤ t → t ≤ T + s.1.length + s.2.length → T ≤ 1000000000000 →
    Calls Tryz.prog f #[.pointer (some ⟨b, 0, none⟩), .pointer (some ⟨p, q, none⟩)] w fun e w' => e = .returned (.tuple #[]) ∧
      ∃ (s' : Seen) (t' : Int), SeeI K w0 b s'.1 s'.2 true t' rm w' ∧ 0 ≤ t' ∧ t' ≤ T + s'.1.length + s'.2.length ∧ s'.1.length ≤ max s.1.length 200000 + S.bump ∧ s'.2.length ≤ s.2.length + S.few rm w p q ∧ Pres K w w'

theorem seei_agree {K : Nat → Prop} {w0 w w' : World} {b : Nat} {l l' : List Int} {ls ls' : List ByteArray} {mk mk' rm rm' : Bool} {t t' : Int} (h : SeeI (fun _ => False) w0 b l ls mk t rm w) (h' : SeeI (fun _ => False) w0 b l' ls' mk' t' rm' w')
    (hK : ∀ k, K k → k < w0.heap.size ∧ k ≠ b) : Agree K w w' := fun k hk => by
  have q := hK k hk
  rw [h.but.block k q.1 (by simpa using q.2), h'.but.block k q.1 (by simpa using q.2)]

/-- Calls of functions that see, one behind the other. -/
def Steps (b p q : Nat) : List (Nat × FuncId) → World → (World → Prop) → Prop
  | [], w, Q => Q w
  | (d, g) :: r, w, Q => Calls Tryz.prog g #[.pointer (some ⟨b, 0, none⟩), .pointer (some ⟨p, q + d, none⟩)] w fun e w1 => e = .returned (.tuple #[]) ∧ Steps b p q r w1 Q
/-- The function's text is these calls. -/
def Runs (f : FuncId) (l : List (Nat × FuncId)) : Prop := ∀ (w : World) (b p q : Nat) (Q : World → Prop), Steps b p q l w Q →
  Calls Tryz.prog f #[.pointer (some ⟨b, 0, none⟩), .pointer (some ⟨p, q, none⟩)] w fun e w1 => e = .returned (.tuple #[]) ∧ Q w1

theorem Steps.imp {b p q : Nat} {Q Q' : World → Prop} (h : ∀ w, Q w → Q' w) : ∀ (l : List (Nat × FuncId)) (w : World), Steps b p q l w Q → Steps b p q l w Q'
  | [], w, k => h w k
  | (d, g) :: r, w, k => by
    have k' : Calls Tryz.prog g #[.pointer (some ⟨b, 0, none⟩), .pointer (some ⟨p, q + d, none⟩)] w fun e w1 => e = .returned (.tuple #[]) ∧ Steps b p q r w1 Q := k
    exact k'.mono fun e w1 ⟨he, h1⟩ => ⟨he, Steps.imp h r w1 h1⟩

def shp (l : List (Nat × FuncId × Shape)) : List (Nat × Shape) := l.map fun x => (x.1, x.2.2)
def fns (l : List (Nat × FuncId × Shape)) : List (Nat × FuncId) := l.map fun x => (x.1, x.2.1)

theorem shp_ok {l : List (Nat × FuncId × Shape)} (h : ∀ x ∈ l, Impl x.2.1 x.2.2) : (seqS (shp l)).Ok := seqS_ok fun x hx => by
  obtain ⟨y, hy, rfl⟩ := List.mem_map.1 hx
  exact (h y hy).ok

theorem steps_read {K : Nat → Prop} {w0 : World} {b : Nat} {t : Int} {rm : Bool} {p q : Nat} (hK : ∀ k, K k → k < w0.heap.size ∧ k ≠ b) (hp : K p) :
    ∀ (l : List (Nat × FuncId × Shape)), (∀ x ∈ l, Impl x.2.1 x.2.2) → ∀ (s : Seen) (w : World), SeeI (fun _ => False) w0 b s.1 s.2 false t rm w → (seqS (shp l)).fit K false rm w p q →
      max s.1.length 200000 + (seqS (shp l)).bump < 1000000 → s.2.length + (seqS (shp l)).few rm w p q ≤ 2000000000000 →
      Steps b p q (fns l) w fun w' => SeeI (fun _ => False) w0 b ((seqS (shp l)).sees rm w p q s).1 ((seqS (shp l)).sees rm w p q s).2 false t rm w'
  | [], _, s, w, hS, _, _, _ => hS
  | (d, g, A) :: r, h, s, w, hS, hf, hn, hm => by
    have hA : Impl g A := h (d, g, A) (List.mem_cons_self ..)
    have hr := fun x hx => h x (List.mem_cons_of_mem _ hx)
    have hf' : A.fit K false rm w p (q + d) ∧ (seqS (shp r)).fit K false rm w p q := hf
    have hn' : max s.1.length 200000 + (A.bump + (seqS (shp r)).bump) < 1000000 := hn
    have hm' : s.2.length + (A.few rm w p (q + d) + (seqS (shp r)).few rm w p q) ≤ 2000000000000 := hm
    refine (hA.read K w0 w b s t rm p (q + d) hS hK hp hf'.1 (by omega) (by omega)).mono ?_
    rintro e w1 ⟨rfl, h1⟩
    refine ⟨rfl, ?_⟩
    have ha : Agree K w w1 := seei_agree hS h1 hK
    obtain ⟨f2, s2, e2⟩ := (shp_ok hr).agree ha hp hf'.2
    have hl := hA.ok.len rm w p (q + d) s
    have ih := steps_read hK hp r hr (A.sees rm w p (q + d) s) w1 h1 f2 (by omega) (by rw [e2]; omega)
    rw [s2] at ih
    exact ih

theorem steps_mark {K : Nat → Prop} {w0 : World} {b : Nat} {rm : Bool} {p q T : Nat} (hK : ∀ k, K k → k < w0.heap.size ∧ k ≠ b) (hp : K p) (hT : T ≤ 1000000000000) :
    ∀ (l : List (Nat × FuncId × Shape)), (∀ x ∈ l, Impl x.2.1 x.2.2) → ∀ (s : Seen) (t : Int) (w : World), SeeI K w0 b s.1 s.2 true t rm w → (seqS (shp l)).fit K true rm w p q →
      max s.1.length 200000 + (seqS (shp l)).bump < 1000000 → s.2.length + (seqS (shp l)).few rm w p q ≤ 2000000000000 → 0 ≤ t → t ≤ T + s.1.length + s.2.length →
      Steps b p q (fns l) w fun w' => ∃ (s' : Seen) (t' : Int), SeeI K w0 b s'.1 s'.2 true t' rm w' ∧ 0 ≤ t' ∧ t' ≤ T + s'.1.length + s'.2.length ∧ s'.1.length ≤ max s.1.length 200000 + (seqS (shp l)).bump ∧
        s'.2.length ≤ s.2.length + (seqS (shp l)).few rm w p q ∧ Pres K w w'
  | [], _, s, t, w, hS, _, _, _, h0, h1 => ⟨s, t, hS, h0, h1, by simp only [shp, List.map_nil, seqS, nilS]; omega, by simp only [shp, List.map_nil, seqS, nilS]; omega, Pres.refl _ _⟩
  | (d, g, A) :: r, h, s, t, w, hS, hf, hn, hm, h0, h1 => by
    have hA : Impl g A := h (d, g, A) (List.mem_cons_self ..)
    have hr := fun x hx => h x (List.mem_cons_of_mem _ hx)
    have hf' : A.fit K true rm w p (q + d) ∧ (seqS (shp r)).fit K true rm w p q := hf
    have hn' : max s.1.length 200000 + (A.bump + (seqS (shp r)).bump) < 1000000 := hn
    have hm' : s.2.length + (A.few rm w p (q + d) + (seqS (shp r)).few rm w p q) ≤ 2000000000000 := hm
    refine (hA.mark K w0 w b s t rm p (q + d) T hS hK hp hf'.1 (by omega) (by omega) h0 h1 hT).mono ?_
    rintro e w1 ⟨rfl, s1, t1, k1, k2, k3, k4, k5, k6⟩
    refine ⟨rfl, ?_⟩
    obtain ⟨f2, e2⟩ := (shp_ok hr).pres k6 hp hf'.2
    refine Steps.imp (fun w2 => ?_) _ _ (steps_mark hK hp hT r hr s1 t1 w1 k1 f2 (by omega) (by rw [e2]; omega) k2 k3)
    rintro ⟨s2, t2, j1, j2, j3, j4, j5, j6⟩
    rw [e2] at j5
    refine ⟨s2, t2, j1, j2, j3, ?_, ?_, k6.trans j6⟩
    · show s2.1.length ≤ max s.1.length 200000 + (A.bump + (seqS (shp r)).bump)
      omega
    · show s2.2.length ≤ s.2.length + (A.few rm w p (q + d) + (seqS (shp r)).few rm w p q)
      omega

theorem impl_seq {f : FuncId} (l : List (Nat × FuncId × Shape)) (hr : Runs f (fns l)) (h : ∀ x ∈ l, Impl x.2.1 x.2.2) : Impl f (seqS (shp l)) :=
  ⟨shp_ok h, fun K w0 w b s t rm p q hS hK hp hf hn hm => hr w b p q _ (steps_read hK hp l h s w hS hf hn hm),
    fun K w0 w b s t rm p q T hS hK hp hf hn hm h0 h1 hT => hr w b p q _ (steps_mark hK hp hT l h s t w hS hf hn hm h0 h1)⟩

/-- all, told by what is carried from element to element. -/
def AllAny (fall one : FuncId) (es : Nat) : Prop := ∀ (M : Nat → Prop) (w0 w : World) (b : Nat) (l : List Int) (ls : List ByteArray) (mk rm : Bool) (t : Int), SeeI M w0 b l ls mk t rm w → ∀ (a : Option Addr) (n c vis : Nat), n ≤ c → c ≤ maxLen →
  (vis = if rm then c else n) → (a = none → c = 0) → l.length < 1000000 →
  ∀ (J : Nat → List Int → List ByteArray → World → Prop), (∀ k l' s' w', J k l' s' w' → ∃ t', SeeI M w0 b l' s' mk t' rm w') →
    (∀ w', SeeI M w0 b (l ++ [(n : Int)]) ls mk t rm w' → But (fun k => k = b ∨ w0.heap.size ≤ k) w w' → J 0 (l ++ [(n : Int)]) ls w') →
    (∀ k l' s' w', k < vis → l'.length < 200000 → J k l' s' w' → ∀ ad, a = some ad → Calls Tryz.prog one #[.pointer (some ⟨b, 0, none⟩), .pointer (some (ad.add (k * es)))] w' fun e w'' => e = .returned (.tuple #[]) ∧ ∃ l'' s'', J (k + 1) l'' s'' w'') →
    Calls Tryz.prog fall #[.pointer (some ⟨b, 0, none⟩), .slice a n c, .func (.func one) #[] #[]] w fun e w' => e = .returned (.tuple #[]) ∧ ∃ k l' s', J k l' s' w' ∧ k ≤ vis ∧ (k = vis ∨ 200000 ≤ l'.length)
/-- A function that hands a slice at a place to all. -/
def Hands (f fall one : FuncId) : Prop := ∀ (w : World) (b p q : Nat) (a : Option Addr) (n c : Nat) (R : World → Prop), w.cell? ⟨p, q, none⟩ = some (.slice a n c) →
  (Calls Tryz.prog fall #[.pointer (some ⟨b, 0, none⟩), .slice a n c, .func (.func one) #[] #[]] w fun e w' => e = .returned (.tuple #[]) ∧ R w') →
  Calls Tryz.prog f #[.pointer (some ⟨b, 0, none⟩), .pointer (some ⟨p, q, none⟩)] w fun e w' => e = .returned (.tuple #[]) ∧ R w'

theorem impl_all {f fall one : FuncId} {es : Nat} {A : Shape} (hh : Hands f fall one) (ha : AllAny fall one es) (h1 : Impl one A) : Impl f (allS es A) := by
  refine ⟨allS_ok es h1.ok, fun K w0 w b s t rm p q hS hK hp hf hn hm => ?_, fun K w0 w b s t rm p q T hS hK hp hf hn hm h0 ht hT => ?_⟩
  · obtain ⟨a, n, c, e1, e2, e3, e4, e5⟩ := hf
    have hn' : max s.1.length 200000 + (A.bump + 1) < 1000000 := hn
    refine hh w b p q a n c _ e1 ?_
    simp only [allS, e1] at hm ⊢
    rcases a with _ | ad
    · obtain rfl : c = 0 := e4 rfl
      obtain rfl : n = 0 := by omega
      refine (ha _ w0 w b s.1 s.2 false rm t hS none 0 0 0 (Nat.le_refl _) (Nat.zero_le _) (by simp) (fun _ => rfl) (by omega)
        (fun k l' s' w' => SeeI (fun _ => False) w0 b l' s' false t rm w' ∧ l' = s.1 ++ [((0 : Nat) : Int)] ∧ s' = s.2) (fun k l' s' w' h => ⟨t, h.1⟩) (fun w' h _ => ⟨h, rfl, rfl⟩) (fun k l' s' w' hk => absurd hk (Nat.not_lt_zero _))).mono ?_
      rintro e w' ⟨he, k, l', s', ⟨h, rfl, rfl⟩, -, -⟩
      exact ⟨he, h⟩
    · have hrow := e5 ad rfl
      simp only [allFew] at hm
      simp only [allSees]
      refine (ha _ w0 w b s.1 s.2 false rm t hS (some ad) n c (visN rm n c) e2 e3 rfl (by simp) (by omega)
        (fun k l' s' w' => SeeI (fun _ => False) w0 b l' s' false t rm w' ∧
          goAll (fun i s => A.sees rm w ad.block (ad.off + i * es) s) (visN rm n c - k) k (l', s') = goAll (fun i s => A.sees rm w ad.block (ad.off + i * es) s) (visN rm n c) 0 (s.1 ++ [(n : Int)], s.2) ∧
          s'.length + sumFrom (fun i => A.few rm w ad.block (ad.off + i * es)) (visN rm n c - k) k ≤ 2000000000000)
        (fun k l' s' w' h => ⟨t, h.1⟩) (fun w' h _ => ⟨h, rfl, hm⟩) (fun k l' s' w' hk hl h ad' e => ?_)).mono ?_
      · obtain rfl := Option.some.inj e
        obtain ⟨j1, j2, j3⟩ := h
        obtain ⟨r1, r2, r3⟩ := hrow (by omega)
        have hag : Agree K w w' := seei_agree hS j1 hK
        obtain ⟨f2, s2, w2⟩ := h1.ok.agree hag r2 (r3 k hk)
        obtain ⟨m, hm2⟩ : ∃ m, visN rm n c - k = m + 1 := ⟨visN rm n c - k - 1, by omega⟩
        have hm3 : visN rm n c - (k + 1) = m := by omega
        rw [hm2] at j2 j3
        simp only [goAll, sumFrom] at j2 j3
        rw [if_pos hl] at j2
        rw [add_none r1]
        refine (h1.read K w0 w' b (l', s') t rm ad.block (ad.off + k * es) j1 hK r2 f2 (by simp only; omega) (by simp only; rw [w2]; omega)).mono ?_
        rintro e w'' ⟨he, hS2⟩
        rw [s2] at hS2
        have hl2 := (h1.ok.len rm w ad.block (ad.off + k * es) (l', s')).2
        refine ⟨he, _, _, hS2, ?_, ?_⟩
        · rw [hm3]; exact j2
        · rw [hm3]; simp only at hl2; omega
      · rintro e w' ⟨he, k, l', s', ⟨j1, j2, -⟩, hk, hend⟩
        refine ⟨he, ?_⟩
        rw [← j2, goAll_end (by rcases hend with h | h <;> first | exact .inl (by omega) | exact .inr h)]
        exact j1
  · obtain ⟨a, n, c, e1, e2, e3, e4, e5⟩ := hf
    have hn' : max s.1.length 200000 + (A.bump + 1) < 1000000 := hn
    refine hh w b p q a n c _ e1 ?_
    simp only [allS, e1] at hm ⊢
    rcases a with _ | ad
    · obtain rfl : c = 0 := e4 rfl
      obtain rfl : n = 0 := by omega
      refine (ha _ w0 w b s.1 s.2 true rm t hS none 0 0 0 (Nat.le_refl _) (Nat.zero_le _) (by simp) (fun _ => rfl) (by omega)
        (fun k l' s' w' => SeeI K w0 b l' s' true t rm w' ∧ l' = s.1 ++ [((0 : Nat) : Int)] ∧ s' = s.2 ∧ Pres K w w') (fun k l' s' w' h => ⟨t, h.1⟩)
        (fun w' h hb => ⟨h, rfl, rfl, Pres.of_agree fun k hk => hb.block k (by have := hK k hk; have := hS.but.size; omega) (by have := hK k hk; omega)⟩) (fun k l' s' w' hk => absurd hk (Nat.not_lt_zero _))).mono ?_
      rintro e w' ⟨he, k, l', s', ⟨h, hl', hs', hp2⟩, -, -⟩
      rw [hl', hs'] at h
      exact ⟨he, (s.1 ++ [((0 : Nat) : Int)], s.2), t, h, h0, by simp only [List.length_append, List.length_cons, List.length_nil]; omega, by simp only [List.length_append, List.length_cons, List.length_nil]; omega, by simp only; omega, hp2⟩
    · have hrow := e5 ad rfl
      simp only [allFew] at hm ⊢
      refine (ha _ w0 w b s.1 s.2 true rm t hS (some ad) n c (visN rm n c) e2 e3 rfl (by simp) (by omega)
        (fun k l' s' w' => ∃ t', SeeI K w0 b l' s' true t' rm w' ∧ 0 ≤ t' ∧ t' ≤ T + l'.length + s'.length ∧ l'.length ≤ max (s.1.length + 1) (200000 + A.bump) ∧
          s'.length + sumFrom (fun i => A.few rm w ad.block (ad.off + i * es)) (visN rm n c - k) k ≤ s.2.length + sumFrom (fun i => A.few rm w ad.block (ad.off + i * es)) (visN rm n c) 0 ∧ Pres K w w')
        (fun k l' s' w' ⟨t', h, _⟩ => ⟨t', h⟩)
        (fun w' h hb => ⟨t, h, h0, by simp only [List.length_append, List.length_cons, List.length_nil]; omega, by simp only [List.length_append, List.length_cons, List.length_nil]; omega, Nat.le_refl _,
          Pres.of_agree fun k hk => hb.block k (by have := hK k hk; have := hS.but.size; omega) (by have := hK k hk; omega)⟩) (fun k l' s' w' hk hl h ad' e => ?_)).mono ?_
      · obtain rfl := Option.some.inj e
        obtain ⟨t', j1, j2, j3, j4, j5, j6⟩ := h
        obtain ⟨r1, r2, r3⟩ := hrow (by omega)
        obtain ⟨f2, w2⟩ := h1.ok.pres j6 r2 (r3 k hk)
        obtain ⟨m, hm2⟩ : ∃ m, visN rm n c - k = m + 1 := ⟨visN rm n c - k - 1, by omega⟩
        have hm3 : visN rm n c - (k + 1) = m := by omega
        rw [hm2] at j5
        simp only [sumFrom] at j5
        rw [add_none r1]
        refine (h1.mark K w0 w' b (l', s') t' rm ad.block (ad.off + k * es) T j1 hK r2 f2 (by simp only; omega) (by simp only; rw [w2]; omega) j2 j3 hT).mono ?_
        rintro e w'' ⟨he, s2, t2, k1, k2, k3, k4, k5, k6⟩
        simp only at k4 k5
        rw [w2] at k5
        refine ⟨he, s2.1, s2.2, t2, k1, k2, k3, by omega, ?_, j6.trans k6⟩
        rw [hm3]; omega
      · rintro e w' ⟨he, k, l', s', ⟨t', j1, j2, j3, j4, j5, j6⟩, -, -⟩
        exact ⟨he, (l', s'), t', j1, j2, j3, by simp only; omega, by simp only; omega, j6⟩
end Go.Proofs.YtoplphimhbnelaaGreatDoor
namespace Go.Proofs.YtoplphimhbnelaaGreatDoor
open Go.RowKit

/-- The function f, over what lies at block Y and in K, sees L. -/
def Reads (rm : Bool) (f : FuncId) (Y : Nat) (K : Nat → Prop) (w : World) (L : Seen) : Prop :=
  L.1.length < 900000 ∧ L.2.length ≤ 2000000000000 ∧ ∀ w1, Agree K w w1 → ∀ E, ¬ K E → w1.heap[E]? = some (.cells (eyeCells (.slice none 0 0) (.slice none 0 0) false 0 rm) 70 (0, 0)) →
    Calls Tryz.prog f #[.pointer (some ⟨E, 0, none⟩), .pointer (some ⟨Y, 0, none⟩)] w1 fun e w2 => e = .returned (.tuple #[]) ∧ SeeI (fun _ => False) w1 E L.1 L.2 false 0 rm w2
/-- Marking: it writes K alone, and it is seen again (whatever it then is). -/
def Marks (rm : Bool) (f : FuncId) (Y : Nat) (K : Nat → Prop) (w : World) : Prop :=
  ∀ w1, Agree K w w1 → ∀ E t, ¬ K E → 0 ≤ t → t ≤ 1000000000 → w1.heap[E]? = some (.cells (eyeCells (.slice none 0 0) (.slice none 0 0) true t rm) 70 (0, 0)) →
    Calls Tryz.prog f #[.pointer (some ⟨E, 0, none⟩), .pointer (some ⟨Y, 0, none⟩)] w1 fun e w2 => e = .returned (.tuple #[]) ∧ But (fun k => k = E ∨ K k) w1 w2 ∧ ∃ L, Reads rm f Y K w2 L
theorem Reads.agree {rm : Bool} {f : FuncId} {Y : Nat} {K : Nat → Prop} {w w1 : World} {L : Seen} (h : Reads rm f Y K w L) (ha : Agree K w w1) : Reads rm f Y K w1 L :=
  ⟨h.1, h.2.1, fun w2 h2 => h.2.2 w2 (ha.trans h2)⟩
theorem Marks.agree {rm : Bool} {f : FuncId} {Y : Nat} {K : Nat → Prop} {w w1 : World} (h : Marks rm f Y K w) (ha : Agree K w w1) : Marks rm f Y K w1 := fun w2 h2 => h w2 (ha.trans h2)

theorem agree_lt {K : Nat → Prop} {w w1 : World} (h : Agree K w w1) (hK : ∀ k, K k → k < w.heap.size) : ∀ k, K k → k < w1.heap.size := fun k hk => by
  have h1 := h k hk
  rw [Array.getElem?_eq_getElem (hK k hk)] at h1
  exact lt_of_block h1

theorem reads_of {f : FuncId} {S : Shape} (h : Impl f S) {K : Nat → Prop} {rm : Bool} {w : World} {Y : Nat} (hK : ∀ k, K k → k < w.heap.size) (hY : K Y) (hf : S.fit K false rm w Y 0) (hb : S.bump ≤ 500000) (hfew : S.few rm w Y 0 ≤ 2000000000000) :
    Reads rm f Y K w (S.sees rm w Y 0 ([], [])) := by
  have hl := h.ok.len rm w Y 0 ([], [])
  simp only [List.length_nil] at hl
  refine ⟨by omega, by omega, fun w1 ha E hE he => ?_⟩
  obtain ⟨f1, s1, e1⟩ := h.ok.agree ha hY hf
  have := h.read K w1 w1 E ([], []) 0 rm Y 0 (SeeI.start he) (fun k hk => ⟨agree_lt ha hK k hk, fun e => hE (e ▸ hk)⟩) hY f1 (by simp only [List.length_nil]; omega) (by simp only [List.length_nil]; rw [e1]; omega)
  rw [s1] at this
  exact this

theorem marks_of {f : FuncId} {S : Shape} (h : Impl f S) {K : Nat → Prop} {rm : Bool} {w : World} {Y : Nat} (hK : ∀ k, K k → k < w.heap.size) (hY : K Y) (hf : S.fit K true rm w Y 0) (hb : S.bump ≤ 500000) (hfew : S.few rm w Y 0 ≤ 2000000000000) :
    Marks rm f Y K w := by
  intro w1 ha E t hE h0 h1 he
  obtain ⟨f1, s1, e1⟩ := h.ok.agree ha hY hf
  have hK1 := agree_lt ha hK
  refine (h.mark K w1 w1 E ([], []) t rm Y 0 t.toNat (SeeI.start he) (fun k hk => ⟨hK1 k hk, fun e => hE (e ▸ hk)⟩) hY f1 (by simp only [List.length_nil]; omega) (by simp only [List.length_nil]; rw [e1]; omega) h0
    (by simp only [List.length_nil]; omega) (by omega)).mono ?_
  rintro e w2 ⟨he2, s', t', hS, -, -, -, -, hp⟩
  obtain ⟨f2, e2⟩ := h.ok.pres hp hY f1
  refine ⟨he2, hS.but, _, reads_of h (fun k hk => Nat.lt_of_lt_of_le (hK1 k hk) hS.but.size) hY (h.ok.weak f2) hb (by rw [e2, e1]; exact hfew)⟩

/-- A closure's row: what a call hands back; what it shows lies in R, which the row itself does not. -/
structure Gives (f : FuncId) (R : Nat → Prop) (w : World) (G A : Nat) : Prop where
  row : w.heap[G]? = some (.cells #[.func (.func f) #[] #[.pointer (some ⟨A, 0, none⟩)]] 46 (0, 0))
  out : ¬ R G
  reads : ∃ L, Reads false f A R w L
  marks : Marks false f A R w

/-- The scene: y, told by what see shows of it, behind steps that turned nothing of W. -/
structure Sc (xo : Obj) (see : FuncId) (W w : World) (Y : Nat) (K : Nat → Prop) (L : Seen) : Prop where
  all : But (fun _ => False) W w
  x : w.heap[W.heap.size]? = some xo
  rd : Reads true see Y K w L
  low : ∀ k, K k → W.heap.size < k ∧ k ≤ Y
  yl : W.heap.size < Y ∧ Y < w.heap.size

theorem Sc.agrees {S : Nat → Prop} {xo : Obj} {see : FuncId} {W w w' : World} {Y : Nat} {K : Nat → Prop} {L : Seen} (h : Sc xo see W w Y K L) (hb : But S w w') (hK : ∀ k, K k → ¬ S k) : Agree K w w' :=
  (Agree.refl K w).but hb (fun k hk => ⟨by have := h.low k hk; have := h.yl; omega, hK k hk⟩)
theorem Sc.step {S : Nat → Prop} {xo : Obj} {see : FuncId} {W w w' : World} {Y : Nat} {K : Nat → Prop} {L : Seen} (h : Sc xo see W w Y K L) (hb : But S w w') (hK : ∀ k, K k → ¬ S k) (hl : ∀ k, k ≤ W.heap.size → ¬ S k) : Sc xo see W w' Y K L :=
  ⟨h.all.trans hb (fun k hk hs => hl k (Nat.le_of_lt hk) hs), hb.to h.x (hl _ (Nat.le_refl _)), h.rd.agree (h.agrees hb hK), h.low, ⟨h.yl.1, by have := h.yl.2; have := hb.size; omega⟩⟩
theorem Sc.quiet {xo : Obj} {see : FuncId} {W w w' : World} {Y : Nat} {K : Nat → Prop} {L : Seen} (h : Sc xo see W w Y K L) (hb : But (fun _ => False) w w') : Sc xo see W w' Y K L := h.step hb (by simp) (by simp)

/-- An eye that has seen L; its rows lie from C on, below D. -/
def Has (w : World) (E C D : Nat) (L : Seen) (rm : Bool) : Prop := ∃ v sv, w.heap[E]? = some (.cells (eyeCells v sv false 0 rm) 70 (0, 0)) ∧ w.ownsRow C 3 1 v L.1.length (L.1.map (Value.int .i64)) ∧ w.ownsRow C 9 1 sv L.2.length (L.2.map Value.string) ∧
  (∀ k, v.ownBlock = some k → k < D) ∧ ∀ k, sv.ownBlock = some k → k < D
theorem ownsRow_but {S : Nat → Prop} {w w' : World} {C D : Nat} {e : TypeId} {v : Value} {n : Nat} {xs : List Value} (h : w.ownsRow C e 1 v n xs) (hD : ∀ k, v.ownBlock = some k → k < D) (hb : But S w w') (hC : ∀ k, C ≤ k → k < D → ¬ S k) : w'.ownsRow C e 1 v n xs := by
  refine ⟨h.1, ?_⟩
  rcases h.2 with q | ⟨g, cap, cur, q1, q2, q3, q4⟩
  · exact .inl q
  · exact .inr ⟨g, cap, cur, q1, q2, hb.to q3 (hC g q2 (hD g (by rw [q1]; rfl))), q4⟩
theorem Has.step {S : Nat → Prop} {w w' : World} {E C D : Nat} {L : Seen} {rm : Bool} (h : Has w E C D L rm) (hb : But S w w') (hE : ¬ S E) (hC : ∀ k, C ≤ k → k < D → ¬ S k) : Has w' E C D L rm := by
  obtain ⟨v, sv, h1, h2, h3, h4, h5⟩ := h
  exact ⟨v, sv, hb.to h1 hE, ownsRow_but h2 h4 hb hC, ownsRow_but h3 h5 hb hC, h4, h5⟩
theorem Has.quiet {w w' : World} {E C D : Nat} {L : Seen} {rm : Bool} (h : Has w E C D L rm) (hb : But (fun _ => False) w w') : Has w' E C D L rm := h.step hb (by simp) (by simp)
theorem Has.of {w w' : World} {E : Nat} {L : Seen} {rm : Bool} (h : SeeI (fun _ => False) w E L.1 L.2 false 0 rm w') : Has w' E w.heap.size w'.heap.size L rm := by
  obtain ⟨v, sv, q1, q2, q3⟩ := h.eye
  exact ⟨v, sv, q1, q2, q3, fun k hk => (q2.lt k hk).2, fun k hk => (q3.lt k hk).2⟩
theorem Has.mono {w : World} {E C C' D : Nat} {L : Seen} {rm : Bool} (h : Has w E C D L rm) (hC : C' ≤ C) : Has w E C' D L rm := by
  obtain ⟨v, sv, q1, q2, q3, q4⟩ := h
  have k : ∀ {e : TypeId} {v : Value} {n : Nat} {xs : List Value}, w.ownsRow C e 1 v n xs → w.ownsRow C' e 1 v n xs := fun h => ⟨h.1, by
    rcases h.2 with q | ⟨g, cap, cur, q1, q2, q3⟩
    · exact .inl q
    · exact .inr ⟨g, cap, cur, q1, Nat.le_trans hC q2, q3⟩⟩
  exact ⟨v, sv, q1, k q2, k q3, q4⟩
end Go.Proofs.YtoplphimhbnelaaGreatDoor
namespace Go.Proofs.YtoplphimhbnelaaGreatDoor
open Go.RowKit

/-- The kinds of single cells. -/
inductive Kd
  | num (k : IntKind) | str | txt | yes
def Kd.shape : Kd → Shape
  | .num k => numS k
  | .str => strS
  | .txt => strS
  | .yes => yesS
def Kd.ok : Kd → Value → Prop
  | .num k, v => ∃ z, v = .int k z ∧ InK k z
  | .str, v => ∃ x, v = .string x
  | .txt, v => ∃ x, v = .string x ∧ x.size ≤ maxLen
  | .yes, v => ∃ x, v = .bool x
def Kd.zero : Kd → Value
  | .num k => .int k 0
  | .str => .string ByteArray.empty
  | .txt => .string ByteArray.empty
  | .yes => .bool false
theorem Kd.zero_ok (k : Kd) : k.ok k.zero := by
  cases k with
  | num k => exact ⟨0, rfl, by cases k <;> simp [InK, IntKind.min, IntKind.max, IntKind.bits, IntKind.signed]⟩
  | str => exact ⟨_, rfl⟩
  | txt => exact ⟨_, rfl, Nat.zero_le _⟩
  | yes => exact ⟨_, rfl⟩
theorem Kd.ok_one {k : Kd} {v : Value} (h : k.ok v) : v.oneCell' = true := by
  cases k with
  | num k => obtain ⟨z, rfl, _⟩ := h; rfl
  | str => obtain ⟨z, rfl⟩ := h; rfl
  | txt => obtain ⟨z, rfl, _⟩ := h; rfl
  | yes => obtain ⟨z, rfl⟩ := h; rfl
theorem Kd.fit {K : Nat → Prop} {mk rm : Bool} {w : World} {p q : Nat} (k : Kd) (h : ∃ v, w.cell? ⟨p, q, none⟩ = some v ∧ k.ok v ∧ ((mk = true ∨ k = .yes) → w.frozen? ⟨p, q, none⟩ = false)) : k.shape.fit K mk rm w p q := by
  obtain ⟨v, h1, h2, h3⟩ := h
  cases k with
  | num k =>
    obtain ⟨z, rfl, h4⟩ := h2
    exact ⟨⟨z, h1, h4⟩, fun h => h3 (.inl h)⟩
  | str =>
    obtain ⟨z, rfl⟩ := h2
    exact ⟨⟨z, h1⟩, fun h => h3 (.inl h)⟩
  | txt =>
    obtain ⟨z, rfl, -⟩ := h2
    exact ⟨⟨z, h1⟩, fun h => h3 (.inl h)⟩
  | yes =>
    obtain ⟨z, rfl⟩ := h2
    exact ⟨⟨z, h1⟩, h3 (.inr rfl)⟩

/-- A struct of single cells lies whole. -/
def CellsOk (mk : Bool) (ks : List Kd) (w : World) (p q : Nat) : Prop := ∀ (d : Nat) (k : Kd), ks[d]? = some k → ∃ v, w.cell? ⟨p, q + d, none⟩ = some v ∧ k.ok v ∧ ((mk = true ∨ k = .yes) → w.frozen? ⟨p, q + d, none⟩ = false)
theorem CellsOk.agree {mk : Bool} {ks : List Kd} {w w' : World} {p q : Nat} (h : CellsOk mk ks w p q) (ha : w'.heap[p]? = w.heap[p]?) : CellsOk mk ks w' p q := fun d k hd => by
  obtain ⟨v, h1, h2, h3⟩ := h d k hd
  exact ⟨v, (World.cell?_of_block ha).trans h1, h2, fun h => (World.frozen?_of_block ha).trans (h3 h)⟩

/-- The row that holds whole structs: told by its values. -/
theorem cells_of_row {ks : List Kd} {w : World} {g : Nat} {cs : Array Value} {e : TypeId} (h : w.heap[g]? = some (.cells cs e (0, 0))) {q : Nat} (hk : ∀ (d : Nat) (k : Kd), ks[d]? = some k → ∃ v, cs[q + d]? = some v ∧ k.ok v) (mk : Bool) : CellsOk mk ks w g q := fun d k hd => by
  obtain ⟨v, h1, h2⟩ := hk d k hd
  exact ⟨v, (cell_of_row _ _ _ _ _ _ h).trans h1, h2, fun _ => by simp [World.frozen?, h]⟩

theorem CellsOk.sub {mk : Bool} {ks ka : List Kd} {w : World} {p q d : Nat} (h : CellsOk mk ks w p q) (hs : (ks.drop d).take ka.length = ka) : CellsOk mk ka w p (q + d) := fun j k hj => by
  have hl : j < ka.length := (List.getElem?_eq_some_iff.1 hj).1
  have e : ((ks.drop d).take ka.length)[j]? = some k := by rw [hs]; exact hj
  rw [List.getElem?_take, if_pos hl, List.getElem?_drop] at e
  have := h (d + j) k e
  rwa [← Nat.add_assoc] at this
theorem CellsOk.weak {ks : List Kd} {w : World} {p q : Nat} (h : CellsOk true ks w p q) : CellsOk false ks w p q := fun d k hd => by
  obtain ⟨v, h1, h2, h3⟩ := h d k hd
  exact ⟨v, h1, h2, fun _ => h3 (.inl rfl)⟩
/-- Values of these kinds, one by one. -/
inductive AllOk : List Kd → List Value → Prop
  | nil : AllOk [] []
  | cons {k : Kd} {v : Value} {ks : List Kd} {vs : List Value} : k.ok v → AllOk ks vs → AllOk (k :: ks) (v :: vs)
/-- Out of a block's own text. -/
theorem cells_of_list {ks : List Kd} {vs : List Value} {w : World} {p q : Nat} {cs : Array Value} {e : TypeId} (h : w.heap[p]? = some (.cells cs e (0, 0))) (hv : (cs.toList.drop q).take vs.length = vs) (hk : AllOk ks vs) (mk : Bool) : CellsOk mk ks w p q :=
  cells_of_row h (fun d k hd => by
    have hl : ∀ (ks : List Kd) (vs : List Value), AllOk ks vs → ∀ (d : Nat) (k : Kd), ks[d]? = some k → ∃ v, vs[d]? = some v ∧ k.ok v := by
      intro ks vs hk
      induction hk with
      | nil => intro d k hd; simp at hd
      | cons h1 _ ih =>
        intro d k hd
        cases d with
        | zero => obtain rfl := Option.some.inj hd; exact ⟨_, rfl, h1⟩
        | succ d => exact ih d k (by simpa using hd)
    obtain ⟨v, h1, h2⟩ := hl ks vs hk d k hd
    refine ⟨v, ?_, h2⟩
    have h3 : d < vs.length := (List.getElem?_eq_some_iff.1 h1).1
    have e : ((cs.toList.drop q).take vs.length)[d]? = some v := by rw [hv]; exact h1
    rw [List.getElem?_take, if_pos h3, List.getElem?_drop] at e
    simpa using e) mk

/-- A shape that is laid as single cells of these kinds; how many strings it has, how many numbers at least. -/
structure FitsBy (A : Shape) (ks : List Kd) (B m : Nat) : Prop where
  fit : ∀ {K : Nat → Prop} {mk rm : Bool} {w : World} {p q : Nat}, CellsOk mk ks w p q → A.fit K mk rm w p q
  few : ∀ (rm : Bool) (w : World) (p q : Nat), A.few rm w p q ≤ B
  grow : ∀ (rm : Bool) (w : World) (p q : Nat) (s : Seen), s.1.length + m ≤ (A.sees rm w p q s).1.length
theorem CellsOk.one {mk : Bool} {k : Kd} {w : World} {p q : Nat} (h : CellsOk mk [k] w p q) : ∃ v, w.cell? ⟨p, q, none⟩ = some v ∧ k.ok v ∧ ((mk = true ∨ k = .yes) → w.frozen? ⟨p, q, none⟩ = false) := h 0 k rfl
theorem fitsBy_num (k : IntKind) : FitsBy (numS k) [.num k] 0 1 := ⟨fun h => Kd.fit (.num k) h.one, fun _ _ _ _ => Nat.le_refl _, fun rm w p q s => by simp [numS]⟩
theorem fitsBy_str : FitsBy strS [.str] 1 0 := ⟨fun h => Kd.fit .str h.one, fun _ _ _ _ => Nat.le_refl _, fun rm w p q s => by simp [strS]⟩
theorem fitsBy_txt : FitsBy strS [.txt] 1 0 := ⟨fun h => Kd.fit .txt h.one, fun _ _ _ _ => Nat.le_refl _, fun rm w p q s => by simp [strS]⟩
theorem fitsBy_yes : FitsBy yesS [.yes] 0 1 := ⟨fun h => Kd.fit .yes h.one, fun _ _ _ _ => Nat.le_refl _, fun rm w p q s => by simp [yesS]⟩
theorem fitsBy_nil (ks : List Kd) : FitsBy (seqS (shp [])) ks 0 0 := ⟨fun _ => trivial, fun _ _ _ _ => Nat.le_refl _, fun _ _ _ _ _ => Nat.le_refl _⟩
theorem fitsBy_cons {d : Nat} {f : FuncId} {A : Shape} {r : List (Nat × FuncId × Shape)} {ks ka : List Kd} {B m B' m' : Nat} (hA : FitsBy A ka B m) (hs : (ks.drop d).take ka.length = ka) (hr : FitsBy (seqS (shp r)) ks B' m') :
    FitsBy (seqS (shp ((d, f, A) :: r))) ks (B + B') (m + m') :=
  ⟨fun h => ⟨hA.fit (h.sub hs), hr.fit h⟩, fun rm w p q => Nat.add_le_add (hA.few rm w p (q + d)) (hr.few rm w p q), fun rm w p q s => by
    have h1 := hA.grow rm w p (q + d) s
    have h2 := hr.grow rm w p q (A.sees rm w p (q + d) s)
    show s.1.length + (m + m') ≤ ((seqS (shp r)).sees rm w p q (A.sees rm w p (q + d) s)).1.length
    omega⟩

/-- How many numbers a slice shows at least. -/
theorem goAll_grow {f : Nat → Seen → Seen} (h : ∀ i s, s.1.length + 1 ≤ (f i s).1.length) : ∀ m i s, min (s.1.length + m) 200000 ≤ (goAll f m i s).1.length
  | 0, i, s => by simp only [goAll]; omega
  | m + 1, i, s => by
    have h1 := h i s
    have h2 := goAll_grow h m (i + 1) (f i s)
    simp only [goAll]
    split <;> omega
theorem goAll_mono {f : Nat → Seen → Seen} (h : ∀ i s, s.1.length ≤ (f i s).1.length) : ∀ m i s, s.1.length ≤ (goAll f m i s).1.length
  | 0, i, s => Nat.le_refl _
  | m + 1, i, s => by
    have h1 := h i s
    have h2 := goAll_mono h m (i + 1) (f i s)
    simp only [goAll]
    split <;> omega
theorem all_mono {es : Nat} {A : Shape} {ks : List Kd} {B m : Nat} (hA : FitsBy A ks B m) (rm : Bool) (w : World) (p q : Nat) (s : Seen) : s.1.length ≤ ((allS es A).sees rm w p q s).1.length := by
  simp only [allS]
  generalize w.cell? ⟨p, q, none⟩ = o
  unfold allSees
  split
  · rename_i ad n c
    have := goAll_mono (f := fun i s => A.sees rm w ad.block (ad.off + i * es) s) (fun i s => by have := hA.grow rm w ad.block (ad.off + i * es) s; omega) (visN rm n c) 0 (s.1 ++ [(n : Int)], s.2)
    simp only [List.length_append, List.length_cons, List.length_nil] at this ⊢
    omega
  · simp
  · exact Nat.le_refl _
theorem all_grow {es : Nat} {A : Shape} {ks : List Kd} {B m : Nat} (hA : FitsBy A ks B (m + 1)) {w : World} {p q : Nat} {a : Option Addr} {n c : Nat} (hv : w.cell? ⟨p, q, none⟩ = some (.slice a n c)) (ha : a = none → n = 0) (s : Seen) :
    min n 200000 ≤ ((allS es A).sees false w p q s).1.length := by
  simp only [allS, hv]
  rcases a with _ | ad
  · rw [ha rfl]; simp
  · simp only [allSees]
    have := goAll_grow (f := fun i s => A.sees false w ad.block (ad.off + i * es) s) (fun i s => by have := hA.grow false w ad.block (ad.off + i * es) s; omega) (visN false n c) 0 (s.1 ++ [(n : Int)], s.2)
    simp only [List.length_append, List.length_cons, List.length_nil, visN] at this ⊢
    simp at this ⊢
    omega
/-- Members of a row of calls never take numbers away. -/
def Mono (A : Shape) : Prop := ∀ (rm : Bool) (w : World) (p q : Nat) (s : Seen), s.1.length ≤ (A.sees rm w p q s).1.length
theorem FitsBy.mono {A : Shape} {ks : List Kd} {B m : Nat} (h : FitsBy A ks B m) : Mono A := fun rm w p q s => by have := h.grow rm w p q s; omega
theorem mono_nil : Mono (seqS (shp [])) := fun _ _ _ _ _ => Nat.le_refl _
theorem mono_cons {d : Nat} {f : FuncId} {A : Shape} {r : List (Nat × FuncId × Shape)} (hA : Mono A) (hr : Mono (seqS (shp r))) : Mono (seqS (shp ((d, f, A) :: r))) := fun rm w p q s => Nat.le_trans (hA rm w p (q + d) s) (hr rm w p q _)
/-- What one of them shows, all show. -/
theorem sees_ge {d : Nat} {f : FuncId} {A : Shape} {pre r : List (Nat × FuncId × Shape)} {rm : Bool} {w : World} {p q N : Nat} (hr : Mono (seqS (shp r))) (h : ∀ s, N ≤ (A.sees rm w p (q + d) s).1.length) :
    ∀ s, N ≤ ((seqS (shp (pre ++ (d, f, A) :: r))).sees rm w p q s).1.length := by
  induction pre with
  | nil => exact fun s => Nat.le_trans (h s) (hr rm w p q _)
  | cons x pre ih => exact fun s => ih _
end Go.Proofs.YtoplphimhbnelaaGreatDoor
namespace Go.Proofs.YtoplphimhbnelaaGreatDoor
open Go.RowKit

/-- copied: a row of its own, with room for two more. -/
def Copies (f : FuncId) (e : TypeId) (zs : List Value) : Prop := ∀ (w : World) (a : Option Addr) (n c : Nat) (vs : List Value), vs.length = n * zs.length → n ≤ 2000000 → n ≤ c → (a = none → c = 0) →
  (∀ ad, a = some ad → ∀ j u, vs[j]? = some u → w.cell? (ad.add j) = some u) → (∀ u ∈ vs, u.oneCell' = true) →
  Calls Tryz.prog f #[.slice a n c] w fun ed w' => ed = .returned (.slice (some ⟨w.heap.size, 0, none⟩) n (n + 2)) ∧ w'.heap[w.heap.size]? = some (.cells (vs ++ (zs ++ zs)).toArray e (0, 0)) ∧ But (fun _ => False) w w'

theorem wpList_append_run {P : Program} (w : World) {ops : Array Oper} {rest : List Oper} {o : Oper} {a : Act} {Q : Exit → Act → World → Prop} (hgd : o.guard = none) (s x : Operand) (t : TypeId)
    (ho : o.op = .call { callee := .builtin .append, args := #[s, x], argTypes := #[t, t] }) (v sx v' : Value) (w' : World) (hs : a.eval s = v) (hx : a.eval x = sx)
    (hr : (Builtin.append_ #[t, t] o.type #[v, sx]).run P w = .ok v' w') (h : wpList P ops Q rest (a.put o.dst v') w') : wpList P ops Q (o :: rest) a w :=
  wpList_plain hgd fun K hK => by
    unfold Oper.wp execOp
    simp only [ho, resolve, invoke, builtin, Sem.run_bind, Sem.run_pure, Result.andThen_ok, List.map_toArray, List.map_cons, List.map_nil, hs, hx, hr]
    exact hK _ _ h

theorem made_drop (z : Array Value) (n : Nat) (hz : 0 < z.size) : (madeCells z ((n + 2) * z.size)).toList.drop (n * z.size) = z.toList ++ z.toList := by
  refine List.ext_getElem (by simp [madeCells]; rw [Nat.add_mul]; omega) (fun j h1 h2 => ?_)
  have hj : j < 2 * z.size := by simp at h2; omega
  rw [List.getElem_drop]
  have hm : (n * z.size + j) % z.size = j % z.size := by rw [Nat.add_comm, Nat.add_mul_mod_self_right]
  simp only [madeCells, Array.getElem_toList, Array.getElem_map, Array.getElem_range, hm]
  rcases Nat.lt_or_ge j z.size with h | h
  · rw [List.getElem_append_left (by simpa using h), Nat.mod_eq_of_lt h]
    simp [h]
  · have h3 : j % z.size = j - z.size := by rw [Nat.mod_eq_sub_mod h, Nat.mod_eq_of_lt (by omega)]
    rw [List.getElem_append_right (by simpa using h), h3]
    have : j - z.size < z.size := by omega
    simp [this]

theorem copied_run {S e : TypeId} {i0 : TypeInfo} {z : Value} (hS : Tryz.prog.underlying S = some (.slice e)) (hi : Tryz.prog.info? e = some i0) (hz1 : i0.size = z.cells.size) (hpos : 0 < z.cells.size)
    (w : World) (a : Option Addr) (n c : Nat) (vs : List Value) (hl : vs.length = n * z.cells.size) (hn : n ≤ 2000000) (hnc : n ≤ c) (ha : a = none → c = 0)
    (h : ∀ ad, a = some ad → ∀ j u, vs[j]? = some u → w.cell? (ad.add j) = some u) (h1 : ∀ u ∈ vs, u.oneCell' = true) (ty : TypeId) :
    ∃ w', (Builtin.append_ #[S, S] ty #[.slice (some ⟨w.heap.size, 0, none⟩) 0 (n + 2), .slice a n c]).run Tryz.prog (w.alloc (.cells (madeCells z.cells ((n + 2) * z.cells.size)) e)) = .ok (.slice (some ⟨w.heap.size, 0, none⟩) n (n + 2)) w' ∧
      w'.heap[w.heap.size]? = some (.cells (vs ++ (z.cells.toList ++ z.cells.toList)).toArray e (0, 0)) ∧ But (fun _ => False) w w' := by
  obtain ⟨M, hM⟩ : ∃ M, M = madeCells z.cells ((n + 2) * z.cells.size) := ⟨_, rfl⟩
  have hMs : M.size = (n + 2) * z.cells.size := by rw [hM]; exact size_madeCells _ _
  have hMd : M.toList.drop (n * z.cells.size) = z.cells.toList ++ z.cells.toList := by rw [hM]; exact made_drop _ _ hpos
  rw [← hM]
  have hg := heap_alloc_new w (.cells M e)
  have hb : But (fun _ => False) w (w.alloc (.cells M e)) := (But.refl _ _).alloc _
  obtain ⟨w1, hw1⟩ : ∃ w1, w1 = w.alloc (.cells M e) := ⟨_, rfl⟩
  rw [← hw1] at hg hb ⊢
  rcases a with _ | ad
  · obtain rfl : c = 0 := ha rfl
    obtain rfl : n = 0 := by omega
    simp only [Nat.zero_mul] at hl hMd
    obtain rfl := List.eq_nil_of_length_eq_zero hl
    have hown : w1.ownsRow 0 e z.cells.size (.slice (some ⟨w.heap.size, 0, none⟩) 0 2) 0 [] := ⟨by simp, .inr ⟨w.heap.size, 2, M, rfl, Nat.zero_le _, hg, by omega, by simp [maxLen], by rw [hMs], by simp⟩⟩
    refine ⟨w1, run_append_owned_none (P := Tryz.prog) (w := w1) 0 S ty e i0 z.cells.size hS hi _ 0 _ hown, ?_, hb⟩
    rw [hg]
    simp only [List.drop_zero] at hMd
    simp [← hMd]
  · have hr := run_append_room (P := Tryz.prog) (w := w1) S ty e i0 hS hi w.heap.size 0 (n + 2) M hg ad n c vs (by rw [hl, hz1]) (fun j u hj => by
      have h2 := h ad rfl j u hj
      rw [hb.cell (World.block_lt_of_cell? w _ h2) (by simp), h2]) h1 (by omega) (by rw [hMs, hl, hz1, Nat.add_mul]; omega)
    simp only [Nat.zero_add, Nat.zero_mul, List.take_zero, List.nil_append] at hr
    refine ⟨_, hr, ?_, ?_⟩
    · rw [setRow_heap w1 w.heap.size _ _ e _ hg]
      rw [hl, hMd]
    · refine ⟨hb.os, hb.tape, hb.output, by simpa using hb.size, fun k hk hn' => ?_⟩
      rw [setRow_other _ _ _ _ (by omega)]
      exact hb.block k hk hn'

/-- A row of whole structs, unfrozen. -/
def RowNew (ks : List Kd) (w : World) (g m : Nat) : Prop := ∃ cs e, w.heap[g]? = some (.cells cs e (0, 0)) ∧ ∀ i, i < m → ∀ (d : Nat) (k : Kd), ks[d]? = some k → ∃ v, cs[i * ks.length + d]? = some v ∧ k.ok v
theorem RowNew.agree {ks : List Kd} {w w' : World} {g m : Nat} (h : RowNew ks w g m) (ha : w'.heap[g]? = w.heap[g]?) : RowNew ks w' g m := by
  obtain ⟨cs, e, h1, h2⟩ := h
  exact ⟨cs, e, ha.trans h1, h2⟩
theorem RowNew.lt {ks : List Kd} {w : World} {g m : Nat} (h : RowNew ks w g m) : g < w.heap.size := by
  obtain ⟨cs, e, h1, h2⟩ := h
  exact lt_of_block h1
theorem RowNew.fit {ks : List Kd} {K : Nat → Prop} {w : World} {g n c Y q B m es : Nat} {rm : Bool} {A : Shape} (h : RowNew ks w g (visN rm n c)) (hA : FitsBy A ks B m) (hes : ks.length = es) (hv : w.cell? ⟨Y, q, none⟩ = some (.slice (some ⟨g, 0, none⟩) n c))
    (hnc : n ≤ c) (hc : c ≤ maxLen) (hK : K g) : (allS es A).fit K true rm w Y q := by
  obtain ⟨cs, e, h1, h2⟩ := h
  refine ⟨_, n, c, hv, hnc, hc, (fun e => by cases e), fun ad had h0 => ?_⟩
  obtain rfl := Option.some.inj had
  refine ⟨rfl, hK, fun i hi => hA.fit (cells_of_row h1 (fun d k hd => ?_) true)⟩
  obtain ⟨v, h3, h4⟩ := h2 i hi d k hd
  exact ⟨v, by simpa [hes] using h3, h4⟩
theorem all_few {A : Shape} {ks : List Kd} {B m es : Nat} (hA : FitsBy A ks B m) {rm : Bool} {w : World} {p q : Nat} {a : Option Addr} {n c : Nat} (h : w.cell? ⟨p, q, none⟩ = some (.slice a n c)) : (allS es A).few rm w p q ≤ visN rm n c * B := by
  show allFew es A rm w (w.cell? ⟨p, q, none⟩) ≤ _
  rw [h]
  rcases a with _ | ad
  · exact Nat.zero_le _
  · exact sumFrom_le _ _ fun j _ _ => hA.few rm w _ _

/-- A slice's elements lie whole. -/
def RowAt (ks : List Kd) (w : World) (a : Option Addr) (n : Nat) : Prop := ∀ ad, a = some ad → 0 < n → ad.spot = none ∧ ∀ i, i < n → CellsOk false ks w ad.block (ad.off + i * ks.length)
theorem CellsOk.lt {mk : Bool} {ks : List Kd} {w : World} {p q : Nat} (h : CellsOk mk ks w p q) (hpos : 0 < ks.length) : p < w.heap.size := by
  obtain ⟨v, h1, -⟩ := h 0 _ (List.getElem?_eq_getElem hpos)
  have := World.block_lt_of_cell? w _ h1
  exact this
theorem RowAt.but {ks : List Kd} {w w' : World} {a : Option Addr} {n : Nat} {S : Nat → Prop} (h : RowAt ks w a n) (hpos : 0 < ks.length) (hb : But S w w') (hS : ∀ ad, a = some ad → 0 < n → ¬ S ad.block) : RowAt ks w' a n := fun ad had h0 => by
  obtain ⟨q1, q2⟩ := h ad had h0
  exact ⟨q1, fun i hi => (q2 i hi).agree (hb.block _ ((q2 i hi).lt hpos) (hS ad had h0))⟩
theorem RowAt.fit {ks : List Kd} {K : Nat → Prop} {w : World} {a : Option Addr} {n c Y q B m es : Nat} {A : Shape} (h : RowAt ks w a n) (hA : FitsBy A ks B m) (hes : ks.length = es) (hv : w.cell? ⟨Y, q, none⟩ = some (.slice a n c))
    (hnc : n ≤ c) (hc : c ≤ maxLen) (ha : a = none → c = 0) (hK : ∀ ad, a = some ad → 0 < n → K ad.block) : (allS es A).fit K false false w Y q := by
  refine ⟨a, n, c, hv, hnc, hc, ha, fun ad had h0 => ?_⟩
  have h0' : 0 < n := by simpa [visN] using h0
  obtain ⟨q1, q2⟩ := h ad had h0'
  refine ⟨q1, hK ad had h0', fun i hi => hA.fit ?_⟩
  have := q2 i (by simpa [visN] using hi)
  rwa [hes] at this
/-- A slice that owns its row (a result's). -/
theorem fit_of_own {K : Nat → Prop} {w : World} {B es n Bf m : Nat} {e : TypeId} {v : Value} {xs : List Value} {A : Shape} {ks : List Kd} {Y q : Nat} (hA : FitsBy A ks Bf m) (hes : ks.length = es)
    (hv : w.cell? ⟨Y, q, none⟩ = some v) (h : w.ownsRow B e es v n xs) (hx : ∀ i d k, i < n → ks[d]? = some k → ∃ u, xs[i * es + d]? = some u ∧ k.ok u) (hK : ∀ g, v.ownBlock = some g → K g) : (allS es A).fit K true false w Y q ∧ (allS es A).few false w Y q ≤ n * Bf := by
  rcases h.2 with ⟨rfl, rfl⟩ | ⟨g, cap, cur, rfl, hB, hg, h1, h2, h3, h4⟩
  · exact ⟨⟨none, 0, 0, hv, Nat.le_refl _, Nat.zero_le _, fun _ => rfl, fun ad e => by cases e⟩, by have := all_few hA (es := es) (rm := false) hv; simpa [visN] using this⟩
  · refine ⟨⟨_, n, cap, hv, h1, h2, (fun e => by cases e), fun ad had _ => ?_⟩, by have := all_few hA (es := es) (rm := false) hv; simpa [visN] using this⟩
    obtain rfl := Option.some.inj had
    refine ⟨rfl, hK g rfl, fun i hi => hA.fit (cells_of_row hg (fun d k hd => ?_) true)⟩
    have hi' : i < n := by simpa [visN] using hi
    obtain ⟨u, hu, hk⟩ := hx i d k hi' hd
    refine ⟨u, ?_, hk⟩
    have h5 : (cur.toList.take (n * es))[i * es + d]? = some u := by rw [h4]; exact hu
    rw [List.getElem?_take] at h5
    split at h5
    · simpa using h5
    · cases h5

/-- The values of such a slice's cells. -/
theorem rows_of {ks : List Kd} (hpos : 0 < ks.length) {w : World} {a : Option Addr} {n c : Nat} (hR : RowAt ks w a n) (h2 : n ≤ c) (h4 : a = none → c = 0) :
    ∃ vs : List Value, vs.length = n * ks.length ∧ (∀ ad, a = some ad → ∀ j u, vs[j]? = some u → w.cell? (ad.add j) = some u) ∧ ∀ i, i < n → ∀ (d : Nat) (k : Kd), ks[d]? = some k → ∃ v, vs[i * ks.length + d]? = some v ∧ k.ok v := by
  rcases a with _ | ad
  · obtain rfl : c = 0 := h4 rfl
    obtain rfl : n = 0 := by omega
    exact ⟨[], by simp, (fun ad e => by cases e), fun i hi => absurd hi (Nat.not_lt_zero _)⟩
  · rcases Nat.eq_zero_or_pos n with h0 | h0
    · subst h0
      exact ⟨[], by simp, fun ad' _ j u hj => by simp at hj, fun i hi => absurd hi (Nat.not_lt_zero _)⟩
    · obtain ⟨q1, q3⟩ := hR ad rfl h0
      have hcell : ∀ i, i < n → ∀ (d : Nat) (k : Kd), ks[d]? = some k → ∃ v, w.cell? ⟨ad.block, ad.off + i * ks.length + d, none⟩ = some v ∧ k.ok v := fun i hi d k hd => by
        obtain ⟨v, k1, k2, -⟩ := q3 i hi d k hd
        exact ⟨v, k1, k2⟩
      have hall : ∀ j, j < n * ks.length → ∃ v, w.cell? ⟨ad.block, ad.off + j, none⟩ = some v := fun j hj => by
        have hd := Nat.mod_lt j hpos
        have hi : j / ks.length < n := Nat.div_lt_of_lt_mul (by rw [Nat.mul_comm]; exact hj)
        obtain ⟨v, k1, -⟩ := hcell _ hi (j % ks.length) _ (List.getElem?_eq_getElem hd)
        refine ⟨v, ?_⟩
        rw [Nat.add_assoc, Nat.mul_comm, Nat.div_add_mod] at k1
        exact k1
      refine ⟨(List.range (n * ks.length)).map fun j => (w.cell? ⟨ad.block, ad.off + j, none⟩).getD (.bool false), by simp, fun ad' e j u hj => ?_, fun i hi d k hd => ?_⟩
      · obtain rfl := Option.some.inj e
        rw [add_none q1]
        have hjn : j < n * ks.length := by simpa using (List.getElem?_eq_some_iff.1 hj).1
        obtain ⟨v, hv⟩ := hall j hjn
        rw [List.getElem?_map, List.getElem?_range hjn] at hj
        simp [hv] at hj
        rw [hv, hj]
      · obtain ⟨v, k1, k2⟩ := hcell i hi d k hd
        have hdl : d < ks.length := (List.getElem?_eq_some_iff.1 hd).1
        have hjn : i * ks.length + d < n * ks.length := by
          have := Nat.mul_le_mul_right ks.length (show i + 1 ≤ n from hi)
          rw [Nat.succ_mul] at this
          omega
        refine ⟨v, ?_, k2⟩
        rw [List.getElem?_map, List.getElem?_range hjn]
        rw [Nat.add_assoc] at k1
        simp [k1]
theorem rows_one {ks : List Kd} (hpos : 0 < ks.length) {n : Nat} {vs : List Value} (hvl : vs.length = n * ks.length) (hvk : ∀ i, i < n → ∀ (d : Nat) (k : Kd), ks[d]? = some k → ∃ v, vs[i * ks.length + d]? = some v ∧ k.ok v) : ∀ u ∈ vs, u.oneCell' = true := fun u hu => by
  obtain ⟨j, hj, rfl⟩ := List.mem_iff_getElem.1 hu
  have hd := Nat.mod_lt j hpos
  have hi : j / ks.length < n := Nat.div_lt_of_lt_mul (by rw [Nat.mul_comm, ← hvl]; exact hj)
  obtain ⟨v, k1, k2⟩ := hvk _ hi (j % ks.length) _ (List.getElem?_eq_getElem hd)
  rw [Nat.mul_comm, Nat.div_add_mod, List.getElem?_eq_getElem hj] at k1
  rw [Option.some.inj k1]
  exact Kd.ok_one k2
/-- Such a slice is copied whole. -/
theorem copied_row {f : FuncId} {e : TypeId} {ks : List Kd} (hC : Copies f e (ks.map Kd.zero)) (hpos : 0 < ks.length) {w : World} {a : Option Addr} {n c : Nat} (hR : RowAt ks w a n) (hn : n ≤ 2000000) (h2 : n ≤ c) (h4 : a = none → c = 0) :
    Calls Tryz.prog f #[.slice a n c] w fun ed w' => ed = .returned (.slice (some ⟨w.heap.size, 0, none⟩) n (n + 2)) ∧ But (fun _ => False) w w' ∧ RowNew ks w' w.heap.size (n + 2) := by
  obtain ⟨vs, hvl, hvr, hvk⟩ := rows_of hpos hR h2 h4
  refine (hC w a n c vs (by simpa using hvl) hn h2 h4 hvr (rows_one hpos hvl hvk)).mono ?_
  rintro ed w' ⟨he, hr, hb⟩
  refine ⟨he, hb, _, _, hr, fun i hi d k hd => ?_⟩
  have hdl : d < ks.length := (List.getElem?_eq_some_iff.1 hd).1
  rcases Nat.lt_or_ge i n with hin | hin
  · obtain ⟨v, k1, k2⟩ := hvk i hin d k hd
    refine ⟨v, ?_, k2⟩
    rw [List.getElem?_toArray, List.getElem?_append_left (List.getElem?_eq_some_iff.1 k1).1]
    exact k1
  · refine ⟨k.zero, ?_, k.zero_ok⟩
    have hmul : n * ks.length ≤ i * ks.length := Nat.mul_le_mul_right _ hin
    rw [List.getElem?_toArray, List.getElem?_append_right (by omega), hvl]
    have hz : (ks.map Kd.zero)[d]? = some k.zero := by simp [hd]
    rcases Nat.eq_or_lt_of_le hin with e | e
    · rw [← e, show n * ks.length + d - n * ks.length = d by omega, List.getElem?_append_left (by simpa using hdl)]
      exact hz
    · obtain rfl : i = n + 1 := by omega
      rw [show (n + 1) * ks.length + d - n * ks.length = ks.length + d by rw [Nat.succ_mul]; omega, List.getElem?_append_right (by simp), List.length_map, show ks.length + d - ks.length = d by omega]
      exact hz
theorem copied_new {f : FuncId} {e : TypeId} {ks : List Kd} (hC : Copies f e (ks.map Kd.zero)) (hpos : 0 < ks.length) {w : World} {a : Option Addr} {n c : Nat} (hR : RowAt ks w a n) (hn : n ≤ 2000000) (h2 : n ≤ c) (h4 : a = none → c = 0) :
    Calls Tryz.prog f #[.slice a n c] w fun ed w' => ∃ g : Nat, ed = .returned (.slice (some ⟨g, 0, none⟩) n (n + 2)) ∧ But (fun _ => False) w w' ∧ (w.heap.size ≤ g ∧ RowNew ks w' g (n + 2)) :=
  (copied_row hC hpos hR hn h2 h4).mono fun ed w' ⟨he, hb, hr⟩ => ⟨_, he, hb, Nat.le_refl _, hr⟩
end Go.Proofs.YtoplphimhbnelaaGreatDoor
namespace Go.Proofs.YtoplphimhbnelaaGreatDoor
open Go.RowKit

/-- A type that is laid as so many single cells, of these kinds. -/
def FlatT (t : TypeId) (ks : List Kd) : Prop := ∀ (H : Type) (enc : TypeId × Value → H) (w : World) (base : Nat) (spare : Nat → Bool) (held : Bool) (n : Nat) (cs : List Value) (y : DataW H × List MemPlace),
  DataW.trod enc Tryz.prog w base spare held n t cs = some y → cs.length = ks.length ∧ ∀ (d : Nat) (k : Kd), ks[d]? = some k → ∃ v, cs[d]? = some v ∧ k.ok v
theorem flatT_num {t : TypeId} {k : IntKind} (h : Tryz.prog.underlying t = some (.int k)) : FlatT t [.num k] := by
  intro H enc w base spare held n cs y hy
  obtain ⟨z, rfl, -, hw⟩ := DataW.trod_int h hy
  refine ⟨rfl, fun d k' hd => ?_⟩
  cases d with
  | zero =>
    obtain rfl : Kd.num k = k' := by simpa using hd
    refine ⟨_, rfl, z, rfl, ?_⟩
    simpa [Lit.wf, InK] using hw
  | succ d => simp at hd
theorem flatT_txt {t : TypeId} (h : Tryz.prog.underlying t = some .string) : FlatT t [.txt] := by
  intro H enc w base spare held n cs y hy
  obtain ⟨z, rfl, -, hw⟩ := DataW.trod_string h hy
  refine ⟨rfl, fun d k' hd => ?_⟩
  cases d with
  | zero =>
    obtain rfl : Kd.txt = k' := by simpa using hd
    exact ⟨_, rfl, z, rfl, hw⟩
  | succ d => simp at hd
theorem flatT_yes {t : TypeId} (h : Tryz.prog.underlying t = some .bool) : FlatT t [.yes] := by
  intro H enc w base spare held n cs y hy
  obtain ⟨z, rfl, -⟩ := DataW.trod_bool h hy
  refine ⟨rfl, fun d k' hd => ?_⟩
  cases d with
  | zero =>
    obtain rfl : Kd.yes = k' := by simpa using hd
    exact ⟨_, rfl, z, rfl⟩
  | succ d => simp at hd
theorem flatT_struct {t : TypeId} {fs : Array Field} {ks : List Kd} (h : Tryz.prog.underlying t = some (.struct fs)) (hc : Tryz.prog.cellsOf t = ks.length)
    (hf : ∀ (d : Nat) (k : Kd), ks[d]? = some k → ∃ (i : Nat) (f : Field) (kf : List Kd), fs[i]? = some f ∧ FlatT f.type kf ∧ f.offset ≤ d ∧ kf[d - f.offset]? = some k) : FlatT t ks := by
  intro H enc w base spare held n cs y hy
  obtain ⟨xs, m, -, -, hl, hxl, hx⟩ := DataW.trod_struct h hy
  refine ⟨hl.trans hc, fun d k hd => ?_⟩
  obtain ⟨i, f, kf, hi, hF, ho, hk⟩ := hf d k hd
  have hlt : i < xs.length := by rw [hxl]; exact (Array.getElem?_eq_some_iff.1 hi).1
  have := hx i f hi
  rw [List.getElem?_eq_getElem hlt] at this
  obtain ⟨-, h2⟩ := hF H enc w base spare held m _ _ this
  obtain ⟨v, hv, hkv⟩ := h2 _ _ hk
  refine ⟨v, ?_, hkv⟩
  rw [List.getElem?_take] at hv
  split at hv
  · rw [List.getElem?_drop, Nat.add_sub_cancel' ho] at hv
    exact hv
  · cases hv

/-- A slice of such, opened: whole, its room too. -/
theorem row_of_trod {H : Type} {enc : TypeId × Value → H} {W : World} {n : Nat} {t e : TypeId} {ks : List Kd} {v : Value} {y : DataW H × List MemPlace} (ht : Tryz.prog.underlying t = some (.slice e)) (hF : FlatT e ks) (hc : Tryz.prog.cellsOf e = ks.length) (hpos : 0 < ks.length)
    (hy : ∀ k ∈ ks, k ≠ .yes) (h : DataW.trod enc Tryz.prog W 0 (fun _ => true) true n t [v] = some y) (hlt : ∀ x ∈ y.2, x.block < W.heap.size) :
    ∃ a len cap, v = .slice a len cap ∧ len ≤ cap ∧ cap ≤ maxLen ∧ (a = none → cap = 0) ∧ (∀ ad, a = some ad → 0 < cap → ad.spot = none ∧ ad.block < W.heap.size ∧ ∀ i, i < cap → CellsOk false ks W ad.block (ad.off + i * ks.length)) ∧
      ∃ els sp, y.1 = .nil ∧ cap = 0 ∨ y.1 = .slice els sp ∧ els.length = len ∧ sp.length = cap - len := by
  rcases Go.Deep.open_slice ht h with ⟨h0, hx⟩ | ⟨a, len, cap, m, n', D, Pl, h0, hb, hl, hm, hmm, hx, he⟩
  · obtain rfl := List.singleton_inj.1 h0
    refine ⟨none, 0, 0, rfl, Nat.le_refl _, Nat.zero_le _, fun _ => rfl, (fun ad e => by cases e), [], [], .inl ⟨by rw [hx], rfl⟩⟩
  · obtain rfl := List.singleton_inj.1 h0
    simp only [if_true] at hmm
    subst hmm
    refine ⟨some a, len, m, rfl, hl, hm, (fun e => by cases e), fun ad had h0 => ?_, (List.range len).map D, (List.range (m - len)).map fun j => D (len + j), .inr ⟨by rw [hx], by simp, by simp⟩⟩
    obtain rfl := Option.some.inj had
    have hcell : ∀ i, i < m → ∀ j, j < ks.length → ∃ v, W.cell? ((a.add (i * ks.length)).add j) = some v ∧ ∀ k, ks[j]? = some k → k.ok v := fun i hi j hj => by
      obtain ⟨cs', h1, h2⟩ := he i hi
      rw [hc] at h1
      obtain ⟨-, hlen, hcs⟩ := World.cells?_some h1
      obtain ⟨-, h3⟩ := hF _ _ _ _ _ _ _ _ _ h2
      obtain ⟨v, hv, hk⟩ := h3 j _ (List.getElem?_eq_getElem hj)
      refine ⟨v, (hcs j hj).trans hv, fun k hk2 => ?_⟩
      rw [List.getElem?_eq_getElem hj] at hk2
      obtain rfl := Option.some.inj hk2
      exact hk
    have hspot : a.spot = none := by
      obtain ⟨v, hv, -⟩ := hcell 0 h0 0 hpos
      simp only [Nat.zero_mul] at hv
      have e0 : (a.add 0).add 0 = a := by simp [Addr.add]
      rw [e0] at hv
      unfold World.cell? at hv
      split at hv
      · split at hv
        · cases hv
        · rename_i h5
          simpa using h5
      · cases hv
    refine ⟨hspot, ?_, fun i hi d k hd => ?_⟩
    · refine hlt (.cell a.block a.off) ?_
      rw [hx]
      refine List.mem_append_left _ (MemPlace.mem_row.2 ⟨0, ?_, by simp⟩)
      rw [hc]
      exact Nat.mul_pos h0 hpos
    · obtain ⟨v, hv, hk⟩ := hcell i hi d (List.getElem?_eq_some_iff.1 hd).1
      rw [add_none hspot, add_none rfl] at hv
      refine ⟨v, hv, hk k hd, fun e => ?_⟩
      rcases e with e | e
      · cases e
      · exact absurd e (hy k (List.mem_of_getElem? hd))
end Go.Proofs.YtoplphimhbnelaaGreatDoor
namespace Go.Proofs.YtoplphimhbnelaaGreatDoor
open Go.RowKit Go.Joins
set_option maxRecDepth 100000

/-- A cell of what came in: single, or a slice of flat elements. -/
inductive CK
  | kd (k : Kd) | row (ks : List Kd)
/-- What is known of such a cell. -/
def CellFine (W : World) (B : Nat) : CK → Value → Prop
  | .kd k, v => k.ok v
  | .row ks, v => ∃ a n c, v = .slice a n c ∧ n ≤ c ∧ c ≤ maxLen ∧ (a = none → c = 0) ∧ RowAt ks W a n ∧ n ≤ B
/-- The places that were read: they lie in W, none is frozen. -/
structure Fine (W : World) (p : List MemPlace) : Prop where
  lt : ∀ x ∈ p, x.block < W.heap.size
  free : ∀ b off, MemPlace.cell b off ∈ p → W.frozen? ⟨b, off, none⟩ = false
theorem Fine.sub {W : World} {p q : List MemPlace} (h : Fine W p) (hs : ∀ x ∈ q, x ∈ p) : Fine W q := ⟨fun x hx => h.lt x (hs x hx), fun b off hx => h.free b off (hs _ hx)⟩
/-- A bound of what came in, part by part. -/
structure Bound (H : Type) (B : Nat) where
  good : DataW H → Prop
  agg : ∀ l, good (.agg l) → ∀ x ∈ l, good x
  sl : ∀ els sp, good (.slice els sp) → els.length ≤ B

def LayT (t : TypeId) (cks : List CK) : Prop := ∀ (H : Type) (enc : TypeId × Value → H) (W : World) (B : Nat) (G : Bound H B) (n : Nat) (cs : List Value) (y : DataW H × List MemPlace),
  DataW.trod enc Tryz.prog W 0 (fun _ => true) true n t cs = some y → Fine W y.2 → G.good y.1 → cs.length = cks.length ∧ ∀ (d : Nat) (k : CK), cks[d]? = some k → ∃ v, cs[d]? = some v ∧ CellFine W B k v
theorem layT_flat {t : TypeId} {ks : List Kd} (h : FlatT t ks) : LayT t (ks.map CK.kd) := by
  intro H enc W B G n cs y hy hf hg
  obtain ⟨h1, h2⟩ := h H enc W 0 _ _ n cs y hy
  refine ⟨by simpa using h1, fun d k hd => ?_⟩
  rw [List.getElem?_map] at hd
  cases hk : ks[d]? with
  | none => rw [hk] at hd; cases hd
  | some k' =>
    rw [hk] at hd
    obtain rfl : CK.kd k' = k := by simpa using hd
    exact h2 d k' hk
theorem layT_slice {t e : TypeId} {ks : List Kd} (ht : Tryz.prog.underlying t = some (.slice e)) (hF : FlatT e ks) (hc : Tryz.prog.cellsOf e = ks.length) (hpos : 0 < ks.length) : LayT t [.row ks] := by
  intro H enc W B G n cs y hy hf hg
  rcases Go.Deep.open_slice ht hy with ⟨h0, hx⟩ | ⟨a, len, cap, m, n', D, Pl, h0, hb, hl, hm, hmm, hx, he⟩
  · subst h0
    refine ⟨rfl, fun d k hd => ?_⟩
    cases d with
    | zero =>
      obtain rfl : CK.row ks = k := by simpa using hd
      exact ⟨_, rfl, none, 0, 0, rfl, Nat.le_refl _, Nat.zero_le _, fun _ => rfl, (fun ad e => by cases e), Nat.zero_le _⟩
    | succ d => simp at hd
  · subst h0
    simp only [if_true] at hmm
    subst hmm
    refine ⟨rfl, fun d k hd => ?_⟩
    cases d with
    | succ d => simp at hd
    | zero =>
      obtain rfl : CK.row ks = k := by simpa using hd
      have hlen : len ≤ B := by
        rw [hx] at hg
        have := G.sl _ _ hg
        simpa using this
      refine ⟨_, rfl, some a, len, m, rfl, hl, hm, (fun e => by cases e), fun ad had h0 => ?_, hlen⟩
      obtain rfl := Option.some.inj had
      have hcell : ∀ i, i < m → ∀ j, j < ks.length → ∃ v, W.cell? ((a.add (i * ks.length)).add j) = some v ∧ ∀ k, ks[j]? = some k → k.ok v := fun i hi j hj => by
        obtain ⟨cs', h1, h2⟩ := he i hi
        rw [hc] at h1
        obtain ⟨-, hlen, hcs⟩ := World.cells?_some h1
        obtain ⟨-, h3⟩ := hF _ _ _ _ _ _ _ _ _ h2
        obtain ⟨v, hv, hk⟩ := h3 j _ (List.getElem?_eq_getElem hj)
        refine ⟨v, (hcs j hj).trans hv, fun k hk2 => ?_⟩
        rw [List.getElem?_eq_getElem hj] at hk2
        obtain rfl := Option.some.inj hk2
        exact hk
      have hspot : a.spot = none := by
        obtain ⟨v, hv, -⟩ := hcell 0 (by omega) 0 hpos
        simp only [Nat.zero_mul] at hv
        have e0 : (a.add 0).add 0 = a := by simp [Addr.add]
        rw [e0] at hv
        unfold World.cell? at hv
        split at hv
        · split at hv
          · cases hv
          · rename_i h5
            simpa using h5
        · cases hv
      refine ⟨hspot, fun i hi d k hd => ?_⟩
      have hdl := (List.getElem?_eq_some_iff.1 hd).1
      obtain ⟨v, hv, hk⟩ := hcell i (by omega) d hdl
      rw [add_none hspot, add_none rfl] at hv
      refine ⟨v, hv, hk k hd, fun _ => hf.free _ _ ?_⟩
      rw [hx]
      refine List.mem_append_left _ (MemPlace.mem_row.2 ⟨i * ks.length + d, ?_, by simp [Nat.add_assoc]⟩)
      rw [hc]
      have : (i + 1) * ks.length ≤ m * ks.length := Nat.mul_le_mul_right _ (by omega)
      rw [Nat.succ_mul] at this
      omega
theorem layT_struct {t : TypeId} {fs : Array Field} {cks : List CK} (h : Tryz.prog.underlying t = some (.struct fs)) (hc : Tryz.prog.cellsOf t = cks.length)
    (hf : ∀ (d : Nat) (k : CK), cks[d]? = some k → ∃ (i : Nat) (f : Field) (kf : List CK), fs[i]? = some f ∧ LayT f.type kf ∧ f.offset ≤ d ∧ kf[d - f.offset]? = some k) : LayT t cks := by
  intro H enc W B G n cs y hy hfi hg
  obtain ⟨xs, m, -, hyx, hl, hxl, hx⟩ := DataW.trod_struct h hy
  refine ⟨hl.trans hc, fun d k hd => ?_⟩
  obtain ⟨i, f, kf, hi, hF, ho, hk⟩ := hf d k hd
  have hlt : i < xs.length := by rw [hxl]; exact (Array.getElem?_eq_some_iff.1 hi).1
  have h3 := hx i f hi
  rw [List.getElem?_eq_getElem hlt] at h3
  have hmem : xs[i] ∈ xs := List.getElem_mem _
  obtain ⟨-, h2⟩ := hF H enc W B G m _ _ h3 (hfi.sub fun x hx => by rw [hyx]; exact List.mem_flatMap.2 ⟨_, hmem, hx⟩) (G.agg (xs.map (·.1)) (by rw [hyx] at hg; exact hg) _ (List.mem_map.2 ⟨_, hmem, rfl⟩))
  obtain ⟨v, hv, hkv⟩ := h2 _ _ hk
  refine ⟨v, ?_, hkv⟩
  rw [List.getElem?_take] at hv
  split at hv
  · rw [List.getElem?_drop, Nat.add_sub_cancel' ho] at hv
    exact hv
  · cases hv
end Go.Proofs.YtoplphimhbnelaaGreatDoor
namespace Go.Proofs.YtoplphimhbnelaaGreatDoor
open Go.RowKit
set_option maxRecDepth 100000

theorem info3 : (Tryz.prog.info? 3).map (fun i => (i.zero, i.size, i.bytes)) = some (some (.int .i64 0), 1, 8) := by kernel_rfl
theorem info9 : (Tryz.prog.info? 9).map (fun i => (i.zero, i.size, i.bytes)) = some (some (.string ByteArray.empty), 1, 16) := by kernel_rfl

/-- What the five cells of an eye hold, for the walk. -/
theorem eye_cells {w : World} {b : Nat} {v sv : Value} {mk rm : Bool} {t : Int} (he : w.heap[b]? = some (.cells (eyeCells v sv mk t rm) 70 (0, 0))) :
    w.cell? ⟨b, 0, none⟩ = some v ∧ w.cell? ⟨b, 2, none⟩ = some (.bool mk) ∧ w.cell? ⟨b, 3, none⟩ = some (.int .i64 t) ∧ w.cell? ⟨b, 4, none⟩ = some (.bool rm) ∧
      (∀ o, w.frozen? ⟨b, o, none⟩ = false) := by
  refine ⟨?_, ?_, ?_, ?_, ?_⟩ <;> simp [World.cell?, World.frozen?, he, eyeCells]
theorem eye_all {w : World} {b : Nat} {v sv : Value} {mk rm : Bool} {t : Int} (he : w.heap[b]? = some (.cells (eyeCells v sv mk t rm) 70 (0, 0))) :
    w.cell? ⟨b, 0, none⟩ = some v ∧ w.cell? ⟨b, 1, none⟩ = some sv ∧ w.cell? ⟨b, 2, none⟩ = some (.bool mk) ∧ w.cell? ⟨b, 3, none⟩ = some (.int .i64 t) ∧ w.cell? ⟨b, 4, none⟩ = some (.bool rm) := by
  refine ⟨?_, ?_, ?_, ?_, ?_⟩ <;> simp [World.cell?, he, eyeCells]
theorem ownsRow_form {w : World} {base : Nat} {e : TypeId} {size : Nat} {v : Value} {n : Nat} {xs : List Value} (h : w.ownsRow base e size v n xs) : ∃ o c, v = .slice o n c := by
  rcases h.2 with ⟨rfl, rfl⟩ | ⟨g, cap, cur, rfl, _⟩
  · exact ⟨none, 0, rfl⟩
  · exact ⟨_, _, rfl⟩
theorem eye_set3 {w : World} {b : Nat} {v sv : Value} {mk rm : Bool} {t u' : Int} (he : w.heap[b]? = some (.cells (eyeCells v sv mk t rm) 70 (0, 0))) :
    (w.setCell ⟨b, 3, none⟩ (.int .i64 u')).heap[b]? = some (.cells (eyeCells v sv mk u' rm) 70 (0, 0)) := by
  rw [heap_setCell_same he]; rfl
/-- A cell that gets what it holds. -/
theorem setCell_same {w : World} {p q : Nat} {cur : Array Value} {ty : TypeId} {fr : Nat × Nat} {v : Value} (h : w.heap[p]? = some (.cells cur ty fr)) (hq : cur[q]? = some v) : w.setCell ⟨p, q, none⟩ v = w := by
  have e : cur.setIfInBounds q v = cur := by
    refine Array.ext_getElem? fun i => ?_
    by_cases hi : q = i
    · subst hi
      have hlt := (Array.getElem?_eq_some_iff.1 hq).1
      rw [hq]; simp [hlt]
    · exact Array.getElem?_setIfInBounds_ne hi
  have h2 : (w.setCell ⟨p, q, none⟩ v).heap = w.heap := by
    refine Array.ext_getElem? fun i => ?_
    by_cases hi : i = p
    · subst hi
      rw [heap_setCell_same h, h, e]
    · exact heap_setCell_far hi v
  show ({ w with heap := (w.setCell ⟨p, q, none⟩ v).heap } : World) = w
  rw [h2]
end Go.Proofs.YtoplphimhbnelaaGreatDoor
namespace Go.Proofs.YtoplphimhbnelaaGreatDoor
open Go.RowKit
set_option maxRecDepth 100000
attribute [local go_sem ↓] Go.wp_at_zero Go.wp_at_succ

def weight (ls : List ByteArray) : Nat := (ls.map fun x => min x.size 3000).sum

theorem ownsRow_atS {w : World} {base g cap : Nat} {ls : List ByteArray} (h : w.ownsRow base 9 1 (.slice (some ⟨g, 0, none⟩) ls.length cap) ls.length (ls.map Value.string)) (k : Nat) (hk : k < ls.length) :
    w.cell? ⟨g, k, none⟩ = some (.string (ls[k]'hk)) := by
  have := h.cells (g := g) rfl k (.string (ls[k]'hk)) (by simp [hk])
  have he : (⟨g, 0, none⟩ : Addr).add k = ⟨g, k, none⟩ := by unfold Addr.add; split <;> simp_all
  rwa [he] at this

/-- What great answers: if no, then little was seen. -/
def GreatPost (n : Nat) (ls : List ByteArray) (w : World) (e : Ending) (w' : World) : Prop := ∃ r, e = .returned (.bool r) ∧ (r = false → n ≤ 2000 ∧ weight ls ≤ 2000) ∧ But (fun _ => False) w w'

set_option maxHeartbeats 1600000 in
theorem great_call (w : World) (o : Option Addr) (n c : Nat) (mk rm : Bool) (t : Int) (hn : n < 1000000) (sv : Value) (B : Nat) (ls : List ByteArray) (hls : ls.length ≤ 2000000000000) (hsv : w.ownsRow B 9 1 sv ls.length (ls.map Value.string)) :
    Calls Tryz.prog 35 #[.agg (eyeCells (.slice o n c) sv mk t rm)] w fun e w' => GreatPost n ls w e w' := by
  have uE := Tryz.underlying70
  have cE : Tryz.prog.cellsOf 70 = 5 := by kernel_rfl
  obtain ⟨so, sc, hsf⟩ := ownsRow_form hsv
  obtain ⟨w2, hw2⟩ : ∃ w2, w.alloc (.cells (eyeCells (.slice o n c) sv mk t rm) 70) = w2 := ⟨_, rfl⟩
  have he : w2.heap[w.heap.size]? = some (.cells (eyeCells (.slice o n c) sv mk t rm) 70 (0, 0)) := by rw [← hw2]; exact heap_alloc_new w _
  have hbut : But (fun _ => False) w w2 := by rw [← hw2]; exact (But.refl _ _).alloc _
  have q0 : w2.cell? ⟨w.heap.size, 0, none⟩ = some (.slice o n c) := (cell_of_row _ _ 0 _ _ _ he).trans rfl
  have q1 : w2.cell? ⟨w.heap.size, 1, none⟩ = some (.slice so ls.length sc) := (cell_of_row _ _ 1 _ _ _ he).trans (by rw [← hsf]; rfl)
  have qs : ∀ k (hk : k < ls.length), ∃ g, so = some ⟨g, 0, none⟩ ∧ w2.cell? ⟨g, k, none⟩ = some (.string (ls[k]'hk)) := fun k hk => by
    obtain ⟨g, p, hv, -, hg⟩ := hsv.form (by omega)
    rw [hsf] at hv
    injection hv with e1 e2 e3
    subst e3
    rw [hsf, e1] at hsv
    exact ⟨g, e1, (hbut.cell (p := ⟨g, k, none⟩) hg (by simp)).trans (ownsRow_atS hsv k hk)⟩
  subst hsf
  unfold eyeCells at hw2
  clear he hsv
  unfold eyeCells
  go_enter Tryz.func35, Tryz.ntmps35
  go_wp2_with fail
  go_loop [3, 4] (fun s i => ∃ k : Nat, k ≤ ls.length ∧ i = .int .i64 k ∧ weight (ls.take k) ≤ 2000 ∧ s = .int .i64 (weight (ls.take k))) (fun _ i => ls.length - (intOf i).toNat)
  case atStart => exact ⟨0, Nat.zero_le _, rfl, by simp [weight], by simp [weight]⟩
  case round =>
    obtain ⟨k, hk, rfl, hwt, rfl⟩ := hrel
    have hk0 : (0 : Int) ≤ (k : Int) := Int.natCast_nonneg _
    rcases Nat.lt_or_ge k ls.length with hkn | hkn
    · obtain ⟨g, rfl, hc⟩ := qs k hkn
      have hki : (k : Int) < (ls.length : Int) := by omega
      have hW : weight (ls.take (k + 1)) = weight (ls.take k) + min (ls[k]'hkn).size 3000 := by
        unfold weight; rw [List.take_succ_eq_append_getElem hkn]; simp only [List.map_append, List.map_cons, List.map_nil, List.sum_append, List.sum_cons, List.sum_nil, Nat.add_zero]
      clear qs
      by_cases hbig : (3000 : Int) < ((ls[k]'hkn).size : Int)
      · have hsum : (2000 : Int) < (weight (ls.take k) : Int) + 3000 := by omega
        go_wp2_with fail
        go_ret
        exact ⟨true, rfl, by simp, hbut⟩
      · by_cases hgt : (2000 : Int) < (weight (ls.take k) : Int) + ((ls[k]'hkn).size : Int)
        · go_wp2_with fail
          go_ret
          exact ⟨true, rfl, by simp, hbut⟩
        · have hmin : min (ls[k]'hkn).size 3000 = (ls[k]'hkn).size := by omega
          rw [hmin] at hW
          go_wp2_with fail
          refine ⟨⟨k + 1, by omega, by go_num, by omega, ?_⟩, by simp [intOf]; omega⟩
          rw [hW]
          congr 1
          try rw [if_neg hbig]
          try omega
    · obtain rfl : k = ls.length := by omega
      clear qs
      by_cases hgn : (2000 : Int) < (n : Int)
      · go_wp2_with fail
        go_ret
        exact ⟨true, rfl, by simp, hbut⟩
      · go_wp2_with fail
        go_ret
        exact ⟨false, rfl, fun _ => ⟨by omega, by simpa using hwt⟩, hbut⟩
end Go.Proofs.YtoplphimhbnelaaGreatDoor
namespace Go.Proofs.YtoplphimhbnelaaGreatDoor
open Go.RowKit
set_option maxRecDepth 100000
attribute [local go_sem ↓] Go.wp_at_zero Go.wp_at_succ

/-- A row's cells, as a walk reads them. -/
theorem row_cells {w : World} {base : Nat} {e : TypeId} {v : Value} {n : Nat} {xs : List Value} (h : w.ownsRow base e 1 v n xs) :
    ∃ o c, v = .slice o n c ∧ ∀ k x, xs[k]? = some x → ∃ g, o = some ⟨g, 0, none⟩ ∧ w.cell? ⟨g, k, none⟩ = some x := by
  rcases h.2 with ⟨rfl, rfl⟩ | ⟨g, cap, cur, rfl, hB, hg, h1, h2, h3, h4⟩
  · refine ⟨none, 0, rfl, fun k x hx => ?_⟩
    have h0 := h.1
    simp only [Nat.zero_mul] at h0
    rw [List.eq_nil_of_length_eq_zero h0] at hx
    simp at hx
  · refine ⟨_, _, rfl, fun k x hx => ⟨g, rfl, ?_⟩⟩
    have h5 : (cur.toList.take (n * 1))[k]? = some x := by rw [h4]; exact hx
    rw [List.getElem?_take] at h5
    split at h5
    · simpa [World.cell?, hg] using h5
    · cases h5

set_option maxHeartbeats 3200000 in
theorem same_call (w : World) (l : List Int) (ls : List ByteArray) (v1 v2 s1 s2 : Value) (B1 B2 B3 B4 : Nat) (mk rm mk' rm' : Bool) (t t' : Int) (hl : l.length < 1000000) (hls : ls.length ≤ 2000000000000)
    (h1 : w.ownsRow B1 3 1 v1 l.length (l.map (Value.int .i64))) (h2 : w.ownsRow B2 3 1 v2 l.length (l.map (Value.int .i64)))
    (h3 : w.ownsRow B3 9 1 s1 ls.length (ls.map Value.string)) (h4 : w.ownsRow B4 9 1 s2 ls.length (ls.map Value.string)) :
    Calls Tryz.prog 37 #[.agg (eyeCells v1 s1 mk t rm), .agg (eyeCells v2 s2 mk' t' rm')] w fun e w' => e = .returned (.bool true) ∧ But (fun _ => False) w w' := by
  have uE := Tryz.underlying70
  have cE : Tryz.prog.cellsOf 70 = 5 := by kernel_rfl
  obtain ⟨o1, p1, rfl, a1⟩ := row_cells h1
  obtain ⟨o2, p2, rfl, a2⟩ := row_cells h2
  obtain ⟨o3, p3, rfl, a3⟩ := row_cells h3
  obtain ⟨o4, p4, rfl, a4⟩ := row_cells h4
  clear h1 h2 h3 h4
  obtain ⟨n, hn⟩ : ∃ n, l.length = n := ⟨_, rfl⟩
  obtain ⟨m, hm⟩ : ∃ m, ls.length = m := ⟨_, rfl⟩
  have b1 : ∀ k, k < n → ∃ g, o1 = some ⟨g, 0, none⟩ ∧ w.cell? ⟨g, k, none⟩ = some (.int .i64 (l.getD k 0)) := fun k hk => a1 k _ (by simp [show k < l.length from by omega])
  have b2 : ∀ k, k < n → ∃ g, o2 = some ⟨g, 0, none⟩ ∧ w.cell? ⟨g, k, none⟩ = some (.int .i64 (l.getD k 0)) := fun k hk => a2 k _ (by simp [show k < l.length from by omega])
  have b3 : ∀ k, k < m → ∃ g, o3 = some ⟨g, 0, none⟩ ∧ w.cell? ⟨g, k, none⟩ = some (.string (ls.getD k default)) := fun k hk => a3 k _ (by simp [show k < ls.length from by omega])
  have b4 : ∀ k, k < m → ∃ g, o4 = some ⟨g, 0, none⟩ ∧ w.cell? ⟨g, k, none⟩ = some (.string (ls.getD k default)) := fun k hk => a4 k _ (by simp [show k < ls.length from by omega])
  clear a1 a2 a3 a4
  rw [hn] at hl ⊢
  rw [hm] at hls ⊢
  clear hn hm
  obtain ⟨A, hA⟩ : ∃ A, A = Obj.cells (eyeCells (.slice o1 n p1) (.slice o3 m p3) mk t rm) 70 := ⟨_, rfl⟩
  obtain ⟨B, hB⟩ : ∃ B, B = Obj.cells (eyeCells (.slice o2 n p2) (.slice o4 m p4) mk' t' rm') 70 := ⟨_, rfl⟩
  obtain ⟨w2, hw2⟩ : ∃ w2, w2 = (w.alloc A).alloc B := ⟨_, rfl⟩
  have hbut : But (fun _ => False) w w2 := by rw [hw2]; exact ((But.refl _ _).alloc _).alloc _
  have hA' : w2.heap[w.heap.size]? = some (.cells (eyeCells (.slice o1 n p1) (.slice o3 m p3) mk t rm) 70 (0, 0)) := by
    rw [hw2, Below.heap_alloc (w.alloc A) B _ (by simp)]; exact (heap_alloc_new w A).trans (congrArg some hA)
  have hB' : w2.heap[w.heap.size + 1]? = some (.cells (eyeCells (.slice o2 n p2) (.slice o4 m p4) mk' t' rm') 70 (0, 0)) := by
    have hs : (w.alloc A).heap.size = w.heap.size + 1 := by simp
    rw [hw2, ← hs]; exact (heap_alloc_new (w.alloc A) B).trans (congrArg some hB)
  have q1 : w2.cell? ⟨w.heap.size, 0, none⟩ = some (.slice o1 n p1) := (cell_of_row _ _ 0 _ _ _ hA').trans rfl
  have q2 : w2.cell? ⟨w.heap.size + 1, 0, none⟩ = some (.slice o2 n p2) := (cell_of_row _ _ 0 _ _ _ hB').trans rfl
  have q3 : w2.cell? ⟨w.heap.size, 1, none⟩ = some (.slice o3 m p3) := (cell_of_row _ _ 1 _ _ _ hA').trans rfl
  have q4 : w2.cell? ⟨w.heap.size + 1, 1, none⟩ = some (.slice o4 m p4) := (cell_of_row _ _ 1 _ _ _ hB').trans rfl
  have up : ∀ {g k : Nat} {x : Value}, w.cell? ⟨g, k, none⟩ = some x → w2.cell? ⟨g, k, none⟩ = some x := fun h => (hbut.cell (World.block_lt_of_cell? w _ h) (by simp)).trans h
  have HW : Hid (w2 = (w.alloc A).alloc B ∧ A = Obj.cells (eyeCells (.slice o1 n p1) (.slice o3 m p3) mk t rm) 70 ∧ B = Obj.cells (eyeCells (.slice o2 n p2) (.slice o4 m p4) mk' t' rm') 70) := ⟨hw2, hA, hB⟩
  clear hw2 hA hB hA' hB'
  unfold eyeCells
  go_enter Tryz.func37, Tryz.ntmps37
  go_wp2_with fail
  have HX := HW.out
  obtain ⟨x1, x2, x3⟩ := HX
  unfold eyeCells at x2 x3
  rw [← x2, ← x3, ← x1]
  clear x1 x2 x3
  have l1 := World.block_lt_of_cell? w2 _ q1
  have l2 := World.block_lt_of_cell? w2 _ q2
  go_loopw [5] (fun i wr => ∃ k : Nat, k ≤ n ∧ i = .int .i64 k ∧ But (fun _ => False) w2 wr) (fun i _ => n - (intOf i).toNat)
  case atStart => exact ⟨0, Nat.zero_le _, rfl, But.refl _ _⟩
  case round =>
    obtain ⟨k, hk, rfl, hwr⟩ := hrel
    have hk0 : (0 : Int) ≤ (k : Int) := Int.natCast_nonneg _
    have r1 := (hwr.cell l1 (by simp)).trans q1
    have r2 := (hwr.cell l2 (by simp)).trans q2
    have r3 := (hwr.cell (p := ⟨w.heap.size, 1, none⟩) l1 (by simp)).trans q3
    have r4 := (hwr.cell (p := ⟨w.heap.size + 1, 1, none⟩) l2 (by simp)).trans q4
    rcases Nat.lt_or_ge k n with hkn | hkn
    · obtain ⟨g1, rfl, d1⟩ := b1 k hkn
      obtain ⟨g2, rfl, d2⟩ := b2 k hkn
      have e1 := (hwr.cell (World.block_lt_of_cell? w2 _ (up d1)) (by simp)).trans (up d1)
      have e2 := (hwr.cell (World.block_lt_of_cell? w2 _ (up d2)) (by simp)).trans (up d2)
      clear b1 b2 b3 b4 q1 q2 q3 q4 l1 l2 d1 d2 up r3 r4 HW
      have hki : (k : Int) < (n : Int) := by omega
      go_wp2_with fail
      go_region_held3 (fun w' => w'.cell? ⟨w.heap.size, 0, none⟩ = some (.slice (some ⟨g1, 0, none⟩) n p1) ∧ w'.cell? ⟨w.heap.size + 1, 0, none⟩ = some (.slice (some ⟨g2, 0, none⟩) n p2) ∧ w'.cell? ⟨g1, k, none⟩ = some (.int .i64 (l.getD k 0)) ∧ w'.cell? ⟨g2, k, none⟩ = some (.int .i64 (l.getD k 0))) (go_keep) (fail)
      go_wp2_with fail
      go_roundw
      case rel => exact ⟨k + 1, by omega, by go_num, hwr.drew⟩
      case measure => simp [intOf]; omega
    · obtain rfl : k = n := by omega
      clear b1 b2 hk0
      obtain ⟨wo, rfl⟩ : ∃ wo, wo = wr := ⟨_, rfl⟩
      go_wp2_with fail
      go_loopw [6] (fun i wq => ∃ k : Nat, k ≤ m ∧ i = .int .i64 k ∧ But (fun _ => False) wo wq) (fun i _ => m - (intOf i).toNat)
      case atStart => exact ⟨0, Nat.zero_le _, rfl, But.refl _ _⟩
      case round =>
        obtain ⟨j, hj, rfl, hwq⟩ := hrel
        have hj0 : (0 : Int) ≤ (j : Int) := Int.natCast_nonneg _
        have z1 := World.block_lt_of_cell? wo _ r3
        have z2 := World.block_lt_of_cell? wo _ r4
        have t3 := (hwq.cell z1 (by simp)).trans r3
        have t4 := (hwq.cell z2 (by simp)).trans r4
        rcases Nat.lt_or_ge j m with hjm | hjm
        · obtain ⟨g3, rfl, d3⟩ := b3 j hjm
          obtain ⟨g4, rfl, d4⟩ := b4 j hjm
          have f3 := (hwr.cell (World.block_lt_of_cell? w2 _ (up d3)) (by simp)).trans (up d3)
          have f4 := (hwr.cell (World.block_lt_of_cell? w2 _ (up d4)) (by simp)).trans (up d4)
          have e3 := (hwq.cell (World.block_lt_of_cell? wo _ f3) (by simp)).trans f3
          have e4 := (hwq.cell (World.block_lt_of_cell? wo _ f4) (by simp)).trans f4
          clear b3 b4 q1 q2 q3 q4 l1 l2 d3 d4 up r1 r2 r3 r4 z1 z2 f3 f4 HW
          have hji : (j : Int) < (m : Int) := by omega
          obtain ⟨x, hx⟩ : ∃ x, ls.getD j default = x := ⟨_, rfl⟩
          rw [hx] at e3 e4
          clear hx
          go_wp2_with fail
          go_region_held3 (fun w' => w'.cell? ⟨w.heap.size, 1, none⟩ = some (.slice (some ⟨g3, 0, none⟩) m p3) ∧ w'.cell? ⟨w.heap.size + 1, 1, none⟩ = some (.slice (some ⟨g4, 0, none⟩) m p4) ∧ w'.cell? ⟨g3, j, none⟩ = some (.string x) ∧ w'.cell? ⟨g4, j, none⟩ = some (.string x)) (go_keep) (fail)
          go_wp2_with fail
          go_roundw
          case rel => exact ⟨j + 1, by omega, by go_num, hwq.drew⟩
          case measure => simp [intOf]; omega
        · obtain rfl : j = m := by omega
          clear b3 b4
          go_wp2_with fail
          go_ret
          exact ⟨rfl, (hbut.trans hwr (by simp)).trans hwq (by simp)⟩
end Go.Proofs.YtoplphimhbnelaaGreatDoor
namespace Go.Proofs.YtoplphimhbnelaaGreatDoor
open Go.RowKit
set_option maxRecDepth 100000
attribute [local go_sem ↓] Go.wp_at_zero Go.wp_at_succ

theorem But.drewN7 {S : Nat → Prop} {a w : World} (h : But S a w) (n : Nat) : But S a (w.drewN n) := ⟨h.os, h.tape, h.output, h.size, h.block⟩

theorem alike_self (w : World) (g1 g2 : Nat) :
    Calls Tryz.prog 38 #[.slice (some ⟨g1, 0, none⟩) 1 1, .slice (some ⟨g2, 0, none⟩) 1 1, .int .i64 0] w fun e w' => e = .returned (.bool true) ∧ But (fun _ => False) w w' := by
  go_enter Tryz.func38, Tryz.ntmps38
  go_wp2_with fail
  refine wp_loop_rounds 2 ?_
  rw [rounds_succ]
  go_wp2_with fail
  go_quiet (fail)
  all_goals
    go_wp2_with fail
    rw [rounds_succ]
    go_wp2_with fail
    go_ret
    exact ⟨rfl, But.drewN7 (But.refl _ _) _⟩

set_option maxHeartbeats 3200000 in
theorem alike_call (w : World) (g1 g2 C1 C2 D1 D2 : Nat) (L : Seen) (hl : L.1.length < 1000000) (hls : L.2.length ≤ 2000000000000) (H1 : Has w g1 C1 D1 L false) (H2 : Has w g2 C2 D2 L false) :
    Calls Tryz.prog 38 #[.slice (some ⟨g1, 0, none⟩) 1 1, .slice (some ⟨g2, 0, none⟩) 1 1, .int .i64 (-1)] w fun e w' => e = .returned (.bool true) ∧ But (fun _ => False) w w' := by
  have uE := Tryz.underlying70
  have cE : Tryz.prog.cellsOf 70 = 5 := by kernel_rfl
  obtain ⟨v1, s1, he1, h1, k1, -, -⟩ := H1
  obtain ⟨v2, s2, he2, h2, k2, -, -⟩ := H2
  obtain ⟨a0, a1, a2, a3, a4⟩ := eye_all he1
  obtain ⟨b0, b1, b2, b3, b4⟩ := eye_all he2
  have hs := fun w' (x1 : w'.ownsRow C1 3 1 v1 L.1.length (L.1.map (Value.int .i64))) (x2 : w'.ownsRow C2 3 1 v2 L.1.length (L.1.map (Value.int .i64))) (x3 : w'.ownsRow C1 9 1 s1 L.2.length (L.2.map Value.string)) (x4 : w'.ownsRow C2 9 1 s2 L.2.length (L.2.map Value.string)) =>
    same_call w' L.1 L.2 v1 v2 s1 s2 C1 C2 C1 C2 false false false false 0 0 hl hls x1 x2 x3 x4
  unfold eyeCells at hs
  have l1 := lt_of_block he1
  have l2 := lt_of_block he2
  obtain ⟨o1, c1, rfl⟩ := ownsRow_form h1
  obtain ⟨o2, c2, rfl⟩ := ownsRow_form h2
  obtain ⟨o3, c3, rfl⟩ := ownsRow_form k1
  obtain ⟨o4, c4, rfl⟩ := ownsRow_form k2
  go_enter Tryz.func38, Tryz.ntmps38
  go_wp2_with fail
  refine wp_loop_rounds 2 ?_
  rw [rounds_succ]
  go_wp2_with fail
  go_region_held3 (fun w' => w'.cell? ⟨g1, 0, none⟩ = some (.slice o1 L.1.length c1) ∧ w'.cell? ⟨g1, 1, none⟩ = some (.slice o3 L.2.length c3) ∧ w'.cell? ⟨g1, 2, none⟩ = some (.bool false) ∧ w'.cell? ⟨g1, 3, none⟩ = some (.int .i64 0) ∧ w'.cell? ⟨g1, 4, none⟩ = some (.bool false) ∧ w'.cell? ⟨g2, 0, none⟩ = some (.slice o2 L.1.length c2) ∧ w'.cell? ⟨g2, 1, none⟩ = some (.slice o4 L.2.length c4) ∧ w'.cell? ⟨g2, 2, none⟩ = some (.bool false) ∧ w'.cell? ⟨g2, 3, none⟩ = some (.int .i64 0) ∧ w'.cell? ⟨g2, 4, none⟩ = some (.bool false))
    (first | go_keep | (go_split_ands; refine ⟨?_, ?_, ?_, ?_, ?_, ?_, ?_, ?_, ?_, ?_⟩ <;> (rw [hb.cell (by assumption) (by simp)]; assumption)))
    ((go_at_call 37; refine (hs _ (h1.drew) (h2.drew) (k1.drew) (k2.drew)).mono ?_; rintro e w2 ⟨rfl, hb⟩))
  go_wp2_with fail
  rw [rounds_succ]
  go_wp2_with fail
  go_ret
  exact ⟨rfl, (But.refl _ _).drew.trans hb (by simp)⟩

theorem make51' (w : World) : (Instr.makeSlice 71 (.int .i64 1) (.int .i64 1)).run Tryz.prog w = .ok (.slice (some ⟨w.heap.size, 0, none⟩) 1 1) (w.alloc (.cells (eyeCells (.slice none 0 0) (.slice none 0 0) false 0 false) 70)) := by kernel_rfl
theorem make51 (w : World) : (Instr.makeSlice 71 (.int .i64 0) (.int .i64 0)).run Tryz.prog w = .ok (.slice (some ⟨w.heap.size, 0, none⟩) 0 0) (w.alloc (.cells #[] 70)) := by kernel_rfl
theorem look_nil (w : World) : Calls Tryz.prog 36 #[.slice none 0 0] w fun e w' => ∃ b, e = .returned (.slice (some ⟨b, 0, none⟩) 0 0) ∧ But (fun _ => False) w w' := by
  have hmk := make51
  go_enter Tryz.func36, Tryz.ntmps36
  go_wp2_with fail
  refine wp_loop_rounds 1 ?_
  rw [rounds_succ]
  go_wp2_with fail
  go_ret
  exact ⟨_, rfl, (But.refl _ _).alloc _⟩
theorem alike_nil (w : World) (g1 g2 : Nat) (k : Int) : Calls Tryz.prog 38 #[.slice (some ⟨g1, 0, none⟩) 0 0, .slice (some ⟨g2, 0, none⟩) 0 0, .int .i64 k] w fun e w' => e = .returned (.bool true) ∧ w = w' := by
  go_enter Tryz.func38, Tryz.ntmps38
  go_wp2_with fail
  refine wp_loop_rounds 1 ?_
  rw [rounds_succ]
  go_wp2_with fail
  go_ret
  exact ⟨rfl, rfl⟩

/-- A look at one result, whatever the closure. -/
def Looks (f : FuncId) : Prop := ∀ (w : World) (G A : Nat) (R : Nat → Prop) (L : Seen), w.cell? ⟨G, 0, none⟩ = some (.func (.func f) #[] #[.pointer (some ⟨A, 0, none⟩)]) → (∀ k, R k → k < w.heap.size) → Reads false f A R w L →
  Calls Tryz.prog 36 #[.slice (some ⟨G, 0, none⟩) 1 1] w fun e w' => e = .returned (.slice (some ⟨w.heap.size, 0, none⟩) 1 1) ∧ But (fun _ => False) w w' ∧ Has w' w.heap.size w.heap.size w'.heap.size L false
end Go.Proofs.YtoplphimhbnelaaGreatDoor
namespace Go.Proofs.YtoplphimhbnelaaGreatDoor
open Go.RowKit
set_option maxRecDepth 100000

/-- A call that hands nothing back. -/
def DoorNil (YP : (Nat → Prop) → World → Nat → Prop) (f : FuncId) : Prop := ∀ (K : Nat → Prop) (w : World) (Y : Nat), YP K w Y → (∀ k, K k → k < w.heap.size) →
  Calls Tryz.prog f #[.pointer (some ⟨Y, 0, none⟩)] w fun e w' => e = .returned (.slice none 0 0) ∧ But (fun _ => False) w w'
/-- A call that hands one closure back. -/
def DoorOne (YP : (Nat → Prop) → World → Nat → Prop) (f g : FuncId) : Prop := ∀ (K : Nat → Prop) (w : World) (Y : Nat), YP K w Y → (∀ k, K k → k < w.heap.size) →
  Calls Tryz.prog f #[.pointer (some ⟨Y, 0, none⟩)] w fun e w' => ∃ G A R, e = .returned (.slice (some ⟨G, 0, none⟩) 1 1) ∧ But (fun _ => False) w w' ∧ Gives g R w' G A ∧ w.heap.size ≤ G ∧ ∀ k, R k → w.heap.size ≤ k ∧ k < w'.heap.size

/-- A function that has a body: a call of it enters it. -/
def Open1 (f : FuncId) : Prop := ∀ (args : Array Value) (w : World), (callFunc f args).run Tryz.prog w = .ok (.enter f args) w
def eyeR : Obj := .cells (eyeCells (.slice none 0 0) (.slice none 0 0) false 0 true) 70
/-- y's block and the four eyes. -/
theorem alloc5 (v1 v2 : World) (o : Obj) (h : v2 = ((((v1.alloc o).alloc eyeR).alloc eyeR).alloc eyeR).alloc eyeR) :
    But (fun _ => False) v1 v2 ∧ v2.heap[v1.heap.size]? = some o ∧ v2.heap[v1.heap.size + 1]? = some eyeR ∧ v2.heap[v1.heap.size + 1 + 1]? = some eyeR ∧ v2.heap[v1.heap.size + 1 + 1 + 1]? = some eyeR ∧ v2.heap[v1.heap.size + 1 + 1 + 1 + 1]? = some eyeR ∧ v2.heap.size = v1.heap.size + 1 + 1 + 1 + 1 + 1 := by
  subst h
  have e : ∀ (w : World) (o : Obj) (k : Nat), (w.alloc o).heap[k]? = if k = w.heap.size then some o else w.heap[k]? := fun w o k => by
    show (w.heap.push o)[k]? = _
    rw [Array.getElem?_push]
  have es : ∀ (w : World) (o : Obj), (w.alloc o).heap.size = w.heap.size + 1 := fun w o => by simp
  refine ⟨((((But.refl _ _).alloc _).alloc _).alloc _).alloc _ |>.alloc _, ?_, ?_, ?_, ?_, ?_, by simp only [es]⟩
  · rw [e, if_neg (by simp only [es]; omega), e, if_neg (by simp only [es]; omega), e, if_neg (by simp only [es]; omega), e, if_neg (by simp only [es]; omega), e, if_pos rfl]
  · rw [e, if_neg (by simp only [es]; omega), e, if_neg (by simp only [es]; omega), e, if_neg (by simp only [es]; omega), e, if_pos (by simp only [es])]
  · rw [e, if_neg (by simp only [es]; omega), e, if_neg (by simp only [es]; omega), e, if_pos (by simp only [es])]
  · rw [e, if_neg (by simp only [es]; omega), e, if_pos (by simp only [es])]
  · rw [e, if_pos (by simp only [es])]

end Go.Proofs.YtoplphimhbnelaaGreatDoor
namespace Go.Proofs.YtoplphimhbnelaaGreatDoor
open Go.RowKit
set_option maxRecDepth 100000

set_option maxHeartbeats 16000000 in
theorem apart_walk_Bloom (S : Shape) (hI : Impl 23 S) (hbump : S.bump ≤ 500000) (YP : (Nat → Prop) → World → Nat → Prop)
    (hag : ∀ K v v' Y, Agree K v v' → YP K v Y → YP K v' Y) (hyp : ∀ K v Y, YP K v Y → K Y ∧ S.fit K true true v Y 0 ∧ S.few true v Y 0 ≤ 2000000000000)
    (W : World) (xs0 : ByteArray) (xa1 : Option Addr) (xn1 xc1 : Nat) (xz2 : Int) (xa3 : Option Addr) (xn3 xc3 : Nat) (xa4 : Option Addr) (xn4 xc4 : Nat) (xa5 : Option Addr) (xn5 xc5 : Nat) (C0 : Nat) (Sm : Prop)
    (hfirst : ∀ w1, But (fun _ => False) W w1 → w1.heap[W.heap.size]? = some (.cells #[.string xs0, .slice xa1 xn1 xc1, .int .i64 xz2, .slice xa3 xn3 xc3, .slice xa4 xn4 xc4, .slice xa5 xn5 xc5] 52 (0, 0)) → S.fit (fun k => k ≤ W.heap.size) false false w1 W.heap.size 0 ∧ S.few false w1 W.heap.size 0 ≤ 2000000000000 ∧
      ((S.sees false w1 W.heap.size 0 ([], [])).1.length ≤ 2000 → weight (S.sees false w1 W.heap.size 0 ([], [])).2 ≤ 2000 → Sm))
    (hown : Sm → ∀ w, But (fun _ => False) W w → Calls Tryz.prog 22 #[.agg #[.string xs0, .slice xa1 xn1 xc1, .int .i64 xz2, .slice xa3 xn3 xc3, .slice xa4 xn4 xc4, .slice xa5 xn5 xc5]] w fun e w' => ∃ (xg1 : Nat) (xg3 : Nat) (xg4 : Nat) (xg5 : Nat), e = .returned (.agg #[.string xs0, .slice (some ⟨xg1, 0, none⟩) xn1 (xn1 + 2), .int .i64 xz2, .slice (some ⟨xg3, 0, none⟩) xn3 (xn3 + 2), .slice (some ⟨xg4, 0, none⟩) xn4 (xn4 + 2), .slice (some ⟨xg5, 0, none⟩) xn5 (xn5 + 2)]) ∧ But (fun _ => False) w w' ∧
      ∀ v, Agree (fun k => w.heap.size ≤ k ∧ k < w'.heap.size) w' v → v.heap[w'.heap.size]? = some (.cells #[.string xs0, .slice (some ⟨xg1, 0, none⟩) xn1 (xn1 + 2), .int .i64 xz2, .slice (some ⟨xg3, 0, none⟩) xn3 (xn3 + 2), .slice (some ⟨xg4, 0, none⟩) xn4 (xn4 + 2), .slice (some ⟨xg5, 0, none⟩) xn5 (xn5 + 2)] 52 (0, 0)) → YP (fun k => w.heap.size ≤ k ∧ k ≤ w'.heap.size) v w'.heap.size)
    (hcalls : ∀ k, k < 4 → (∃ f, W.cell? ⟨C0, k, none⟩ = some (.func (.func f) #[] #[]) ∧ DoorNil YP f ∧ Open1 f) ∨ (∃ f g, W.cell? ⟨C0, k, none⟩ = some (.func (.func f) #[] #[]) ∧ DoorOne YP f g ∧ Looks g ∧ Open1 f ∧ Open1 g)) :
    Calls Tryz.prog 21 #[.agg #[.string xs0, .slice xa1 xn1 xc1, .int .i64 xz2, .slice xa3 xn3 xc3, .slice xa4 xn4 xc4, .slice xa5 xn5 xc5], .func (.func 22) #[] #[], .func (.func 23) #[] #[], .slice (some ⟨C0, 0, none⟩) 4 4] W fun e w' => e = .returned (.bool true) ∧ But (fun _ => False) W w' := by
  have u52 := Tryz.underlying52
  have c52 : Tryz.prog.cellsOf 52 = 6 := by kernel_rfl
  have u70 := Tryz.underlying70
  have c70 : Tryz.prog.cellsOf 70 = 5 := by kernel_rfl
  -- x's block and the first eye's
  obtain ⟨w1, hw1⟩ : ∃ w1, w1 = (W.alloc (.cells #[.string xs0, .slice xa1 xn1 xc1, .int .i64 xz2, .slice xa3 xn3 xc3, .slice xa4 xn4 xc4, .slice xa5 xn5 xc5] 52)).alloc (.cells (eyeCells (.slice none 0 0) (.slice none 0 0) false 0 false) 70) := ⟨_, rfl⟩
  have hs0 : (W.alloc (.cells #[.string xs0, .slice xa1 xn1 xc1, .int .i64 xz2, .slice xa3 xn3 xc3, .slice xa4 xn4 xc4, .slice xa5 xn5 xc5] 52)).heap.size = W.heap.size + 1 := by simp
  have hb1 : But (fun _ => False) W w1 := by rw [hw1]; exact ((But.refl _ _).alloc _).alloc _
  have x1 : w1.heap[W.heap.size]? = some (.cells #[.string xs0, .slice xa1 xn1 xc1, .int .i64 xz2, .slice xa3 xn3 xc3, .slice xa4 xn4 xc4, .slice xa5 xn5 xc5] 52 (0, 0)) := by rw [hw1, Below.heap_alloc _ _ _ (by simp)]; exact heap_alloc_new W _
  have f1 : w1.heap[W.heap.size + 1]? = some (.cells (eyeCells (.slice none 0 0) (.slice none 0 0) false 0 false) 70 (0, 0)) := by rw [hw1, ← hs0]; exact heap_alloc_new _ _
  have HW : (W.alloc (.cells #[.string xs0, .slice xa1 xn1 xc1, .int .i64 xz2, .slice xa3 xn3 xc3, .slice xa4 xn4 xc4, .slice xa5 xn5 xc5] 52)).alloc (.cells #[.slice none 0 0, .slice none 0 0, .bool false, .int .i64 0, .bool false] 70) = w1 := hw1.symm
  clear hw1
  obtain ⟨F1, F2, F3⟩ := hfirst w1 hb1 x1
  obtain ⟨LF, hLF⟩ : ∃ LF, S.sees false w1 W.heap.size 0 ([], []) = LF := ⟨_, rfl⟩
  have FL := hI.ok.len false w1 W.heap.size 0 ([], [])
  have FR := hI.read (fun k => k ≤ W.heap.size) w1 w1 (W.heap.size + 1) ([], []) 0 false W.heap.size 0 (SeeI.start f1) (fun k hk => ⟨by have := lt_of_block f1; omega, by omega⟩) (Nat.le_refl _) F1 (by simp only [List.length_nil]; omega) (by simp only [List.length_nil]; omega)
  rw [hLF] at F3 FL FR
  simp only [List.length_nil] at FL
  have HSm : Hid (LF.1.length ≤ 2000 → weight LF.2 ≤ 2000 → Sm) := F3
  have HCs : Hid (∀ k, k < 4 → (∃ f, W.cell? ⟨C0, k, none⟩ = some (.func (.func f) #[] #[]) ∧ DoorNil YP f ∧ Open1 f) ∨ (∃ f g, W.cell? ⟨C0, k, none⟩ = some (.func (.func f) #[] #[]) ∧ DoorOne YP f g ∧ Looks g ∧ Open1 f ∧ Open1 g)) := hcalls
  have HOwn : Hid (Sm → ∀ w, But (fun _ => False) W w → Calls Tryz.prog 22 #[.agg #[.string xs0, .slice xa1 xn1 xc1, .int .i64 xz2, .slice xa3 xn3 xc3, .slice xa4 xn4 xc4, .slice xa5 xn5 xc5]] w fun e w' => ∃ (xg1 : Nat) (xg3 : Nat) (xg4 : Nat) (xg5 : Nat), e = .returned (.agg #[.string xs0, .slice (some ⟨xg1, 0, none⟩) xn1 (xn1 + 2), .int .i64 xz2, .slice (some ⟨xg3, 0, none⟩) xn3 (xn3 + 2), .slice (some ⟨xg4, 0, none⟩) xn4 (xn4 + 2), .slice (some ⟨xg5, 0, none⟩) xn5 (xn5 + 2)]) ∧ But (fun _ => False) w w' ∧
      ∀ v, Agree (fun k => w.heap.size ≤ k ∧ k < w'.heap.size) w' v → v.heap[w'.heap.size]? = some (.cells #[.string xs0, .slice (some ⟨xg1, 0, none⟩) xn1 (xn1 + 2), .int .i64 xz2, .slice (some ⟨xg3, 0, none⟩) xn3 (xn3 + 2), .slice (some ⟨xg4, 0, none⟩) xn4 (xn4 + 2), .slice (some ⟨xg5, 0, none⟩) xn5 (xn5 + 2)] 52 (0, 0)) → YP (fun k => w.heap.size ≤ k ∧ k ≤ w'.heap.size) v w'.heap.size) := hown
  have HYP : Hid ((∀ K v v' Y, Agree K v v' → YP K v Y → YP K v' Y) ∧ (∀ K v Y, YP K v Y → K Y ∧ S.fit K true true v Y 0 ∧ S.few true v Y 0 ≤ 2000000000000) ∧ Impl 23 S ∧ S.bump ≤ 500000) := ⟨hag, hyp, hI, hbump⟩
  clear F1 F3 hfirst hcalls hown hag hyp hI hLF
  go_enter Tryz.func21, Tryz.ntmps21
  go_wp2_with fail
  refine FR.mono ?_
  rintro e w2 ⟨rfl, hS⟩
  clear FR
  obtain ⟨v, sv, hv, hown, hsv⟩ := hS.eye
  obtain ⟨o1, c1, rfl⟩ := ownsRow_form hown
  obtain ⟨o2, c2, rfl⟩ := ownsRow_form hsv
  have hb2 : But (fun _ => False) W w2 := hb1.trans hS.but (fun i hi h => by simp at h; omega)
  have x2 := hS.but.to x1 (by simp)
  obtain ⟨e0, e1, e2, e3, e4⟩ := eye_all hv
  have hLs : LF.1.length < 1000000 := by omega
  have GR := great_call w2 o1 LF.1.length c1 false false 0 hLs (.slice o2 LF.2.length c2) _ LF.2 (by omega) hsv
  clear hS hown hsv x1 f1 HW hs0 hv FL F2 hbump
  unfold eyeCells at GR
  go_wp2_with fail
  refine GR.mono ?_
  rintro e w3 ⟨r, rfl, hr, hb3⟩
  cases r
  case true =>
    clear GR
    go_wp2_with fail
    go_ret
    exact ⟨rfl, hb2.trans hb3 (by simp)⟩
  case false =>
    have HS1 := HSm.out (hr rfl).1 (hr rfl).2
    have hbw : But (fun _ => False) W w3 := hb2.trans hb3 (by simp)
    have x3 := hb3.to x2 (by simp)
    clear hr GR hLs HSm e0 e1 e2 e3 e4 x2 hb3 hb2
    go_wp2_with fail
    go_loopw [10] (fun i wr => ∃ k : Nat, k ≤ 4 ∧ i = .int .i64 k ∧ But (fun _ => False) W wr ∧ wr.heap[W.heap.size]? = some (.cells #[.string xs0, .slice xa1 xn1 xc1, .int .i64 xz2, .slice xa3 xn3 xc3, .slice xa4 xn4 xc4, .slice xa5 xn5 xc5] 52 (0, 0))) (fun i _ => 4 - (intOf i).toNat)
    case atStart => exact ⟨0, by omega, rfl, hbw, x3⟩
    case round =>
      obtain ⟨k, hk, rfl, hbW, xr⟩ := hrel
      have hk0 : (0 : Int) ≤ (k : Int) := Int.natCast_nonneg _
      have y0 : wr.cell? ⟨W.heap.size, 0, none⟩ = some (.string xs0) := (cell_of_row _ _ 0 _ _ _ xr).trans rfl
      have y1 : wr.cell? ⟨W.heap.size, 1, none⟩ = some (.slice xa1 xn1 xc1) := (cell_of_row _ _ 1 _ _ _ xr).trans rfl
      have y2 : wr.cell? ⟨W.heap.size, 2, none⟩ = some (.int .i64 xz2) := (cell_of_row _ _ 2 _ _ _ xr).trans rfl
      have y3 : wr.cell? ⟨W.heap.size, 3, none⟩ = some (.slice xa3 xn3 xc3) := (cell_of_row _ _ 3 _ _ _ xr).trans rfl
      have y4 : wr.cell? ⟨W.heap.size, 4, none⟩ = some (.slice xa4 xn4 xc4) := (cell_of_row _ _ 4 _ _ _ xr).trans rfl
      have y5 : wr.cell? ⟨W.heap.size, 5, none⟩ = some (.slice xa5 xn5 xc5) := (cell_of_row _ _ 5 _ _ _ xr).trans rfl
      have hsz := hbW.size
      have OW := HOwn.out HS1 wr hbW
      have lX := lt_of_block xr
      clear hbw x3
      rcases Nat.lt_or_ge k 4 with hkn | hkn
      rcases HCs.out k hkn with ⟨f, hf, DO, HO⟩ | ⟨f, g, hf, DO, LKK, HO, HO2⟩
      · have hki : (k : Int) < 4 := by omega
        have cr : wr.cell? ⟨C0, k, none⟩ = some (.func (.func f) #[] #[]) := (hbW.cell (World.block_lt_of_cell? W _ hf) (by simp)).trans hf
        go_wp2_with fail
        refine OW.mono ?_
        rintro e v1 ⟨xg1, xg3, xg4, xg5, rfl, hb1', hyk⟩
        clear OW
        obtain ⟨v2, hv2⟩ : ∃ v2, v2 = (((((v1.alloc (.cells #[.string xs0, .slice (some ⟨xg1, 0, none⟩) xn1 (xn1 + 2), .int .i64 xz2, .slice (some ⟨xg3, 0, none⟩) xn3 (xn3 + 2), .slice (some ⟨xg4, 0, none⟩) xn4 (xn4 + 2), .slice (some ⟨xg5, 0, none⟩) xn5 (xn5 + 2)] 52)).alloc (.cells #[.slice none 0 0, .slice none 0 0, .bool false, .int .i64 0, .bool true] 70)).alloc (.cells #[.slice none 0 0, .slice none 0 0, .bool false, .int .i64 0, .bool true] 70)).alloc (.cells #[.slice none 0 0, .slice none 0 0, .bool false, .int .i64 0, .bool true] 70)).alloc (.cells #[.slice none 0 0, .slice none 0 0, .bool false, .int .i64 0, .bool true] 70)) := ⟨_, rfl⟩
        obtain ⟨hb2, yy, k1, k2, k3, k4, sz2⟩ := alloc5 v1 v2 _ hv2
        have HV2 := hv2.symm
        clear hv2
        have hb12 := hb1'.trans hb2 (by simp)
        have zW := hb1'.size
        have hYC := hyk v2 ((Agree.refl _ _).but hb2 (fun k hk => ⟨hk.2, by simp⟩)) yy
        obtain ⟨Y, hY⟩ : ∃ Y, v1.heap.size = Y := ⟨_, rfl⟩
        rw [hY] at k1 k2 k3 k4 sz2 yy hYC zW
        obtain ⟨KY, hKY⟩ : ∃ KY : Nat → Prop, KY = fun k => wr.heap.size ≤ k ∧ k ≤ Y := ⟨_, rfl⟩
        have nK : ∀ k, Y < k → ¬ KY k := fun k hk h => by rw [hKY] at h; have h2 : wr.heap.size ≤ k ∧ k ≤ Y := h; omega
        have LOW : ∀ k, KY k → W.heap.size < k ∧ k ≤ Y := fun k h => by rw [hKY] at h; have h2 : wr.heap.size ≤ k ∧ k ≤ Y := h; omega
        rw [← hKY] at hYC
        have ltK : ∀ k, KY k → k < v2.heap.size := fun k h => by have := LOW k h; omega
        obtain ⟨yk1, yk2, yk3⟩ := HYP.out.2.1 _ _ _ hYC
        have hR0 := reads_of HYP.out.2.2.1 ltK yk1 (HYP.out.2.2.1.ok.weak yk2) HYP.out.2.2.2 yk3
        have MK := marks_of HYP.out.2.2.1 ltK yk1 yk2 HYP.out.2.2.2 yk3
        obtain ⟨L0, hL0⟩ : ∃ L0, S.sees true v2 Y 0 ([], []) = L0 := ⟨_, rfl⟩
        rw [hL0] at hR0
        have nL0 : L0.1.length < 1000000 ∧ L0.2.length ≤ 2000000000000 := ⟨by have := hR0.1; omega, hR0.2.1⟩
        have sc2 : Sc (.cells #[.string xs0, .slice xa1 xn1 xc1, .int .i64 xz2, .slice xa3 xn3 xc3, .slice xa4 xn4 xc4, .slice xa5 xn5 xc5] 52) 23 W v2 Y KY L0 := ⟨(hbW.trans hb1' (by simp)).trans hb2 (by simp), hb12.to xr (by simp), hR0, LOW, by omega⟩
        have cr2 : v2.cell? ⟨C0, k, none⟩ = some (.func (.func f) #[] #[]) := (hb12.cell (World.block_lt_of_cell? wr _ cr) (by simp)).trans cr
        clear hb1' hb2 hb12 yy y0 y1 y2 y3 y4 y5 xr hR0 yk1 yk2 yk3 hyk hL0 hKY cr
        -- see(&was, &y)
        have S10 := sc2.rd.2.2 v2 (Agree.refl _ _) (Y + 1) (nK _ (by omega)) k1
        go_wp2_with fail
        refine S10.mono ?_
        rintro e v3 ⟨rfl, hS3⟩
        clear S10 HV2 hY
        have z3 := hS3.but.size
        have ag3 := sc2.agrees hS3.but (by intro k hk; have := LOW k hk; rintro (h | h) <;> first | omega | exact h)
        have sc3 := sc2.step hS3.but (by intro k hk; have := LOW k hk; rintro (h | h) <;> first | omega | exact h) (by intro k hk; rintro (h | h) <;> first | omega | exact h)
        have h1 := Has.of hS3
        have e2 := hS3.but.to k2 (by rintro (h | h) <;> first | omega | exact h)
        have e3 := hS3.but.to k3 (by rintro (h | h) <;> first | omega | exact h)
        have e4 := hS3.but.to k4 (by rintro (h | h) <;> first | omega | exact h)
        have cl : C0 < W.heap.size := World.block_lt_of_cell? W _ hf
        have d0 : v3.cell? ⟨C0, k, none⟩ = some (.func (.func f) #[] #[]) := (hS3.but.cell (World.block_lt_of_cell? v2 _ cr2) (by simp only; rintro (h | h) <;> first | omega | exact h)).trans cr2
        clear hS3 k1 k2 k3 k4 cr2
        have hcf : ∀ (args : Array Value) (w : World), (callFunc f args).run Tryz.prog w = .ok (.enter f args) w := HO
        -- l := calls[i](&y)
        have S11 := DO KY v3 Y (HYP.out.1 _ _ _ _ ag3 hYC) (fun k h => by have := LOW k h; omega)
        go_wp2_with fail
        refine S11.mono ?_
        rintro e v4 ⟨rfl, hb4⟩
        clear S11 d0
        have z4 := hb4.size
        have ag4 := ag3.trans (sc3.agrees hb4 (by simp))
        have sc4 := sc3.quiet hb4
        have h1 := h1.quiet hb4
        have e2 := hb4.to e2 (by simp)
        have e3 := hb4.to e3 (by simp)
        have e4 := hb4.to e4 (by simp)
        clear sc3 sc2 hYC
        -- see(&is, &y)
        have S12 := sc4.rd.2.2 v4 (Agree.refl _ _) (Y + 1 + 1) (nK _ (by omega)) e2
        go_wp2_with fail
        refine S12.mono ?_
        rintro e v5 ⟨rfl, hS5⟩
        clear S12
        have z5 := hS5.but.size
        have ag5 := ag4.trans (sc4.agrees hS5.but (by intro k hk; have := LOW k hk; rintro (h | h) <;> first | omega | exact h))
        have sc5 := sc4.step hS5.but (by intro k hk; have := LOW k hk; rintro (h | h) <;> first | omega | exact h) (by intro k hk; rintro (h | h) <;> first | omega | exact h)
        have h2 := Has.of hS5
        have h1 := h1.step hS5.but (by rintro (h | h) <;> first | omega | exact h) (fun k q1 q2 => by rintro (h | h) <;> first | omega | exact h)
        have e3 := hS5.but.to e3 (by rintro (h | h) <;> first | omega | exact h)
        have e4 := hS5.but.to e4 (by rintro (h | h) <;> first | omega | exact h)
        clear hS5 sc4 e2
        -- told := look(l)
        have S13 := look_nil v5
        go_wp2_with fail
        refine S13.mono ?_
        rintro e v6 ⟨t1, rfl, hb6⟩
        clear S13
        have z6 := hb6.size
        have ag6 := ag5.trans (sc5.agrees hb6 (by simp))
        have sc6 := sc5.quiet hb6
        have h1 := h1.quiet hb6
        have h2 := h2.quiet hb6
        have e3 := hb6.to e3 (by simp)
        have e4 := hb6.to e4 (by simp)
        clear sc5 hb6
        -- see(&eye{mark, room}, &y)
        obtain ⟨v7, hv7⟩ : ∃ v7, v6.alloc (.cells #[.slice none 0 0, .slice none 0 0, .bool true, .int .i64 0, .bool true] 70) = v7 := ⟨_, rfl⟩
        obtain ⟨E5, hE5⟩ : ∃ E5, v6.heap.size = E5 := ⟨_, rfl⟩
        have em : v7.heap[E5]? = some (.cells (eyeCells (.slice none 0 0) (.slice none 0 0) true 0 true) 70 (0, 0)) := by rw [← hv7, ← hE5]; exact heap_alloc_new _ _
        have hb7 : But (fun _ => False) v6 v7 := by rw [← hv7]; exact (But.refl _ _).alloc _
        have ag7 := ag6.trans (sc6.agrees hb7 (by simp))
        have sc7 := sc6.quiet hb7
        have z7 := hb7.size
        have S14 := MK v7 ag7 E5 0 (nK _ (by omega)) (by omega) (by omega) em
        go_wp2_with fail
        refine S14.mono ?_
        rintro e v8 ⟨rfl, hb8, L1, hR8⟩
        clear S14 hv7 MK ag3 ag6 ag7 ag4 ag5 em
        have z8 := hb8.size
        have nm : ∀ k, Y < k → k < E5 → ¬ (k = E5 ∨ KY k) := fun k q1 q2 h => by
          rcases h with h | h
          · omega
          · have := LOW k h; omega
        have nl : ∀ k, k ≤ W.heap.size → ¬ (k = E5 ∨ KY k) := fun k q1 h => by
          rcases h with h | h
          · omega
          · have := LOW k h; omega
        have nL1 : L1.1.length < 1000000 ∧ L1.2.length ≤ 2000000000000 := ⟨by have := hR8.1; omega, hR8.2.1⟩
        have sc8 : Sc (.cells #[.string xs0, .slice xa1 xn1 xc1, .int .i64 xz2, .slice xa3 xn3 xc3, .slice xa4 xn4 xc4, .slice xa5 xn5 xc5] 52) 23 W v8 Y KY L1 := ⟨sc7.all.trans hb8 (fun i hi h => nl i (by omega) h), hb8.to sc7.x (nl _ (by omega)), hR8, LOW, by omega⟩
        have h1 := (h1.quiet hb7).step hb8 (nm _ (by omega) (by omega)) (fun k q1 q2 => nm k (by omega) (by omega))
        have h2 := (h2.quiet hb7).step hb8 (nm _ (by omega) (by omega)) (fun k q1 q2 => nm k (by omega) (by omega))
        have e3 := hb8.to (hb7.to e3 (by simp)) (nm _ (by omega) (by omega))
        have e4 := hb8.to (hb7.to e4 (by simp)) (nm _ (by omega) (by omega))
        clear sc6 sc7 hb7 hb8 nm nl hR8
        -- was.same(is), alike(told, look(l), -1)
        obtain ⟨va, sva, ha1, ha2, ha3, -, -⟩ := h1
        obtain ⟨vb, svb, hc1, hc2, hc3, -, -⟩ := h2
        have SM := same_call v8 L0.1 L0.2 va vb sva svb _ _ _ _ false true false true 0 0 nL0.1 nL0.2 ha2 hc2 ha3 hc3
        obtain ⟨oa, pa, rfl⟩ := ownsRow_form ha2
        obtain ⟨ob, pb, rfl⟩ := ownsRow_form hc2
        obtain ⟨oa', pa', rfl⟩ := ownsRow_form ha3
        obtain ⟨ob', pb', rfl⟩ := ownsRow_form hc3
        unfold eyeCells at SM
        obtain ⟨p0, p1, p2, p3, p4⟩ := eye_all ha1
        obtain ⟨q0, q1, q2, q3, q4⟩ := eye_all hc1
        clear ha1 ha2 ha3 hc1 hc2 hc3
        go_wp2_with fail
        refine SM.mono ?_
        rintro e v9 ⟨rfl, hb9⟩
        clear SM p0 p1 p2 p3 p4 q0 q1 q2 q3 q4
        have S9 := look_nil v9
        go_wp2_with fail
        refine S9.mono ?_
        rintro e v10 ⟨t2, rfl, hb10⟩
        clear S9
        have AL := alike_nil v10 t1 t2 (-1)
        go_wp2_with fail
        refine AL.mono ?_
        rintro e v11 ⟨rfl, hvv⟩
        subst hvv
        clear AL
        have hb811 := hb9.trans hb10 (by simp)
        have z11 := hb811.size
        have sc11 := sc8.quiet hb811
        have e3 := hb811.to e3 (by simp)
        have e4 := hb811.to e4 (by simp)
        clear hb9 hb10 hb811 sc8
        -- see(&over, &y)
        have S17 := sc11.rd.2.2 v10 (Agree.refl _ _) (Y + 1 + 1 + 1) (nK _ (by omega)) e3
        go_wp2_with fail
        refine S17.mono ?_
        rintro e v17 ⟨rfl, hS12⟩
        clear S17
        have z17 := hS12.but.size
        have sc17 := sc11.step hS12.but (by intro k hk; have := LOW k hk; rintro (h | h) <;> first | omega | exact h) (by intro k hk; rintro (h | h) <;> first | omega | exact h)
        have h3 := Has.of hS12
        have e4 := hS12.but.to e4 (by rintro (h | h) <;> first | omega | exact h)
        clear hS12 sc11 e3
        go_wp2_with fail
        refine wp_loop_rounds 1 ?_
        rw [rounds_succ]
        -- see(&gone, &y), over.same(gone)
        have S25 := sc17.rd.2.2 v17 (Agree.refl _ _) (Y + 1 + 1 + 1 + 1) (nK _ (by omega)) e4
        go_wp2_with fail
        refine S25.mono ?_
        rintro e v18 ⟨rfl, hS18⟩
        clear S25
        have h3 := h3.step hS18.but (by rintro (h | h) <;> first | omega | exact h) (fun k q1 q2 => by rintro (h | h) <;> first | omega | exact h)
        have h4 := Has.of hS18
        have sc18 := sc17.step hS18.but (by intro k hk; have := LOW k hk; rintro (h | h) <;> first | omega | exact h) (by intro k hk; rintro (h | h) <;> first | omega | exact h)
        obtain ⟨va, sva, ha1, ha2, ha3, -, -⟩ := h3
        obtain ⟨vb, svb, hc1, hc2, hc3, -, -⟩ := h4
        have SM := same_call v18 L1.1 L1.2 va vb sva svb _ _ _ _ false true false true 0 0 nL1.1 nL1.2 ha2 hc2 ha3 hc3
        obtain ⟨oa, pa, rfl⟩ := ownsRow_form ha2
        obtain ⟨ob, pb, rfl⟩ := ownsRow_form hc2
        obtain ⟨oa', pa', rfl⟩ := ownsRow_form ha3
        obtain ⟨ob', pb', rfl⟩ := ownsRow_form hc3
        unfold eyeCells at SM
        obtain ⟨p0, p1, p2, p3, p4⟩ := eye_all ha1
        obtain ⟨q0, q1, q2, q3, q4⟩ := eye_all hc1
        clear ha1 ha2 ha3 hc1 hc2 hc3 hS18 sc17 e4
        go_wp2_with fail
        refine SM.mono ?_
        rintro e v19 ⟨rfl, hb19⟩
        clear SM p0 p1 p2 p3 p4 q0 q1 q2 q3 q4
        have sc19 := sc18.quiet hb19
        go_wp2_with fail
        go_roundw
        case rel => exact ⟨k + 1, by omega, by go_num, sc19.all, sc19.x⟩
        case measure => simp [intOf]; omega
      · have hki : (k : Int) < 4 := by omega
        have cr : wr.cell? ⟨C0, k, none⟩ = some (.func (.func f) #[] #[]) := (hbW.cell (World.block_lt_of_cell? W _ hf) (by simp)).trans hf
        go_wp2_with fail
        refine OW.mono ?_
        rintro e v1 ⟨xg1, xg3, xg4, xg5, rfl, hb1', hyk⟩
        clear OW
        obtain ⟨v2, hv2⟩ : ∃ v2, v2 = (((((v1.alloc (.cells #[.string xs0, .slice (some ⟨xg1, 0, none⟩) xn1 (xn1 + 2), .int .i64 xz2, .slice (some ⟨xg3, 0, none⟩) xn3 (xn3 + 2), .slice (some ⟨xg4, 0, none⟩) xn4 (xn4 + 2), .slice (some ⟨xg5, 0, none⟩) xn5 (xn5 + 2)] 52)).alloc (.cells #[.slice none 0 0, .slice none 0 0, .bool false, .int .i64 0, .bool true] 70)).alloc (.cells #[.slice none 0 0, .slice none 0 0, .bool false, .int .i64 0, .bool true] 70)).alloc (.cells #[.slice none 0 0, .slice none 0 0, .bool false, .int .i64 0, .bool true] 70)).alloc (.cells #[.slice none 0 0, .slice none 0 0, .bool false, .int .i64 0, .bool true] 70)) := ⟨_, rfl⟩
        obtain ⟨hb2, yy, k1, k2, k3, k4, sz2⟩ := alloc5 v1 v2 _ hv2
        have HV2 := hv2.symm
        clear hv2
        have hb12 := hb1'.trans hb2 (by simp)
        have zW := hb1'.size
        have hYC := hyk v2 ((Agree.refl _ _).but hb2 (fun k hk => ⟨hk.2, by simp⟩)) yy
        obtain ⟨Y, hY⟩ : ∃ Y, v1.heap.size = Y := ⟨_, rfl⟩
        rw [hY] at k1 k2 k3 k4 sz2 yy hYC zW
        obtain ⟨KY, hKY⟩ : ∃ KY : Nat → Prop, KY = fun k => wr.heap.size ≤ k ∧ k ≤ Y := ⟨_, rfl⟩
        have nK : ∀ k, Y < k → ¬ KY k := fun k hk h => by rw [hKY] at h; have h2 : wr.heap.size ≤ k ∧ k ≤ Y := h; omega
        have LOW : ∀ k, KY k → W.heap.size < k ∧ k ≤ Y := fun k h => by rw [hKY] at h; have h2 : wr.heap.size ≤ k ∧ k ≤ Y := h; omega
        rw [← hKY] at hYC
        have ltK : ∀ k, KY k → k < v2.heap.size := fun k h => by have := LOW k h; omega
        obtain ⟨yk1, yk2, yk3⟩ := HYP.out.2.1 _ _ _ hYC
        have hR0 := reads_of HYP.out.2.2.1 ltK yk1 (HYP.out.2.2.1.ok.weak yk2) HYP.out.2.2.2 yk3
        have MK := marks_of HYP.out.2.2.1 ltK yk1 yk2 HYP.out.2.2.2 yk3
        obtain ⟨L0, hL0⟩ : ∃ L0, S.sees true v2 Y 0 ([], []) = L0 := ⟨_, rfl⟩
        rw [hL0] at hR0
        have nL0 : L0.1.length < 1000000 ∧ L0.2.length ≤ 2000000000000 := ⟨by have := hR0.1; omega, hR0.2.1⟩
        have sc2 : Sc (.cells #[.string xs0, .slice xa1 xn1 xc1, .int .i64 xz2, .slice xa3 xn3 xc3, .slice xa4 xn4 xc4, .slice xa5 xn5 xc5] 52) 23 W v2 Y KY L0 := ⟨(hbW.trans hb1' (by simp)).trans hb2 (by simp), hb12.to xr (by simp), hR0, LOW, by omega⟩
        have cr2 : v2.cell? ⟨C0, k, none⟩ = some (.func (.func f) #[] #[]) := (hb12.cell (World.block_lt_of_cell? wr _ cr) (by simp)).trans cr
        clear hb1' hb2 hb12 yy y0 y1 y2 y3 y4 y5 xr hR0 yk1 yk2 yk3 hyk hL0 hKY cr
        -- see(&was, &y)
        have S10 := sc2.rd.2.2 v2 (Agree.refl _ _) (Y + 1) (nK _ (by omega)) k1
        go_wp2_with fail
        refine S10.mono ?_
        rintro e v3 ⟨rfl, hS3⟩
        clear S10 HV2 hY
        have z3 := hS3.but.size
        have ag3 := sc2.agrees hS3.but (by intro k hk; have := LOW k hk; rintro (h | h) <;> first | omega | exact h)
        have sc3 := sc2.step hS3.but (by intro k hk; have := LOW k hk; rintro (h | h) <;> first | omega | exact h) (by intro k hk; rintro (h | h) <;> first | omega | exact h)
        have h1 := Has.of hS3
        have e2 := hS3.but.to k2 (by rintro (h | h) <;> first | omega | exact h)
        have e3 := hS3.but.to k3 (by rintro (h | h) <;> first | omega | exact h)
        have e4 := hS3.but.to k4 (by rintro (h | h) <;> first | omega | exact h)
        have cl : C0 < W.heap.size := World.block_lt_of_cell? W _ hf
        have d0 : v3.cell? ⟨C0, k, none⟩ = some (.func (.func f) #[] #[]) := (hS3.but.cell (World.block_lt_of_cell? v2 _ cr2) (by simp only; rintro (h | h) <;> first | omega | exact h)).trans cr2
        clear hS3 k1 k2 k3 k4 cr2
        have hcf : ∀ (args : Array Value) (w : World), (callFunc f args).run Tryz.prog w = .ok (.enter f args) w := HO
        -- l := calls[i](&y)
        have S11 := DO KY v3 Y (HYP.out.1 _ _ _ _ ag3 hYC) (fun k h => by have := LOW k h; omega)
        go_wp2_with fail
        refine S11.mono ?_
        rintro e v4 ⟨G, A, R, rfl, hb4, hg, hG1, hR1⟩
        clear S11 d0
        have lG := lt_of_block hg.row
        have z4 := hb4.size
        have ag4 := ag3.trans (sc3.agrees hb4 (by simp))
        have sc4 := sc3.quiet hb4
        have h1 := h1.quiet hb4
        have e2 := hb4.to e2 (by simp)
        have e3 := hb4.to e3 (by simp)
        have e4 := hb4.to e4 (by simp)
        clear sc3 sc2 hYC
        -- see(&is, &y)
        have S12 := sc4.rd.2.2 v4 (Agree.refl _ _) (Y + 1 + 1) (nK _ (by omega)) e2
        go_wp2_with fail
        refine S12.mono ?_
        rintro e v5 ⟨rfl, hS5⟩
        clear S12
        have z5 := hS5.but.size
        have ag5 := ag4.trans (sc4.agrees hS5.but (by intro k hk; have := LOW k hk; rintro (h | h) <;> first | omega | exact h))
        have sc5 := sc4.step hS5.but (by intro k hk; have := LOW k hk; rintro (h | h) <;> first | omega | exact h) (by intro k hk; rintro (h | h) <;> first | omega | exact h)
        have h2 := Has.of hS5
        have h1 := h1.step hS5.but (by rintro (h | h) <;> first | omega | exact h) (fun k q1 q2 => by rintro (h | h) <;> first | omega | exact h)
        have e3 := hS5.but.to e3 (by rintro (h | h) <;> first | omega | exact h)
        have e4 := hS5.but.to e4 (by rintro (h | h) <;> first | omega | exact h)
        have gr5 := hS5.but.to hg.row (by rintro (h | h) <;> first | omega | exact h)
        obtain ⟨LL, hLL⟩ := hg.reads
        have nLL := hLL
        have hM := hg.marks
        have nRG := hg.out
        have agr5 : Agree R v4 v5 := (Agree.refl _ _).but hS5.but (fun k hk => ⟨(hR1 k hk).2, by have := hR1 k hk; rintro (h | h) <;> first | omega | exact h⟩)
        clear hS5 sc4 hg e2
        -- told := look(l)
        have S13 := LKK v5 G A R LL (cell_of_one gr5) (fun k hk => by have := (hR1 k hk).2; omega) (hLL.agree agr5)
        have g0 := cell_of_one gr5
        go_wp2_with fail
        refine S13.mono ?_
        rintro e v6 ⟨rfl, hb6, hT⟩
        clear S13 g0
        have z6 := hb6.size
        have ag6 := ag5.trans (sc5.agrees hb6 (by simp))
        have sc6 := sc5.quiet hb6
        have h1 := h1.quiet hb6
        have h2 := h2.quiet hb6
        have e3 := hb6.to e3 (by simp)
        have e4 := hb6.to e4 (by simp)
        have gr6 := hb6.to gr5 (by simp)
        have agr6 : Agree R v4 v6 := agr5.but hb6 (fun k hk => ⟨by have := (hR1 k hk).2; omega, by simp⟩)
        obtain ⟨t1, ht1⟩ : ∃ t1, v5.heap.size = t1 := ⟨_, rfl⟩
        rw [ht1] at hT
        have lt1 : t1 < v6.heap.size := by obtain ⟨_, _, q, _⟩ := hT; exact lt_of_block q
        clear sc5 gr5 agr5 hb6
        -- see(&eye{mark, room}, &y)
        obtain ⟨v7, hv7⟩ : ∃ v7, v6.alloc (.cells #[.slice none 0 0, .slice none 0 0, .bool true, .int .i64 0, .bool true] 70) = v7 := ⟨_, rfl⟩
        obtain ⟨E5, hE5⟩ : ∃ E5, v6.heap.size = E5 := ⟨_, rfl⟩
        have em : v7.heap[E5]? = some (.cells (eyeCells (.slice none 0 0) (.slice none 0 0) true 0 true) 70 (0, 0)) := by rw [← hv7, ← hE5]; exact heap_alloc_new _ _
        have hb7 : But (fun _ => False) v6 v7 := by rw [← hv7]; exact (But.refl _ _).alloc _
        have ag7 := ag6.trans (sc6.agrees hb7 (by simp))
        have sc7 := sc6.quiet hb7
        have z7 := hb7.size
        have S14 := MK v7 ag7 E5 0 (nK _ (by omega)) (by omega) (by omega) em
        go_wp2_with fail
        refine S14.mono ?_
        rintro e v8 ⟨rfl, hb8, L1, hR8⟩
        clear S14 hv7 MK ag3 ag6 ag7 ag4 ag5 em
        have z8 := hb8.size
        have nm : ∀ k, Y < k → k < E5 → ¬ (k = E5 ∨ KY k) := fun k q1 q2 h => by
          rcases h with h | h
          · omega
          · have := LOW k h; omega
        have nl : ∀ k, k ≤ W.heap.size → ¬ (k = E5 ∨ KY k) := fun k q1 h => by
          rcases h with h | h
          · omega
          · have := LOW k h; omega
        have nL1 : L1.1.length < 1000000 ∧ L1.2.length ≤ 2000000000000 := ⟨by have := hR8.1; omega, hR8.2.1⟩
        have sc8 : Sc (.cells #[.string xs0, .slice xa1 xn1 xc1, .int .i64 xz2, .slice xa3 xn3 xc3, .slice xa4 xn4 xc4, .slice xa5 xn5 xc5] 52) 23 W v8 Y KY L1 := ⟨sc7.all.trans hb8 (fun i hi h => nl i (by omega) h), hb8.to sc7.x (nl _ (by omega)), hR8, LOW, by omega⟩
        have h1 := (h1.quiet hb7).step hb8 (nm _ (by omega) (by omega)) (fun k q1 q2 => nm k (by omega) (by omega))
        have h2 := (h2.quiet hb7).step hb8 (nm _ (by omega) (by omega)) (fun k q1 q2 => nm k (by omega) (by omega))
        have hT := (hT.quiet hb7).step hb8 (nm _ (by omega) (by omega)) (fun k q1 q2 => nm k (by omega) (by omega))
        have e3 := hb8.to (hb7.to e3 (by simp)) (nm _ (by omega) (by omega))
        have e4 := hb8.to (hb7.to e4 (by simp)) (nm _ (by omega) (by omega))
        have gr8 := hb8.to (hb7.to gr6 (by simp)) (nm _ (by omega) (by omega))
        have agr8 : Agree R v4 v8 := (agr6.but hb7 (fun k hk => ⟨by have := (hR1 k hk).2; omega, by simp⟩)).but hb8 (fun k hk => ⟨by have := (hR1 k hk).2; omega, nm k (by have := (hR1 k hk).1; omega) (by have := (hR1 k hk).2; omega)⟩)
        clear sc6 sc7 gr6 agr6 hb7 hb8 nm nl hR8
        -- was.same(is), alike(told, look(l), -1)
        obtain ⟨va, sva, ha1, ha2, ha3, -, -⟩ := h1
        obtain ⟨vb, svb, hc1, hc2, hc3, -, -⟩ := h2
        have SM := same_call v8 L0.1 L0.2 va vb sva svb _ _ _ _ false true false true 0 0 nL0.1 nL0.2 ha2 hc2 ha3 hc3
        obtain ⟨oa, pa, rfl⟩ := ownsRow_form ha2
        obtain ⟨ob, pb, rfl⟩ := ownsRow_form hc2
        obtain ⟨oa', pa', rfl⟩ := ownsRow_form ha3
        obtain ⟨ob', pb', rfl⟩ := ownsRow_form hc3
        unfold eyeCells at SM
        obtain ⟨p0, p1, p2, p3, p4⟩ := eye_all ha1
        obtain ⟨q0, q1, q2, q3, q4⟩ := eye_all hc1
        clear ha1 ha2 ha3 hc1 hc2 hc3
        go_wp2_with fail
        refine SM.mono ?_
        rintro e v9 ⟨rfl, hb9⟩
        clear SM p0 p1 p2 p3 p4 q0 q1 q2 q3 q4
        have gr9 := hb9.to gr8 (by simp)
        have agr9 : Agree R v4 v9 := agr8.but hb9 (fun k hk => ⟨by have := (hR1 k hk).2; omega, by simp⟩)
        have z9 := hb9.size
        have S9 := LKK v9 G A R LL (cell_of_one gr9) (fun k hk => by have := (hR1 k hk).2; omega) (hLL.agree agr9)
        go_wp2_with fail
        refine S9.mono ?_
        rintro e v10 ⟨rfl, hb10, hT2⟩
        clear S9
        have hT := (hT.quiet hb9).quiet hb10
        obtain ⟨t2, ht2⟩ : ∃ t2, v9.heap.size = t2 := ⟨_, rfl⟩
        rw [ht2] at hT2
        have AL := alike_call v10 t1 t2 _ _ _ _ LL (by have := nLL.1; omega) nLL.2.1 hT hT2
        clear hT hT2
        go_wp2_with fail
        refine AL.mono ?_
        rintro e v11 ⟨rfl, hb11⟩
        clear AL
        have hb811 := (hb9.trans hb10 (by simp)).trans hb11 (by simp)
        have z11 := hb811.size
        have sc11 := sc8.quiet hb811
        have e3 := hb811.to e3 (by simp)
        have e4 := hb811.to e4 (by simp)
        have gr11 := hb811.to gr8 (by simp)
        have agr11 : Agree R v4 v11 := agr8.but hb811 (fun k hk => ⟨by have := (hR1 k hk).2; omega, by simp⟩)
        clear hb9 hb10 hb11 hb811 sc8 gr8 gr9 agr8 agr9 ht2
        -- see(&over, &y)
        have S17 := sc11.rd.2.2 v11 (Agree.refl _ _) (Y + 1 + 1 + 1) (nK _ (by omega)) e3
        go_wp2_with fail
        refine S17.mono ?_
        rintro e v12 ⟨rfl, hS12⟩
        clear S17
        have z12 := hS12.but.size
        have sc12 := sc11.step hS12.but (by intro k hk; have := LOW k hk; rintro (h | h) <;> first | omega | exact h) (by intro k hk; rintro (h | h) <;> first | omega | exact h)
        have h3 := Has.of hS12
        have e4 := hS12.but.to e4 (by rintro (h | h) <;> first | omega | exact h)
        have gr12 := hS12.but.to gr11 (by rintro (h | h) <;> first | omega | exact h)
        have agr12 : Agree R v4 v12 := agr11.but hS12.but (fun k hk => ⟨by have := (hR1 k hk).2; omega, by have := hR1 k hk; rintro (h | h) <;> first | omega | exact h⟩)
        clear hS12 sc11 gr11 agr11 e3
        -- the loop over the results: one of them
        have S21 := LKK v12 G A R LL (cell_of_one gr12) (fun k hk => by have := (hR1 k hk).2; omega) (hLL.agree agr12)
        go_wp2_with fail
        refine wp_loop_rounds 2 ?_
        rw [rounds_succ]
        go_wp2_with fail
        refine S21.mono ?_
        rintro e v13 ⟨rfl, hb13, -⟩
        clear S21
        have z13 := hb13.size
        obtain ⟨v14, hv14⟩ : ∃ v14, v13.alloc (.cells #[.slice none 0 0, .slice none 0 0, .bool true, .int .i64 1000000, .bool false] 70) = v14 := ⟨_, rfl⟩
        obtain ⟨E6, hE6⟩ : ∃ E6, v13.heap.size = E6 := ⟨_, rfl⟩
        have em : v14.heap[E6]? = some (.cells (eyeCells (.slice none 0 0) (.slice none 0 0) true 1000000 false) 70 (0, 0)) := by rw [← hv14, ← hE6]; exact heap_alloc_new _ _
        have hb14 : But (fun _ => False) v12 v14 := by rw [← hv14]; exact hb13.alloc _
        have agr14 : Agree R v4 v14 := agr12.but hb14 (fun k hk => ⟨by have := (hR1 k hk).2; omega, by simp⟩)
        have gr13 := hb13.to gr12 (by simp)
        have g13 := cell_of_one gr13
        have nR : ∀ k, v4.heap.size ≤ k → ¬ R k := fun k q h => by have := (hR1 k h).2; omega
        have hcg : ∀ (args : Array Value) (w : World), (callFunc g args).run Tryz.prog w = .ok (.enter g args) w := HO2
        have S22 := hM v14 agr14 E6 1000000 (nR _ (by omega)) (by omega) (by omega) em
        obtain ⟨t3, ht3⟩ : ∃ t3, v12.heap.size = t3 := ⟨_, rfl⟩
        rw [ht3]
        go_wp2_with fail
        refine S22.mono ?_
        rintro e v15 ⟨rfl, hb15, L', hL'⟩
        clear S22 hv14 g13 gr13 hM hLL
        have z14 := hb14.size
        have z15 := hb15.size
        have gr14 := hb14.to gr12 (by simp)
        have gr15 := hb15.to gr14 (by rintro (h | h) <;> first | omega | exact nRG h)
        have e14 := hb14.to e4 (by simp)
        have e4 := hb15.to e14 (by rintro (h | h) <;> first | omega | (have := hR1 _ h; omega))
        have sc14 := sc12.quiet hb14
        have sc15 := sc14.step hb15 (by intro k hk; have := LOW k hk; rintro (h | h) <;> first | omega | (have := hR1 _ h; omega)) (by intro k hk; rintro (h | h) <;> first | omega | (have := hR1 _ h; omega))
        have h3 := (h3.quiet hb14).step hb15 (by rintro (h | h) <;> first | omega | (have := hR1 _ h; omega)) (fun k q1 q2 => by rintro (h | h) <;> first | omega | (have := hR1 _ h; omega))
        clear hb13 hb14 sc12 sc14 gr12 agr12 agr14 e14 gr14 em
        have S23 := LKK v15 G A R L' (cell_of_one gr15) (fun k hk => by have := (hR1 k hk).2; omega) hL'
        go_wp2_with fail
        refine S23.mono ?_
        rintro e v16 ⟨rfl, hb16, -⟩
        clear S23
        obtain ⟨t4, ht4⟩ : ∃ t4, v15.heap.size = t4 := ⟨_, rfl⟩
        rw [ht4]
        have AS := alike_self v16 t3 t4
        go_wp2_with fail
        refine AS.mono ?_
        rintro e v17 ⟨rfl, hb17⟩
        clear AS
        have hb1517 := hb16.trans hb17 (by simp)
        have sc17 := sc15.quiet hb1517
        have e4 := hb1517.to e4 (by simp)
        have h3 := h3.quiet hb1517
        have z17 := hb1517.size
        clear hb15 hb16 hb17 hb1517 sc15 gr15 hL'
        -- see(&gone, &y), over.same(gone)
        have S25 := sc17.rd.2.2 v17 (Agree.refl _ _) (Y + 1 + 1 + 1 + 1) (nK _ (by omega)) e4
        go_wp2_with fail
        rw [rounds_succ]
        go_wp2_with fail
        refine S25.mono ?_
        rintro e v18 ⟨rfl, hS18⟩
        clear S25
        have h3 := h3.step hS18.but (by rintro (h | h) <;> first | omega | exact h) (fun k q1 q2 => by rintro (h | h) <;> first | omega | exact h)
        have h4 := Has.of hS18
        have sc18 := sc17.step hS18.but (by intro k hk; have := LOW k hk; rintro (h | h) <;> first | omega | exact h) (by intro k hk; rintro (h | h) <;> first | omega | exact h)
        obtain ⟨va, sva, ha1, ha2, ha3, -, -⟩ := h3
        obtain ⟨vb, svb, hc1, hc2, hc3, -, -⟩ := h4
        have SM := same_call v18 L1.1 L1.2 va vb sva svb _ _ _ _ false true false true 0 0 nL1.1 nL1.2 ha2 hc2 ha3 hc3
        obtain ⟨oa, pa, rfl⟩ := ownsRow_form ha2
        obtain ⟨ob, pb, rfl⟩ := ownsRow_form hc2
        obtain ⟨oa', pa', rfl⟩ := ownsRow_form ha3
        obtain ⟨ob', pb', rfl⟩ := ownsRow_form hc3
        unfold eyeCells at SM
        obtain ⟨p0, p1, p2, p3, p4⟩ := eye_all ha1
        obtain ⟨q0, q1, q2, q3, q4⟩ := eye_all hc1
        clear ha1 ha2 ha3 hc1 hc2 hc3 hS18 sc17 e4
        go_wp2_with fail
        refine SM.mono ?_
        rintro e v19 ⟨rfl, hb19⟩
        clear SM p0 p1 p2 p3 p4 q0 q1 q2 q3 q4
        have sc19 := sc18.quiet hb19
        go_wp2_with fail
        go_roundw
        case rel => exact ⟨k + 1, by omega, by go_num, sc19.all, sc19.x⟩
        case measure => simp [intOf]; omega
      · obtain rfl : k = 4 := by omega
        go_wp2_with fail
        go_ret
        exact ⟨rfl, hbW⟩
end Go.Proofs.YtoplphimhbnelaaGreatDoor
namespace Go.Proofs.YtoplphimhbnelaaGreatDoor
open Go.RowKit
theorem cell_block {w : World} {p q : Nat} {v : Value} (h : w.cell? ⟨p, q, none⟩ = some v) : ∃ cur ty fr, w.heap[p]? = some (.cells cur ty fr) ∧ cur[q]? = some v := by
  unfold World.cell? at h
  split at h
  · rename_i c e fr hh
    exact ⟨c, e, fr, hh, by simpa using h⟩
  · cases h
theorem inK_wrap (k : IntKind) (n : Int) : InK k (k.wrap n) := by
  cases k <;> simp [InK, IntKind.min, IntKind.max, IntKind.bits, IntKind.signed, IntKind.wrap] <;> (try split) <;> omega
end Go.Proofs.YtoplphimhbnelaaGreatDoor
namespace Go.Proofs.YtoplphimhbnelaaGreatDoor
open Go.RowKit
set_option maxRecDepth 100000
attribute [local go_sem ↓] Go.wp_at_zero Go.wp_at_succ

set_option maxHeartbeats 3200000 in
theorem num_int_read (M : Nat → Prop) (w0 w : World) (b : Nat) (l : List Int) (ls : List ByteArray) (t : Int) (rm : Bool) (hI : SeeI M w0 b l ls false t rm w) (xa : Addr) (z : Int)
    (hx : w.cell? xa = some (.int .i64 z)) (hz : -9223372036854775808 ≤ z ∧ z < 9223372036854775808) (hl : l.length < 1000000) (hxo : xa.block < w0.heap.size) :
    Calls Tryz.prog 43 #[.pointer (some ⟨b, 0, none⟩), .pointer (some xa)] w fun e w' => e = .returned (.tuple #[]) ∧ SeeI M w0 b (l ++ [z]) ls false t rm w' := by
  obtain ⟨v, sv, he, hown, hsv⟩ := hI.eye
  obtain ⟨i0, hi0, hz0, hz1, hz2⟩ := info_parts info3
  obtain ⟨c0, c2, c3, c4, cf⟩ := eye_cells he
  have f0 := cf 0
  clear cf
  have hne : v.ownBlock ≠ some b := fun e => by have := (hown.lt b e).1; have := hI.old; omega
  have lb := World.block_lt_of_cell? w _ c0
  have lx := World.block_lt_of_cell? w _ hx
  have hnx : v.ownBlock ≠ some xa.block := fun e => by have := (hown.lt _ e).1; omega
  have hwz : IntKind.i64.wrap z = z := by rw [IntKind.wrap_i64]; omega
  go_enter Tryz.func43, Tryz.ntmps43
  go_wp2_with fail
  have hbase := hI.but.size
  have fa : ∀ o : Obj, (w.alloc o).frozen? ⟨b, 0, none⟩ = false := fun o => (World.frozen?_of_block (Below.heap_alloc w o b lb)).trans f0
  have h63 : l.length + 1 ≤ maxLen := by unfold maxLen; omega
  have hby : (l.length + 1) * 8 ≤ 140737488355328 := by omega
  go_region_law ((refine step_append_lies _ (by rfl) _ _ _ (by rfl) w0.heap.size 3 i0 _ 1 8 Tryz.underlying68 hi0 hz0 hz1 hz2 rfl (by omega) v l.length (l.map (Value.int .i64)) (by rfl) ((hown.alloc _).drew) ⟨w.heap.size, 0, none⟩ 1 1 [.int .i64 z] (by rfl) (by rfl) (World.news_of_block (cs := #[.int .i64 z]) (t := 3) (fr := (0, 0)) (heap_alloc_new w _)) (by simp [Value.oneCell']) (by omega) h63 hby (by simp; omega) (w.heap.size + 1) (by simp) ?_; intro gg cap w1 hown1 hgrow hat hlt; have g0 := (hgrow.cell_far ⟨b, 0, none⟩ (by simp; omega) (Ne.symm hne)).trans ((World.cell?_of_block (Below.heap_alloc w (.cells #[.int .i64 z] 3) b lb)).trans c0); have g1 := (hgrow.frozen_far ⟨b, 0, none⟩ (by simp; omega) (Ne.symm hne)).trans (fa (.cells #[.int .i64 z] 3))))
  all_goals
    go_end0
    refine ⟨rfl, SeeI.push (v := v) ((hI.but.alloc _).drew.grown hgrow fun k hk hlt' => ?_) hI.old ?_ hown1 ((hsv.alloc _).drew.kept hgrow (own_ne hown hsv (by decide)))⟩
    · have := (hown.lt k hk).1; omega
    · rw [hgrow.block b (by simp; omega) (Ne.symm hne)]
      exact (Below.heap_alloc w _ b lb).trans he

set_option maxHeartbeats 3200000 in
theorem num_int_mark (M : Nat → Prop) (w0 w : World) (b : Nat) (l : List Int) (ls : List ByteArray) (t : Int) (rm : Bool) (hI : SeeI M w0 b l ls true t rm w) (p q : Nat) (cur : Array Value) (ty : TypeId) (fr : Nat × Nat) (x : Value)
    (hx : w.heap[p]? = some (.cells cur ty fr)) (hq : cur[q]? = some x) (fp : w.frozen? ⟨p, q, none⟩ = false) (hp : M p) (hpo : p < w0.heap.size) (hpb : p ≠ b) (ht : 0 ≤ t ∧ t < 1000000000000000) (hl : l.length < 1000000) :
    Calls Tryz.prog 43 #[.pointer (some ⟨b, 0, none⟩), .pointer (some ⟨p, q, none⟩)] w fun e w' => e = .returned (.tuple #[]) ∧
      ∃ z y, InK .i64 z ∧ w'.heap[p]? = some (.cells (cur.setIfInBounds q (.int .i64 z)) ty fr) ∧ SeeI M w0 b (l ++ [y]) ls true (t + 1) rm w' ∧ But (fun k => k = b ∨ k = p ∨ w0.heap.size ≤ k) w w' := by
  obtain ⟨v, sv, he, hown, hsv⟩ := hI.eye
  obtain ⟨i0, hi0, hz0, hz1, hz2⟩ := info_parts info3
  have hzb : InK .i64 (t + 1) := by simp [InK, IntKind.min, IntKind.max, IntKind.bits, IntKind.signed]; omega
  have hzr : -9223372036854775808 ≤ (t + 1) ∧ (t + 1) < 9223372036854775808 := by omega
  have hwz : IntKind.i64.wrap (t + 1) = t + 1 := by rw [IntKind.wrap_i64]; omega
  -- the world behind the two stores
  obtain ⟨w2, hw2⟩ : ∃ w2, w2 = (w.setCell ⟨b, 3, none⟩ (.int .i64 (t + 1))).setCell ⟨p, q, none⟩ (.int .i64 (t + 1)) := ⟨_, rfl⟩
  have he2 : w2.heap[b]? = some (.cells (eyeCells v sv true (t + 1) rm) 70 (0, 0)) := by
    rw [hw2, heap_setCell_far (by simpa using hpb.symm)]; exact eye_set3 he
  have hown1 : (w.setCell ⟨b, 3, none⟩ (.int .i64 (t + 1))).ownsRow w0.heap.size 3 1 v l.length (l.map (Value.int .i64)) := ownsRow_setCell_below hown (a := ⟨b, 3, none⟩) hI.old _
  have hown2 : w2.ownsRow w0.heap.size 3 1 v l.length (l.map (Value.int .i64)) := by rw [hw2]; exact ownsRow_setCell_below hown1 (a := ⟨p, q, none⟩) hpo _
  have hsv1 : (w.setCell ⟨b, 3, none⟩ (.int .i64 (t + 1))).ownsRow w0.heap.size 9 1 sv ls.length (ls.map Value.string) := ownsRow_setCell_below hsv (a := ⟨b, 3, none⟩) hI.old _
  have hsv2 : w2.ownsRow w0.heap.size 9 1 sv ls.length (ls.map Value.string) := by rw [hw2]; exact ownsRow_setCell_below hsv1 (a := ⟨p, q, none⟩) hpo _
  have hb2 : But (fun k => k = b ∨ M k) w0 w2 := by rw [hw2]; exact (hI.but.setCell (fun _ => .inl rfl) _).setCell (fun _ => .inr hp) _
  have hb3 : But (fun k => k = b ∨ k = p ∨ w0.heap.size ≤ k) w w2 := by rw [hw2]; exact ((But.refl _ _).setCell (fun _ => .inl rfl) _).setCell (fun _ => .inr (.inl rfl)) _
  have hp2 : w2.heap[p]? = some (.cells (cur.setIfInBounds q (.int .i64 (t + 1))) ty fr) := by
    rw [hw2]; exact heap_setCell_same (by rw [heap_setCell_far (by simpa using hpb)]; exact hx) _
  obtain ⟨c0, c2, c3, c4, cf⟩ := eye_cells he
  have f3 := cf 3
  have cp : w.cell? ⟨p, q, none⟩ = some x := by simp [World.cell?, hx, hq]
  clear cf
  obtain ⟨d0, d2, d3, d4, df⟩ := eye_cells he2
  have f0 := df 0
  clear df
  have hqs : q < cur.size := (Array.getElem?_eq_some_iff.1 hq).1
  have cx : w2.cell? ⟨p, q, none⟩ = some (.int .i64 (t + 1)) := by simp [World.cell?, hp2, hqs]
  have hne : v.ownBlock ≠ some b := fun e => by have := (hown.lt b e).1; have := hI.old; omega
  have hnx : v.ownBlock ≠ some p := fun e => by have := (hown.lt p e).1; omega
  have lb : b < w2.heap.size := lt_of_block he2
  have lx : p < w2.heap.size := lt_of_block hp2
  have hbase := hb2.size
  have fa : ∀ o : Obj, (w2.alloc o).frozen? ⟨b, 0, none⟩ = false := fun o => (World.frozen?_of_block (Below.heap_alloc w2 o b lb)).trans f0
  have h63 : l.length + 1 ≤ maxLen := by unfold maxLen; omega
  have hby : (l.length + 1) * 8 ≤ 140737488355328 := by omega
  have HW : Hid (w2 = (w.setCell ⟨b, 3, none⟩ (.int .i64 (t + 1))).setCell ⟨p, q, none⟩ (.int .i64 (t + 1))) := hw2
  clear hw2
  go_enter Tryz.func43, Tryz.ntmps43
  go_wp2_with fail
  rw [← HW.out]
  clear c0 c2 c3 c4 f3 fp cp hown hown1 hx hq he
  go_region_law ((refine step_append_lies _ (by rfl) _ _ _ (by rfl) w0.heap.size 3 i0 _ 1 8 Tryz.underlying68 hi0 hz0 hz1 hz2 rfl (by omega) v l.length (l.map (Value.int .i64)) (by rfl) ((hown2.alloc _).drew) ⟨w2.heap.size, 0, none⟩ 1 1 [.int .i64 (t + 1)] (by rfl) (by rfl) (World.news_of_block (cs := #[.int .i64 (t + 1)]) (t := 3) (fr := (0, 0)) (heap_alloc_new w2 _)) (by simp [Value.oneCell']) (by omega) h63 hby (by simp; omega) (w2.heap.size + 1) (by simp) ?_; intro gg cap w1 hown1 hgrow hat hlt; have g0 := (hgrow.cell_far ⟨b, 0, none⟩ (by simp; omega) (Ne.symm hne)).trans ((World.cell?_of_block (Below.heap_alloc w2 (.cells #[.int .i64 (t + 1)] 3) b lb)).trans d0); have g1 := (hgrow.frozen_far ⟨b, 0, none⟩ (by simp; omega) (Ne.symm hne)).trans (fa (.cells #[.int .i64 (t + 1)] 3))))
  all_goals
    go_end0
    refine ⟨rfl, (t + 1), (t + 1), hzb, ?_, SeeI.push (v := v) ((hb2.alloc _).drew.grown hgrow fun k hk hlt' => ?_) hI.old ?_ hown1 ((hsv2.alloc _).drew.kept hgrow (own_ne hown2 hsv2 (by decide))), ((hb3.alloc _).drew.grown hgrow fun k hk hlt' => .inr (.inr (hown2.lt k hk).1)).setCell (fun _ => .inl rfl) _⟩
    · rw [heap_setCell_far (by simpa using hpb), hgrow.block p (by simp; omega) (Ne.symm hnx)]
      exact (Below.heap_alloc w2 _ p lx).trans hp2
    · have := (hown2.lt k hk).1; omega
    · rw [hgrow.block b (by simp; omega) (Ne.symm hne)]
      exact (Below.heap_alloc w2 _ b lb).trans he2

theorem num_int_impl : Impl 43 (numS .i64) := by
  refine ⟨numS_ok _, fun K w0 w b s t rm p q hS hK hp hf hn hm => ?_, fun K w0 w b s t rm p q T hS hK hp hf hn hm h0 h1 hT => ?_⟩
  · obtain ⟨⟨z, hz, hz2⟩, -⟩ := hf
    have hn' : max s.1.length 200000 + 1 < 1000000 := hn
    have e : (numS .i64).sees rm w p q s = (s.1 ++ [IntKind.i64.wrap z], s.2) := by simp only [numS, cellInt, hz]
    rw [e]
    have hz3 : -9223372036854775808 ≤ z ∧ z < 9223372036854775808 := by simp [InK, IntKind.min, IntKind.max, IntKind.bits, IntKind.signed] at hz2; omega
    rw [show IntKind.i64.wrap z = z from by rw [IntKind.wrap_i64]; omega]
    exact num_int_read _ w0 w b s.1 s.2 t rm hS ⟨p, q, none⟩ z hz hz3 (by omega) (hK p hp).1
  · obtain ⟨⟨z, hz, hz2⟩, hfr⟩ := hf
    have hn' : max s.1.length 200000 + 1 < 1000000 := hn
    have hm' : s.2.length + 0 ≤ 2000000000000 := hm
    obtain ⟨cur, ty, fr, hx, hq⟩ := cell_block hz
    refine (num_int_mark K w0 w b s.1 s.2 t rm hS p q cur ty fr _ hx hq (hfr rfl) hp (hK p hp).1 (hK p hp).2 ⟨h0, by omega⟩ (by omega)).mono ?_
    rintro e w' ⟨he, z', y', hz', hx', hS', hb⟩
    refine ⟨he, (s.1 ++ [y'], s.2), t + 1, hS', by omega, by simp only [List.length_append, List.length_cons, List.length_nil]; omega, by simp only [List.length_append, List.length_cons, List.length_nil, numS]; omega, by simp only [numS]; omega,
      Pres.set hx hq (.int hz') hx' (fun k hk hkp => hb.block k (Nat.lt_of_lt_of_le (hK k hk).1 hS.but.size) ?_)⟩
    have := hK k hk
    omega
end Go.Proofs.YtoplphimhbnelaaGreatDoor
namespace Go.Proofs.YtoplphimhbnelaaGreatDoor
open Go.RowKit
set_option maxRecDepth 100000
attribute [local go_sem ↓] Go.wp_at_zero Go.wp_at_succ

set_option maxHeartbeats 3200000 in
theorem num_byte_read (M : Nat → Prop) (w0 w : World) (b : Nat) (l : List Int) (ls : List ByteArray) (t : Int) (rm : Bool) (hI : SeeI M w0 b l ls false t rm w) (xa : Addr) (z : Int)
    (hx : w.cell? xa = some (.int .u8 z)) (y : Int) (hwz : IntKind.i64.wrap z = y) (hl : l.length < 1000000) (hxo : xa.block < w0.heap.size) :
    Calls Tryz.prog 60 #[.pointer (some ⟨b, 0, none⟩), .pointer (some xa)] w fun e w' => e = .returned (.tuple #[]) ∧ SeeI M w0 b (l ++ [y]) ls false t rm w' := by
  obtain ⟨v, sv, he, hown, hsv⟩ := hI.eye
  obtain ⟨i0, hi0, hz0, hz1, hz2⟩ := info_parts info3
  obtain ⟨c0, c2, c3, c4, cf⟩ := eye_cells he
  have f0 := cf 0
  clear cf
  have hne : v.ownBlock ≠ some b := fun e => by have := (hown.lt b e).1; have := hI.old; omega
  have lb := World.block_lt_of_cell? w _ c0
  have lx := World.block_lt_of_cell? w _ hx
  have hnx : v.ownBlock ≠ some xa.block := fun e => by have := (hown.lt _ e).1; omega
  go_enter Tryz.func60, Tryz.ntmps60
  go_wp2_with fail
  have hbase := hI.but.size
  have fa : ∀ o : Obj, (w.alloc o).frozen? ⟨b, 0, none⟩ = false := fun o => (World.frozen?_of_block (Below.heap_alloc w o b lb)).trans f0
  have h63 : l.length + 1 ≤ maxLen := by unfold maxLen; omega
  have hby : (l.length + 1) * 8 ≤ 140737488355328 := by omega
  go_region_law ((refine step_append_lies _ (by rfl) _ _ _ (by rfl) w0.heap.size 3 i0 _ 1 8 Tryz.underlying68 hi0 hz0 hz1 hz2 rfl (by omega) v l.length (l.map (Value.int .i64)) (by rfl) ((hown.alloc _).drew) ⟨w.heap.size, 0, none⟩ 1 1 [.int .i64 y] (by rfl) (by rfl) (World.news_of_block (cs := #[.int .i64 y]) (t := 3) (fr := (0, 0)) (heap_alloc_new w _)) (by simp [Value.oneCell']) (by omega) h63 hby (by simp; omega) (w.heap.size + 1) (by simp) ?_; intro gg cap w1 hown1 hgrow hat hlt; have g0 := (hgrow.cell_far ⟨b, 0, none⟩ (by simp; omega) (Ne.symm hne)).trans ((World.cell?_of_block (Below.heap_alloc w (.cells #[.int .i64 y] 3) b lb)).trans c0); have g1 := (hgrow.frozen_far ⟨b, 0, none⟩ (by simp; omega) (Ne.symm hne)).trans (fa (.cells #[.int .i64 y] 3))))
  all_goals
    go_end0
    refine ⟨rfl, SeeI.push (v := v) ((hI.but.alloc _).drew.grown hgrow fun k hk hlt' => ?_) hI.old ?_ hown1 ((hsv.alloc _).drew.kept hgrow (own_ne hown hsv (by decide)))⟩
    · have := (hown.lt k hk).1; omega
    · rw [hgrow.block b (by simp; omega) (Ne.symm hne)]
      exact (Below.heap_alloc w _ b lb).trans he

set_option maxHeartbeats 3200000 in
theorem num_byte_mark (M : Nat → Prop) (w0 w : World) (b : Nat) (l : List Int) (ls : List ByteArray) (t : Int) (rm : Bool) (hI : SeeI M w0 b l ls true t rm w) (p q : Nat) (cur : Array Value) (ty : TypeId) (fr : Nat × Nat) (x : Value)
    (hx : w.heap[p]? = some (.cells cur ty fr)) (hq : cur[q]? = some x) (fp : w.frozen? ⟨p, q, none⟩ = false) (hp : M p) (hpo : p < w0.heap.size) (hpb : p ≠ b) (ht : 0 ≤ t ∧ t < 1000000000000000) (hl : l.length < 1000000) :
    Calls Tryz.prog 60 #[.pointer (some ⟨b, 0, none⟩), .pointer (some ⟨p, q, none⟩)] w fun e w' => e = .returned (.tuple #[]) ∧
      ∃ z y, InK .u8 z ∧ w'.heap[p]? = some (.cells (cur.setIfInBounds q (.int .u8 z)) ty fr) ∧ SeeI M w0 b (l ++ [y]) ls true (t + 1) rm w' ∧ But (fun k => k = b ∨ k = p ∨ w0.heap.size ≤ k) w w' := by
  obtain ⟨v, sv, he, hown, hsv⟩ := hI.eye
  obtain ⟨i0, hi0, hz0, hz1, hz2⟩ := info_parts info3
  obtain ⟨z, hwu⟩ : ∃ z, IntKind.u8.wrap (t + 1) = z := ⟨_, rfl⟩
  obtain ⟨y, hwz⟩ : ∃ y, IntKind.i64.wrap z = y := ⟨_, rfl⟩
  have hzb : InK .u8 z := by rw [← hwu]; exact inK_wrap _ _
  -- the world behind the two stores
  obtain ⟨w2, hw2⟩ : ∃ w2, w2 = (w.setCell ⟨b, 3, none⟩ (.int .i64 (t + 1))).setCell ⟨p, q, none⟩ (.int .u8 z) := ⟨_, rfl⟩
  have he2 : w2.heap[b]? = some (.cells (eyeCells v sv true (t + 1) rm) 70 (0, 0)) := by
    rw [hw2, heap_setCell_far (by simpa using hpb.symm)]; exact eye_set3 he
  have hown1 : (w.setCell ⟨b, 3, none⟩ (.int .i64 (t + 1))).ownsRow w0.heap.size 3 1 v l.length (l.map (Value.int .i64)) := ownsRow_setCell_below hown (a := ⟨b, 3, none⟩) hI.old _
  have hown2 : w2.ownsRow w0.heap.size 3 1 v l.length (l.map (Value.int .i64)) := by rw [hw2]; exact ownsRow_setCell_below hown1 (a := ⟨p, q, none⟩) hpo _
  have hsv1 : (w.setCell ⟨b, 3, none⟩ (.int .i64 (t + 1))).ownsRow w0.heap.size 9 1 sv ls.length (ls.map Value.string) := ownsRow_setCell_below hsv (a := ⟨b, 3, none⟩) hI.old _
  have hsv2 : w2.ownsRow w0.heap.size 9 1 sv ls.length (ls.map Value.string) := by rw [hw2]; exact ownsRow_setCell_below hsv1 (a := ⟨p, q, none⟩) hpo _
  have hb2 : But (fun k => k = b ∨ M k) w0 w2 := by rw [hw2]; exact (hI.but.setCell (fun _ => .inl rfl) _).setCell (fun _ => .inr hp) _
  have hb3 : But (fun k => k = b ∨ k = p ∨ w0.heap.size ≤ k) w w2 := by rw [hw2]; exact ((But.refl _ _).setCell (fun _ => .inl rfl) _).setCell (fun _ => .inr (.inl rfl)) _
  have hp2 : w2.heap[p]? = some (.cells (cur.setIfInBounds q (.int .u8 z)) ty fr) := by
    rw [hw2]; exact heap_setCell_same (by rw [heap_setCell_far (by simpa using hpb)]; exact hx) _
  obtain ⟨c0, c2, c3, c4, cf⟩ := eye_cells he
  have f3 := cf 3
  have cp : w.cell? ⟨p, q, none⟩ = some x := by simp [World.cell?, hx, hq]
  clear cf
  obtain ⟨d0, d2, d3, d4, df⟩ := eye_cells he2
  have f0 := df 0
  clear df
  have hqs : q < cur.size := (Array.getElem?_eq_some_iff.1 hq).1
  have cx : w2.cell? ⟨p, q, none⟩ = some (.int .u8 z) := by simp [World.cell?, hp2, hqs]
  have hne : v.ownBlock ≠ some b := fun e => by have := (hown.lt b e).1; have := hI.old; omega
  have hnx : v.ownBlock ≠ some p := fun e => by have := (hown.lt p e).1; omega
  have lb : b < w2.heap.size := lt_of_block he2
  have lx : p < w2.heap.size := lt_of_block hp2
  have hbase := hb2.size
  have fa : ∀ o : Obj, (w2.alloc o).frozen? ⟨b, 0, none⟩ = false := fun o => (World.frozen?_of_block (Below.heap_alloc w2 o b lb)).trans f0
  have h63 : l.length + 1 ≤ maxLen := by unfold maxLen; omega
  have hby : (l.length + 1) * 8 ≤ 140737488355328 := by omega
  have HW : Hid (w2 = (w.setCell ⟨b, 3, none⟩ (.int .i64 (t + 1))).setCell ⟨p, q, none⟩ (.int .u8 z)) := hw2
  clear hw2
  go_enter Tryz.func60, Tryz.ntmps60
  go_wp2_with fail
  rw [← HW.out]
  clear c0 c2 c3 c4 f3 fp cp hown hown1 hx hq he
  go_region_law ((refine step_append_lies _ (by rfl) _ _ _ (by rfl) w0.heap.size 3 i0 _ 1 8 Tryz.underlying68 hi0 hz0 hz1 hz2 rfl (by omega) v l.length (l.map (Value.int .i64)) (by rfl) ((hown2.alloc _).drew) ⟨w2.heap.size, 0, none⟩ 1 1 [.int .i64 y] (by rfl) (by rfl) (World.news_of_block (cs := #[.int .i64 y]) (t := 3) (fr := (0, 0)) (heap_alloc_new w2 _)) (by simp [Value.oneCell']) (by omega) h63 hby (by simp; omega) (w2.heap.size + 1) (by simp) ?_; intro gg cap w1 hown1 hgrow hat hlt; have g0 := (hgrow.cell_far ⟨b, 0, none⟩ (by simp; omega) (Ne.symm hne)).trans ((World.cell?_of_block (Below.heap_alloc w2 (.cells #[.int .i64 y] 3) b lb)).trans d0); have g1 := (hgrow.frozen_far ⟨b, 0, none⟩ (by simp; omega) (Ne.symm hne)).trans (fa (.cells #[.int .i64 y] 3))))
  all_goals
    go_end0
    refine ⟨rfl, z, y, hzb, ?_, SeeI.push (v := v) ((hb2.alloc _).drew.grown hgrow fun k hk hlt' => ?_) hI.old ?_ hown1 ((hsv2.alloc _).drew.kept hgrow (own_ne hown2 hsv2 (by decide))), ((hb3.alloc _).drew.grown hgrow fun k hk hlt' => .inr (.inr (hown2.lt k hk).1)).setCell (fun _ => .inl rfl) _⟩
    · rw [heap_setCell_far (by simpa using hpb), hgrow.block p (by simp; omega) (Ne.symm hnx)]
      exact (Below.heap_alloc w2 _ p lx).trans hp2
    · have := (hown2.lt k hk).1; omega
    · rw [hgrow.block b (by simp; omega) (Ne.symm hne)]
      exact (Below.heap_alloc w2 _ b lb).trans he2

theorem num_byte_impl : Impl 60 (numS .u8) := by
  refine ⟨numS_ok _, fun K w0 w b s t rm p q hS hK hp hf hn hm => ?_, fun K w0 w b s t rm p q T hS hK hp hf hn hm h0 h1 hT => ?_⟩
  · obtain ⟨⟨z, hz, hz2⟩, -⟩ := hf
    have hn' : max s.1.length 200000 + 1 < 1000000 := hn
    have e : (numS .u8).sees rm w p q s = (s.1 ++ [IntKind.i64.wrap z], s.2) := by simp only [numS, cellInt, hz]
    rw [e]
    exact num_byte_read _ w0 w b s.1 s.2 t rm hS ⟨p, q, none⟩ z hz _ rfl (by omega) (hK p hp).1
  · obtain ⟨⟨z, hz, hz2⟩, hfr⟩ := hf
    have hn' : max s.1.length 200000 + 1 < 1000000 := hn
    have hm' : s.2.length + 0 ≤ 2000000000000 := hm
    obtain ⟨cur, ty, fr, hx, hq⟩ := cell_block hz
    refine (num_byte_mark K w0 w b s.1 s.2 t rm hS p q cur ty fr _ hx hq (hfr rfl) hp (hK p hp).1 (hK p hp).2 ⟨h0, by omega⟩ (by omega)).mono ?_
    rintro e w' ⟨he, z', y', hz', hx', hS', hb⟩
    refine ⟨he, (s.1 ++ [y'], s.2), t + 1, hS', by omega, by simp only [List.length_append, List.length_cons, List.length_nil]; omega, by simp only [List.length_append, List.length_cons, List.length_nil, numS]; omega, by simp only [numS]; omega,
      Pres.set hx hq (.int hz') hx' (fun k hk hkp => hb.block k (Nat.lt_of_lt_of_le (hK k hk).1 hS.but.size) ?_)⟩
    have := hK k hk
    omega
end Go.Proofs.YtoplphimhbnelaaGreatDoor
namespace Go.Proofs.YtoplphimhbnelaaGreatDoor
open Go.RowKit
set_option maxRecDepth 100000

set_option maxHeartbeats 3200000 in
theorem all_all_byte (M : Nat → Prop) (w0 w : World) (b : Nat) (l : List Int) (ls : List ByteArray) (mk rm : Bool) (t : Int) (hI : SeeI M w0 b l ls mk t rm w) (a : Option Addr) (n c vis : Nat) (hnc : n ≤ c) (hc : c ≤ maxLen)
    (hvis : vis = if rm then c else n) (ha : a = none → c = 0) (hl : l.length < 1000000)
    (J : Nat → List Int → List ByteArray → World → Prop) (hJI : ∀ k l' s' w', J k l' s' w' → ∃ t', SeeI M w0 b l' s' mk t' rm w')
    (hJ0 : ∀ w', SeeI M w0 b (l ++ [(n : Int)]) ls mk t rm w' → But (fun k => k = b ∨ w0.heap.size ≤ k) w w' → J 0 (l ++ [(n : Int)]) ls w')
    (hstep : ∀ k l' s' w', k < vis → l'.length < 200000 → J k l' s' w' → ∀ ad, a = some ad → Calls Tryz.prog 60 #[.pointer (some ⟨b, 0, none⟩), .pointer (some (ad.add k))] w' fun e w'' => e = .returned (.tuple #[]) ∧ ∃ l'' s'', J (k + 1) l'' s'' w'') :
    Calls Tryz.prog 59 #[.pointer (some ⟨b, 0, none⟩), .slice a n c, .func (.func 60) #[] #[]] w fun e w' => e = .returned (.tuple #[]) ∧ ∃ k l' s', J k l' s' w' ∧ k ≤ vis ∧ (k = vis ∨ 200000 ≤ l'.length) := by
  obtain ⟨v, sv, he, hown, hsv⟩ := hI.eye
  obtain ⟨i0, hi0, hz0, hz1, hz2⟩ := info_parts info3
  obtain ⟨c0, c2, c3, c4, cf⟩ := eye_cells he
  have f0 := cf 0
  clear cf
  have hne : v.ownBlock ≠ some b := fun e => by have := (hown.lt b e).1; have := hI.old; omega
  have lb : b < w.heap.size := lt_of_block he
  have hbase := hI.but.size
  have fa : ∀ o : Obj, (w.alloc o).frozen? ⟨b, 0, none⟩ = false := fun o => (World.frozen?_of_block (Below.heap_alloc w o b lb)).trans f0
  have h63 : l.length + 1 ≤ maxLen := by unfold maxLen; omega
  have hby : (l.length + 1) * 8 ≤ 140737488355328 := by omega
  unfold maxLen at hc
  have HV : Hid (vis = if rm = true then c else n) := hvis
  rcases a with _ | ad
  · obtain rfl : c = 0 := ha rfl
    obtain rfl : n = 0 := by omega
    cases rm
    · go_enter Tryz.func59, Tryz.ntmps59
      go_wp2_with (at_builtin; refine wpList_append_lies _ rfl (.tmp 11) (.tmp 14) 68 rfl w0.heap.size 3 i0 _ 1 8 Tryz.underlying68 hi0 hz0 hz1 hz2 rfl (by omega) v l.length (l.map (Value.int .i64)) rfl (hown.alloc _) ⟨w.heap.size, 0, none⟩ 1 1 [.int .i64 0] rfl rfl (World.news_of_block (cs := #[.int .i64 0]) (t := 3) (fr := (0, 0)) (heap_alloc_new w _)) (by simp [Value.oneCell']) (by omega) h63 hby (by simp; omega) (w.heap.size + 1) (by simp) ?_; intro gg cap w1 hown1 hgrow hat hlt; have g0 := (hgrow.cell_far ⟨b, 0, none⟩ (by simp; omega) (Ne.symm hne)).trans ((World.cell?_of_block (Below.heap_alloc w (.cells #[.int .i64 0] 3) b lb)).trans c0); have g1 := (hgrow.frozen_far ⟨b, 0, none⟩ (by simp; omega) (Ne.symm hne)).trans (fa (.cells #[.int .i64 0] 3)); have g4 := (hgrow.cell_far ⟨b, 4, none⟩ (by simp; omega) (Ne.symm hne)).trans ((World.cell?_of_block (Below.heap_alloc w (.cells #[.int .i64 0] 3) b lb)).trans c4))
      have hw1 : SeeI M w0 b (l ++ [((0 : Nat) : Int)]) ls mk t false (w1.setCell ⟨b, 0, none⟩ (.slice (some ⟨gg, 0, none⟩) (l.length + 1) cap)) ∧ But (fun k => k = b ∨ w0.heap.size ≤ k) w (w1.setCell ⟨b, 0, none⟩ (.slice (some ⟨gg, 0, none⟩) (l.length + 1) cap)) := by
        refine ⟨SeeI.push (v := v) ((hI.but.alloc _).grown hgrow fun k hk hlt' => ?_) hI.old ?_ hown1 ((hsv.alloc _).kept hgrow (own_ne hown hsv (by decide))), (((But.refl _ w).alloc _).grown hgrow fun k hk hlt' => ?_).setCell (fun _ => .inl rfl) _⟩
        · have := (hown.lt k hk).1; omega
        · rw [hgrow.block b (by simp; omega) (Ne.symm hne)]
          exact (Below.heap_alloc w _ b lb).trans he
        · exact .inr (hown.lt k hk).1
      go_loopw [6] (fun i wr => ∃ (k : Nat) (l' : List Int) (s' : List ByteArray), k ≤ 0 ∧ i = .int .i64 k ∧ J k l' s' wr) (fun i _ => 0 - (intOf i).toNat)
      case atStart => exact ⟨0, _, ls, Nat.zero_le _, rfl, hJ0 _ hw1.1 hw1.2⟩
      case round =>
        clear hw1 hown1 hgrow hat g0 g1 g4 c0 c2 c3 c4 f0 fa he hown hsv hI hJ0
        obtain ⟨k, l', s', hk, rfl, hJ⟩ := hrel
        obtain ⟨t', hI'⟩ := hJI _ _ _ _ hJ
        obtain ⟨v', sv', he', hown', -⟩ := hI'.eye
        obtain ⟨o', cc, rfl⟩ := ownsRow_form hown'
        obtain ⟨e0, -, -, -, -⟩ := eye_cells he'
        clear he' hown' hI'
        have hk0 : (0 : Int) ≤ (k : Int) := Int.natCast_nonneg _
        obtain rfl : k = 0 := by omega
        clear hstep hJI hvis ha hl hi0 hz0 hz1 hz2 hne lb hbase h63 hby
        go_wp2_with fail
        go_end0
        exact ⟨rfl, 0, l', s', hJ, by rw [HV.out]; simp, .inl (by rw [HV.out]; simp)⟩
    · go_enter Tryz.func59, Tryz.ntmps59
      go_wp2_with (at_builtin; refine wpList_append_lies _ rfl (.tmp 11) (.tmp 14) 68 rfl w0.heap.size 3 i0 _ 1 8 Tryz.underlying68 hi0 hz0 hz1 hz2 rfl (by omega) v l.length (l.map (Value.int .i64)) rfl (hown.alloc _) ⟨w.heap.size, 0, none⟩ 1 1 [.int .i64 0] rfl rfl (World.news_of_block (cs := #[.int .i64 0]) (t := 3) (fr := (0, 0)) (heap_alloc_new w _)) (by simp [Value.oneCell']) (by omega) h63 hby (by simp; omega) (w.heap.size + 1) (by simp) ?_; intro gg cap w1 hown1 hgrow hat hlt; have g0 := (hgrow.cell_far ⟨b, 0, none⟩ (by simp; omega) (Ne.symm hne)).trans ((World.cell?_of_block (Below.heap_alloc w (.cells #[.int .i64 0] 3) b lb)).trans c0); have g1 := (hgrow.frozen_far ⟨b, 0, none⟩ (by simp; omega) (Ne.symm hne)).trans (fa (.cells #[.int .i64 0] 3)); have g4 := (hgrow.cell_far ⟨b, 4, none⟩ (by simp; omega) (Ne.symm hne)).trans ((World.cell?_of_block (Below.heap_alloc w (.cells #[.int .i64 0] 3) b lb)).trans c4))
      have hw1 : SeeI M w0 b (l ++ [((0 : Nat) : Int)]) ls mk t true (w1.setCell ⟨b, 0, none⟩ (.slice (some ⟨gg, 0, none⟩) (l.length + 1) cap)) ∧ But (fun k => k = b ∨ w0.heap.size ≤ k) w (w1.setCell ⟨b, 0, none⟩ (.slice (some ⟨gg, 0, none⟩) (l.length + 1) cap)) := by
        refine ⟨SeeI.push (v := v) ((hI.but.alloc _).grown hgrow fun k hk hlt' => ?_) hI.old ?_ hown1 ((hsv.alloc _).kept hgrow (own_ne hown hsv (by decide))), (((But.refl _ w).alloc _).grown hgrow fun k hk hlt' => ?_).setCell (fun _ => .inl rfl) _⟩
        · have := (hown.lt k hk).1; omega
        · rw [hgrow.block b (by simp; omega) (Ne.symm hne)]
          exact (Below.heap_alloc w _ b lb).trans he
        · exact .inr (hown.lt k hk).1
      go_loopw [6] (fun i wr => ∃ (k : Nat) (l' : List Int) (s' : List ByteArray), k ≤ 0 ∧ i = .int .i64 k ∧ J k l' s' wr) (fun i _ => 0 - (intOf i).toNat)
      case atStart => exact ⟨0, _, ls, Nat.zero_le _, rfl, hJ0 _ hw1.1 hw1.2⟩
      case round =>
        clear hw1 hown1 hgrow hat g0 g1 g4 c0 c2 c3 c4 f0 fa he hown hsv hI hJ0
        obtain ⟨k, l', s', hk, rfl, hJ⟩ := hrel
        obtain ⟨t', hI'⟩ := hJI _ _ _ _ hJ
        obtain ⟨v', sv', he', hown', -⟩ := hI'.eye
        obtain ⟨o', cc, rfl⟩ := ownsRow_form hown'
        obtain ⟨e0, -, -, -, -⟩ := eye_cells he'
        clear he' hown' hI'
        have hk0 : (0 : Int) ≤ (k : Int) := Int.natCast_nonneg _
        obtain rfl : k = 0 := by omega
        clear hstep hJI hvis ha hl hi0 hz0 hz1 hz2 hne lb hbase h63 hby
        go_wp2_with fail
        go_end0
        exact ⟨rfl, 0, l', s', hJ, by rw [HV.out]; simp, .inl (by rw [HV.out]; simp)⟩
  · cases rm
    · go_enter Tryz.func59, Tryz.ntmps59
      go_wp2_with (at_builtin; refine wpList_append_lies _ rfl (.tmp 11) (.tmp 14) 68 rfl w0.heap.size 3 i0 _ 1 8 Tryz.underlying68 hi0 hz0 hz1 hz2 rfl (by omega) v l.length (l.map (Value.int .i64)) rfl (hown.alloc _) ⟨w.heap.size, 0, none⟩ 1 1 [.int .i64 n] rfl rfl (World.news_of_block (cs := #[.int .i64 n]) (t := 3) (fr := (0, 0)) (heap_alloc_new w _)) (by simp [Value.oneCell']) (by omega) h63 hby (by simp; omega) (w.heap.size + 1) (by simp) ?_; intro gg cap w1 hown1 hgrow hat hlt; have g0 := (hgrow.cell_far ⟨b, 0, none⟩ (by simp; omega) (Ne.symm hne)).trans ((World.cell?_of_block (Below.heap_alloc w (.cells #[.int .i64 n] 3) b lb)).trans c0); have g1 := (hgrow.frozen_far ⟨b, 0, none⟩ (by simp; omega) (Ne.symm hne)).trans (fa (.cells #[.int .i64 n] 3)); have g4 := (hgrow.cell_far ⟨b, 4, none⟩ (by simp; omega) (Ne.symm hne)).trans ((World.cell?_of_block (Below.heap_alloc w (.cells #[.int .i64 n] 3) b lb)).trans c4))
      have hw1 : SeeI M w0 b (l ++ [(n : Int)]) ls mk t false (w1.setCell ⟨b, 0, none⟩ (.slice (some ⟨gg, 0, none⟩) (l.length + 1) cap)) ∧ But (fun k => k = b ∨ w0.heap.size ≤ k) w (w1.setCell ⟨b, 0, none⟩ (.slice (some ⟨gg, 0, none⟩) (l.length + 1) cap)) := by
        refine ⟨SeeI.push (v := v) ((hI.but.alloc _).grown hgrow fun k hk hlt' => ?_) hI.old ?_ hown1 ((hsv.alloc _).kept hgrow (own_ne hown hsv (by decide))), (((But.refl _ w).alloc _).grown hgrow fun k hk hlt' => ?_).setCell (fun _ => .inl rfl) _⟩
        · have := (hown.lt k hk).1; omega
        · rw [hgrow.block b (by simp; omega) (Ne.symm hne)]
          exact (Below.heap_alloc w _ b lb).trans he
        · exact .inr (hown.lt k hk).1
      go_loopw [6] (fun i wr => ∃ (k : Nat) (l' : List Int) (s' : List ByteArray), k ≤ n ∧ i = .int .i64 k ∧ J k l' s' wr) (fun i _ => n - (intOf i).toNat)
      case atStart => exact ⟨0, _, ls, Nat.zero_le _, rfl, hJ0 _ hw1.1 hw1.2⟩
      case round =>
        clear hw1 hown1 hgrow hat g0 g1 g4 c0 c2 c3 c4 f0 fa he hown hsv hI hJ0
        obtain ⟨k, l', s', hk, rfl, hJ⟩ := hrel
        obtain ⟨t', hI'⟩ := hJI _ _ _ _ hJ
        obtain ⟨v', sv', he', hown', -⟩ := hI'.eye
        obtain ⟨o', cc, rfl⟩ := ownsRow_form hown'
        obtain ⟨e0, -, -, -, -⟩ := eye_cells he'
        clear he' hown' hI'
        have hk0 : (0 : Int) ≤ (k : Int) := Int.natCast_nonneg _
        rcases Nat.lt_or_ge k n with hkn | hkn
        · rcases Nat.lt_or_ge l'.length 200000 with hl' | hl'
          · have hs := hstep k l' s' wr (by rw [HV.out]; simp; omega) hl' hJ ad rfl
            have hl2 : (l'.length : Int) < 200000 := by omega
            clear hl' hstep hJI hJ hvis ha hl hi0 hz0 hz1 hz2 hne lb hbase h63 hby
            go_wp2_with (go_at_call 60; refine hs.mono ?_; rintro e w2 ⟨rfl, l'', s'', hJ''⟩)
            go_roundw
            case rel => exact ⟨k + 1, l'', s'', by omega, by go_num, hJ''⟩
            case measure => simp [intOf]; omega
          · clear hstep hJI hvis ha hl hi0 hz0 hz1 hz2 hne lb hbase h63 hby
            have HL : Hid (200000 ≤ l'.length) := hl'
            have hl2 : ((l'.length : Int) < 200000) = False := eq_false (by omega)
            clear hl'
            go_wp2_with fail
            go_end0
            exact ⟨rfl, k, l', s', hJ, by rw [HV.out]; simp; omega, .inr HL.out⟩
        · clear hstep hJI hvis ha hl hi0 hz0 hz1 hz2 hne lb hbase h63 hby
          obtain rfl : k = n := by omega
          go_wp2_with fail
          go_end0
          exact ⟨rfl, k, l', s', hJ, by rw [HV.out]; simp, .inl (by rw [HV.out]; simp)⟩
    · go_enter Tryz.func59, Tryz.ntmps59
      go_wp2_with (at_builtin; refine wpList_append_lies _ rfl (.tmp 11) (.tmp 14) 68 rfl w0.heap.size 3 i0 _ 1 8 Tryz.underlying68 hi0 hz0 hz1 hz2 rfl (by omega) v l.length (l.map (Value.int .i64)) rfl (hown.alloc _) ⟨w.heap.size, 0, none⟩ 1 1 [.int .i64 n] rfl rfl (World.news_of_block (cs := #[.int .i64 n]) (t := 3) (fr := (0, 0)) (heap_alloc_new w _)) (by simp [Value.oneCell']) (by omega) h63 hby (by simp; omega) (w.heap.size + 1) (by simp) ?_; intro gg cap w1 hown1 hgrow hat hlt; have g0 := (hgrow.cell_far ⟨b, 0, none⟩ (by simp; omega) (Ne.symm hne)).trans ((World.cell?_of_block (Below.heap_alloc w (.cells #[.int .i64 n] 3) b lb)).trans c0); have g1 := (hgrow.frozen_far ⟨b, 0, none⟩ (by simp; omega) (Ne.symm hne)).trans (fa (.cells #[.int .i64 n] 3)); have g4 := (hgrow.cell_far ⟨b, 4, none⟩ (by simp; omega) (Ne.symm hne)).trans ((World.cell?_of_block (Below.heap_alloc w (.cells #[.int .i64 n] 3) b lb)).trans c4))
      have hw1 : SeeI M w0 b (l ++ [(n : Int)]) ls mk t true (w1.setCell ⟨b, 0, none⟩ (.slice (some ⟨gg, 0, none⟩) (l.length + 1) cap)) ∧ But (fun k => k = b ∨ w0.heap.size ≤ k) w (w1.setCell ⟨b, 0, none⟩ (.slice (some ⟨gg, 0, none⟩) (l.length + 1) cap)) := by
        refine ⟨SeeI.push (v := v) ((hI.but.alloc _).grown hgrow fun k hk hlt' => ?_) hI.old ?_ hown1 ((hsv.alloc _).kept hgrow (own_ne hown hsv (by decide))), (((But.refl _ w).alloc _).grown hgrow fun k hk hlt' => ?_).setCell (fun _ => .inl rfl) _⟩
        · have := (hown.lt k hk).1; omega
        · rw [hgrow.block b (by simp; omega) (Ne.symm hne)]
          exact (Below.heap_alloc w _ b lb).trans he
        · exact .inr (hown.lt k hk).1
      go_loopw [6] (fun i wr => ∃ (k : Nat) (l' : List Int) (s' : List ByteArray), k ≤ c ∧ i = .int .i64 k ∧ J k l' s' wr) (fun i _ => c - (intOf i).toNat)
      case atStart => exact ⟨0, _, ls, Nat.zero_le _, rfl, hJ0 _ hw1.1 hw1.2⟩
      case round =>
        clear hw1 hown1 hgrow hat g0 g1 g4 c0 c2 c3 c4 f0 fa he hown hsv hI hJ0
        obtain ⟨k, l', s', hk, rfl, hJ⟩ := hrel
        obtain ⟨t', hI'⟩ := hJI _ _ _ _ hJ
        obtain ⟨v', sv', he', hown', -⟩ := hI'.eye
        obtain ⟨o', cc, rfl⟩ := ownsRow_form hown'
        obtain ⟨e0, -, -, -, -⟩ := eye_cells he'
        clear he' hown' hI'
        have hk0 : (0 : Int) ≤ (k : Int) := Int.natCast_nonneg _
        rcases Nat.lt_or_ge k c with hkn | hkn
        · rcases Nat.lt_or_ge l'.length 200000 with hl' | hl'
          · have hs := hstep k l' s' wr (by rw [HV.out]; simp; omega) hl' hJ ad rfl
            have hl2 : (l'.length : Int) < 200000 := by omega
            clear hl' hstep hJI hJ hvis ha hl hi0 hz0 hz1 hz2 hne lb hbase h63 hby
            go_wp2_with (go_at_call 60; refine hs.mono ?_; rintro e w2 ⟨rfl, l'', s'', hJ''⟩)
            go_roundw
            case rel => exact ⟨k + 1, l'', s'', by omega, by go_num, hJ''⟩
            case measure => simp [intOf]; omega
          · clear hstep hJI hvis ha hl hi0 hz0 hz1 hz2 hne lb hbase h63 hby
            have HL : Hid (200000 ≤ l'.length) := hl'
            have hl2 : ((l'.length : Int) < 200000) = False := eq_false (by omega)
            clear hl'
            go_wp2_with fail
            go_end0
            exact ⟨rfl, k, l', s', hJ, by rw [HV.out]; simp; omega, .inr HL.out⟩
        · clear hstep hJI hvis ha hl hi0 hz0 hz1 hz2 hne lb hbase h63 hby
          obtain rfl : k = c := by omega
          go_wp2_with fail
          go_end0
          exact ⟨rfl, k, l', s', hJ, by rw [HV.out]; simp, .inl (by rw [HV.out]; simp)⟩
theorem any_all_byte : AllAny 59 60 1 := by
  intro M w0 w b l ls mk rm t hI a n c vis hnc hc hvis ha hl J h1 h2 h3
  exact all_all_byte M w0 w b l ls mk rm t hI a n c vis hnc hc hvis ha hl J h1 h2 (fun k l' s' w' hk hl' hJ ad had => by
    have := h3 k l' s' w' hk hl' hJ ad had
    rwa [Nat.mul_one] at this)
end Go.Proofs.YtoplphimhbnelaaGreatDoor
namespace Go.Proofs.YtoplphimhbnelaaGreatDoor
open Go.RowKit
set_option maxRecDepth 100000
theorem hands_nums_byte : Hands 27 59 60 := by
  intro w b p q a n c R hla h
  go_enter Tryz.func27, Tryz.ntmps27
  go_wp2_with (go_at_call 59; refine h.mono ?_; rintro e w2 ⟨rfl, hr⟩)
  go_end0
  exact ⟨rfl, hr⟩
def S_nums_byte : Shape := allS 1 (numS .u8)
theorem impl_nums_byte : Impl 27 S_nums_byte := impl_all hands_nums_byte any_all_byte num_byte_impl
end Go.Proofs.YtoplphimhbnelaaGreatDoor
namespace Go.Proofs.YtoplphimhbnelaaGreatDoor
open Go.RowKit
set_option maxRecDepth 100000
attribute [local go_sem ↓] Go.wp_at_zero Go.wp_at_succ

theorem eye_cell1 {w : World} {b : Nat} {v sv : Value} {mk rm : Bool} {t : Int} (he : w.heap[b]? = some (.cells (eyeCells v sv mk t rm) 70 (0, 0))) :
    w.cell? ⟨b, 1, none⟩ = some sv ∧ w.cell? ⟨b, 2, none⟩ = some (.bool mk) ∧ w.cell? ⟨b, 3, none⟩ = some (.int .i64 t) ∧ (∀ o, w.frozen? ⟨b, o, none⟩ = false) := by
  refine ⟨?_, ?_, ?_, ?_⟩ <;> simp [World.cell?, World.frozen?, he, eyeCells]

set_option maxHeartbeats 3200000 in
theorem str_read (M : Nat → Prop) (w0 w : World) (b : Nat) (l : List Int) (ls : List ByteArray) (t : Int) (rm : Bool) (hI : SeeI M w0 b l ls false t rm w) (xa : Addr) (z : ByteArray)
    (hx : w.cell? xa = some (.string z)) (hl : ls.length ≤ 2000000000000) (hxo : xa.block < w0.heap.size) :
    Calls Tryz.prog 42 #[.pointer (some ⟨b, 0, none⟩), .pointer (some xa)] w fun e w' => e = .returned (.tuple #[]) ∧ SeeI M w0 b l (ls ++ [z]) false t rm w' := by
  obtain ⟨v, sv, he, hown, hsv⟩ := hI.eye
  obtain ⟨i0, hi0, hz0, hz1, hz2⟩ := info_parts info9
  obtain ⟨c1, c2, c3, cf⟩ := eye_cell1 he
  have f1 := cf 1
  clear cf
  have hne : sv.ownBlock ≠ some b := fun e => by have := (hsv.lt b e).1; have := hI.old; omega
  have lb := World.block_lt_of_cell? w _ c1
  have lx := World.block_lt_of_cell? w _ hx
  go_enter Tryz.func42, Tryz.ntmps42
  go_wp2_with fail
  have hbase := hI.but.size
  have fa : ∀ o : Obj, (w.alloc o).frozen? ⟨b, 1, none⟩ = false := fun o => (World.frozen?_of_block (Below.heap_alloc w o b lb)).trans f1
  have h63 : ls.length + 1 ≤ maxLen := by unfold maxLen; omega
  have hby : (ls.length + 1) * 16 ≤ 140737488355328 := by omega
  go_region_law ((refine step_append_lies _ (by rfl) _ _ _ (by rfl) w0.heap.size 9 i0 _ 1 16 Tryz.underlying22 hi0 hz0 hz1 hz2 rfl (by omega) sv ls.length (ls.map Value.string) (by rfl) ((hsv.alloc _).drew) ⟨w.heap.size, 0, none⟩ 1 1 [.string z] (by rfl) (by rfl) (World.news_of_block (cs := #[.string z]) (t := 9) (fr := (0, 0)) (heap_alloc_new w _)) (by simp [Value.oneCell']) (by omega) h63 hby (by simp; omega) (w.heap.size + 1) (by simp) ?_; intro gg cap w1 hown1 hgrow hat hlt; have g0 := (hgrow.cell_far ⟨b, 1, none⟩ (by simp; omega) (Ne.symm hne)).trans ((World.cell?_of_block (Below.heap_alloc w (.cells #[.string z] 9) b lb)).trans c1); have g1 := (hgrow.frozen_far ⟨b, 1, none⟩ (by simp; omega) (Ne.symm hne)).trans (fa (.cells #[.string z] 9))))
  all_goals
    go_end0
    refine ⟨rfl, SeeI.pushS (sv := sv) ((hI.but.alloc _).drew.grown hgrow fun k hk hlt' => ?_) hI.old ?_ ((hown.alloc _).drew.kept hgrow (own_ne hsv hown (by decide))) hown1⟩
    · have := (hsv.lt k hk).1; omega
    · rw [hgrow.block b (by simp; omega) (Ne.symm hne)]
      exact (Below.heap_alloc w _ b lb).trans he

/-- One byte, as a string. -/
def oneByte (z : Int) : ByteArray := ByteArray.empty.push (UInt8.ofNat z.toNat)
theorem oneByte_size (z : Int) : (oneByte z).size = 1 := rfl
theorem und_bytes : Tryz.prog.underlying 50 = some (.slice 5) := by kernel_rfl
theorem und_byte : Tryz.prog.underlying 5 = some (.int .u8) := by kernel_rfl
theorem und_str : Tryz.prog.underlying 9 = some .string := by kernel_rfl
/-- Its conversion. -/
theorem conv_one (w : World) (g : Nat) (z : Int) (h : w.cell? ⟨g, 0, none⟩ = some (.int .u8 z)) : (convert 50 9 (.slice (some ⟨g, 0, none⟩) 1 1)).run Tryz.prog w = .ok (.string (oneByte z)) w := by
  rw [run_convert_bytes_string w _ _ _ _ _ _ und_bytes und_byte und_str]
  refine run_bytesToString w _ 1 1 [z] ?_
  exact run_loadCells_list (P := Tryz.prog) w ⟨g, 0, none⟩ [Value.int .u8 z] (fun j v hj => by
    cases j with
    | zero =>
      obtain rfl : Value.int .u8 z = v := by simpa using hj
      simpa [Addr.add] using h
    | succ j => simp at hj)
theorem mark_loop_bound {m : Int} {k : Nat} (h0 : 0 < m) (h : m < 2 ^ k) : ∃ j, k = j + 1 ∧ m / 26 < 2 ^ j := by
  rcases k with _ | j
  · simp at h; omega
  · refine ⟨j, rfl, ?_⟩
    have : (2 : Int) ^ (j + 1) = 2 ^ j * 2 := Int.pow_succ 2 j
    have h3 : (0 : Int) < 2 ^ j := Int.pow_pos (by decide)
    omega

/-- What a marked string's place is, on the way. -/
structure StrI (M : Nat → Prop) (w0 w : World) (b p q : Nat) (cur : Array Value) (ty : TypeId) (fr : Nat × Nat) (v sv : Value) (l : List Int) (ls : List ByteArray) (u : Int) (rm : Bool) (s : ByteArray) (wr : World) : Prop where
  eye : wr.heap[b]? = some (.cells (eyeCells v sv true u rm) 70 (0, 0))
  at_ : wr.heap[p]? = some (.cells (cur.setIfInBounds q (.string s)) ty fr)
  own : wr.ownsRow w0.heap.size 3 1 v l.length (l.map (Value.int .i64))
  ownS : wr.ownsRow w0.heap.size 9 1 sv ls.length (ls.map Value.string)
  but : But (fun k => k = b ∨ M k) w0 wr
  near : But (fun k => k = b ∨ k = p ∨ w0.heap.size ≤ k) w wr
  fr : wr.frozen? ⟨p, q, none⟩ = false
theorem StrI.more {M : Nat → Prop} {w0 w wr : World} {b p q : Nat} {cur : Array Value} {ty : TypeId} {fr : Nat × Nat} {v sv : Value} {l : List Int} {ls : List ByteArray} {u : Int} {rm : Bool} {s : ByteArray} (h : StrI M w0 w b p q cur ty fr v sv l ls u rm s wr)
    (hpo : p < w0.heap.size) (hpb : p ≠ b) (hp : M p) (o : Obj) (s' : ByteArray) : StrI M w0 w b p q cur ty fr v sv l ls u rm s' (((wr.alloc o).setCell ⟨p, q, none⟩ (.string s')).drew) := by
  have hb : (wr.alloc o).heap[b]? = some (.cells (eyeCells v sv true u rm) 70 (0, 0)) := (Below.heap_alloc wr o b (lt_of_block h.eye)).trans h.eye
  have hp' : (wr.alloc o).heap[p]? = some (.cells (cur.setIfInBounds q (.string s)) ty fr) := (Below.heap_alloc wr o p (lt_of_block h.at_)).trans h.at_
  have hp2 : ((wr.alloc o).setCell ⟨p, q, none⟩ (.string s')).heap[p]? = some (.cells (cur.setIfInBounds q (.string s')) ty fr) := by rw [heap_setCell_same hp', Array.setIfInBounds_setIfInBounds]
  refine ⟨?_, hp2, ?_, ?_, ?_, ?_, ?_⟩
  · show ((wr.alloc o).setCell ⟨p, q, none⟩ (.string s')).heap[b]? = _
    rw [heap_setCell_far (by simpa using hpb.symm)]; exact hb
  · exact (ownsRow_setCell_below (h.own.alloc o) (a := ⟨p, q, none⟩) hpo _).drew
  · exact (ownsRow_setCell_below (h.ownS.alloc o) (a := ⟨p, q, none⟩) hpo _).drew
  · exact ((h.but.alloc o).setCell (fun _ => .inr hp) _).drew
  · exact ((h.near.alloc o).setCell (fun _ => .inr (.inl rfl)) _).drew
  · have hf : (wr.alloc o).frozen? ⟨p, q, none⟩ = false := (World.frozen?_of_block (Below.heap_alloc wr o p (lt_of_block h.at_))).trans h.fr
    simp only [World.frozen?, hp'] at hf
    show ((wr.alloc o).setCell ⟨p, q, none⟩ (.string s')).frozen? ⟨p, q, none⟩ = false
    simp only [World.frozen?, hp2]
    exact hf

theorem StrI.more2 {M : Nat → Prop} {w0 w wr : World} {b p q : Nat} {cur : Array Value} {ty : TypeId} {fr : Nat × Nat} {v sv : Value} {l : List Int} {ls : List ByteArray} {u : Int} {rm : Bool} {s : ByteArray} (h : StrI M w0 w b p q cur ty fr v sv l ls u rm s wr)
    (hpo : p < w0.heap.size) (hpb : p ≠ b) (hp : M p) (o : Obj) (s' : ByteArray) : StrI M w0 w b p q cur ty fr v sv l ls u rm s' (((wr.setCell ⟨p, q, none⟩ (.string s')).alloc o).drew) := by
  have hb : (wr.setCell ⟨p, q, none⟩ (.string s')).heap[b]? = some (.cells (eyeCells v sv true u rm) 70 (0, 0)) := by rw [heap_setCell_far (by simpa using hpb.symm)]; exact h.eye
  have hp2 : (wr.setCell ⟨p, q, none⟩ (.string s')).heap[p]? = some (.cells (cur.setIfInBounds q (.string s')) ty fr) := by rw [heap_setCell_same h.at_, Array.setIfInBounds_setIfInBounds]
  have hp3 : ((wr.setCell ⟨p, q, none⟩ (.string s')).alloc o).heap[p]? = some (.cells (cur.setIfInBounds q (.string s')) ty fr) := (Below.heap_alloc _ o p (lt_of_block hp2)).trans hp2
  refine ⟨(Below.heap_alloc _ o b (lt_of_block hb)).trans hb, hp3, ?_, ?_, ?_, ?_, ?_⟩
  · exact ((ownsRow_setCell_below h.own (a := ⟨p, q, none⟩) hpo _).alloc o).drew
  · exact ((ownsRow_setCell_below h.ownS (a := ⟨p, q, none⟩) hpo _).alloc o).drew
  · exact ((h.but.setCell (fun _ => .inr hp) _).alloc o).drew
  · exact ((h.near.setCell (fun _ => .inr (.inl rfl)) _).alloc o).drew
  · have hf := h.fr
    simp only [World.frozen?, h.at_] at hf
    show ((wr.setCell ⟨p, q, none⟩ (.string s')).alloc o).frozen? ⟨p, q, none⟩ = false
    simp only [World.frozen?, hp3]
    exact hf

set_option maxHeartbeats 6400000 in
theorem str_mark (M : Nat → Prop) (w0 w : World) (b : Nat) (l : List Int) (ls : List ByteArray) (t : Int) (rm : Bool) (hI : SeeI M w0 b l ls true t rm w) (p q : Nat) (cur : Array Value) (ty : TypeId) (fr : Nat × Nat) (x : Value)
    (hx : w.heap[p]? = some (.cells cur ty fr)) (hq : cur[q]? = some x) (fp : w.frozen? ⟨p, q, none⟩ = false) (hp : M p) (hpo : p < w0.heap.size) (hpb : p ≠ b) (ht : 0 ≤ t ∧ t < 1000000000000000) (hl : ls.length ≤ 2000000000000) :
    Calls Tryz.prog 42 #[.pointer (some ⟨b, 0, none⟩), .pointer (some ⟨p, q, none⟩)] w fun e w' => e = .returned (.tuple #[]) ∧
      ∃ y : ByteArray, w'.heap[p]? = some (.cells (cur.setIfInBounds q (.string y)) ty fr) ∧ SeeI M w0 b l (ls ++ [y]) true (t + 1) rm w' ∧ But (fun k => k = b ∨ k = p ∨ w0.heap.size ≤ k) w w' := by
  obtain ⟨v, sv, he, hown, hsv⟩ := hI.eye
  obtain ⟨i0, hi0, hz0, hz1, hz2⟩ := info_parts info9
  obtain ⟨qm, hqm⟩ : ∃ qm : ByteArray, qm = ⟨#[63]⟩ := ⟨_, rfl⟩
  -- the world behind the two stores
  obtain ⟨w2, hw2⟩ : ∃ w2, w2 = (w.setCell ⟨b, 3, none⟩ (.int .i64 (t + 1))).setCell ⟨p, q, none⟩ (.string ⟨#[63]⟩) := ⟨_, rfl⟩
  have hI2 : StrI M w0 w b p q cur ty fr v sv l ls (t + 1) rm ⟨#[63]⟩ w2 := by
    have hp1 : (w.setCell ⟨b, 3, none⟩ (.int .i64 (t + 1))).heap[p]? = some (.cells cur ty fr) := by rw [heap_setCell_far (by simpa using hpb)]; exact hx
    refine ⟨?_, ?_, ?_, ?_, ?_, ?_, ?_⟩
    · rw [hw2, heap_setCell_far (by simpa using hpb.symm)]; exact eye_set3 he
    · rw [hw2]; exact heap_setCell_same hp1 _
    · rw [hw2]; exact ownsRow_setCell_below (ownsRow_setCell_below hown (a := ⟨b, 3, none⟩) hI.old _) (a := ⟨p, q, none⟩) hpo _
    · rw [hw2]; exact ownsRow_setCell_below (ownsRow_setCell_below hsv (a := ⟨b, 3, none⟩) hI.old _) (a := ⟨p, q, none⟩) hpo _
    · rw [hw2]; exact (hI.but.setCell (fun _ => .inl rfl) _).setCell (fun _ => .inr hp) _
    · rw [hw2]; exact ((But.refl _ _).setCell (fun _ => .inl rfl) _).setCell (fun _ => .inr (.inl rfl)) _
    · have h1 := heap_setCell_same hp1 (o := q) (.string ⟨#[63]⟩)
      rw [← hw2] at h1
      simp only [World.frozen?, hx] at fp
      simp only [World.frozen?, h1]
      exact fp
  obtain ⟨c1, c2, c3, cf⟩ := eye_cell1 he
  have f3 := cf 3
  have cp : w.cell? ⟨p, q, none⟩ = some x := by simp [World.cell?, hx, hq]
  clear cf
  have hqs : q < cur.size := (Array.getElem?_eq_some_iff.1 hq).1
  obtain ⟨d1, d2, d3, -⟩ := eye_cell1 hI2.eye
  have HW : Hid (w2 = (w.setCell ⟨b, 3, none⟩ (.int .i64 (t + 1))).setCell ⟨p, q, none⟩ (.string ⟨#[63]⟩)) := hw2
  clear hw2
  have hp60 : (2 : Int) ^ 60 = 1152921504606846976 := by decide
  have hb60 : t + 1 < 2 ^ 60 := by omega
  clear hp60
  go_enter Tryz.func42, Tryz.ntmps42
  go_wp2_with fail
  rw [← HW.out]
  clear c1 c2 c3 f3 fp cp hown hsv hx hq he hqm qm
  go_loopw [4] (fun n wr => ∃ (m : Int) (k : Nat) (s : ByteArray), n = .int .i64 m ∧ 0 ≤ m ∧ m ≤ 1000000000000000 ∧ m < 2 ^ k ∧ s.size + k ≤ 70 ∧ StrI M w0 w b p q cur ty fr v sv l ls (t + 1) rm s wr) (fun n _ => (intOf n).toNat)
  case atStart => exact ⟨t + 1, 60, ⟨#[63]⟩, rfl, by omega, by omega, hb60, by decide, hI2⟩
  case round =>
    clear hI2 d1 d2 d3
    obtain ⟨m, k, s, rfl, hm0, hmT, hmk, hsk, hS⟩ := hrel
    have cs : wr.cell? ⟨p, q, none⟩ = some (.string s) := by simp [World.cell?, hS.at_, hqs]
    have fs := hS.fr
    have lp := lt_of_block hS.at_
    by_cases hm : 0 < m
    · obtain ⟨j, rfl, hj⟩ := mark_loop_bound hm hmk
      have hss : s.size ≤ 70 := by omega
      have hcz : ∀ z, (wr.alloc (.cells #[.int .u8 z] 5)).cell? ⟨wr.heap.size, 0, none⟩ = some (.int .u8 z) := fun z => cell_of_one (heap_alloc_new wr _)
      have hcv : ∀ z, (convert 50 9 (.slice (some ⟨wr.heap.size, 0, none⟩) 1 1)).run Tryz.prog (wr.alloc (.cells #[.int .u8 z] 5)).drew = .ok (.string (oneByte z)) (wr.alloc (.cells #[.int .u8 z] 5)).drew := fun z => conv_one _ _ z (hcz z)
      have hcu : ∀ z, (convert 50 9 (.slice (some ⟨wr.heap.size, 0, none⟩) 1 1)).run Tryz.prog (wr.drew.alloc (.cells #[.int .u8 z] 5)) = .ok (.string (oneByte z)) (wr.drew.alloc (.cells #[.int .u8 z] 5)) := fun z => conv_one _ _ z (hcz z)
      have hz1 : ∀ z, (oneByte z).size = 1 := oneByte_size
      have hs1 : (9223372036854775807 < s.size + 1) = False := eq_false (by omega)
      have hs2 : (9223372036854775807 ≤ s.size) = False := eq_false (by omega)
      have hs3 : (s.size : Int) ≤ 8388608 := by omega
      have hsj : s.size + j + 1 ≤ 70 := by omega
      have HSK : Hid (s.size + j + 1 ≤ 70) := hsj
      clear hsk hss hsj
      clear hmk hm0
      go_wp2_with fail
      go_region
      all_goals
        go_wp2_with fail
        have hdw : wrap64 (m.tdiv 26) = m / 26 := by rw [Int.tdiv_eq_ediv_of_nonneg (by omega)]; unfold wrap64; omega
        go_roundw
        case rel =>
          refine ⟨m / 26, j, _, by first | rfl | rw [hdw], by omega, by omega, hj, ?_, by first | exact hS.more2 hpo hpb hp _ _ | exact hS.more hpo hpb hp _ _⟩
          have := HSK.out
          rw [ByteArray.size_append, oneByte_size]; omega
        case measure => (first | (simp [intOf]; omega) | (simp [intOf, hdw]; omega))
    · obtain rfl : m = 0 := by omega
      clear hmk cs
      obtain ⟨d1, d2, d3, df⟩ := eye_cell1 hS.eye
      have f1 := df 1
      clear df
      have cx : wr.cell? ⟨p, q, none⟩ = some (.string s) := by simp [World.cell?, hS.at_, hqs]
      have hne : sv.ownBlock ≠ some b := fun e => by have := (hS.ownS.lt b e).1; have := hI.old; omega
      have hnx : sv.ownBlock ≠ some p := fun e => by have := (hS.ownS.lt p e).1; omega
      have lb : b < wr.heap.size := lt_of_block hS.eye
      have hbase := hS.but.size
      have fa : ∀ o : Obj, (wr.alloc o).frozen? ⟨b, 1, none⟩ = false := fun o => (World.frozen?_of_block (Below.heap_alloc wr o b lb)).trans f1
      have h63 : ls.length + 1 ≤ maxLen := by unfold maxLen; omega
      have hby : (ls.length + 1) * 16 ≤ 140737488355328 := by omega
      have HS : Hid (StrI M w0 w b p q cur ty fr v sv l ls (t + 1) rm s wr) := hS
      have hsv2 := hS.ownS
      clear hS fs
      go_wp2_with fail
      go_region_law ((refine step_append_lies _ (by rfl) _ _ _ (by rfl) w0.heap.size 9 i0 _ 1 16 Tryz.underlying22 hi0 hz0 hz1 hz2 rfl (by omega) sv ls.length (ls.map Value.string) (by rfl) ((hsv2.alloc _).drew) ⟨wr.heap.size, 0, none⟩ 1 1 [.string s] (by rfl) (by rfl) (World.news_of_block (cs := #[.string s]) (t := 9) (fr := (0, 0)) (heap_alloc_new wr _)) (by simp [Value.oneCell']) (by omega) h63 hby (by simp; omega) (wr.heap.size + 1) (by simp) ?_; intro gg cap w1 hown1 hgrow hat hlt; have g0 := (hgrow.cell_far ⟨b, 1, none⟩ (by simp; omega) (Ne.symm hne)).trans ((World.cell?_of_block (Below.heap_alloc wr (.cells #[.string s] 9) b lb)).trans d1); have g1 := (hgrow.frozen_far ⟨b, 1, none⟩ (by simp; omega) (Ne.symm hne)).trans (fa (.cells #[.string s] 9))))
      all_goals
        go_end0
        refine ⟨rfl, s, ?_, SeeI.pushS (sv := sv) ((HS.out.but.alloc _).drew.grown hgrow fun k hk hlt' => ?_) hI.old ?_ ((HS.out.own.alloc _).drew.kept hgrow (own_ne hsv2 HS.out.own (by decide))) hown1, ((HS.out.near.alloc _).drew.grown hgrow fun k hk hlt' => .inr (.inr (hsv2.lt k hk).1)).setCell (fun _ => .inl rfl) _⟩
        · rw [heap_setCell_far (by simpa using hpb), hgrow.block p (by simp; omega) (Ne.symm hnx)]
          exact (Below.heap_alloc wr _ p lp).trans HS.out.at_
        · have := (hsv2.lt k hk).1; omega
        · rw [hgrow.block b (by simp; omega) (Ne.symm hne)]
          exact (Below.heap_alloc wr _ b lb).trans HS.out.eye

theorem str_impl : Impl 42 strS := by
  refine ⟨strS_ok, fun K w0 w b s t rm p q hS hK hp hf hn hm => ?_, fun K w0 w b s t rm p q T hS hK hp hf hn hm h0 h1 hT => ?_⟩
  · obtain ⟨⟨z, hz⟩, -⟩ := hf
    have hm' : s.2.length + 1 ≤ 2000000000000 := hm
    have e : strS.sees rm w p q s = (s.1, s.2 ++ [z]) := by simp only [strS, cellStr, hz]
    rw [e]
    exact str_read _ w0 w b s.1 s.2 t rm hS ⟨p, q, none⟩ z hz (by omega) (hK p hp).1
  · obtain ⟨⟨z, hz⟩, hfr⟩ := hf
    have hm' : s.2.length + 1 ≤ 2000000000000 := hm
    have hn' : max s.1.length 200000 + 0 < 1000000 := hn
    obtain ⟨cur, ty, fr, hx, hq⟩ := cell_block hz
    refine (str_mark K w0 w b s.1 s.2 t rm hS p q cur ty fr _ hx hq (hfr rfl) hp (hK p hp).1 (hK p hp).2 ⟨h0, by omega⟩ (by omega)).mono ?_
    rintro e w' ⟨he, y', hx', hS', hb⟩
    refine ⟨he, (s.1, s.2 ++ [y']), t + 1, hS', by omega, by simp only [List.length_append, List.length_cons, List.length_nil]; omega, by simp only [strS]; omega, by simp only [List.length_append, List.length_cons, List.length_nil, strS]; omega,
      Pres.set hx hq .str hx' (fun k hk hkp => hb.block k (Nat.lt_of_lt_of_le (hK k hk).1 hS.but.size) ?_)⟩
    have := hK k hk
    omega
end Go.Proofs.YtoplphimhbnelaaGreatDoor
namespace Go.Proofs.YtoplphimhbnelaaGreatDoor
open Go.RowKit
set_option maxRecDepth 100000

set_option maxHeartbeats 3200000 in
theorem all_all_string (M : Nat → Prop) (w0 w : World) (b : Nat) (l : List Int) (ls : List ByteArray) (mk rm : Bool) (t : Int) (hI : SeeI M w0 b l ls mk t rm w) (a : Option Addr) (n c vis : Nat) (hnc : n ≤ c) (hc : c ≤ maxLen)
    (hvis : vis = if rm then c else n) (ha : a = none → c = 0) (hl : l.length < 1000000)
    (J : Nat → List Int → List ByteArray → World → Prop) (hJI : ∀ k l' s' w', J k l' s' w' → ∃ t', SeeI M w0 b l' s' mk t' rm w')
    (hJ0 : ∀ w', SeeI M w0 b (l ++ [(n : Int)]) ls mk t rm w' → But (fun k => k = b ∨ w0.heap.size ≤ k) w w' → J 0 (l ++ [(n : Int)]) ls w')
    (hstep : ∀ k l' s' w', k < vis → l'.length < 200000 → J k l' s' w' → ∀ ad, a = some ad → Calls Tryz.prog 42 #[.pointer (some ⟨b, 0, none⟩), .pointer (some (ad.add k))] w' fun e w'' => e = .returned (.tuple #[]) ∧ ∃ l'' s'', J (k + 1) l'' s'' w'') :
    Calls Tryz.prog 61 #[.pointer (some ⟨b, 0, none⟩), .slice a n c, .func (.func 42) #[] #[]] w fun e w' => e = .returned (.tuple #[]) ∧ ∃ k l' s', J k l' s' w' ∧ k ≤ vis ∧ (k = vis ∨ 200000 ≤ l'.length) := by
  obtain ⟨v, sv, he, hown, hsv⟩ := hI.eye
  obtain ⟨i0, hi0, hz0, hz1, hz2⟩ := info_parts info3
  obtain ⟨c0, c2, c3, c4, cf⟩ := eye_cells he
  have f0 := cf 0
  clear cf
  have hne : v.ownBlock ≠ some b := fun e => by have := (hown.lt b e).1; have := hI.old; omega
  have lb : b < w.heap.size := lt_of_block he
  have hbase := hI.but.size
  have fa : ∀ o : Obj, (w.alloc o).frozen? ⟨b, 0, none⟩ = false := fun o => (World.frozen?_of_block (Below.heap_alloc w o b lb)).trans f0
  have h63 : l.length + 1 ≤ maxLen := by unfold maxLen; omega
  have hby : (l.length + 1) * 8 ≤ 140737488355328 := by omega
  unfold maxLen at hc
  have HV : Hid (vis = if rm = true then c else n) := hvis
  rcases a with _ | ad
  · obtain rfl : c = 0 := ha rfl
    obtain rfl : n = 0 := by omega
    cases rm
    · go_enter Tryz.func61, Tryz.ntmps61
      go_wp2_with (at_builtin; refine wpList_append_lies _ rfl (.tmp 11) (.tmp 14) 68 rfl w0.heap.size 3 i0 _ 1 8 Tryz.underlying68 hi0 hz0 hz1 hz2 rfl (by omega) v l.length (l.map (Value.int .i64)) rfl (hown.alloc _) ⟨w.heap.size, 0, none⟩ 1 1 [.int .i64 0] rfl rfl (World.news_of_block (cs := #[.int .i64 0]) (t := 3) (fr := (0, 0)) (heap_alloc_new w _)) (by simp [Value.oneCell']) (by omega) h63 hby (by simp; omega) (w.heap.size + 1) (by simp) ?_; intro gg cap w1 hown1 hgrow hat hlt; have g0 := (hgrow.cell_far ⟨b, 0, none⟩ (by simp; omega) (Ne.symm hne)).trans ((World.cell?_of_block (Below.heap_alloc w (.cells #[.int .i64 0] 3) b lb)).trans c0); have g1 := (hgrow.frozen_far ⟨b, 0, none⟩ (by simp; omega) (Ne.symm hne)).trans (fa (.cells #[.int .i64 0] 3)); have g4 := (hgrow.cell_far ⟨b, 4, none⟩ (by simp; omega) (Ne.symm hne)).trans ((World.cell?_of_block (Below.heap_alloc w (.cells #[.int .i64 0] 3) b lb)).trans c4))
      have hw1 : SeeI M w0 b (l ++ [((0 : Nat) : Int)]) ls mk t false (w1.setCell ⟨b, 0, none⟩ (.slice (some ⟨gg, 0, none⟩) (l.length + 1) cap)) ∧ But (fun k => k = b ∨ w0.heap.size ≤ k) w (w1.setCell ⟨b, 0, none⟩ (.slice (some ⟨gg, 0, none⟩) (l.length + 1) cap)) := by
        refine ⟨SeeI.push (v := v) ((hI.but.alloc _).grown hgrow fun k hk hlt' => ?_) hI.old ?_ hown1 ((hsv.alloc _).kept hgrow (own_ne hown hsv (by decide))), (((But.refl _ w).alloc _).grown hgrow fun k hk hlt' => ?_).setCell (fun _ => .inl rfl) _⟩
        · have := (hown.lt k hk).1; omega
        · rw [hgrow.block b (by simp; omega) (Ne.symm hne)]
          exact (Below.heap_alloc w _ b lb).trans he
        · exact .inr (hown.lt k hk).1
      go_loopw [6] (fun i wr => ∃ (k : Nat) (l' : List Int) (s' : List ByteArray), k ≤ 0 ∧ i = .int .i64 k ∧ J k l' s' wr) (fun i _ => 0 - (intOf i).toNat)
      case atStart => exact ⟨0, _, ls, Nat.zero_le _, rfl, hJ0 _ hw1.1 hw1.2⟩
      case round =>
        clear hw1 hown1 hgrow hat g0 g1 g4 c0 c2 c3 c4 f0 fa he hown hsv hI hJ0
        obtain ⟨k, l', s', hk, rfl, hJ⟩ := hrel
        obtain ⟨t', hI'⟩ := hJI _ _ _ _ hJ
        obtain ⟨v', sv', he', hown', -⟩ := hI'.eye
        obtain ⟨o', cc, rfl⟩ := ownsRow_form hown'
        obtain ⟨e0, -, -, -, -⟩ := eye_cells he'
        clear he' hown' hI'
        have hk0 : (0 : Int) ≤ (k : Int) := Int.natCast_nonneg _
        obtain rfl : k = 0 := by omega
        clear hstep hJI hvis ha hl hi0 hz0 hz1 hz2 hne lb hbase h63 hby
        go_wp2_with fail
        go_end0
        exact ⟨rfl, 0, l', s', hJ, by rw [HV.out]; simp, .inl (by rw [HV.out]; simp)⟩
    · go_enter Tryz.func61, Tryz.ntmps61
      go_wp2_with (at_builtin; refine wpList_append_lies _ rfl (.tmp 11) (.tmp 14) 68 rfl w0.heap.size 3 i0 _ 1 8 Tryz.underlying68 hi0 hz0 hz1 hz2 rfl (by omega) v l.length (l.map (Value.int .i64)) rfl (hown.alloc _) ⟨w.heap.size, 0, none⟩ 1 1 [.int .i64 0] rfl rfl (World.news_of_block (cs := #[.int .i64 0]) (t := 3) (fr := (0, 0)) (heap_alloc_new w _)) (by simp [Value.oneCell']) (by omega) h63 hby (by simp; omega) (w.heap.size + 1) (by simp) ?_; intro gg cap w1 hown1 hgrow hat hlt; have g0 := (hgrow.cell_far ⟨b, 0, none⟩ (by simp; omega) (Ne.symm hne)).trans ((World.cell?_of_block (Below.heap_alloc w (.cells #[.int .i64 0] 3) b lb)).trans c0); have g1 := (hgrow.frozen_far ⟨b, 0, none⟩ (by simp; omega) (Ne.symm hne)).trans (fa (.cells #[.int .i64 0] 3)); have g4 := (hgrow.cell_far ⟨b, 4, none⟩ (by simp; omega) (Ne.symm hne)).trans ((World.cell?_of_block (Below.heap_alloc w (.cells #[.int .i64 0] 3) b lb)).trans c4))
      have hw1 : SeeI M w0 b (l ++ [((0 : Nat) : Int)]) ls mk t true (w1.setCell ⟨b, 0, none⟩ (.slice (some ⟨gg, 0, none⟩) (l.length + 1) cap)) ∧ But (fun k => k = b ∨ w0.heap.size ≤ k) w (w1.setCell ⟨b, 0, none⟩ (.slice (some ⟨gg, 0, none⟩) (l.length + 1) cap)) := by
        refine ⟨SeeI.push (v := v) ((hI.but.alloc _).grown hgrow fun k hk hlt' => ?_) hI.old ?_ hown1 ((hsv.alloc _).kept hgrow (own_ne hown hsv (by decide))), (((But.refl _ w).alloc _).grown hgrow fun k hk hlt' => ?_).setCell (fun _ => .inl rfl) _⟩
        · have := (hown.lt k hk).1; omega
        · rw [hgrow.block b (by simp; omega) (Ne.symm hne)]
          exact (Below.heap_alloc w _ b lb).trans he
        · exact .inr (hown.lt k hk).1
      go_loopw [6] (fun i wr => ∃ (k : Nat) (l' : List Int) (s' : List ByteArray), k ≤ 0 ∧ i = .int .i64 k ∧ J k l' s' wr) (fun i _ => 0 - (intOf i).toNat)
      case atStart => exact ⟨0, _, ls, Nat.zero_le _, rfl, hJ0 _ hw1.1 hw1.2⟩
      case round =>
        clear hw1 hown1 hgrow hat g0 g1 g4 c0 c2 c3 c4 f0 fa he hown hsv hI hJ0
        obtain ⟨k, l', s', hk, rfl, hJ⟩ := hrel
        obtain ⟨t', hI'⟩ := hJI _ _ _ _ hJ
        obtain ⟨v', sv', he', hown', -⟩ := hI'.eye
        obtain ⟨o', cc, rfl⟩ := ownsRow_form hown'
        obtain ⟨e0, -, -, -, -⟩ := eye_cells he'
        clear he' hown' hI'
        have hk0 : (0 : Int) ≤ (k : Int) := Int.natCast_nonneg _
        obtain rfl : k = 0 := by omega
        clear hstep hJI hvis ha hl hi0 hz0 hz1 hz2 hne lb hbase h63 hby
        go_wp2_with fail
        go_end0
        exact ⟨rfl, 0, l', s', hJ, by rw [HV.out]; simp, .inl (by rw [HV.out]; simp)⟩
  · cases rm
    · go_enter Tryz.func61, Tryz.ntmps61
      go_wp2_with (at_builtin; refine wpList_append_lies _ rfl (.tmp 11) (.tmp 14) 68 rfl w0.heap.size 3 i0 _ 1 8 Tryz.underlying68 hi0 hz0 hz1 hz2 rfl (by omega) v l.length (l.map (Value.int .i64)) rfl (hown.alloc _) ⟨w.heap.size, 0, none⟩ 1 1 [.int .i64 n] rfl rfl (World.news_of_block (cs := #[.int .i64 n]) (t := 3) (fr := (0, 0)) (heap_alloc_new w _)) (by simp [Value.oneCell']) (by omega) h63 hby (by simp; omega) (w.heap.size + 1) (by simp) ?_; intro gg cap w1 hown1 hgrow hat hlt; have g0 := (hgrow.cell_far ⟨b, 0, none⟩ (by simp; omega) (Ne.symm hne)).trans ((World.cell?_of_block (Below.heap_alloc w (.cells #[.int .i64 n] 3) b lb)).trans c0); have g1 := (hgrow.frozen_far ⟨b, 0, none⟩ (by simp; omega) (Ne.symm hne)).trans (fa (.cells #[.int .i64 n] 3)); have g4 := (hgrow.cell_far ⟨b, 4, none⟩ (by simp; omega) (Ne.symm hne)).trans ((World.cell?_of_block (Below.heap_alloc w (.cells #[.int .i64 n] 3) b lb)).trans c4))
      have hw1 : SeeI M w0 b (l ++ [(n : Int)]) ls mk t false (w1.setCell ⟨b, 0, none⟩ (.slice (some ⟨gg, 0, none⟩) (l.length + 1) cap)) ∧ But (fun k => k = b ∨ w0.heap.size ≤ k) w (w1.setCell ⟨b, 0, none⟩ (.slice (some ⟨gg, 0, none⟩) (l.length + 1) cap)) := by
        refine ⟨SeeI.push (v := v) ((hI.but.alloc _).grown hgrow fun k hk hlt' => ?_) hI.old ?_ hown1 ((hsv.alloc _).kept hgrow (own_ne hown hsv (by decide))), (((But.refl _ w).alloc _).grown hgrow fun k hk hlt' => ?_).setCell (fun _ => .inl rfl) _⟩
        · have := (hown.lt k hk).1; omega
        · rw [hgrow.block b (by simp; omega) (Ne.symm hne)]
          exact (Below.heap_alloc w _ b lb).trans he
        · exact .inr (hown.lt k hk).1
      go_loopw [6] (fun i wr => ∃ (k : Nat) (l' : List Int) (s' : List ByteArray), k ≤ n ∧ i = .int .i64 k ∧ J k l' s' wr) (fun i _ => n - (intOf i).toNat)
      case atStart => exact ⟨0, _, ls, Nat.zero_le _, rfl, hJ0 _ hw1.1 hw1.2⟩
      case round =>
        clear hw1 hown1 hgrow hat g0 g1 g4 c0 c2 c3 c4 f0 fa he hown hsv hI hJ0
        obtain ⟨k, l', s', hk, rfl, hJ⟩ := hrel
        obtain ⟨t', hI'⟩ := hJI _ _ _ _ hJ
        obtain ⟨v', sv', he', hown', -⟩ := hI'.eye
        obtain ⟨o', cc, rfl⟩ := ownsRow_form hown'
        obtain ⟨e0, -, -, -, -⟩ := eye_cells he'
        clear he' hown' hI'
        have hk0 : (0 : Int) ≤ (k : Int) := Int.natCast_nonneg _
        rcases Nat.lt_or_ge k n with hkn | hkn
        · rcases Nat.lt_or_ge l'.length 200000 with hl' | hl'
          · have hs := hstep k l' s' wr (by rw [HV.out]; simp; omega) hl' hJ ad rfl
            have hl2 : (l'.length : Int) < 200000 := by omega
            clear hl' hstep hJI hJ hvis ha hl hi0 hz0 hz1 hz2 hne lb hbase h63 hby
            go_wp2_with (go_at_call 42; refine hs.mono ?_; rintro e w2 ⟨rfl, l'', s'', hJ''⟩)
            go_roundw
            case rel => exact ⟨k + 1, l'', s'', by omega, by go_num, hJ''⟩
            case measure => simp [intOf]; omega
          · clear hstep hJI hvis ha hl hi0 hz0 hz1 hz2 hne lb hbase h63 hby
            have HL : Hid (200000 ≤ l'.length) := hl'
            have hl2 : ((l'.length : Int) < 200000) = False := eq_false (by omega)
            clear hl'
            go_wp2_with fail
            go_end0
            exact ⟨rfl, k, l', s', hJ, by rw [HV.out]; simp; omega, .inr HL.out⟩
        · clear hstep hJI hvis ha hl hi0 hz0 hz1 hz2 hne lb hbase h63 hby
          obtain rfl : k = n := by omega
          go_wp2_with fail
          go_end0
          exact ⟨rfl, k, l', s', hJ, by rw [HV.out]; simp, .inl (by rw [HV.out]; simp)⟩
    · go_enter Tryz.func61, Tryz.ntmps61
      go_wp2_with (at_builtin; refine wpList_append_lies _ rfl (.tmp 11) (.tmp 14) 68 rfl w0.heap.size 3 i0 _ 1 8 Tryz.underlying68 hi0 hz0 hz1 hz2 rfl (by omega) v l.length (l.map (Value.int .i64)) rfl (hown.alloc _) ⟨w.heap.size, 0, none⟩ 1 1 [.int .i64 n] rfl rfl (World.news_of_block (cs := #[.int .i64 n]) (t := 3) (fr := (0, 0)) (heap_alloc_new w _)) (by simp [Value.oneCell']) (by omega) h63 hby (by simp; omega) (w.heap.size + 1) (by simp) ?_; intro gg cap w1 hown1 hgrow hat hlt; have g0 := (hgrow.cell_far ⟨b, 0, none⟩ (by simp; omega) (Ne.symm hne)).trans ((World.cell?_of_block (Below.heap_alloc w (.cells #[.int .i64 n] 3) b lb)).trans c0); have g1 := (hgrow.frozen_far ⟨b, 0, none⟩ (by simp; omega) (Ne.symm hne)).trans (fa (.cells #[.int .i64 n] 3)); have g4 := (hgrow.cell_far ⟨b, 4, none⟩ (by simp; omega) (Ne.symm hne)).trans ((World.cell?_of_block (Below.heap_alloc w (.cells #[.int .i64 n] 3) b lb)).trans c4))
      have hw1 : SeeI M w0 b (l ++ [(n : Int)]) ls mk t true (w1.setCell ⟨b, 0, none⟩ (.slice (some ⟨gg, 0, none⟩) (l.length + 1) cap)) ∧ But (fun k => k = b ∨ w0.heap.size ≤ k) w (w1.setCell ⟨b, 0, none⟩ (.slice (some ⟨gg, 0, none⟩) (l.length + 1) cap)) := by
        refine ⟨SeeI.push (v := v) ((hI.but.alloc _).grown hgrow fun k hk hlt' => ?_) hI.old ?_ hown1 ((hsv.alloc _).kept hgrow (own_ne hown hsv (by decide))), (((But.refl _ w).alloc _).grown hgrow fun k hk hlt' => ?_).setCell (fun _ => .inl rfl) _⟩
        · have := (hown.lt k hk).1; omega
        · rw [hgrow.block b (by simp; omega) (Ne.symm hne)]
          exact (Below.heap_alloc w _ b lb).trans he
        · exact .inr (hown.lt k hk).1
      go_loopw [6] (fun i wr => ∃ (k : Nat) (l' : List Int) (s' : List ByteArray), k ≤ c ∧ i = .int .i64 k ∧ J k l' s' wr) (fun i _ => c - (intOf i).toNat)
      case atStart => exact ⟨0, _, ls, Nat.zero_le _, rfl, hJ0 _ hw1.1 hw1.2⟩
      case round =>
        clear hw1 hown1 hgrow hat g0 g1 g4 c0 c2 c3 c4 f0 fa he hown hsv hI hJ0
        obtain ⟨k, l', s', hk, rfl, hJ⟩ := hrel
        obtain ⟨t', hI'⟩ := hJI _ _ _ _ hJ
        obtain ⟨v', sv', he', hown', -⟩ := hI'.eye
        obtain ⟨o', cc, rfl⟩ := ownsRow_form hown'
        obtain ⟨e0, -, -, -, -⟩ := eye_cells he'
        clear he' hown' hI'
        have hk0 : (0 : Int) ≤ (k : Int) := Int.natCast_nonneg _
        rcases Nat.lt_or_ge k c with hkn | hkn
        · rcases Nat.lt_or_ge l'.length 200000 with hl' | hl'
          · have hs := hstep k l' s' wr (by rw [HV.out]; simp; omega) hl' hJ ad rfl
            have hl2 : (l'.length : Int) < 200000 := by omega
            clear hl' hstep hJI hJ hvis ha hl hi0 hz0 hz1 hz2 hne lb hbase h63 hby
            go_wp2_with (go_at_call 42; refine hs.mono ?_; rintro e w2 ⟨rfl, l'', s'', hJ''⟩)
            go_roundw
            case rel => exact ⟨k + 1, l'', s'', by omega, by go_num, hJ''⟩
            case measure => simp [intOf]; omega
          · clear hstep hJI hvis ha hl hi0 hz0 hz1 hz2 hne lb hbase h63 hby
            have HL : Hid (200000 ≤ l'.length) := hl'
            have hl2 : ((l'.length : Int) < 200000) = False := eq_false (by omega)
            clear hl'
            go_wp2_with fail
            go_end0
            exact ⟨rfl, k, l', s', hJ, by rw [HV.out]; simp; omega, .inr HL.out⟩
        · clear hstep hJI hvis ha hl hi0 hz0 hz1 hz2 hne lb hbase h63 hby
          obtain rfl : k = c := by omega
          go_wp2_with fail
          go_end0
          exact ⟨rfl, k, l', s', hJ, by rw [HV.out]; simp, .inl (by rw [HV.out]; simp)⟩
theorem any_all_string : AllAny 61 42 1 := by
  intro M w0 w b l ls mk rm t hI a n c vis hnc hc hvis ha hl J h1 h2 h3
  exact all_all_string M w0 w b l ls mk rm t hI a n c vis hnc hc hvis ha hl J h1 h2 (fun k l' s' w' hk hl' hJ ad had => by
    have := h3 k l' s' w' hk hl' hJ ad had
    rwa [Nat.mul_one] at this)
end Go.Proofs.YtoplphimhbnelaaGreatDoor
namespace Go.Proofs.YtoplphimhbnelaaGreatDoor
open Go.RowKit
set_option maxRecDepth 100000
theorem hands_strs : Hands 40 61 42 := by
  intro w b p q a n c R hla h
  go_enter Tryz.func40, Tryz.ntmps40
  go_wp2_with (go_at_call 61; refine h.mono ?_; rintro e w2 ⟨rfl, hr⟩)
  go_end0
  exact ⟨rfl, hr⟩
def S_strs : Shape := allS 1 strS
theorem impl_strs : Impl 40 S_strs := impl_all hands_strs any_all_string str_impl
end Go.Proofs.YtoplphimhbnelaaGreatDoor
namespace Go.Proofs.YtoplphimhbnelaaGreatDoor
open Go.RowKit
set_option maxRecDepth 100000
theorem runs_seeSharedBloom : Runs 23 [(0, 42), (1, 40), (2, 43), (3, 27), (4, 27), (5, 27)] := by
  intro w b p q Q h
  simp only [Steps, Nat.add_zero] at h
  have uX := Tryz.underlying52
  go_enter Tryz.func23, Tryz.ntmps23
  go_wp2_with fail
  refine h.mono ?_
  rintro e w1 ⟨rfl, h⟩
  go_wp2_with fail
  refine h.mono ?_
  rintro e w2 ⟨rfl, h⟩
  go_wp2_with fail
  refine h.mono ?_
  rintro e w3 ⟨rfl, h⟩
  go_wp2_with fail
  refine h.mono ?_
  rintro e w4 ⟨rfl, h⟩
  go_wp2_with fail
  refine h.mono ?_
  rintro e w5 ⟨rfl, h⟩
  go_wp2_with fail
  refine h.mono ?_
  rintro e w6 ⟨rfl, h⟩
  go_wp2_with fail
  go_end0
  exact ⟨rfl, h⟩
def L_seeSharedBloom : List (Nat × FuncId × Shape) := [(0, 42, strS), (1, 40, S_strs), (2, 43, (numS .i64)), (3, 27, S_nums_byte), (4, 27, S_nums_byte), (5, 27, S_nums_byte)]
def S_seeSharedBloom : Shape := seqS (shp L_seeSharedBloom)
theorem impl_seeSharedBloom : Impl 23 S_seeSharedBloom := impl_seq L_seeSharedBloom runs_seeSharedBloom (by
  simp only [L_seeSharedBloom, List.mem_cons, List.not_mem_nil, or_false]
  rintro x (rfl | rfl | rfl | rfl | rfl | rfl)
  · exact str_impl
  · exact impl_strs
  · exact num_int_impl
  · exact impl_nums_byte
  · exact impl_nums_byte
  · exact impl_nums_byte)
end Go.Proofs.YtoplphimhbnelaaGreatDoor
namespace Go.Proofs.YtoplphimhbnelaaGreatDoor
open Go.RowKit
set_option maxRecDepth 100000
theorem info_copied_byte : (Tryz.prog.info? 5).map (fun i => (i.zero, i.size, i.bytes)) = some (some (.int .u8 0), 1, 1) := by kernel_rfl
theorem copied_byte : Copies 56 5 [.int .u8 0] := by
  intro w a n c vs hl hn hnc ha h h1
  obtain ⟨i0, hi0, hz0, hz1, hz2⟩ := info_parts info_copied_byte
  have hmk := run_make (P := Tryz.prog) w 50 5 i0 (.int .u8 0) Tryz.underlying50 hi0 hz0 .i64 .i64 0 ((n : Int) + 2) (by omega) (by omega) (by rw [hz2]; omega) (by omega)
  have e1 : ((n : Int) + 2).toNat = n + 2 := by omega
  rw [e1, hz1] at hmk
  simp only [Int.toNat_zero] at hmk
  obtain ⟨w', hr, k1, k2⟩ := copied_run (z := (.int .u8 0)) Tryz.underlying50 hi0 hz1 (by decide) w a n c vs hl hn hnc ha h h1 50
  have e2 : ((.int .u8 0) : Value).cells.size = 1 := rfl
  rw [e2] at hr
  obtain ⟨M, hM⟩ : ∃ M, madeCells ((.int .u8 0) : Value).cells ((n + 2) * 1) = M := ⟨_, rfl⟩
  rw [hM] at hmk hr
  clear e1 e2 hM
  go_enter Tryz.func56, Tryz.ntmps56
  go_wp2_with (at_builtin; refine wpList_append_run _ rfl (.tmp 6) (.tmp 7) 50 rfl _ _ _ w' rfl rfl hr ?_)
  go_ret
  exact ⟨rfl, k1, k2⟩
end Go.Proofs.YtoplphimhbnelaaGreatDoor
namespace Go.Proofs.YtoplphimhbnelaaGreatDoor
open Go.RowKit
set_option maxRecDepth 100000
theorem info_copied_string : (Tryz.prog.info? 9).map (fun i => (i.zero, i.size, i.bytes)) = some (some (.string ByteArray.empty), 1, 16) := by kernel_rfl
theorem copied_string : Copies 39 9 [.string ByteArray.empty] := by
  intro w a n c vs hl hn hnc ha h h1
  obtain ⟨i0, hi0, hz0, hz1, hz2⟩ := info_parts info_copied_string
  have hmk := run_make (P := Tryz.prog) w 22 9 i0 (.string ByteArray.empty) Tryz.underlying22 hi0 hz0 .i64 .i64 0 ((n : Int) + 2) (by omega) (by omega) (by rw [hz2]; omega) (by omega)
  have e1 : ((n : Int) + 2).toNat = n + 2 := by omega
  rw [e1, hz1] at hmk
  simp only [Int.toNat_zero] at hmk
  obtain ⟨w', hr, k1, k2⟩ := copied_run (z := (.string ByteArray.empty)) Tryz.underlying22 hi0 hz1 (by decide) w a n c vs hl hn hnc ha h h1 22
  have e2 : ((.string ByteArray.empty) : Value).cells.size = 1 := rfl
  rw [e2] at hr
  obtain ⟨M, hM⟩ : ∃ M, madeCells ((.string ByteArray.empty) : Value).cells ((n + 2) * 1) = M := ⟨_, rfl⟩
  rw [hM] at hmk hr
  clear e1 e2 hM
  go_enter Tryz.func39, Tryz.ntmps39
  go_wp2_with (at_builtin; refine wpList_append_run _ rfl (.tmp 6) (.tmp 7) 22 rfl _ _ _ w' rfl rfl hr ?_)
  go_ret
  exact ⟨rfl, k1, k2⟩
end Go.Proofs.YtoplphimhbnelaaGreatDoor
