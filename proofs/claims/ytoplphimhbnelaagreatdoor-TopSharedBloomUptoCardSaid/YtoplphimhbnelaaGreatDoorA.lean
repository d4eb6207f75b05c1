/-
  A reckoner over a told heap, for the kernel: values, objects, the operations of the machine, calls and regions; nothing of this program.
-/
import GoSem.Machine.Exec
set_option linter.all false
set_option linter.unusedVariables false
set_option linter.unusedSimpArgs false
/- The abstract executor: a function on closed data that runs the translated code of functions over an abstract heap. -/
namespace Go.Ax
open Go
noncomputable section

inductive BL where
  | nil
  | cons (b : Nat) (t : BL)

/-- Abstract values. `top`: nothing is known. Numbers of objects stand for blocks. `lnil`, `lcons`: lists of values. -/
inductive AV where
  | top
  | bool (b : Bool)
  | int (k : IntKind) (n : Int)
  | str (s : BL)
  | nilp
  | ptr (id off : Nat)
  | nils
  | sl (id off len cap : Nat) (ex : Bool) (sz : Nat)
  | nilm
  | map (id : Nat)
  | fn (f : Fn) (x c : AV)
  | nilf
  | ifc (t : Nat) (v : AV)
  | nili
  | agg (cs : AV)
  | tup (vs : AV)
  | opq (n : Nat)
  | lnil
  | lcons (h t : AV)

inductive D8 where
  | d0 | d1 | d2 | d3 | d4 | d5 | d6 | d7
structure P3 where mk ::
  (a b c : D8)
structure P5 where mk ::
  (a b c d e f : D8)
def digit (n : Nat) : D8 := Nat.rec .d0 (fun n _ => Nat.rec .d1 (fun n _ => Nat.rec .d2 (fun n _ => Nat.rec .d3 (fun n _ => Nat.rec .d4 (fun n _ => Nat.rec .d5 (fun n _ => Nat.rec .d6 (fun _ _ => .d7) n) n) n) n) n) n) n
def fpath (n : Nat) : P3 := ⟨digit (Nat.mod (Nat.div n 64) 8), digit (Nat.mod (Nat.div n 8) 8), digit (Nat.mod n 8)⟩
def hpath (n : Nat) : P5 := ⟨digit (Nat.div n 32768), digit (Nat.mod (Nat.div n 4096) 8), digit (Nat.mod (Nat.div n 512) 8), digit (Nat.mod (Nat.div n 64) 8), digit (Nat.mod (Nat.div n 8) 8), digit (Nat.mod n 8)⟩
structure NA where mk ::
  (a b c d e f g h : AV)
def NA.sel (i : D8) : NA → AV := D8.rec (motive := fun _ => NA → AV) NA.a NA.b NA.c NA.d NA.e NA.f NA.g NA.h i
def NA.s0 (x : AV) (t : NA) : NA := NA.rec (motive := fun _ => NA) (fun _ b c d e f g h => NA.mk x b c d e f g h) t
def NA.s1 (x : AV) (t : NA) : NA := NA.rec (motive := fun _ => NA) (fun a _ c d e f g h => NA.mk a x c d e f g h) t
def NA.s2 (x : AV) (t : NA) : NA := NA.rec (motive := fun _ => NA) (fun a b _ d e f g h => NA.mk a b x d e f g h) t
def NA.s3 (x : AV) (t : NA) : NA := NA.rec (motive := fun _ => NA) (fun a b c _ e f g h => NA.mk a b c x e f g h) t
def NA.s4 (x : AV) (t : NA) : NA := NA.rec (motive := fun _ => NA) (fun a b c d _ f g h => NA.mk a b c d x f g h) t
def NA.s5 (x : AV) (t : NA) : NA := NA.rec (motive := fun _ => NA) (fun a b c d e _ g h => NA.mk a b c d e x g h) t
def NA.s6 (x : AV) (t : NA) : NA := NA.rec (motive := fun _ => NA) (fun a b c d e f _ h => NA.mk a b c d e f x h) t
def NA.s7 (x : AV) (t : NA) : NA := NA.rec (motive := fun _ => NA) (fun a b c d e f g _ => NA.mk a b c d e f g x) t
def NA.set (i : D8) : AV → NA → NA := D8.rec (motive := fun _ => AV → NA → NA) NA.s0 NA.s1 NA.s2 NA.s3 NA.s4 NA.s5 NA.s6 NA.s7 i
structure NB where mk ::
  (a b c d e f g h : NA)
def NB.sel (i : D8) : NB → NA := D8.rec (motive := fun _ => NB → NA) NB.a NB.b NB.c NB.d NB.e NB.f NB.g NB.h i
def NB.s0 (x : NA) (t : NB) : NB := NB.rec (motive := fun _ => NB) (fun _ b c d e f g h => NB.mk x b c d e f g h) t
def NB.s1 (x : NA) (t : NB) : NB := NB.rec (motive := fun _ => NB) (fun a _ c d e f g h => NB.mk a x c d e f g h) t
def NB.s2 (x : NA) (t : NB) : NB := NB.rec (motive := fun _ => NB) (fun a b _ d e f g h => NB.mk a b x d e f g h) t
def NB.s3 (x : NA) (t : NB) : NB := NB.rec (motive := fun _ => NB) (fun a b c _ e f g h => NB.mk a b c x e f g h) t
def NB.s4 (x : NA) (t : NB) : NB := NB.rec (motive := fun _ => NB) (fun a b c d _ f g h => NB.mk a b c d x f g h) t
def NB.s5 (x : NA) (t : NB) : NB := NB.rec (motive := fun _ => NB) (fun a b c d e _ g h => NB.mk a b c d e x g h) t
def NB.s6 (x : NA) (t : NB) : NB := NB.rec (motive := fun _ => NB) (fun a b c d e f _ h => NB.mk a b c d e f x h) t
def NB.s7 (x : NA) (t : NB) : NB := NB.rec (motive := fun _ => NB) (fun a b c d e f g _ => NB.mk a b c d e f g x) t
def NB.set (i : D8) : NA → NB → NB := D8.rec (motive := fun _ => NA → NB → NB) NB.s0 NB.s1 NB.s2 NB.s3 NB.s4 NB.s5 NB.s6 NB.s7 i
structure NC where mk ::
  (a b c d e f g h : NB)
def NC.sel (i : D8) : NC → NB := D8.rec (motive := fun _ => NC → NB) NC.a NC.b NC.c NC.d NC.e NC.f NC.g NC.h i
def NC.s0 (x : NB) (t : NC) : NC := NC.rec (motive := fun _ => NC) (fun _ b c d e f g h => NC.mk x b c d e f g h) t
def NC.s1 (x : NB) (t : NC) : NC := NC.rec (motive := fun _ => NC) (fun a _ c d e f g h => NC.mk a x c d e f g h) t
def NC.s2 (x : NB) (t : NC) : NC := NC.rec (motive := fun _ => NC) (fun a b _ d e f g h => NC.mk a b x d e f g h) t
def NC.s3 (x : NB) (t : NC) : NC := NC.rec (motive := fun _ => NC) (fun a b c _ e f g h => NC.mk a b c x e f g h) t
def NC.s4 (x : NB) (t : NC) : NC := NC.rec (motive := fun _ => NC) (fun a b c d _ f g h => NC.mk a b c d x f g h) t
def NC.s5 (x : NB) (t : NC) : NC := NC.rec (motive := fun _ => NC) (fun a b c d e _ g h => NC.mk a b c d e x g h) t
def NC.s6 (x : NB) (t : NC) : NC := NC.rec (motive := fun _ => NC) (fun a b c d e f _ h => NC.mk a b c d e f x h) t
def NC.s7 (x : NB) (t : NC) : NC := NC.rec (motive := fun _ => NC) (fun a b c d e f g _ => NC.mk a b c d e f g x) t
def NC.set (i : D8) : NB → NC → NC := D8.rec (motive := fun _ => NB → NC → NC) NC.s0 NC.s1 NC.s2 NC.s3 NC.s4 NC.s5 NC.s6 NC.s7 i
inductive ML where
  | nil
  | cons (k v : AV) (born : Nat) (t : ML)
inductive NL where
  | nil
  | cons (n : Nat) (t : NL)
inductive OC where
  | none
  | some (c : Code)
/-- Abstract objects. `row`: cells that are known, of which none below `fz` may be written, and none at all where `ro`; `b0`: they begin where their block begins. -/
inductive Obj where
  | dead
  | row (elem : Nat) (cs : AV) (n fz : Nat) (ro b0 : Bool)
  | map (es : ML) (clock : Nat)
  | siter (s : BL) (pos : Nat)
  | miter (m since : Nat) (seen : NL) (last : Nat)
  | mnil
  | loop (ready : Bool) (pend : OC) (f : NC) (nt : Nat) (params : NL) (assign body : Code)
  | dfr
structure HA where mk ::
  (a b c d e f g h : Obj)
def HA.sel (i : D8) : HA → Obj := D8.rec (motive := fun _ => HA → Obj) HA.a HA.b HA.c HA.d HA.e HA.f HA.g HA.h i
def HA.s0 (x : Obj) (t : HA) : HA := HA.rec (motive := fun _ => HA) (fun _ b c d e f g h => HA.mk x b c d e f g h) t
def HA.s1 (x : Obj) (t : HA) : HA := HA.rec (motive := fun _ => HA) (fun a _ c d e f g h => HA.mk a x c d e f g h) t
def HA.s2 (x : Obj) (t : HA) : HA := HA.rec (motive := fun _ => HA) (fun a b _ d e f g h => HA.mk a b x d e f g h) t
def HA.s3 (x : Obj) (t : HA) : HA := HA.rec (motive := fun _ => HA) (fun a b c _ e f g h => HA.mk a b c x e f g h) t
def HA.s4 (x : Obj) (t : HA) : HA := HA.rec (motive := fun _ => HA) (fun a b c d _ f g h => HA.mk a b c d x f g h) t
def HA.s5 (x : Obj) (t : HA) : HA := HA.rec (motive := fun _ => HA) (fun a b c d e _ g h => HA.mk a b c d e x g h) t
def HA.s6 (x : Obj) (t : HA) : HA := HA.rec (motive := fun _ => HA) (fun a b c d e f _ h => HA.mk a b c d e f x h) t
def HA.s7 (x : Obj) (t : HA) : HA := HA.rec (motive := fun _ => HA) (fun a b c d e f g _ => HA.mk a b c d e f g x) t
def HA.set (i : D8) : Obj → HA → HA := D8.rec (motive := fun _ => Obj → HA → HA) HA.s0 HA.s1 HA.s2 HA.s3 HA.s4 HA.s5 HA.s6 HA.s7 i
structure HB where mk ::
  (a b c d e f g h : HA)
def HB.sel (i : D8) : HB → HA := D8.rec (motive := fun _ => HB → HA) HB.a HB.b HB.c HB.d HB.e HB.f HB.g HB.h i
def HB.s0 (x : HA) (t : HB) : HB := HB.rec (motive := fun _ => HB) (fun _ b c d e f g h => HB.mk x b c d e f g h) t
def HB.s1 (x : HA) (t : HB) : HB := HB.rec (motive := fun _ => HB) (fun a _ c d e f g h => HB.mk a x c d e f g h) t
def HB.s2 (x : HA) (t : HB) : HB := HB.rec (motive := fun _ => HB) (fun a b _ d e f g h => HB.mk a b x d e f g h) t
def HB.s3 (x : HA) (t : HB) : HB := HB.rec (motive := fun _ => HB) (fun a b c _ e f g h => HB.mk a b c x e f g h) t
def HB.s4 (x : HA) (t : HB) : HB := HB.rec (motive := fun _ => HB) (fun a b c d _ f g h => HB.mk a b c d x f g h) t
def HB.s5 (x : HA) (t : HB) : HB := HB.rec (motive := fun _ => HB) (fun a b c d e _ g h => HB.mk a b c d e x g h) t
def HB.s6 (x : HA) (t : HB) : HB := HB.rec (motive := fun _ => HB) (fun a b c d e f _ h => HB.mk a b c d e f x h) t
def HB.s7 (x : HA) (t : HB) : HB := HB.rec (motive := fun _ => HB) (fun a b c d e f g _ => HB.mk a b c d e f g x) t
def HB.set (i : D8) : HA → HB → HB := D8.rec (motive := fun _ => HA → HB → HB) HB.s0 HB.s1 HB.s2 HB.s3 HB.s4 HB.s5 HB.s6 HB.s7 i
structure HC where mk ::
  (a b c d e f g h : HB)
def HC.sel (i : D8) : HC → HB := D8.rec (motive := fun _ => HC → HB) HC.a HC.b HC.c HC.d HC.e HC.f HC.g HC.h i
def HC.s0 (x : HB) (t : HC) : HC := HC.rec (motive := fun _ => HC) (fun _ b c d e f g h => HC.mk x b c d e f g h) t
def HC.s1 (x : HB) (t : HC) : HC := HC.rec (motive := fun _ => HC) (fun a _ c d e f g h => HC.mk a x c d e f g h) t
def HC.s2 (x : HB) (t : HC) : HC := HC.rec (motive := fun _ => HC) (fun a b _ d e f g h => HC.mk a b x d e f g h) t
def HC.s3 (x : HB) (t : HC) : HC := HC.rec (motive := fun _ => HC) (fun a b c _ e f g h => HC.mk a b c x e f g h) t
def HC.s4 (x : HB) (t : HC) : HC := HC.rec (motive := fun _ => HC) (fun a b c d _ f g h => HC.mk a b c d x f g h) t
def HC.s5 (x : HB) (t : HC) : HC := HC.rec (motive := fun _ => HC) (fun a b c d e _ g h => HC.mk a b c d e x g h) t
def HC.s6 (x : HB) (t : HC) : HC := HC.rec (motive := fun _ => HC) (fun a b c d e f _ h => HC.mk a b c d e f x h) t
def HC.s7 (x : HB) (t : HC) : HC := HC.rec (motive := fun _ => HC) (fun a b c d e f g _ => HC.mk a b c d e f g x) t
def HC.set (i : D8) : HB → HC → HC := D8.rec (motive := fun _ => HB → HC → HC) HC.s0 HC.s1 HC.s2 HC.s3 HC.s4 HC.s5 HC.s6 HC.s7 i
structure HD where mk ::
  (a b c d e f g h : HC)
def HD.sel (i : D8) : HD → HC := D8.rec (motive := fun _ => HD → HC) HD.a HD.b HD.c HD.d HD.e HD.f HD.g HD.h i
def HD.s0 (x : HC) (t : HD) : HD := HD.rec (motive := fun _ => HD) (fun _ b c d e f g h => HD.mk x b c d e f g h) t
def HD.s1 (x : HC) (t : HD) : HD := HD.rec (motive := fun _ => HD) (fun a _ c d e f g h => HD.mk a x c d e f g h) t
def HD.s2 (x : HC) (t : HD) : HD := HD.rec (motive := fun _ => HD) (fun a b _ d e f g h => HD.mk a b x d e f g h) t
def HD.s3 (x : HC) (t : HD) : HD := HD.rec (motive := fun _ => HD) (fun a b c _ e f g h => HD.mk a b c x e f g h) t
def HD.s4 (x : HC) (t : HD) : HD := HD.rec (motive := fun _ => HD) (fun a b c d _ f g h => HD.mk a b c d x f g h) t
def HD.s5 (x : HC) (t : HD) : HD := HD.rec (motive := fun _ => HD) (fun a b c d e _ g h => HD.mk a b c d e x g h) t
def HD.s6 (x : HC) (t : HD) : HD := HD.rec (motive := fun _ => HD) (fun a b c d e f _ h => HD.mk a b c d e f x h) t
def HD.s7 (x : HC) (t : HD) : HD := HD.rec (motive := fun _ => HD) (fun a b c d e f g _ => HD.mk a b c d e f g x) t
def HD.set (i : D8) : HC → HD → HD := D8.rec (motive := fun _ => HC → HD → HD) HD.s0 HD.s1 HD.s2 HD.s3 HD.s4 HD.s5 HD.s6 HD.s7 i
structure HX where mk ::
  (a b c d e f g h : HD)
def HX.sel (i : D8) : HX → HD := D8.rec (motive := fun _ => HX → HD) HX.a HX.b HX.c HX.d HX.e HX.f HX.g HX.h i
def HX.s0 (x : HD) (t : HX) : HX := HX.rec (motive := fun _ => HX) (fun _ b c d e f g h => HX.mk x b c d e f g h) t
def HX.s1 (x : HD) (t : HX) : HX := HX.rec (motive := fun _ => HX) (fun a _ c d e f g h => HX.mk a x c d e f g h) t
def HX.s2 (x : HD) (t : HX) : HX := HX.rec (motive := fun _ => HX) (fun a b _ d e f g h => HX.mk a b x d e f g h) t
def HX.s3 (x : HD) (t : HX) : HX := HX.rec (motive := fun _ => HX) (fun a b c _ e f g h => HX.mk a b c x e f g h) t
def HX.s4 (x : HD) (t : HX) : HX := HX.rec (motive := fun _ => HX) (fun a b c d _ f g h => HX.mk a b c d x f g h) t
def HX.s5 (x : HD) (t : HX) : HX := HX.rec (motive := fun _ => HX) (fun a b c d e _ g h => HX.mk a b c d e x g h) t
def HX.s6 (x : HD) (t : HX) : HX := HX.rec (motive := fun _ => HX) (fun a b c d e f _ h => HX.mk a b c d e f x h) t
def HX.s7 (x : HD) (t : HX) : HX := HX.rec (motive := fun _ => HX) (fun a b c d e f g _ => HX.mk a b c d e f g x) t
def HX.set (i : D8) : HD → HX → HX := D8.rec (motive := fun _ => HD → HX → HX) HX.s0 HX.s1 HX.s2 HX.s3 HX.s4 HX.s5 HX.s6 HX.s7 i
structure HE where mk ::
  (a b c d e f g h : HX)
def HE.sel (i : D8) : HE → HX := D8.rec (motive := fun _ => HE → HX) HE.a HE.b HE.c HE.d HE.e HE.f HE.g HE.h i
def HE.s0 (x : HX) (t : HE) : HE := HE.rec (motive := fun _ => HE) (fun _ b c d e f g h => HE.mk x b c d e f g h) t
def HE.s1 (x : HX) (t : HE) : HE := HE.rec (motive := fun _ => HE) (fun a _ c d e f g h => HE.mk a x c d e f g h) t
def HE.s2 (x : HX) (t : HE) : HE := HE.rec (motive := fun _ => HE) (fun a b _ d e f g h => HE.mk a b x d e f g h) t
def HE.s3 (x : HX) (t : HE) : HE := HE.rec (motive := fun _ => HE) (fun a b c _ e f g h => HE.mk a b c x e f g h) t
def HE.s4 (x : HX) (t : HE) : HE := HE.rec (motive := fun _ => HE) (fun a b c d _ f g h => HE.mk a b c d x f g h) t
def HE.s5 (x : HX) (t : HE) : HE := HE.rec (motive := fun _ => HE) (fun a b c d e _ g h => HE.mk a b c d e x g h) t
def HE.s6 (x : HX) (t : HE) : HE := HE.rec (motive := fun _ => HE) (fun a b c d e f _ h => HE.mk a b c d e f x h) t
def HE.s7 (x : HX) (t : HE) : HE := HE.rec (motive := fun _ => HE) (fun a b c d e f g _ => HE.mk a b c d e f g x) t
def HE.set (i : D8) : HX → HE → HE := D8.rec (motive := fun _ => HX → HE → HE) HE.s0 HE.s1 HE.s2 HE.s3 HE.s4 HE.s5 HE.s6 HE.s7 i
inductive Md where
  | off
  | on (base : HE) (log : NL) (blocks : Bool)
structure St where mk ::
  (heap : HE) (next : Nat) (md : Md)
inductive DL where
  | nil
  | call (f : AV) (args : AV) (t : DL)
  | mark (id : Nat) (t : DL)
structure Fr where mk ::
  (s : NC) (d : DL) (rd : Bool) (nt : Nat)
inductive Ex where
  | normal | exit (n : Nat) | goto (l : Nat) | ret
inductive Res where
  | fail
  | nil
  | ok (x : Ex) (f : Fr) (s : St) (more : Res)
def za : NA := ⟨.top, .top, .top, .top, .top, .top, .top, .top⟩
def zb : NB := ⟨za, za, za, za, za, za, za, za⟩
def zc : NC := ⟨zb, zb, zb, zb, zb, zb, zb, zb⟩
def NA.p0 (t : NA) (u : AV → (AV → Res) → Res) (k : NA → Res) : Res := NA.rec (motive := fun _ => Res) (fun a b c d e f g h => u a fun x => k (NA.mk x b c d e f g h)) t
def NA.p1 (t : NA) (u : AV → (AV → Res) → Res) (k : NA → Res) : Res := NA.rec (motive := fun _ => Res) (fun a b c d e f g h => u b fun x => k (NA.mk a x c d e f g h)) t
def NA.p2 (t : NA) (u : AV → (AV → Res) → Res) (k : NA → Res) : Res := NA.rec (motive := fun _ => Res) (fun a b c d e f g h => u c fun x => k (NA.mk a b x d e f g h)) t
def NA.p3 (t : NA) (u : AV → (AV → Res) → Res) (k : NA → Res) : Res := NA.rec (motive := fun _ => Res) (fun a b c d e f g h => u d fun x => k (NA.mk a b c x e f g h)) t
def NA.p4 (t : NA) (u : AV → (AV → Res) → Res) (k : NA → Res) : Res := NA.rec (motive := fun _ => Res) (fun a b c d e f g h => u e fun x => k (NA.mk a b c d x f g h)) t
def NA.p5 (t : NA) (u : AV → (AV → Res) → Res) (k : NA → Res) : Res := NA.rec (motive := fun _ => Res) (fun a b c d e f g h => u f fun x => k (NA.mk a b c d e x g h)) t
def NA.p6 (t : NA) (u : AV → (AV → Res) → Res) (k : NA → Res) : Res := NA.rec (motive := fun _ => Res) (fun a b c d e f g h => u g fun x => k (NA.mk a b c d e f x h)) t
def NA.p7 (t : NA) (u : AV → (AV → Res) → Res) (k : NA → Res) : Res := NA.rec (motive := fun _ => Res) (fun a b c d e f g h => u h fun x => k (NA.mk a b c d e f g x)) t
def NA.put (i : D8) : NA → (AV → (AV → Res) → Res) → (NA → Res) → Res := D8.rec (motive := fun _ => NA → (AV → (AV → Res) → Res) → (NA → Res) → Res) NA.p0 NA.p1 NA.p2 NA.p3 NA.p4 NA.p5 NA.p6 NA.p7 i
def NB.p0 (t : NB) (u : NA → (NA → Res) → Res) (k : NB → Res) : Res := NB.rec (motive := fun _ => Res) (fun a b c d e f g h => u a fun x => k (NB.mk x b c d e f g h)) t
def NB.p1 (t : NB) (u : NA → (NA → Res) → Res) (k : NB → Res) : Res := NB.rec (motive := fun _ => Res) (fun a b c d e f g h => u b fun x => k (NB.mk a x c d e f g h)) t
def NB.p2 (t : NB) (u : NA → (NA → Res) → Res) (k : NB → Res) : Res := NB.rec (motive := fun _ => Res) (fun a b c d e f g h => u c fun x => k (NB.mk a b x d e f g h)) t
def NB.p3 (t : NB) (u : NA → (NA → Res) → Res) (k : NB → Res) : Res := NB.rec (motive := fun _ => Res) (fun a b c d e f g h => u d fun x => k (NB.mk a b c x e f g h)) t
def NB.p4 (t : NB) (u : NA → (NA → Res) → Res) (k : NB → Res) : Res := NB.rec (motive := fun _ => Res) (fun a b c d e f g h => u e fun x => k (NB.mk a b c d x f g h)) t
def NB.p5 (t : NB) (u : NA → (NA → Res) → Res) (k : NB → Res) : Res := NB.rec (motive := fun _ => Res) (fun a b c d e f g h => u f fun x => k (NB.mk a b c d e x g h)) t
def NB.p6 (t : NB) (u : NA → (NA → Res) → Res) (k : NB → Res) : Res := NB.rec (motive := fun _ => Res) (fun a b c d e f g h => u g fun x => k (NB.mk a b c d e f x h)) t
def NB.p7 (t : NB) (u : NA → (NA → Res) → Res) (k : NB → Res) : Res := NB.rec (motive := fun _ => Res) (fun a b c d e f g h => u h fun x => k (NB.mk a b c d e f g x)) t
def NB.put (i : D8) : NB → (NA → (NA → Res) → Res) → (NB → Res) → Res := D8.rec (motive := fun _ => NB → (NA → (NA → Res) → Res) → (NB → Res) → Res) NB.p0 NB.p1 NB.p2 NB.p3 NB.p4 NB.p5 NB.p6 NB.p7 i
def NC.p0 (t : NC) (u : NB → (NB → Res) → Res) (k : NC → Res) : Res := NC.rec (motive := fun _ => Res) (fun a b c d e f g h => u a fun x => k (NC.mk x b c d e f g h)) t
def NC.p1 (t : NC) (u : NB → (NB → Res) → Res) (k : NC → Res) : Res := NC.rec (motive := fun _ => Res) (fun a b c d e f g h => u b fun x => k (NC.mk a x c d e f g h)) t
def NC.p2 (t : NC) (u : NB → (NB → Res) → Res) (k : NC → Res) : Res := NC.rec (motive := fun _ => Res) (fun a b c d e f g h => u c fun x => k (NC.mk a b x d e f g h)) t
def NC.p3 (t : NC) (u : NB → (NB → Res) → Res) (k : NC → Res) : Res := NC.rec (motive := fun _ => Res) (fun a b c d e f g h => u d fun x => k (NC.mk a b c x e f g h)) t
def NC.p4 (t : NC) (u : NB → (NB → Res) → Res) (k : NC → Res) : Res := NC.rec (motive := fun _ => Res) (fun a b c d e f g h => u e fun x => k (NC.mk a b c d x f g h)) t
def NC.p5 (t : NC) (u : NB → (NB → Res) → Res) (k : NC → Res) : Res := NC.rec (motive := fun _ => Res) (fun a b c d e f g h => u f fun x => k (NC.mk a b c d e x g h)) t
def NC.p6 (t : NC) (u : NB → (NB → Res) → Res) (k : NC → Res) : Res := NC.rec (motive := fun _ => Res) (fun a b c d e f g h => u g fun x => k (NC.mk a b c d e f x h)) t
def NC.p7 (t : NC) (u : NB → (NB → Res) → Res) (k : NC → Res) : Res := NC.rec (motive := fun _ => Res) (fun a b c d e f g h => u h fun x => k (NC.mk a b c d e f g x)) t
def NC.put (i : D8) : NC → (NB → (NB → Res) → Res) → (NC → Res) → Res := D8.rec (motive := fun _ => NC → (NB → (NB → Res) → Res) → (NC → Res) → Res) NC.p0 NC.p1 NC.p2 NC.p3 NC.p4 NC.p5 NC.p6 NC.p7 i
def HA.p0 (t : HA) (u : Obj → (Obj → Res) → Res) (k : HA → Res) : Res := HA.rec (motive := fun _ => Res) (fun a b c d e f g h => u a fun x => k (HA.mk x b c d e f g h)) t
def HA.p1 (t : HA) (u : Obj → (Obj → Res) → Res) (k : HA → Res) : Res := HA.rec (motive := fun _ => Res) (fun a b c d e f g h => u b fun x => k (HA.mk a x c d e f g h)) t
def HA.p2 (t : HA) (u : Obj → (Obj → Res) → Res) (k : HA → Res) : Res := HA.rec (motive := fun _ => Res) (fun a b c d e f g h => u c fun x => k (HA.mk a b x d e f g h)) t
def HA.p3 (t : HA) (u : Obj → (Obj → Res) → Res) (k : HA → Res) : Res := HA.rec (motive := fun _ => Res) (fun a b c d e f g h => u d fun x => k (HA.mk a b c x e f g h)) t
def HA.p4 (t : HA) (u : Obj → (Obj → Res) → Res) (k : HA → Res) : Res := HA.rec (motive := fun _ => Res) (fun a b c d e f g h => u e fun x => k (HA.mk a b c d x f g h)) t
def HA.p5 (t : HA) (u : Obj → (Obj → Res) → Res) (k : HA → Res) : Res := HA.rec (motive := fun _ => Res) (fun a b c d e f g h => u f fun x => k (HA.mk a b c d e x g h)) t
def HA.p6 (t : HA) (u : Obj → (Obj → Res) → Res) (k : HA → Res) : Res := HA.rec (motive := fun _ => Res) (fun a b c d e f g h => u g fun x => k (HA.mk a b c d e f x h)) t
def HA.p7 (t : HA) (u : Obj → (Obj → Res) → Res) (k : HA → Res) : Res := HA.rec (motive := fun _ => Res) (fun a b c d e f g h => u h fun x => k (HA.mk a b c d e f g x)) t
def HA.put (i : D8) : HA → (Obj → (Obj → Res) → Res) → (HA → Res) → Res := D8.rec (motive := fun _ => HA → (Obj → (Obj → Res) → Res) → (HA → Res) → Res) HA.p0 HA.p1 HA.p2 HA.p3 HA.p4 HA.p5 HA.p6 HA.p7 i
def HB.p0 (t : HB) (u : HA → (HA → Res) → Res) (k : HB → Res) : Res := HB.rec (motive := fun _ => Res) (fun a b c d e f g h => u a fun x => k (HB.mk x b c d e f g h)) t
def HB.p1 (t : HB) (u : HA → (HA → Res) → Res) (k : HB → Res) : Res := HB.rec (motive := fun _ => Res) (fun a b c d e f g h => u b fun x => k (HB.mk a x c d e f g h)) t
def HB.p2 (t : HB) (u : HA → (HA → Res) → Res) (k : HB → Res) : Res := HB.rec (motive := fun _ => Res) (fun a b c d e f g h => u c fun x => k (HB.mk a b x d e f g h)) t
def HB.p3 (t : HB) (u : HA → (HA → Res) → Res) (k : HB → Res) : Res := HB.rec (motive := fun _ => Res) (fun a b c d e f g h => u d fun x => k (HB.mk a b c x e f g h)) t
def HB.p4 (t : HB) (u : HA → (HA → Res) → Res) (k : HB → Res) : Res := HB.rec (motive := fun _ => Res) (fun a b c d e f g h => u e fun x => k (HB.mk a b c d x f g h)) t
def HB.p5 (t : HB) (u : HA → (HA → Res) → Res) (k : HB → Res) : Res := HB.rec (motive := fun _ => Res) (fun a b c d e f g h => u f fun x => k (HB.mk a b c d e x g h)) t
def HB.p6 (t : HB) (u : HA → (HA → Res) → Res) (k : HB → Res) : Res := HB.rec (motive := fun _ => Res) (fun a b c d e f g h => u g fun x => k (HB.mk a b c d e f x h)) t
def HB.p7 (t : HB) (u : HA → (HA → Res) → Res) (k : HB → Res) : Res := HB.rec (motive := fun _ => Res) (fun a b c d e f g h => u h fun x => k (HB.mk a b c d e f g x)) t
def HB.put (i : D8) : HB → (HA → (HA → Res) → Res) → (HB → Res) → Res := D8.rec (motive := fun _ => HB → (HA → (HA → Res) → Res) → (HB → Res) → Res) HB.p0 HB.p1 HB.p2 HB.p3 HB.p4 HB.p5 HB.p6 HB.p7 i
def HC.p0 (t : HC) (u : HB → (HB → Res) → Res) (k : HC → Res) : Res := HC.rec (motive := fun _ => Res) (fun a b c d e f g h => u a fun x => k (HC.mk x b c d e f g h)) t
def HC.p1 (t : HC) (u : HB → (HB → Res) → Res) (k : HC → Res) : Res := HC.rec (motive := fun _ => Res) (fun a b c d e f g h => u b fun x => k (HC.mk a x c d e f g h)) t
def HC.p2 (t : HC) (u : HB → (HB → Res) → Res) (k : HC → Res) : Res := HC.rec (motive := fun _ => Res) (fun a b c d e f g h => u c fun x => k (HC.mk a b x d e f g h)) t
def HC.p3 (t : HC) (u : HB → (HB → Res) → Res) (k : HC → Res) : Res := HC.rec (motive := fun _ => Res) (fun a b c d e f g h => u d fun x => k (HC.mk a b c x e f g h)) t
def HC.p4 (t : HC) (u : HB → (HB → Res) → Res) (k : HC → Res) : Res := HC.rec (motive := fun _ => Res) (fun a b c d e f g h => u e fun x => k (HC.mk a b c d x f g h)) t
def HC.p5 (t : HC) (u : HB → (HB → Res) → Res) (k : HC → Res) : Res := HC.rec (motive := fun _ => Res) (fun a b c d e f g h => u f fun x => k (HC.mk a b c d e x g h)) t
def HC.p6 (t : HC) (u : HB → (HB → Res) → Res) (k : HC → Res) : Res := HC.rec (motive := fun _ => Res) (fun a b c d e f g h => u g fun x => k (HC.mk a b c d e f x h)) t
def HC.p7 (t : HC) (u : HB → (HB → Res) → Res) (k : HC → Res) : Res := HC.rec (motive := fun _ => Res) (fun a b c d e f g h => u h fun x => k (HC.mk a b c d e f g x)) t
def HC.put (i : D8) : HC → (HB → (HB → Res) → Res) → (HC → Res) → Res := D8.rec (motive := fun _ => HC → (HB → (HB → Res) → Res) → (HC → Res) → Res) HC.p0 HC.p1 HC.p2 HC.p3 HC.p4 HC.p5 HC.p6 HC.p7 i
def HD.p0 (t : HD) (u : HC → (HC → Res) → Res) (k : HD → Res) : Res := HD.rec (motive := fun _ => Res) (fun a b c d e f g h => u a fun x => k (HD.mk x b c d e f g h)) t
def HD.p1 (t : HD) (u : HC → (HC → Res) → Res) (k : HD → Res) : Res := HD.rec (motive := fun _ => Res) (fun a b c d e f g h => u b fun x => k (HD.mk a x c d e f g h)) t
def HD.p2 (t : HD) (u : HC → (HC → Res) → Res) (k : HD → Res) : Res := HD.rec (motive := fun _ => Res) (fun a b c d e f g h => u c fun x => k (HD.mk a b x d e f g h)) t
def HD.p3 (t : HD) (u : HC → (HC → Res) → Res) (k : HD → Res) : Res := HD.rec (motive := fun _ => Res) (fun a b c d e f g h => u d fun x => k (HD.mk a b c x e f g h)) t
def HD.p4 (t : HD) (u : HC → (HC → Res) → Res) (k : HD → Res) : Res := HD.rec (motive := fun _ => Res) (fun a b c d e f g h => u e fun x => k (HD.mk a b c d x f g h)) t
def HD.p5 (t : HD) (u : HC → (HC → Res) → Res) (k : HD → Res) : Res := HD.rec (motive := fun _ => Res) (fun a b c d e f g h => u f fun x => k (HD.mk a b c d e x g h)) t
def HD.p6 (t : HD) (u : HC → (HC → Res) → Res) (k : HD → Res) : Res := HD.rec (motive := fun _ => Res) (fun a b c d e f g h => u g fun x => k (HD.mk a b c d e f x h)) t
def HD.p7 (t : HD) (u : HC → (HC → Res) → Res) (k : HD → Res) : Res := HD.rec (motive := fun _ => Res) (fun a b c d e f g h => u h fun x => k (HD.mk a b c d e f g x)) t
def HD.put (i : D8) : HD → (HC → (HC → Res) → Res) → (HD → Res) → Res := D8.rec (motive := fun _ => HD → (HC → (HC → Res) → Res) → (HD → Res) → Res) HD.p0 HD.p1 HD.p2 HD.p3 HD.p4 HD.p5 HD.p6 HD.p7 i
def HX.p0 (t : HX) (u : HD → (HD → Res) → Res) (k : HX → Res) : Res := HX.rec (motive := fun _ => Res) (fun a b c d e f g h => u a fun x => k (HX.mk x b c d e f g h)) t
def HX.p1 (t : HX) (u : HD → (HD → Res) → Res) (k : HX → Res) : Res := HX.rec (motive := fun _ => Res) (fun a b c d e f g h => u b fun x => k (HX.mk a x c d e f g h)) t
def HX.p2 (t : HX) (u : HD → (HD → Res) → Res) (k : HX → Res) : Res := HX.rec (motive := fun _ => Res) (fun a b c d e f g h => u c fun x => k (HX.mk a b x d e f g h)) t
def HX.p3 (t : HX) (u : HD → (HD → Res) → Res) (k : HX → Res) : Res := HX.rec (motive := fun _ => Res) (fun a b c d e f g h => u d fun x => k (HX.mk a b c x e f g h)) t
def HX.p4 (t : HX) (u : HD → (HD → Res) → Res) (k : HX → Res) : Res := HX.rec (motive := fun _ => Res) (fun a b c d e f g h => u e fun x => k (HX.mk a b c d x f g h)) t
def HX.p5 (t : HX) (u : HD → (HD → Res) → Res) (k : HX → Res) : Res := HX.rec (motive := fun _ => Res) (fun a b c d e f g h => u f fun x => k (HX.mk a b c d e x g h)) t
def HX.p6 (t : HX) (u : HD → (HD → Res) → Res) (k : HX → Res) : Res := HX.rec (motive := fun _ => Res) (fun a b c d e f g h => u g fun x => k (HX.mk a b c d e f x h)) t
def HX.p7 (t : HX) (u : HD → (HD → Res) → Res) (k : HX → Res) : Res := HX.rec (motive := fun _ => Res) (fun a b c d e f g h => u h fun x => k (HX.mk a b c d e f g x)) t
def HX.put (i : D8) : HX → (HD → (HD → Res) → Res) → (HX → Res) → Res := D8.rec (motive := fun _ => HX → (HD → (HD → Res) → Res) → (HX → Res) → Res) HX.p0 HX.p1 HX.p2 HX.p3 HX.p4 HX.p5 HX.p6 HX.p7 i
def HE.p0 (t : HE) (u : HX → (HX → Res) → Res) (k : HE → Res) : Res := HE.rec (motive := fun _ => Res) (fun a b c d e f g h => u a fun x => k (HE.mk x b c d e f g h)) t
def HE.p1 (t : HE) (u : HX → (HX → Res) → Res) (k : HE → Res) : Res := HE.rec (motive := fun _ => Res) (fun a b c d e f g h => u b fun x => k (HE.mk a x c d e f g h)) t
def HE.p2 (t : HE) (u : HX → (HX → Res) → Res) (k : HE → Res) : Res := HE.rec (motive := fun _ => Res) (fun a b c d e f g h => u c fun x => k (HE.mk a b x d e f g h)) t
def HE.p3 (t : HE) (u : HX → (HX → Res) → Res) (k : HE → Res) : Res := HE.rec (motive := fun _ => Res) (fun a b c d e f g h => u d fun x => k (HE.mk a b c x e f g h)) t
def HE.p4 (t : HE) (u : HX → (HX → Res) → Res) (k : HE → Res) : Res := HE.rec (motive := fun _ => Res) (fun a b c d e f g h => u e fun x => k (HE.mk a b c d x f g h)) t
def HE.p5 (t : HE) (u : HX → (HX → Res) → Res) (k : HE → Res) : Res := HE.rec (motive := fun _ => Res) (fun a b c d e f g h => u f fun x => k (HE.mk a b c d e x g h)) t
def HE.p6 (t : HE) (u : HX → (HX → Res) → Res) (k : HE → Res) : Res := HE.rec (motive := fun _ => Res) (fun a b c d e f g h => u g fun x => k (HE.mk a b c d e f x h)) t
def HE.p7 (t : HE) (u : HX → (HX → Res) → Res) (k : HE → Res) : Res := HE.rec (motive := fun _ => Res) (fun a b c d e f g h => u h fun x => k (HE.mk a b c d e f g x)) t
def HE.put (i : D8) : HE → (HX → (HX → Res) → Res) → (HE → Res) → Res := D8.rec (motive := fun _ => HE → (HX → (HX → Res) → Res) → (HE → Res) → Res) HE.p0 HE.p1 HE.p2 HE.p3 HE.p4 HE.p5 HE.p6 HE.p7 i
def NC.get (p : P3) (f : NC) : AV := NA.sel p.c (NB.sel p.b (NC.sel p.a f))
def NC.setK (p : P3) (v : AV) (f : NC) (k : NC → Res) : Res := NC.put p.a f (fun t k' => NB.put p.b t (fun t k'' => NA.put p.c t (fun _ k3 => k3 v) k'') k') k
def HE.get (p : P5) (h : HE) : Obj := HA.sel p.f (HB.sel p.e (HC.sel p.d (HD.sel p.c (HX.sel p.b (HE.sel p.a h)))))
def HE.setK (p : P5) (o : Obj) (h : HE) (k : HE → Res) : Res :=
  HE.put p.a h (fun t k1 => HX.put p.b t (fun t k2 => HD.put p.c t (fun t k3 => HC.put p.d t (fun t k4 => HB.put p.e t (fun t k5 => HA.put p.f t (fun _ k6 => k6 o) k5) k4) k3) k2) k1) k
def HE.setS (p : P5) (o : Obj) (h : HE) : HE := HE.set p.a (HX.set p.b (HD.set p.c (HC.set p.d (HB.set p.e (HA.set p.f o (HB.sel p.e (HC.sel p.d (HD.sel p.c (HX.sel p.b (HE.sel p.a h)))))) (HC.sel p.d (HD.sel p.c (HX.sel p.b (HE.sel p.a h))))) (HD.sel p.c (HX.sel p.b (HE.sel p.a h)))) (HX.sel p.b (HE.sel p.a h))) (HE.sel p.a h)) h
def za1 : HA := ⟨.dead, .dead, .dead, .dead, .dead, .dead, .dead, .dead⟩
def za2 : HB := ⟨za1, za1, za1, za1, za1, za1, za1, za1⟩
def za3 : HC := ⟨za2, za2, za2, za2, za2, za2, za2, za2⟩
def za4 : HD := ⟨za3, za3, za3, za3, za3, za3, za3, za3⟩
def zax : HX := ⟨za4, za4, za4, za4, za4, za4, za4, za4⟩
def za5 : HE := ⟨zax, zax, zax, zax, zax, zax, zax, zax⟩
def AV.asInt (v : AV) : (IntKind → Int → Res) → Res := AV.rec (motive := fun _ => (IntKind → Int → Res) → Res) (fun _ => .fail) (fun _ _ => .fail)
    (fun i n k => k i n) (fun _ _ => .fail) (fun _ => .fail) (fun _ _ _ => .fail) (fun _ => .fail) (fun _ _ _ _ _ _ _ => .fail) (fun _ => .fail) (fun _ _ => .fail) (fun _ _ _ _ _ _ => .fail) (fun _ => .fail) (fun _ _ _ _ => .fail) (fun _ => .fail) (fun _ _ _ => .fail) (fun _ _ _ => .fail) (fun _ _ => .fail) (fun _ => .fail) (fun _ _ _ _ _ => .fail) v
def AV.asBool (v : AV) : (Bool → Res) → Res := AV.rec (motive := fun _ => (Bool → Res) → Res) (fun _ => .fail)
    (fun b k => k b) (fun _ _ _ => .fail) (fun _ _ => .fail) (fun _ => .fail) (fun _ _ _ => .fail) (fun _ => .fail) (fun _ _ _ _ _ _ _ => .fail) (fun _ => .fail) (fun _ _ => .fail) (fun _ _ _ _ _ _ => .fail) (fun _ => .fail) (fun _ _ _ _ => .fail) (fun _ => .fail) (fun _ _ _ => .fail) (fun _ _ _ => .fail) (fun _ _ => .fail) (fun _ => .fail) (fun _ _ _ _ _ => .fail) v
def AV.asStr (v : AV) : (BL → Res) → Res := AV.rec (motive := fun _ => (BL → Res) → Res) (fun _ => .fail) (fun _ _ => .fail) (fun _ _ _ => .fail)
    (fun s k => k s) (fun _ => .fail) (fun _ _ _ => .fail) (fun _ => .fail) (fun _ _ _ _ _ _ _ => .fail) (fun _ => .fail) (fun _ _ => .fail) (fun _ _ _ _ _ _ => .fail) (fun _ => .fail) (fun _ _ _ _ => .fail) (fun _ => .fail) (fun _ _ _ => .fail) (fun _ _ _ => .fail) (fun _ _ => .fail) (fun _ => .fail) (fun _ _ _ _ _ => .fail) v
def AV.asPtr (v : AV) : (Nat → Nat → Res) → Res := AV.rec (motive := fun _ => (Nat → Nat → Res) → Res) (fun _ => .fail) (fun _ _ => .fail) (fun _ _ _ => .fail) (fun _ _ => .fail) (fun _ => .fail)
    (fun i o k => k i o) (fun _ => .fail) (fun _ _ _ _ _ _ _ => .fail) (fun _ => .fail) (fun _ _ => .fail) (fun _ _ _ _ _ _ => .fail) (fun _ => .fail) (fun _ _ _ _ => .fail) (fun _ => .fail) (fun _ _ _ => .fail) (fun _ _ _ => .fail) (fun _ _ => .fail) (fun _ => .fail) (fun _ _ _ _ _ => .fail) v
def AV.asSl (v : AV) : (Nat → Nat → Nat → Nat → Bool → Nat → Res) → Res := AV.rec (motive := fun _ => (Nat → Nat → Nat → Nat → Bool → Nat → Res) → Res) (fun _ => .fail) (fun _ _ => .fail) (fun _ _ _ => .fail) (fun _ _ => .fail) (fun _ => .fail) (fun _ _ _ => .fail) (fun _ => .fail)
    (fun i o l c e z k => k i o l c e z) (fun _ => .fail) (fun _ _ => .fail) (fun _ _ _ _ _ _ => .fail) (fun _ => .fail) (fun _ _ _ _ => .fail) (fun _ => .fail) (fun _ _ _ => .fail) (fun _ _ _ => .fail) (fun _ _ => .fail) (fun _ => .fail) (fun _ _ _ _ _ => .fail) v
def AV.asMap (v : AV) : (Nat → Res) → Res := AV.rec (motive := fun _ => (Nat → Res) → Res) (fun _ => .fail) (fun _ _ => .fail) (fun _ _ _ => .fail) (fun _ _ => .fail) (fun _ => .fail) (fun _ _ _ => .fail) (fun _ => .fail) (fun _ _ _ _ _ _ _ => .fail) (fun _ => .fail)
    (fun i k => k i) (fun _ _ _ _ _ _ => .fail) (fun _ => .fail) (fun _ _ _ _ => .fail) (fun _ => .fail) (fun _ _ _ => .fail) (fun _ _ _ => .fail) (fun _ _ => .fail) (fun _ => .fail) (fun _ _ _ _ _ => .fail) v
def AV.asAgg (v : AV) : (AV → Res) → Res := AV.rec (motive := fun _ => (AV → Res) → Res) (fun _ => .fail) (fun _ _ => .fail) (fun _ _ _ => .fail) (fun _ _ => .fail) (fun _ => .fail) (fun _ _ _ => .fail) (fun _ => .fail) (fun _ _ _ _ _ _ _ => .fail) (fun _ => .fail) (fun _ _ => .fail) (fun _ _ _ _ _ _ => .fail) (fun _ => .fail) (fun _ _ _ _ => .fail) (fun _ => .fail)
    (fun x _ k => k x) (fun _ _ _ => .fail) (fun _ _ => .fail) (fun _ => .fail) (fun _ _ _ _ _ => .fail) v
def AV.asTup (v : AV) : (AV → Res) → Res := AV.rec (motive := fun _ => (AV → Res) → Res) (fun _ => .fail) (fun _ _ => .fail) (fun _ _ _ => .fail) (fun _ _ => .fail) (fun _ => .fail) (fun _ _ _ => .fail) (fun _ => .fail) (fun _ _ _ _ _ _ _ => .fail) (fun _ => .fail) (fun _ _ => .fail) (fun _ _ _ _ _ _ => .fail) (fun _ => .fail) (fun _ _ _ _ => .fail) (fun _ => .fail) (fun _ _ _ => .fail)
    (fun x _ k => k x) (fun _ _ => .fail) (fun _ => .fail) (fun _ _ _ _ _ => .fail) v
/-- Two lists, one behind the other. -/
def AV.app (v : AV) : AV → AV :=
  AV.rec (motive := fun _ => AV → AV) (fun _ => .lnil) (fun _ _ => .lnil) (fun _ _ _ => .lnil) (fun _ _ => .lnil) (fun _ => .lnil) (fun _ _ _ => .lnil) (fun _ => .lnil) (fun _ _ _ _ _ _ _ => .lnil) (fun _ => .lnil) (fun _ _ => .lnil) (fun _ _ _ _ _ _ => .lnil) (fun _ => .lnil) (fun _ _ _ _ => .lnil) (fun _ => .lnil) (fun _ _ _ => .lnil) (fun _ _ _ => .lnil) (fun _ _ => .lnil) (fun y => y) (fun h t _ ih y => .lcons h (ih y)) v
def AV.len (v : AV) : Nat :=
  AV.rec (motive := fun _ => Nat) (0) (fun _ => 0) (fun _ _ => 0) (fun _ => 0) (0) (fun _ _ => 0) (0) (fun _ _ _ _ _ _ => 0) (0) (fun _ => 0) (fun _ _ _ _ _ => 0) (0) (fun _ _ _ => 0) (0) (fun _ _ => 0) (fun _ _ => 0) (fun _ => 0) (0) (fun _ _ _ ih => Nat.succ ih) v
/-- The n-th value of a list. -/
def AV.nthK (v : AV) : Nat → (AV → Res) → Res :=
  AV.rec (motive := fun _ => Nat → (AV → Res) → Res) (fun _ _ => .fail) (fun _ _ _ => .fail) (fun _ _ _ _ => .fail) (fun _ _ _ => .fail) (fun _ _ => .fail) (fun _ _ _ _ => .fail) (fun _ _ => .fail) (fun _ _ _ _ _ _ _ _ => .fail) (fun _ _ => .fail) (fun _ _ _ => .fail) (fun _ _ _ _ _ _ _ => .fail) (fun _ _ => .fail) (fun _ _ _ _ _ => .fail) (fun _ _ => .fail) (fun _ _ _ _ => .fail) (fun _ _ _ _ => .fail) (fun _ _ _ => .fail) (fun _ _ => .fail) (fun h _ _ ih n k => Nat.rec (motive := fun _ => Res) (k h) (fun m _ => ih m k) n) v
/-- The first n values. -/
def AV.takeK (v : AV) : Nat → (AV → Res) → Res :=
  AV.rec (motive := fun _ => Nat → (AV → Res) → Res) (fun _ _ => .fail) (fun _ _ _ => .fail) (fun _ _ _ _ => .fail) (fun _ _ _ => .fail) (fun _ _ => .fail) (fun _ _ _ _ => .fail) (fun _ _ => .fail) (fun _ _ _ _ _ _ _ _ => .fail) (fun _ _ => .fail) (fun _ _ _ => .fail) (fun _ _ _ _ _ _ _ => .fail) (fun _ _ => .fail) (fun _ _ _ _ _ => .fail) (fun _ _ => .fail) (fun _ _ _ _ => .fail) (fun _ _ _ _ => .fail) (fun _ _ _ => .fail) (fun n k => Nat.rec (motive := fun _ => Res) (k .lnil) (fun _ _ => .fail) n) (fun h _ _ ih n k => Nat.rec (motive := fun _ => Res) (k .lnil) (fun m _ => ih m fun l => k (.lcons h l)) n) v
/-- All but the first n values. -/
def AV.dropK (v : AV) : Nat → (AV → Res) → Res :=
  AV.rec (motive := fun _ => Nat → (AV → Res) → Res) (fun _ _ => .fail) (fun _ _ _ => .fail) (fun _ _ _ _ => .fail) (fun _ _ _ => .fail) (fun _ _ => .fail) (fun _ _ _ _ => .fail) (fun _ _ => .fail) (fun _ _ _ _ _ _ _ _ => .fail) (fun _ _ => .fail) (fun _ _ _ => .fail) (fun _ _ _ _ _ _ _ => .fail) (fun _ _ => .fail) (fun _ _ _ _ _ => .fail) (fun _ _ => .fail) (fun _ _ _ _ => .fail) (fun _ _ _ _ => .fail) (fun _ _ _ => .fail) (fun n k => Nat.rec (motive := fun _ => Res) (k .lnil) (fun _ _ => .fail) n) (fun h t _ ih n k => Nat.rec (motive := fun _ => Res) (k (.lcons h t)) (fun m _ => ih m k) n) v
def AV.uncons (v : AV) : Res → (AV → AV → Res) → Res :=
  AV.rec (motive := fun _ => Res → (AV → AV → Res) → Res) (fun _ _ => .fail) (fun _ _ _ => .fail) (fun _ _ _ _ => .fail) (fun _ _ _ => .fail) (fun _ _ => .fail) (fun _ _ _ _ => .fail) (fun _ _ => .fail) (fun _ _ _ _ _ _ _ _ => .fail) (fun _ _ => .fail) (fun _ _ _ => .fail) (fun _ _ _ _ _ _ _ => .fail) (fun _ _ => .fail) (fun _ _ _ _ _ => .fail) (fun _ _ => .fail) (fun _ _ _ _ => .fail) (fun _ _ _ _ => .fail) (fun _ _ _ => .fail) (fun z k => z) (fun h t _ _ z k => k h t) v
/-- A list whose head is written over by another list. -/
def AV.overK (v : AV) : AV → (AV → Res) → Res :=
  AV.rec (motive := fun _ => AV → (AV → Res) → Res) (fun _ _ => .fail) (fun _ _ _ => .fail) (fun _ _ _ _ => .fail) (fun _ _ _ => .fail) (fun _ _ => .fail) (fun _ _ _ _ => .fail) (fun _ _ => .fail) (fun _ _ _ _ _ _ _ _ => .fail) (fun _ _ => .fail) (fun _ _ _ => .fail) (fun _ _ _ _ _ _ _ => .fail) (fun _ _ => .fail) (fun _ _ _ _ _ => .fail) (fun _ _ => .fail) (fun _ _ _ _ => .fail) (fun _ _ _ _ => .fail) (fun _ _ _ => .fail) (fun y k => y.uncons (k .lnil) fun _ _ => .fail) (fun h t _ ih y k => y.uncons (k (.lcons h t)) fun a y2 => ih y2 fun l => k (.lcons a l)) v
/-- A list that is written over from the o-th value on. -/
def AV.layK (v : AV) : Nat → AV → (AV → Res) → Res :=
  AV.rec (motive := fun _ => Nat → AV → (AV → Res) → Res) (fun _ _ _ => .fail) (fun _ _ _ _ => .fail) (fun _ _ _ _ _ => .fail) (fun _ _ _ _ => .fail) (fun _ _ _ => .fail) (fun _ _ _ _ _ => .fail) (fun _ _ _ => .fail) (fun _ _ _ _ _ _ _ _ _ => .fail) (fun _ _ _ => .fail) (fun _ _ _ _ => .fail) (fun _ _ _ _ _ _ _ _ => .fail) (fun _ _ _ => .fail) (fun _ _ _ _ _ _ => .fail) (fun _ _ _ => .fail) (fun _ _ _ _ _ => .fail) (fun _ _ _ _ _ => .fail) (fun _ _ _ _ => .fail) (fun o y k => Nat.rec (motive := fun _ => Res) (AV.overK .lnil y k) (fun _ _ => .fail) o) (fun h t _ ih o y k => Nat.rec (motive := fun _ => Res) (AV.overK (.lcons h t) y k) (fun m _ => ih m y fun l => k (.lcons h l)) o) v
/-- The cells of a value. -/
def AV.cells (v : AV) : AV :=
  AV.rec (motive := fun _ => AV) (.lcons .top .lnil) (fun x0 => .lcons (.bool x0) .lnil) (fun x0 x1 => .lcons (.int x0 x1) .lnil) (fun x0 => .lcons (.str x0) .lnil) (.lcons .nilp .lnil) (fun x0 x1 => .lcons (.ptr x0 x1) .lnil) (.lcons .nils .lnil) (fun x0 x1 x2 x3 x4 x5 => .lcons (.sl x0 x1 x2 x3 x4 x5) .lnil) (.lcons .nilm .lnil) (fun x0 => .lcons (.map x0) .lnil) (fun x0 x1 x2 _ _ => .lcons (.fn x0 x1 x2) .lnil) (.lcons .nilf .lnil) (fun x0 x1 _ => .lcons (.ifc x0 x1) .lnil) (.lcons .nili .lnil) (fun cs _ => cs) (fun x0 _ => .lcons (.tup x0) .lnil) (fun x0 => .lcons (.opq x0) .lnil) (.lcons .lnil .lnil) (fun x0 x1 _ _ => .lcons (.lcons x0 x1) .lnil) v
/-- The cells of a value that is known. -/
def AV.cellsK (v : AV) : (AV → Res) → Res :=
  AV.rec (motive := fun _ => (AV → Res) → Res) (fun _ => .fail) (fun x0 k => k (.lcons (.bool x0) .lnil)) (fun x0 x1 k => k (.lcons (.int x0 x1) .lnil)) (fun x0 k => k (.lcons (.str x0) .lnil)) (fun k => k (.lcons .nilp .lnil)) (fun x0 x1 k => k (.lcons (.ptr x0 x1) .lnil)) (fun k => k (.lcons .nils .lnil)) (fun x0 x1 x2 x3 x4 x5 k => k (.lcons (.sl x0 x1 x2 x3 x4 x5) .lnil)) (fun k => k (.lcons .nilm .lnil)) (fun x0 k => k (.lcons (.map x0) .lnil)) (fun x0 x1 x2 _ _ k => k (.lcons (.fn x0 x1 x2) .lnil)) (fun k => k (.lcons .nilf .lnil)) (fun x0 x1 _ k => k (.lcons (.ifc x0 x1) .lnil)) (fun k => k (.lcons .nili .lnil)) (fun cs _ k => k cs) (fun _ _ _ => .fail) (fun x0 k => k (.lcons (.opq x0) .lnil)) (fun _ => .fail) (fun _ _ _ _ _ => .fail) v
/-- The value, where it is not nil. -/
def AV.notNilK (v : AV) : (AV → Res) → Res :=
  AV.rec (motive := fun _ => (AV → Res) → Res) (fun   _ => .fail) (fun x0 k => k (.bool x0)) (fun x0 x1 k => k (.int x0 x1)) (fun x0 k => k (.str x0)) (fun   _ => .fail) (fun x0 x1 k => k (.ptr x0 x1)) (fun k => k .nils) (fun x0 x1 x2 x3 x4 x5 k => k (.sl x0 x1 x2 x3 x4 x5)) (fun k => k .nilm) (fun x0 k => k (.map x0)) (fun _ _ _ _ _ _ => .fail) (fun   _ => .fail) (fun x0 x1 _ k => k (.ifc x0 x1)) (fun   _ => .fail) (fun x0 _ k => k (.agg x0)) (fun x0 _ k => k (.tup x0)) (fun _  _ => .fail) (fun   _ => .fail) (fun _ _ _ _ _ => .fail) v
def AV.asFn (v : AV) : (Fn → AV → AV → Res) → Res := AV.rec (motive := fun _ => (Fn → AV → AV → Res) → Res) (fun _ => .fail) (fun _ _ => .fail) (fun _ _ _ => .fail) (fun _ _ => .fail) (fun _ => .fail) (fun _ _ _ => .fail) (fun _ => .fail) (fun _ _ _ _ _ _ _ => .fail) (fun _ => .fail) (fun _ _ => .fail)
    (fun f x c _ _ k => k f x c) (fun _ => .fail) (fun _ _ _ _ => .fail) (fun _ => .fail) (fun _ _ _ => .fail) (fun _ _ _ => .fail) (fun _ _ => .fail) (fun _ => .fail) (fun _ _ _ _ _ => .fail) v
def BL.len (x : BL) : Nat := BL.rec 0 (fun _ _ ih => Nat.succ ih) x
def sameBool (a b : Bool) : Bool := Bool.rec (Bool.rec true false b) b a
def ieq (a : Int) : Int → Bool := Int.rec (motive := fun _ => Int → Bool)
  (fun m b => Int.rec (fun n => Nat.beq m n) (fun _ => false) b)
  (fun m b => Int.rec (fun _ => false) (fun n => Nat.beq m n) b) a
def kindNo (k : IntKind) : Nat := IntKind.rec 0 1 2 3 4 5 6 7 k
/-- Are two kinds one? -/
def sameKind (j k : IntKind) : Bool := Nat.beq (kindNo j) (kindNo k)
def BL.eq (x : BL) : BL → Bool := BL.rec (motive := fun _ => BL → Bool) (fun y => BL.rec true (fun _ _ _ => false) y)
  (fun h _ ih y => BL.rec (motive := fun _ => Bool) false (fun g u _ => Bool.rec (motive := fun _ => Bool) false (ih u) (Nat.beq h g)) y) x
def sameFn (f g : Fn) : Bool := Fn.rec (motive := fun _ => Bool) (fun i => Fn.rec (motive := fun _ => Bool) (fun j => Nat.beq i j) (fun _ => false) (fun _ _ => false) (fun _ _ _ _ => false) (fun _ => false) g) (fun _ => false) (fun _ _ => false) (fun _ _ _ _ => false) (fun _ => false) f
/-- Are two values spelled alike? -/
def AV.beq (x : AV) : AV → Bool :=
  AV.rec (motive := fun _ => AV → Bool)
    (fun y => AV.rec (motive := fun _ => Bool) true (fun _ => false) (fun _ _ => false) (fun _ => false) false (fun _ _ => false) false (fun _ _ _ _ _ _ => false) false (fun _ => false) (fun _ _ _ _ _ => false) false (fun _ _ _ => false) false (fun _ _ => false) (fun _ _ => false) (fun _ => false) false (fun _ _ _ _ => false) y)
    (fun x0 y => AV.rec (motive := fun _ => Bool) false (fun y0 => (sameBool x0 y0)) (fun _ _ => false) (fun _ => false) false (fun _ _ => false) false (fun _ _ _ _ _ _ => false) false (fun _ => false) (fun _ _ _ _ _ => false) false (fun _ _ _ => false) false (fun _ _ => false) (fun _ _ => false) (fun _ => false) false (fun _ _ _ _ => false) y)
    (fun x0 x1 y => AV.rec (motive := fun _ => Bool) false (fun _ => false) (fun y0 y1 => (Bool.rec (motive := fun _ => Bool) false (ieq x1 y1) (sameKind x0 y0))) (fun _ => false) false (fun _ _ => false) false (fun _ _ _ _ _ _ => false) false (fun _ => false) (fun _ _ _ _ _ => false) false (fun _ _ _ => false) false (fun _ _ => false) (fun _ _ => false) (fun _ => false) false (fun _ _ _ _ => false) y)
    (fun x0 y => AV.rec (motive := fun _ => Bool) false (fun _ => false) (fun _ _ => false) (fun y0 => (BL.eq x0 y0)) false (fun _ _ => false) false (fun _ _ _ _ _ _ => false) false (fun _ => false) (fun _ _ _ _ _ => false) false (fun _ _ _ => false) false (fun _ _ => false) (fun _ _ => false) (fun _ => false) false (fun _ _ _ _ => false) y)
    (fun y => AV.rec (motive := fun _ => Bool) false (fun _ => false) (fun _ _ => false) (fun _ => false) true (fun _ _ => false) false (fun _ _ _ _ _ _ => false) false (fun _ => false) (fun _ _ _ _ _ => false) false (fun _ _ _ => false) false (fun _ _ => false) (fun _ _ => false) (fun _ => false) false (fun _ _ _ _ => false) y)
    (fun x0 x1 y => AV.rec (motive := fun _ => Bool) false (fun _ => false) (fun _ _ => false) (fun _ => false) false (fun y0 y1 => (Bool.rec (motive := fun _ => Bool) false (Nat.beq x1 y1) (Nat.beq x0 y0))) false (fun _ _ _ _ _ _ => false) false (fun _ => false) (fun _ _ _ _ _ => false) false (fun _ _ _ => false) false (fun _ _ => false) (fun _ _ => false) (fun _ => false) false (fun _ _ _ _ => false) y)
    (fun y => AV.rec (motive := fun _ => Bool) false (fun _ => false) (fun _ _ => false) (fun _ => false) false (fun _ _ => false) true (fun _ _ _ _ _ _ => false) false (fun _ => false) (fun _ _ _ _ _ => false) false (fun _ _ _ => false) false (fun _ _ => false) (fun _ _ => false) (fun _ => false) false (fun _ _ _ _ => false) y)
    (fun x0 x1 x2 x3 x4 x5 y => AV.rec (motive := fun _ => Bool) false (fun _ => false) (fun _ _ => false) (fun _ => false) false (fun _ _ => false) false (fun y0 y1 y2 y3 y4 y5 => (Bool.rec (motive := fun _ => Bool) false (Bool.rec (motive := fun _ => Bool) false (Bool.rec (motive := fun _ => Bool) false (Bool.rec (motive := fun _ => Bool) false (Bool.rec (motive := fun _ => Bool) false (Nat.beq x5 y5) (sameBool x4 y4)) (Nat.beq x3 y3)) (Nat.beq x2 y2)) (Nat.beq x1 y1)) (Nat.beq x0 y0))) false (fun _ => false) (fun _ _ _ _ _ => false) false (fun _ _ _ => false) false (fun _ _ => false) (fun _ _ => false) (fun _ => false) false (fun _ _ _ _ => false) y)
    (fun y => AV.rec (motive := fun _ => Bool) false (fun _ => false) (fun _ _ => false) (fun _ => false) false (fun _ _ => false) false (fun _ _ _ _ _ _ => false) true (fun _ => false) (fun _ _ _ _ _ => false) false (fun _ _ _ => false) false (fun _ _ => false) (fun _ _ => false) (fun _ => false) false (fun _ _ _ _ => false) y)
    (fun x0 y => AV.rec (motive := fun _ => Bool) false (fun _ => false) (fun _ _ => false) (fun _ => false) false (fun _ _ => false) false (fun _ _ _ _ _ _ => false) false (fun y0 => (Nat.beq x0 y0)) (fun _ _ _ _ _ => false) false (fun _ _ _ => false) false (fun _ _ => false) (fun _ _ => false) (fun _ => false) false (fun _ _ _ _ => false) y)
    (fun x0 _ _ h1 h2 y => AV.rec (motive := fun _ => Bool) false (fun _ => false) (fun _ _ => false) (fun _ => false) false (fun _ _ => false) false (fun _ _ _ _ _ _ => false) false (fun _ => false) (fun y0 y1 y2 _ _ => (Bool.rec (motive := fun _ => Bool) false (Bool.rec (motive := fun _ => Bool) false (h2 y2) (h1 y1)) (sameFn x0 y0))) false (fun _ _ _ => false) false (fun _ _ => false) (fun _ _ => false) (fun _ => false) false (fun _ _ _ _ => false) y)
    (fun y => AV.rec (motive := fun _ => Bool) false (fun _ => false) (fun _ _ => false) (fun _ => false) false (fun _ _ => false) false (fun _ _ _ _ _ _ => false) false (fun _ => false) (fun _ _ _ _ _ => false) true (fun _ _ _ => false) false (fun _ _ => false) (fun _ _ => false) (fun _ => false) false (fun _ _ _ _ => false) y)
    (fun x0 _ h1 y => AV.rec (motive := fun _ => Bool) false (fun _ => false) (fun _ _ => false) (fun _ => false) false (fun _ _ => false) false (fun _ _ _ _ _ _ => false) false (fun _ => false) (fun _ _ _ _ _ => false) false (fun y0 y1 _ => (Bool.rec (motive := fun _ => Bool) false (h1 y1) (Nat.beq x0 y0))) false (fun _ _ => false) (fun _ _ => false) (fun _ => false) false (fun _ _ _ _ => false) y)
    (fun y => AV.rec (motive := fun _ => Bool) false (fun _ => false) (fun _ _ => false) (fun _ => false) false (fun _ _ => false) false (fun _ _ _ _ _ _ => false) false (fun _ => false) (fun _ _ _ _ _ => false) false (fun _ _ _ => false) true (fun _ _ => false) (fun _ _ => false) (fun _ => false) false (fun _ _ _ _ => false) y)
    (fun _ h0 y => AV.rec (motive := fun _ => Bool) false (fun _ => false) (fun _ _ => false) (fun _ => false) false (fun _ _ => false) false (fun _ _ _ _ _ _ => false) false (fun _ => false) (fun _ _ _ _ _ => false) false (fun _ _ _ => false) false (fun y0 _ => (h0 y0)) (fun _ _ => false) (fun _ => false) false (fun _ _ _ _ => false) y)
    (fun _ h0 y => AV.rec (motive := fun _ => Bool) false (fun _ => false) (fun _ _ => false) (fun _ => false) false (fun _ _ => false) false (fun _ _ _ _ _ _ => false) false (fun _ => false) (fun _ _ _ _ _ => false) false (fun _ _ _ => false) false (fun _ _ => false) (fun y0 _ => (h0 y0)) (fun _ => false) false (fun _ _ _ _ => false) y)
    (fun x0 y => AV.rec (motive := fun _ => Bool) false (fun _ => false) (fun _ _ => false) (fun _ => false) false (fun _ _ => false) false (fun _ _ _ _ _ _ => false) false (fun _ => false) (fun _ _ _ _ _ => false) false (fun _ _ _ => false) false (fun _ _ => false) (fun _ _ => false) (fun y0 => (Nat.beq x0 y0)) false (fun _ _ _ _ => false) y)
    (fun y => AV.rec (motive := fun _ => Bool) false (fun _ => false) (fun _ _ => false) (fun _ => false) false (fun _ _ => false) false (fun _ _ _ _ _ _ => false) false (fun _ => false) (fun _ _ _ _ _ => false) false (fun _ _ _ => false) false (fun _ _ => false) (fun _ _ => false) (fun _ => false) true (fun _ _ _ _ => false) y)
    (fun _ _ h0 h1 y => AV.rec (motive := fun _ => Bool) false (fun _ => false) (fun _ _ => false) (fun _ => false) false (fun _ _ => false) false (fun _ _ _ _ _ _ => false) false (fun _ => false) (fun _ _ _ _ _ => false) false (fun _ _ _ => false) false (fun _ _ => false) (fun _ _ => false) (fun _ => false) false (fun y0 y1 _ _ => (Bool.rec (motive := fun _ => Bool) false (h1 y1) (h0 y0))) y) x
/-- Two cells compared. -/
def AV.leafEq (x : AV) : AV → (Bool → Res) → Res :=
  AV.rec (motive := fun _ => AV → (Bool → Res) → Res) (fun  _ _ => .fail)
    (fun b y k => AV.rec (motive := fun _ => Res) .fail (fun c => k (sameBool b c)) (fun _ _ => .fail) (fun _ => .fail) .fail (fun _ _ => .fail) .fail (fun _ _ _ _ _ _ => .fail) .fail (fun _ => .fail) (fun _ _ _ _ _ => .fail) .fail (fun _ _ _ => .fail) .fail (fun _ _ => .fail) (fun _ _ => .fail) (fun _ => .fail) .fail (fun _ _ _ _ => .fail) y)
    (fun i n y k => AV.rec (motive := fun _ => Res) .fail (fun _ => .fail) (fun j m => Bool.rec (motive := fun _ => Res) .fail (k (ieq n m)) (sameKind i j)) (fun _ => .fail) .fail (fun _ _ => .fail) .fail (fun _ _ _ _ _ _ => .fail) .fail (fun _ => .fail) (fun _ _ _ _ _ => .fail) .fail (fun _ _ _ => .fail) .fail (fun _ _ => .fail) (fun _ _ => .fail) (fun _ => .fail) .fail (fun _ _ _ _ => .fail) y)
    (fun a y k => AV.rec (motive := fun _ => Res) .fail (fun _ => .fail) (fun _ _ => .fail) (fun b => k (BL.eq a b)) .fail (fun _ _ => .fail) .fail (fun _ _ _ _ _ _ => .fail) .fail (fun _ => .fail) (fun _ _ _ _ _ => .fail) .fail (fun _ _ _ => .fail) .fail (fun _ _ => .fail) (fun _ _ => .fail) (fun _ => .fail) .fail (fun _ _ _ _ => .fail) y)
    (fun y k => AV.rec (motive := fun _ => Res) .fail (fun _ => .fail) (fun _ _ => .fail) (fun _ => .fail) (k true) (fun _ _ => k false) .fail (fun _ _ _ _ _ _ => .fail) .fail (fun _ => .fail) (fun _ _ _ _ _ => .fail) .fail (fun _ _ _ => .fail) .fail (fun _ _ => .fail) (fun _ _ => .fail) (fun _ => .fail) .fail (fun _ _ _ _ => .fail) y)
    (fun i o y k => AV.rec (motive := fun _ => Res) .fail (fun _ => .fail) (fun _ _ => .fail) (fun _ => .fail) (k false) (fun j p => Bool.rec (motive := fun _ => Res) .fail (k (Nat.beq o p)) (Nat.beq i j)) .fail (fun _ _ _ _ _ _ => .fail) .fail (fun _ => .fail) (fun _ _ _ _ _ => .fail) .fail (fun _ _ _ => .fail) .fail (fun _ _ => .fail) (fun _ _ => .fail) (fun _ => .fail) .fail (fun _ _ _ _ => .fail) y)
    (fun y k => AV.rec (motive := fun _ => Res) .fail (fun _ => .fail) (fun _ _ => .fail) (fun _ => .fail) .fail (fun _ _ => .fail) (k true) (fun _ _ _ _ _ _ => k false) .fail (fun _ => .fail) (fun _ _ _ _ _ => .fail) .fail (fun _ _ _ => .fail) .fail (fun _ _ => .fail) (fun _ _ => .fail) (fun _ => .fail) .fail (fun _ _ _ _ => .fail) y)
    (fun _ _ _ _ _ _ y k => AV.rec (motive := fun _ => Res) .fail (fun _ => .fail) (fun _ _ => .fail) (fun _ => .fail) .fail (fun _ _ => .fail) (k false) (fun _ _ _ _ _ _ => .fail) .fail (fun _ => .fail) (fun _ _ _ _ _ => .fail) .fail (fun _ _ _ => .fail) .fail (fun _ _ => .fail) (fun _ _ => .fail) (fun _ => .fail) .fail (fun _ _ _ _ => .fail) y)
    (fun y k => AV.rec (motive := fun _ => Res) .fail (fun _ => .fail) (fun _ _ => .fail) (fun _ => .fail) .fail (fun _ _ => .fail) .fail (fun _ _ _ _ _ _ => .fail) (k true) (fun _ => k false) (fun _ _ _ _ _ => .fail) .fail (fun _ _ _ => .fail) .fail (fun _ _ => .fail) (fun _ _ => .fail) (fun _ => .fail) .fail (fun _ _ _ _ => .fail) y)
    (fun _ y k => AV.rec (motive := fun _ => Res) .fail (fun _ => .fail) (fun _ _ => .fail) (fun _ => .fail) .fail (fun _ _ => .fail) .fail (fun _ _ _ _ _ _ => .fail) (k false) (fun _ => .fail) (fun _ _ _ _ _ => .fail) .fail (fun _ _ _ => .fail) .fail (fun _ _ => .fail) (fun _ _ => .fail) (fun _ => .fail) .fail (fun _ _ _ _ => .fail) y)
    (fun _ _ _ _ _ y k => AV.rec (motive := fun _ => Res) .fail (fun _ => .fail) (fun _ _ => .fail) (fun _ => .fail) .fail (fun _ _ => .fail) .fail (fun _ _ _ _ _ _ => .fail) .fail (fun _ => .fail) (fun _ _ _ _ _ => .fail) (k false) (fun _ _ _ => .fail) .fail (fun _ _ => .fail) (fun _ _ => .fail) (fun _ => .fail) .fail (fun _ _ _ _ => .fail) y)
    (fun y k => AV.rec (motive := fun _ => Res) .fail (fun _ => .fail) (fun _ _ => .fail) (fun _ => .fail) .fail (fun _ _ => .fail) .fail (fun _ _ _ _ _ _ => .fail) .fail (fun _ => .fail) (fun _ _ _ _ _ => k false) (k true) (fun _ _ _ => .fail) .fail (fun _ _ => .fail) (fun _ _ => .fail) (fun _ => .fail) .fail (fun _ _ _ _ => .fail) y)
    (fun _ _ _ y k => AV.rec (motive := fun _ => Res) .fail (fun _ => .fail) (fun _ _ => .fail) (fun _ => .fail) .fail (fun _ _ => .fail) .fail (fun _ _ _ _ _ _ => .fail) .fail (fun _ => .fail) (fun _ _ _ _ _ => .fail) .fail (fun _ _ _ => .fail) .fail (fun _ _ => .fail) (fun _ _ => .fail) (fun _ => .fail) .fail (fun _ _ _ _ => .fail) y)
    (fun y k => AV.rec (motive := fun _ => Res) .fail (fun _ => .fail) (fun _ _ => .fail) (fun _ => .fail) .fail (fun _ _ => .fail) .fail (fun _ _ _ _ _ _ => .fail) .fail (fun _ => .fail) (fun _ _ _ _ _ => .fail) .fail (fun _ _ _ => .fail) .fail (fun _ _ => .fail) (fun _ _ => .fail) (fun _ => .fail) .fail (fun _ _ _ _ => .fail) y) (fun _ _ _ _ => .fail) (fun _ _ _ _ => .fail) (fun _ _ _ => .fail) (fun  _ _ => .fail) (fun _ _ _ _ _ _ => .fail) x
def AV.binK (v : AV) : (IntKind → Int → Res) → (BL → Res) → Res :=
  AV.rec (motive := fun _ => (IntKind → Int → Res) → (BL → Res) → Res) (fun _ _ => .fail) (fun _ _ _ => .fail) (fun i n x _ => x i n) (fun a _ y => y a) (fun _ _ => .fail) (fun _ _ _ _ => .fail) (fun _ _ => .fail) (fun _ _ _ _ _ _ _ _ => .fail) (fun _ _ => .fail) (fun _ _ _ => .fail) (fun _ _ _ _ _ _ _ => .fail) (fun _ _ => .fail) (fun _ _ _ _ _ => .fail) (fun _ _ => .fail) (fun _ _ _ _ => .fail) (fun _ _ _ _ => .fail) (fun _ _ _ => .fail) (fun _ _ => .fail) (fun _ _ _ _ _ _ => .fail) v
def AV.lenK (v : AV) : (Nat → Res) → (Nat → Res) → Res :=
  AV.rec (motive := fun _ => (Nat → Res) → (Nat → Res) → Res) (fun _ _ => .fail) (fun _ _ _ => .fail) (fun _ _ _ _ => .fail) (fun a x _ => x a.len) (fun _ _ => .fail) (fun _ _ _ _ => .fail) (fun x _ => x 0) (fun _ _ n _ _ _ x _ => x n) (fun x _ => x 0) (fun i _ y => y i) (fun _ _ _ _ _ _ _ => .fail) (fun _ _ => .fail) (fun _ _ _ _ _ => .fail) (fun _ _ => .fail) (fun _ _ _ _ => .fail) (fun _ _ _ _ => .fail) (fun _ _ _ => .fail) (fun _ _ => .fail) (fun _ _ _ _ _ _ => .fail) v
def AV.slLen (v : AV) : (Nat → Res) → Res :=
  AV.rec (motive := fun _ => (Nat → Res) → Res) (fun _ => .fail) (fun _ _ => .fail) (fun _ _ _ => .fail) (fun a x => x a.len) (fun _ => .fail) (fun _ _ _ => .fail) (fun x => x 0) (fun _ _ n _ _ _ x => x n) (fun _ => .fail) (fun _ _ => .fail) (fun _ _ _ _ _ _ => .fail) (fun _ => .fail) (fun _ _ _ _ => .fail) (fun _ => .fail) (fun _ _ _ => .fail) (fun _ _ _ => .fail) (fun _ _ => .fail) (fun _ => .fail) (fun _ _ _ _ _ => .fail) v
def AV.caseSl (v : AV) : Res → (Nat → Nat → Nat → Nat → Bool → Nat → Res) → Res :=
  AV.rec (motive := fun _ => Res → (Nat → Nat → Nat → Nat → Bool → Nat → Res) → Res) (fun _ _ => .fail) (fun _ _ _ => .fail) (fun _ _ _ _ => .fail) (fun _ _ _ => .fail) (fun _ _ => .fail) (fun _ _ _ _ => .fail) (fun x _ => x) (fun a b c d e f _ y => y a b c d e f) (fun _ _ => .fail) (fun _ _ _ => .fail) (fun _ _ _ _ _ _ _ => .fail) (fun _ _ => .fail) (fun _ _ _ _ _ => .fail) (fun _ _ => .fail) (fun _ _ _ _ => .fail) (fun _ _ _ _ => .fail) (fun _ _ _ => .fail) (fun _ _ => .fail) (fun _ _ _ _ _ _ => .fail) v
def AV.caseSlS (v : AV) : Res → (Nat → Nat → Nat → Nat → Bool → Nat → Res) → (BL → Res) → Res :=
  AV.rec (motive := fun _ => Res → (Nat → Nat → Nat → Nat → Bool → Nat → Res) → (BL → Res) → Res) (fun _ _ _ => .fail) (fun _ _ _ _ => .fail) (fun _ _ _ _ _ => .fail) (fun a _ _ z => z a) (fun _ _ _ => .fail) (fun _ _ _ _ _ => .fail) (fun x _ _ => x) (fun a b c d e f _ y _ => y a b c d e f) (fun _ _ _ => .fail) (fun _ _ _ _ => .fail) (fun _ _ _ _ _ _ _ _ => .fail) (fun _ _ _ => .fail) (fun _ _ _ _ _ _ => .fail) (fun _ _ _ => .fail) (fun _ _ _ _ _ => .fail) (fun _ _ _ _ _ => .fail) (fun _ _ _ _ => .fail) (fun _ _ _ => .fail) (fun _ _ _ _ _ _ _ => .fail) v
def AV.casePtr (v : AV) : Res → (Nat → Nat → Res) → Res :=
  AV.rec (motive := fun _ => Res → (Nat → Nat → Res) → Res) (fun _ _ => .fail) (fun _ _ _ => .fail) (fun _ _ _ _ => .fail) (fun _ _ _ => .fail) (fun x _ => x) (fun i o _ y => y i o) (fun _ _ => .fail) (fun _ _ _ _ _ _ _ _ => .fail) (fun _ _ => .fail) (fun _ _ _ => .fail) (fun _ _ _ _ _ _ _ => .fail) (fun _ _ => .fail) (fun _ _ _ _ _ => .fail) (fun _ _ => .fail) (fun _ _ _ _ => .fail) (fun _ _ _ _ => .fail) (fun _ _ _ => .fail) (fun _ _ => .fail) (fun _ _ _ _ _ _ => .fail) v
def AV.caseMap (v : AV) : Res → (Nat → Res) → Res :=
  AV.rec (motive := fun _ => Res → (Nat → Res) → Res) (fun _ _ => .fail) (fun _ _ _ => .fail) (fun _ _ _ _ => .fail) (fun _ _ _ => .fail) (fun _ _ => .fail) (fun _ _ _ _ => .fail) (fun _ _ => .fail) (fun _ _ _ _ _ _ _ _ => .fail) (fun x _ => x) (fun i _ y => y i) (fun _ _ _ _ _ _ _ => .fail) (fun _ _ => .fail) (fun _ _ _ _ _ => .fail) (fun _ _ => .fail) (fun _ _ _ _ => .fail) (fun _ _ _ _ => .fail) (fun _ _ _ => .fail) (fun _ _ => .fail) (fun _ _ _ _ _ _ => .fail) v
def AV.caseIfc (v : AV) : Res → (Nat → AV → Res) → Res :=
  AV.rec (motive := fun _ => Res → (Nat → AV → Res) → Res) (fun _ _ => .fail) (fun _ _ _ => .fail) (fun _ _ _ _ => .fail) (fun _ _ _ => .fail) (fun _ _ => .fail) (fun _ _ _ _ => .fail) (fun _ _ => .fail) (fun _ _ _ _ _ _ _ _ => .fail) (fun _ _ => .fail) (fun _ _ _ => .fail) (fun _ _ _ _ _ _ _ => .fail) (fun _ _ => .fail) (fun t u _ _ y => y t u) (fun x _ => x) (fun _ _ _ _ => .fail) (fun _ _ _ _ => .fail) (fun _ _ _ => .fail) (fun _ _ => .fail) (fun _ _ _ _ _ _ => .fail) v
def AV.cls (v : AV) : Nat :=
  AV.rec (motive := fun _ => Nat) 0 (fun _ => 1) (fun _ _ => 2) (fun _ => 3) (4) (fun _ _ => 4) (5) (fun _ _ _ _ _ _ => 5) (6) (fun _ => 6) (fun _ _ _ _ _ => 7) (7) (fun _ _ _ => 0) 0 (fun _ _ => 0) (fun _ _ => 0) (fun _ => 0) 0 (fun _ _ _ _ => 0) v
def AV.boolIs (v : AV) : Bool → Bool :=
  AV.rec (motive := fun _ => Bool → Bool) (fun _ => false) (fun b w => sameBool b w) (fun _ _ _ => false) (fun _ _ => false) (fun _ => false) (fun _ _ _ => false) (fun _ => false) (fun _ _ _ _ _ _ _ => false) (fun _ => false) (fun _ _ => false) (fun _ _ _ _ _ _ => false) (fun _ => false) (fun _ _ _ _ => false) (fun _ => false) (fun _ _ _ => false) (fun _ _ _ => false) (fun _ _ => false) (fun _ => false) (fun _ _ _ _ _ => false) v
def AV.known (v : AV) : Bool :=
  AV.rec (motive := fun _ => Bool) (false) (fun _ => true) (fun _ _ => true) (fun _ => true) true (fun _ _ => true) true (fun _ _ _ _ _ _ => true) true (fun _ => true) (fun _ _ _ _ _ => true) true (fun _ _ _ => true) true (fun _ _ => true) (fun _ _ => true) (fun _ => false) (false) (fun _ _ _ _ => false) v
def AV.handBack1 (v : AV) : AV → AV :=
  AV.rec (motive := fun _ => AV → AV) (fun _ => .top) (fun _ _ => .top) (fun _ _ _ => .top) (fun _ _ => .top) (fun _ => .top) (fun _ _ _ => .top) (fun _ => .top) (fun _ _ _ _ _ _ _ => .top) (fun _ => .top) (fun _ _ => .top) (fun _ _ _ _ _ _ => .top) (fun _ => .top) (fun _ _ _ _ => .top) (fun _ => .top) (fun _ _ _ => .top) (fun _ _ _ => .top) (fun _ _ => .top) (fun h => h) (fun a t _ _ h => .tup (.lcons h (.lcons a t))) v
def AV.handBack (v : AV) : AV :=
  AV.rec (motive := fun _ => AV) .top (fun _ => .top) (fun _ _ => .top) (fun _ => .top) .top (fun _ _ => .top) .top (fun _ _ _ _ _ _ => .top) .top (fun _ => .top) (fun _ _ _ _ _ => .top) .top (fun _ _ _ => .top) .top (fun _ _ => .top) (fun _ _ => .top) (fun _ => .top) (.tup .lnil) (fun h t _ _ => t.handBack1 h) v

/- ### Numbers -/
def guardK (b : Bool) (x : Res) : Res := Bool.rec (motive := fun _ => Res) .fail x b
def isub (m n : Nat) : Int := Bool.rec (.negSucc (Nat.sub (Nat.sub n m) 1)) (.ofNat (Nat.sub m n)) (Nat.ble n m)
def iadd (a : Int) : Int → Int := Int.rec (motive := fun _ => Int → Int)
  (fun m b => Int.rec (fun n => .ofNat (Nat.add m n)) (fun n => isub m (Nat.succ n)) b)
  (fun m b => Int.rec (fun n => isub n (Nat.succ m)) (fun n => .negSucc (Nat.succ (Nat.add m n))) b) a
def ineg (a : Int) : Int := Int.rec (fun m => Nat.rec (.ofNat 0) (fun m _ => .negSucc m) m) (fun m => .ofNat (Nat.succ m)) a
def imul (a : Int) : Int → Int := Int.rec (motive := fun _ => Int → Int)
  (fun m b => Int.rec (fun n => .ofNat (Nat.mul m n)) (fun n => ineg (.ofNat (Nat.mul m (Nat.succ n)))) b)
  (fun m b => Int.rec (fun n => ineg (.ofNat (Nat.mul (Nat.succ m) n))) (fun n => .ofNat (Nat.mul (Nat.succ m) (Nat.succ n))) b) a
def ilt (a : Int) : Int → Bool := Int.rec (motive := fun _ => Int → Bool)
  (fun m b => Int.rec (fun n => Nat.ble (Nat.succ m) n) (fun _ => false) b)
  (fun m b => Int.rec (fun _ => true) (fun n => Nat.ble (Nat.succ n) m) b) a
def bnot (b : Bool) : Bool := Bool.rec true false b
def halfK (k : IntKind) : Nat := IntKind.rec 128 32768 2147483648 9223372036854775808 128 32768 2147483648 9223372036854775808 k
def fullK (k : IntKind) : Nat := IntKind.rec 256 65536 4294967296 18446744073709551616 256 65536 4294967296 18446744073709551616 k
def bitsK (k : IntKind) : Nat := IntKind.rec 8 16 32 64 8 16 32 64 k
def wrapS (k : IntKind) (n : Int) : Int := Int.rec
  (fun m => Bool.rec (IntKind.wrap k (.ofNat m)) (.ofNat m) (Nat.ble (Nat.succ m) (halfK k)))
  (fun m => Bool.rec (IntKind.wrap k (.negSucc m)) (.negSucc m) (Nat.ble (Nat.succ m) (halfK k))) n
def wrapU (k : IntKind) (n : Int) : Int := Int.rec (fun m => .ofNat (Nat.mod m (fullK k))) (fun m => IntKind.wrap k (.negSucc m)) n
def wrapK (k : IntKind) : Int → Int := IntKind.rec (motive := fun _ => Int → Int) (wrapS .i8) (wrapS .i16) (wrapS .i32) (wrapS .i64) (wrapU .u8) (wrapU .u16) (wrapU .u32) (wrapU .u64) k
/-- A number as the bits of its kind. -/
def toBits (k : IntKind) (n : Int) : Nat := Int.rec (fun m => Nat.mod m (fullK k)) (fun m => Nat.sub (Nat.sub (fullK k) 1) (Nat.mod m (fullK k))) n
def shl (k : IntKind) (x : Int) (n : Nat) : Int := wrapK k (imul x (.ofNat (Nat.pow 2 n)))
def shr (x : Int) (n : Nat) : Int := Int.rec (fun m => .ofNat (Nat.div m (Nat.pow 2 n))) (fun m => .negSucc (Nat.div m (Nat.pow 2 n))) x
def nmin (a b : Nat) : Nat := Bool.rec b a (Nat.ble a b)
def shiftI (f : IntKind → Int → Nat → Int) (k : IntKind) (a b : Int) (c : AV → Res) : Res := Int.rec (fun m => c (.int k (f k a (nmin m (bitsK k))))) (fun _ => .fail) b
def quoI (k : IntKind) (a b : Int) (c : AV → Res) : Res := Bool.rec (c (.int k (wrapK k (Int.tdiv a b)))) .fail (ieq b (.ofNat 0))
def remI (k : IntKind) (a b : Int) (c : AV → Res) : Res := Bool.rec (c (.int k (Int.tmod a b))) .fail (ieq b (.ofNat 0))
/-- A binary operation on two numbers of one kind. -/
def binI (op : BinOp) : IntKind → Int → Int → (AV → Res) → Res := BinOp.rec (motive := fun _ => IntKind → Int → Int → (AV → Res) → Res)
  (fun k a b c => c (.int k (wrapK k (iadd a b)))) (fun k a b c => c (.int k (wrapK k (iadd a (ineg b))))) (fun k a b c => c (.int k (wrapK k (imul a b))))
  quoI remI
  (fun k a b c => c (.int k (wrapK k (.ofNat (Nat.land (toBits k a) (toBits k b))))))
  (fun k a b c => c (.int k (wrapK k (.ofNat (Nat.lor (toBits k a) (toBits k b))))))
  (fun k a b c => c (.int k (wrapK k (.ofNat (Nat.xor (toBits k a) (toBits k b))))))
  (shiftI shl) (shiftI (fun _ => shr))
  (fun k a b c => c (.int k (wrapK k (.ofNat (Nat.land (toBits k a) (Nat.sub (Nat.sub (fullK k) 1) (toBits k b)))))))
  (fun _ a b c => c (.bool (ieq a b))) (fun _ a b c => c (.bool (bnot (ieq a b)))) (fun _ a b c => c (.bool (ilt a b))) (fun _ a b c => c (.bool (bnot (ilt b a))))
  (fun _ a b c => c (.bool (ilt b a))) (fun _ a b c => c (.bool (bnot (ilt a b)))) op
def isShift (op : BinOp) : Bool := BinOp.rec false false false false false false false false true true false false false false false false false op

/- ### Strings -/
def BL.app (x : BL) : BL → BL := BL.rec (motive := fun _ => BL → BL) (fun y => y) (fun h _ ih y => .cons h (ih y)) x
def BL.nthK (x : BL) : Nat → (Nat → Res) → Res := BL.rec (motive := fun _ => Nat → (Nat → Res) → Res) (fun _ _ => .fail)
  (fun h _ ih n k => Nat.rec (motive := fun _ => Res) (k h) (fun m _ => ih m k) n) x
def BL.drop (x : BL) : Nat → BL := BL.rec (motive := fun _ => Nat → BL) (fun _ => .nil) (fun h t ih n => Nat.rec (motive := fun _ => BL) (.cons h t) (fun m _ => ih m) n) x
def BL.takeK (x : BL) : Nat → (BL → Res) → Res := BL.rec (motive := fun _ => Nat → (BL → Res) → Res) (fun _ k => k .nil)
  (fun h _ ih n k => Nat.rec (motive := fun _ => Res) (k .nil) (fun m _ => ih m fun l => k (.cons h l)) n) x
def BL.less (x : BL) : BL → Bool := BL.rec (motive := fun _ => BL → Bool) (fun y => BL.rec false (fun _ _ _ => true) y)
  (fun h _ ih y => BL.rec (motive := fun _ => Bool) false (fun g u _ => Bool.rec (motive := fun _ => Bool) (Bool.rec (motive := fun _ => Bool) false (ih u) (Nat.beq h g)) true (Nat.ble (Nat.succ h) g)) y) x
def BL.appK (x : BL) (y : BL) : (BL → Res) → Res := BL.rec (motive := fun _ => (BL → Res) → Res) (fun k => k y) (fun h _ ih k => ih fun l => k (.cons h l)) x
def binS (op : BinOp) : BL → BL → (AV → Res) → Res := BinOp.rec (motive := fun _ => BL → BL → (AV → Res) → Res)
  (fun a b c => guardK (Nat.ble (Nat.add a.len b.len) 9223372036854775807) (BL.appK a b fun l => c (.str l))) (fun _ _ _ => .fail) (fun _ _ _ => .fail) (fun _ _ _ => .fail) (fun _ _ _ => .fail) (fun _ _ _ => .fail) (fun _ _ _ => .fail) (fun _ _ _ => .fail)
  (fun _ _ _ => .fail) (fun _ _ _ => .fail) (fun _ _ _ => .fail)
  (fun a b c => c (.bool (BL.eq a b))) (fun a b c => c (.bool (bnot (BL.eq a b)))) (fun a b c => c (.bool (BL.less a b))) (fun a b c => c (.bool (bnot (BL.less b a))))
  (fun a b c => c (.bool (BL.less b a))) (fun a b c => c (.bool (bnot (BL.less a b)))) op
/-- The cells of a string's bytes. -/
def BL.cellsK (x : BL) : (AV → Res) → Res := BL.rec (motive := fun _ => (AV → Res) → Res) (fun k => k .lnil) (fun h _ ih k => ih fun l => k (.lcons (.int .u8 (.ofNat h)) l)) x

/- ### Operations, made ready to be run -/
inductive Src where
  | loc (p : P3)
  | val (v : AV)
inductive SL where
  | nil
  | cons (s : Src) (t : SL)
inductive OSrc where
  | none
  | some (s : Src)
/-- Parts of a value: at which cell, how many, what. -/
inductive PL where
  | nil
  | cons (off size : Nat) (s : Src) (t : PL)
/-- How two values are compared: cell by cell, or part by part. -/
inductive EqP where
  | leaf (n : Nat)
  | ifc (nn : Bool) (ok : Nat → Nat)
  | pnil
  | pcons (off n : Nat) (agg : Bool) (e t : EqP)
inductive COp where
  | bad
  | mv (x : Src)
  | pick (c a b : Src)
  | alloc (e : Nat) (z : AV)
  | box (e : Nat) (x : Src)
  | build (z : AV) (ps : PL)
  | bsl (e : Nat) (z : AV) (len : Nat) (ps : PL)
  | ld1 (x : Src)
  | ldn (n : Nat) (x : Src)
  | st (n : Nat) (x v : Src)
  | nilck (x : Src)
  | bin (op : BinOp) (x y : Src)
  | eq (neg : Bool) (p : EqP) (x y : Src)
  | eqp (neg : Bool) (x y : Src)
  | un (op : UnOp) (x : Src)
  | cvi (k : IntKind) (x : Src)
  | cvs (x : Src)
  | s2b (e : Nat) (x : Src)
  | b2s (x : Src)
  | cvp (ok : Nat → Nat → Nat → Bool) (x : Src)
  | mkifc (t : Nat) (x : Src)
  | mkfn (f : Fn) (a c : SL)
  | mkmap
  | mksl (e bytes : Nat) (z : AV) (l c : Src)
  | slstr (x : Src) (lo hi : OSrc)
  | slsl (size : Nat) (x : Src) (lo hi mx : OSrc)
  | faddr (off : Nat) (x : Src)
  | fld (agg : Bool) (off n : Nat) (x : Src)
  | ixsl (size : Nat) (x i : Src)
  | ixarr (n size : Nat) (x i : Src)
  | ixstr (x i : Src)
  | lookup (p : Nat) (z : AV) (ok : Bool) (m k : Src)
  | mapset (p : Nat) (m k v : Src)
  | rngs (x : Src)
  | rngm (x : Src)
  | next (str : Bool) (x : Src)
  | entry (x : Src)
  | tassert (t : Nat) (z : AV) (ok : Bool) (x : Src)
  | iassert (z : AV) (ok : Bool) (x : Src)
  | extract (i : Nat) (x : Src)
  | lens (x : Src)
  | lenl (x : Src)
  | lenm (x : Src)
  | append (e size : Nat) (s x : Src)
  | cap (x : Src)
  | copy (size : Nat) (d s : Src)
  | clear (z : AV) (x : Src)
  | minmax (mx : Bool) (x y : Src)
  | mms (mx : Bool) (x y : Src)
  | delete (p : Nat) (m k : Src)
  | sdata (x : Src)
  | ustr (e : Nat) (x n : Src)
  | callf (g : Nat) (args : SL)
  | callv (f : Src) (args : SL)
inductive Dst where
  | none
  | slot (p : P3)
/-- What must hold ahead of an operation: the answer in a slot. -/
inductive Grd where
  | none
  | on (p : P3) (want : Bool)
/-- An operation of a region. `i`: its number, `before`: those that must be done ahead of it (bits), `kind`: 0 it looks at no memory, 1 it reads, 2 it makes an object, 3 anything. -/
inductive CO where
  | mk (dst : Dst) (g : Grd) (op : COp) (i before kind : Nat)
  | dfr (dst : Dst) (g : Grd) (f : Src) (args : SL)
inductive OL where
  | nil
  | cons (o : CO) (t : OL)
inductive RegC where
  | bad
  | line (l : OL)
  | drawn (l : OL)
  | pair (l : OL) (m : Nat) (x v : Src) (m' : Nat) (x' v' : Src)
inductive RL where
  | nil
  | tmp (p : P3) (t : RL)
  | cell (p : P3) (agg : Bool) (n : Nat) (t : RL)
/-- A function made ready: `flag` 1, 2: over what it does in any order of a map its outcomes are joined. `ext`: one that is not walked; `hush`: one that does nothing where it is deferred. -/
inductive FnC where
  | bad
  | go (body : Code) (res : RL) (nt flag : Nat)
  | ext (run : AV → St → (AV → St → Res) → Res)
  | hush
structure Env where mk ::
  (reg : Array Oper → Bool → Nat → RegC) (fn : Nat → FnC)

/- ### Running -/
def Src.ev (s : Src) : NC → AV := Src.rec (motive := fun _ => NC → AV) (fun p f => NC.get p f) (fun v _ => v) s
def SL.evK (l : SL) : NC → (AV → Res) → Res := SL.rec (motive := fun _ => NC → (AV → Res) → Res) (fun _ k => k .lnil) (fun s _ ih f k => ih f fun l => k (.lcons (Src.ev s f) l)) l
abbrev Run := NC → St → (AV → St → Res) → Res
def St.get (s : St) (id : Nat) : Obj := HE.get (hpath id) s.heap
def mdLog (id : Nat) (m : Md) : Md := Md.rec .off (fun b l j => .on b (.cons id l) j) m
def St.setK (id : Nat) (o : Obj) (s : St) (k : St → Res) : Res := St.rec (motive := fun _ => Res) (fun h n m => HE.setK (hpath id) o h fun h' => k ⟨h', n, mdLog id m⟩) s
def St.newK (o : Obj) (s : St) (k : Nat → St → Res) : Res := St.rec (motive := fun _ => Res)
  (fun h n m => guardK (Nat.ble (Nat.succ n) 262144) (HE.setK (hpath n) o h fun h' => k n ⟨h', Nat.succ n, mdLog n m⟩)) s
def Obj.asRow (o : Obj) : (Nat → AV → Nat → Nat → Bool → Bool → Res) → Res := Obj.rec (motive := fun _ => (Nat → AV → Nat → Nat → Bool → Bool → Res) → Res) (fun _ => .fail) (fun e c n z r b k => k e c n z r b) (fun _ _ _ => .fail) (fun _ _ _ => .fail) (fun _ _ _ _ _ => .fail) (fun _ => .fail) (fun _ _ _ _ _ _ _ _ => .fail) (fun _ => .fail) o
def Obj.asMap (o : Obj) : (ML → Nat → Res) → Res := Obj.rec (motive := fun _ => (ML → Nat → Res) → Res) (fun _ => .fail) (fun _ _ _ _ _ _ _ => .fail) (fun e c k => k e c) (fun _ _ _ => .fail) (fun _ _ _ _ _ => .fail) (fun _ => .fail) (fun _ _ _ _ _ _ _ _ => .fail) (fun _ => .fail) o
def Obj.asIter (o : Obj) : (BL → Nat → Res) → Res := Obj.rec (motive := fun _ => (BL → Nat → Res) → Res) (fun _ => .fail) (fun _ _ _ _ _ _ _ => .fail) (fun _ _ _ => .fail) (fun a n k => k a n) (fun _ _ _ _ _ => .fail) (fun _ => .fail) (fun _ _ _ _ _ _ _ _ => .fail) (fun _ => .fail) o
def Obj.asMiter (o : Obj) : Res → (Nat → Nat → NL → Nat → Res) → Res := Obj.rec (motive := fun _ => Res → (Nat → Nat → NL → Nat → Res) → Res) (fun _ _ => .fail) (fun _ _ _ _ _ _ _ _ => .fail) (fun _ _ _ _ => .fail) (fun _ _ _ _ => .fail) (fun a b c d _ k => k a b c d) (fun z _ => z) (fun _ _ _ _ _ _ _ _ _ => .fail) (fun _ _ => .fail) o
def Obj.asLoop (o : Obj) : (Bool → OC → NC → Nat → NL → Code → Code → Res) → Res := Obj.rec (motive := fun _ => (Bool → OC → NC → Nat → NL → Code → Code → Res) → Res) (fun _ => .fail) (fun _ _ _ _ _ _ _ => .fail) (fun _ _ _ => .fail) (fun _ _ _ => .fail) (fun _ _ _ _ _ => .fail) (fun _ => .fail) (fun a b c d e f g k => k a b c d e f g) (fun _ => .fail) o
def Obj.isDfr (o : Obj) : Bool := Obj.rec (motive := fun _ => Bool) false (fun _ _ _ _ _ _ => false) (fun _ _ => false) (fun _ _ => false) (fun _ _ _ _ => false) false (fun _ _ _ _ _ _ _ => false) (true) o
def ite (b : Bool) (x y : Res) : Res := Bool.rec (motive := fun _ => Res) y x b

def oMv (x : Src) : Run := fun f s k => k (x.ev f) s
def oPick (c a b : Src) : Run := fun f s k => (c.ev f).asBool fun t => k (Bool.rec (motive := fun _ => AV) (b.ev f) (a.ev f) t) s
def oAlloc (e : Nat) (z : AV) : Run := fun _ s k => s.newK (.row e z z.len 0 false true) fun id s' => k (.ptr id 0) s'
def oBox (e : Nat) (x : Src) : Run := fun f s k => (x.ev f).cellsK fun c => s.newK (.row e c c.len 0 false true) fun id s' => k (.ptr id 0) s'
/-- The parts of a value laid over cells. -/
def PL.layK (l : PL) : NC → AV → (AV → Res) → Res := PL.rec (motive := fun _ => NC → AV → (AV → Res) → Res) (fun _ z k => k z)
  (fun off size x _ ih f z k => (x.ev f).cellsK fun c => guardK (Nat.beq c.len size) (z.layK off c fun z' => ih f z' k)) l
def oBuild (z : AV) (ps : PL) : Run := fun f s k => ps.layK f z fun c => k (.agg c) s
/-- n times the cells z. -/
def AV.times (z : AV) (n : Nat) : AV := Nat.rec .lnil (fun _ ih => z.app ih) n
def oBsl (e : Nat) (z : AV) (len : Nat) (ps : PL) : Run := fun f s k => ps.layK f (z.times len) fun c => s.newK (.row e c c.len 0 false true) fun id s' => k (.sl id 0 len len true z.len) s'
def oLd1 (x : Src) : Run := fun f s k => (x.ev f).asPtr fun id off => (s.get id).asRow fun _ c n _ _ _ => guardK (Nat.ble (Nat.succ off) n) (c.nthK off fun v => k v s)
def oLdn (m : Nat) (x : Src) : Run := fun f s k => (x.ev f).asPtr fun id off => (s.get id).asRow fun _ c n _ _ _ => guardK (Nat.ble (Nat.add off m) n) (c.dropK off fun d => d.takeK m fun l => k (.agg l) s)
/-- Some cells of an object written over. -/
def St.layK (s : St) (id off : Nat) (y : AV) (k : St → Res) : Res := (s.get id).asRow fun e c n z r b =>
  Bool.rec (motive := fun _ => Res) (guardK (Nat.ble z off) (guardK (Nat.ble (Nat.add off y.len) n) (c.layK off y fun c' => s.setK id (.row e c' n z r b) k))) .fail r
def oSt (m : Nat) (x v : Src) : Run := fun f s k => (x.ev f).asPtr fun id off => (v.ev f).cellsK fun c => guardK (Nat.beq c.len m) (s.layK id off c fun s' => k .top s')
def oNilck (x : Src) : Run := fun f s k => (x.ev f).notNilK fun v => k v s
def oBin (op : BinOp) (x y : Src) : Run := fun f s k => (x.ev f).binK
  (fun i a => (y.ev f).asInt fun j b => guardK (Bool.rec (motive := fun _ => Bool) (sameKind i j) true (isShift op)) (binI op i a b fun v => k v s))
  (fun a => (y.ev f).asStr fun b => binS op a b fun v => k v s)
/-- A part of a value's cells, as a value. -/
def partK (agg : Bool) (off n : Nat) (c : AV) (k : AV → Res) : Res := Bool.rec (motive := fun _ => Res) (c.nthK off k) (c.dropK off fun d => d.takeK n fun l => k (.agg l)) agg
/-- Two values of one type compared; n: 1 the type is a boolean's, 2 an integer's, 3 a string's, 4 a pointer's, 5 a slice's, 6 a map's, 7 a function's. -/
def basicEq (n : Nat) (x y : AV) (k : Bool → Res) : Res := guardK (Nat.beq n x.cls) (x.leafEq y k)
/-- Two interfaces compared. -/
def AV.ifcEq (x y : AV) (nn : Bool) (ok : Nat → Nat) (k : Bool → Res) : Res := x.caseIfc (y.caseIfc (guardK nn (k true)) fun _ _ => k false) fun t u => y.caseIfc (k false) fun t' u' => Bool.rec (motive := fun _ => Res) (k false) (basicEq (ok t) u u' k) (Nat.beq t t')
/-- Two values compared by a plan. -/
def EqP.runK (p : EqP) : AV → AV → (Bool → Res) → Res := EqP.rec (motive := fun _ => AV → AV → (Bool → Res) → Res)
  (fun n x y k => basicEq n x y k) (fun nn ok x y k => x.ifcEq y nn ok k) (fun _ _ k => k true)
  (fun off n agg _ _ e t x y k => x.asAgg fun a => y.asAgg fun b => partK agg off n a fun u => partK agg off n b fun v => e u v fun r => Bool.rec (motive := fun _ => Res) (k false) (t x y k) r) p
def oEq (neg : Bool) (p : EqP) (x y : Src) : Run := fun f s k => p.runK (x.ev f) (y.ev f) fun b => k (.bool (Bool.rec (motive := fun _ => Bool) b (bnot b) neg)) s
/-- A row that begins where its block begins, with nothing frozen. -/
def plainRow (s : St) (id : Nat) (k : Res) : Res := (s.get id).asRow fun _ _ _ z r b => guardK b (guardK (Nat.beq z 0) (guardK (bnot r) k))
def oEqp (neg : Bool) (x y : Src) : Run := fun f s k => (x.ev f).casePtr ((y.ev f).casePtr (k (.bool (bnot neg)) s) fun _ _ => k (.bool neg) s)
  fun i o => (y.ev f).casePtr (k (.bool neg) s) fun j p => Bool.rec (motive := fun _ => Res) (plainRow s i (plainRow s j (k (.bool neg) s))) (k (.bool (Bool.rec (motive := fun _ => Bool) (Nat.beq o p) (bnot (Nat.beq o p)) neg)) s) (Nat.beq i j)
def unI (op : UnOp) : IntKind → Int → (AV → Res) → Res := UnOp.rec (motive := fun _ => IntKind → Int → (AV → Res) → Res)
  (fun k a c => c (.int k (wrapK k (ineg a)))) (fun k a c => c (.int k (wrapK k (.ofNat (Nat.sub (Nat.sub (fullK k) 1) (toBits k a)))))) (fun _ _ _ => .fail) (fun _ _ _ => .fail) op
def isNot (op : UnOp) : Bool := UnOp.rec false false true false op
def oUn (op : UnOp) (x : Src) : Run := fun f s k => Bool.rec (motive := fun _ => Res) ((x.ev f).asInt fun i a => unI op i a fun v => k v s) ((x.ev f).asBool fun b => k (.bool (bnot b)) s) (isNot op)
def oCvi (d : IntKind) (x : Src) : Run := fun f s k => (x.ev f).asInt fun _ a => k (.int d (wrapK d a)) s
def oCvs (x : Src) : Run := fun f s k => (x.ev f).asStr fun a => k (.str a) s
def oS2b (e : Nat) (x : Src) : Run := fun f s k => (x.ev f).asStr fun a => a.cellsK fun c => s.newK (.row e c c.len 0 false false) fun id s' => k (.sl id 0 c.len c.len false 1) s'
/-- The bytes that some cells hold. -/
def AV.bytesK (v : AV) : (BL → Res) → Res := AV.rec (motive := fun _ => (BL → Res) → Res) (fun _ => .fail) (fun _ _ => .fail) (fun _ _ _ => .fail) (fun _ _ => .fail) (fun _ => .fail) (fun _ _ _ => .fail) (fun _ => .fail) (fun _ _ _ _ _ _ _ => .fail) (fun _ => .fail) (fun _ _ => .fail) (fun _ _ _ _ _ _ => .fail) (fun _ => .fail) (fun _ _ _ _ => .fail) (fun _ => .fail) (fun _ _ _ => .fail) (fun _ _ _ => .fail) (fun _ _ => .fail)
  (fun k => k .nil) (fun h _ _ ih k => h.asInt fun i n => guardK (sameKind i .u8) (Int.rec (motive := fun _ => Res) (fun m => guardK (Nat.ble m 255) (ih fun l => k (.cons m l))) (fun _ => .fail) n)) v
/-- The cells of n elements of a slice. -/
def sliceCells (v : AV) (size n : Nat) (s : St) (k : AV → Res) : Res := v.caseSl (guardK (Nat.beq n 0) (k .lnil))
  fun id off len _ _ _ => guardK (Nat.ble n len) ((s.get id).asRow fun _ c m _ _ _ => guardK (Nat.ble (Nat.add off (Nat.mul n size)) m) (c.dropK off fun d => d.takeK (Nat.mul n size) k))
def oB2s (x : Src) : Run := fun f s k => (x.ev f).slLen fun n => sliceCells (x.ev f) 1 n s fun c => c.bytesK fun b => k (.str b) s
/-- A conversion of a pointer to or from unsafe.Pointer; `ok e n off`: does a variable of the asked type lie at `off` of a block of n cells of type e? -/
def oCvp (ok : Nat → Nat → Nat → Bool) (x : Src) : Run := fun f s k => (x.ev f).asPtr fun id off => (s.get id).asRow fun e _ n _ _ b0 => guardK (Nat.ble (Nat.succ off) n) (guardK b0 (guardK (ok e n off) (k (.ptr id off) s)))
def oMkifc (t : Nat) (x : Src) : Run := fun f s k => k (.ifc t (x.ev f)) s
def oMkfn (g : Fn) (a c : SL) : Run := fun f s k => a.evK f fun x => c.evK f fun y => k (.fn g x y) s
def oMkmap : Run := fun _ s k => s.newK (.map .nil 0) fun id s' => k (.map id) s'
def intNat (v : AV) (k : Nat → Res) : Res := v.asInt fun _ n => Int.rec (motive := fun _ => Res) k (fun _ => .fail) n
def oMksl (e bytes : Nat) (z : AV) (l c : Src) : Run := fun f s k => intNat (l.ev f) fun l => intNat (c.ev f) fun c => guardK (Nat.ble l c) (guardK (Nat.ble (Nat.mul bytes c) 281474976710656) (guardK (Nat.ble c 16777216)
  (s.newK (.row e (z.times c) (z.times c).len 0 false true) fun id s' => k (.sl id 0 l c true z.len) s')))
def OSrc.natK (o : OSrc) (d : Nat) (f : NC) (k : Nat → Res) : Res := OSrc.rec (motive := fun _ => Res) (k d) (fun x => intNat (x.ev f) k) o
def OSrc.isSome (o : OSrc) : Bool := OSrc.rec false (fun _ => true) o
def oSlstr (x : Src) (lo hi : OSrc) : Run := fun f s k => (x.ev f).asStr fun a => hi.natK a.len f fun h => guardK (Nat.ble h a.len) (lo.natK 0 f fun l => guardK (Nat.ble l h) ((a.drop l).takeK (Nat.sub h l) fun r => k (.str r) s))
def oSlsl (size : Nat) (x : Src) (lo hi mx : OSrc) : Run := fun f s k => (x.ev f).caseSl
  (mx.natK 0 f fun m => guardK (Nat.beq m 0) (hi.natK 0 f fun h => guardK (Nat.beq h 0) (lo.natK 0 f fun l => guardK (Nat.beq l 0) (k .nils s))))
  (fun id off len cap ex z => guardK (Nat.beq z size) (mx.natK cap f fun m => guardK (Nat.ble m cap) (hi.natK len f fun h => guardK (Nat.ble h m) (lo.natK 0 f fun l => guardK (Nat.ble l h)
    (k (.sl id (Nat.add off (Nat.mul l size)) (Nat.sub h l) (Nat.sub m l) (Bool.rec (motive := fun _ => Bool) ex true mx.isSome) size) s)))))
def oFaddr (off : Nat) (x : Src) : Run := fun f s k => (x.ev f).asPtr fun id o => k (.ptr id (Nat.add o off)) s
def oFld (agg : Bool) (off n : Nat) (x : Src) : Run := fun f s k => (x.ev f).asAgg fun c => partK agg off n c fun v => k v s
def oIxsl (size : Nat) (x i : Src) : Run := fun f s k => (x.ev f).asSl fun id off len _ _ _ => intNat (i.ev f) fun n => guardK (Nat.ble (Nat.succ n) len) (k (.ptr id (Nat.add off (Nat.mul n size))) s)
def oIxarr (m size : Nat) (x i : Src) : Run := fun f s k => (x.ev f).asPtr fun id off => intNat (i.ev f) fun n => guardK (Nat.ble (Nat.succ n) m) (k (.ptr id (Nat.add off (Nat.mul n size))) s)
def oIxstr (x i : Src) : Run := fun f s k => (x.ev f).asStr fun a => intNat (i.ev f) fun n => a.nthK n fun b => k (.int .u8 (.ofNat b)) s
/-- What a map has at a key. -/
def ML.findK (es : ML) (p : Nat) (key : AV) : Res → (Nat → AV → Res) → Res := ML.rec (motive := fun _ => Res → (Nat → AV → Res) → Res) (fun z _ => z)
  (fun c v b _ ih z k => basicEq p key c fun r => Bool.rec (motive := fun _ => Res) (ih z k) (k b v) r) es
def mapOf (v : AV) (s : St) (k : ML → Res) : Res := v.caseMap (k .nil) fun id => (s.get id).asMap fun es _ => k es
def oLookup (p : Nat) (z : AV) (ok : Bool) (m key : Src) : Run := fun f s k => mapOf (m.ev f) s fun es => es.findK p (key.ev f)
  (k (Bool.rec (motive := fun _ => AV) z (.tup (.lcons z (.lcons (.bool false) .lnil))) ok) s)
  (fun _ v => k (Bool.rec (motive := fun _ => AV) v (.tup (.lcons v (.lcons (.bool true) .lnil))) ok) s)
/-- A map with another value at a key that it has, or with one entry more. -/
def ML.putK (es : ML) (p : Nat) (key val : AV) (clock : Nat) : (ML → Nat → Res) → Res := ML.rec (motive := fun _ => (ML → Nat → Res) → Res)
  (fun k => k (.cons key val clock .nil) (Nat.succ clock))
  (fun c v b t ih k => basicEq p key c fun r => Bool.rec (motive := fun _ => Res) (ih fun t' n => k (.cons c v b t') n) (k (.cons key val b t) clock) r) es
def oMapset (p : Nat) (m key v : Src) : Run := fun f s k => (m.ev f).asMap fun id => (s.get id).asMap fun es n => es.putK p (key.ev f) (v.ev f) n fun es' n' => s.setK id (.map es' n') fun s' => k .top s'
def ML.dropK (es : ML) (p : Nat) (key : AV) : (ML → Res) → Res := ML.rec (motive := fun _ => (ML → Res) → Res) (fun k => k .nil)
  (fun c v b t ih k => basicEq p key c fun r => Bool.rec (motive := fun _ => Res) (ih fun t' => k (.cons c v b t')) (k t) r) es
def oDelete (p : Nat) (m key : Src) : Run := fun f s k => (m.ev f).asMap fun id => (s.get id).asMap fun es n => es.dropK p (key.ev f) fun es' => s.setK id (.map es' n) fun s' => k (.tup .lnil) s'
def oRngs (x : Src) : Run := fun f s k => (x.ev f).asStr fun a => s.newK (.siter a 0) fun id s' => k (.ptr id 0) s'
def oRngm (x : Src) : Run := fun f s k => (x.ev f).caseMap (s.newK .mnil fun id s' => k (.ptr id 0) s') fun m => (s.get m).asMap fun _ n => s.newK (.miter m n .nil n) fun id s' => k (.ptr id 0) s'
def NL.has (l : NL) (n : Nat) : Bool := NL.rec false (fun m _ ih => Bool.rec (motive := fun _ => Bool) ih true (Nat.beq m n)) l
def Res.app (x y : Res) : Res := Res.rec .fail y (fun e f s _ ih => .ok e f s ih) x
/-- How many entries were not met yet; all of them older than `since`. -/
def ML.left (es : ML) (seen : NL) : Nat := ML.rec 0 (fun _ _ b _ ih => Bool.rec (motive := fun _ => Nat) (Nat.succ ih) ih (seen.has b)) es
def ML.older (es : ML) (since : Nat) : Bool := ML.rec true (fun _ _ b _ ih => Bool.rec (motive := fun _ => Bool) false ih (Nat.ble (Nat.succ b) since)) es
def ML.each (es : ML) (seen : NL) (k : Nat → AV → AV → Res) : Res := ML.rec .nil (fun c v b _ ih => Bool.rec (motive := fun _ => Res) ((k b c v).app ih) ih (seen.has b)) es
def Md.isOn (m : Md) : Bool := Md.rec false (fun _ _ _ => true) m
def tup1 : AV := .tup (.lcons (.bool false) .lnil)
def nextM (id m since : Nat) (seen : NL) (last : Nat) (s : St) (k : AV → St → Res) : Res := (s.get m).asMap fun es n => guardK (Nat.beq n since) (guardK (Nat.beq last since) (guardK (es.older since)
  (Nat.rec (motive := fun _ => Res) (k tup1 s)
    (fun more _ => guardK (Nat.rec (motive := fun _ => Bool) true (fun _ _ => s.md.isOn) more)
      (es.each seen fun b c v => s.setK id (.miter m since (.cons b seen) n) fun s' => k (.tup (.lcons (.bool true) (.lcons c (.lcons v .lnil)))) s')) (es.left seen))))
def nextS (id : Nat) (a : BL) (pos : Nat) (s : St) (k : AV → St → Res) : Res := Bool.rec (motive := fun _ => Res) (k tup1 s)
  (a.nthK pos fun c => guardK (Nat.ble c 127) (s.setK id (.siter a (Nat.succ pos)) fun s' => k (.tup (.lcons (.bool true) (.lcons (.int .i64 (.ofNat pos)) (.lcons (.int .i32 (.ofNat c)) .lnil)))) s')) (Nat.ble (Nat.succ pos) a.len)
def oNext (str : Bool) (x : Src) : Run := fun f s k => (x.ev f).asPtr fun id off => guardK (Nat.beq off 0) (Bool.rec (motive := fun _ => Res)
  ((s.get id).asMiter (k tup1 s) fun m since seen last => nextM id m since seen last s k)
  ((s.get id).asIter fun a p => nextS id a p s k) str)
def ML.atK (es : ML) (n : Nat) (k : AV → AV → Res) : Res := ML.rec .fail (fun c v b _ ih => Bool.rec (motive := fun _ => Res) ih (k c v) (Nat.beq b n)) es
def oEntry (x : Src) : Run := fun f s k => (x.ev f).asPtr fun id off => guardK (Nat.beq off 0) ((s.get id).asMiter .fail fun m _ seen last =>
  NL.rec (motive := fun _ => Res) .fail (fun b _ _ => (s.get m).asMap fun es n => guardK (Nat.beq n last) (es.atK b fun c v => k (.tup (.lcons c (.lcons v .lnil))) s)) seen)
def failed (z : AV) (ok : Bool) (k : AV → Res) : Res := Bool.rec (motive := fun _ => Res) .fail (k (.tup (.lcons z (.lcons (.bool false) .lnil)))) ok
def held (v : AV) (ok : Bool) (k : AV → Res) : Res := Bool.rec (motive := fun _ => Res) (k v) (k (.tup (.lcons v (.lcons (.bool true) .lnil)))) ok
def oTassert (t : Nat) (z : AV) (ok : Bool) (x : Src) : Run := fun f s k => (x.ev f).caseIfc (failed z ok fun v => k v s) fun u v => Bool.rec (motive := fun _ => Res) (failed z ok fun v => k v s) (held v ok fun v => k v s) (Nat.beq u t)
def oIassert (z : AV) (ok : Bool) (x : Src) : Run := fun f s k => (x.ev f).caseIfc (failed z ok fun v => k v s) fun _ _ => .fail
def oExtract (i : Nat) (x : Src) : Run := fun f s k => (x.ev f).asTup fun l => l.nthK i fun v => k v s
def ML.len (es : ML) : Nat := ML.rec 0 (fun _ _ _ _ ih => Nat.succ ih) es
def oLens (x : Src) : Run := fun f s k => (x.ev f).asStr fun a => k (.int .i64 (.ofNat a.len)) s
def oLenl (x : Src) : Run := fun f s k => (x.ev f).caseSl (k (.int .i64 (.ofNat 0)) s) fun _ _ n _ _ _ => k (.int .i64 (.ofNat n)) s
def oLenm (x : Src) : Run := fun f s k => (x.ev f).caseMap (k (.int .i64 (.ofNat 0)) s) fun id => (s.get id).asMap fun es _ => k (.int .i64 (.ofNat es.len)) s
def oCap (x : Src) : Run := fun f s k => (x.ev f).caseSl (k (.int .i64 (.ofNat 0)) s) fun _ _ _ cap ex _ => guardK ex (k (.int .i64 (.ofNat cap)) s)
/-- The cells that are appended. -/
def addedK (v : AV) (size n : Nat) (s : St) (k : AV → Res) : Res := v.caseSlS (k .lnil) (fun id off len c e z => sliceCells (.sl id off len c e z) size n s k)
  fun a => guardK (Nat.beq size 1) (guardK (Nat.beq n a.len) (a.cellsK k))
/-- Behind an append that may have grown in place or not: the elder row is given up. -/
def appGrow (e size id off len : Nat) (new : AV) (n : Nat) (s : St) (k : AV → St → Res) : Res := (s.get id).asRow fun e' c m z r b => guardK (Nat.beq e e') (Bool.rec (motive := fun _ => Res)
  (guardK (Nat.ble z (Nat.add off (Nat.mul len size))) (sliceCells (.sl id off len len false size) size len s fun old => s.setK id .dead fun s1 => s1.newK (.row e (old.app new) (old.app new).len (Nat.sub z off) false (Bool.rec (motive := fun _ => Bool) false b (Nat.beq off 0))) fun id' s2 => k (.sl id' 0 (Nat.add len n) (Nat.add len n) false size) s2)) .fail r)
def oAppend (e size : Nat) (x y : Src) : Run := fun f s k => (y.ev f).slLen fun n => addedK (y.ev f) size n s fun new => (x.ev f).caseSl
  (guardK (Nat.ble n 16777216) (Nat.rec (motive := fun _ => Res) (k .nils s) (fun _ _ => s.newK (.row e new new.len 0 false true) fun id s' => k (.sl id 0 n n false size) s') n))
  (fun id off len cap ex z => guardK (Nat.beq z size) (Bool.rec (motive := fun _ => Res)
    (guardK (Nat.ble (Nat.add len n) 16777216) (Bool.rec (motive := fun _ => Res) (appGrow e size id off len new n s k)
      (sliceCells (.sl id off len cap ex z) size len s fun old => s.newK (.row e (old.app new) (old.app new).len 0 false true) fun id' s' => k (.sl id' 0 (Nat.add len n) (Nat.add len n) false size) s') ex))
    (s.layK id (Nat.add off (Nat.mul len size)) new fun s' => k (.sl id off (Nat.add len n) cap ex size) s')
    (Nat.ble (Nat.add len n) cap)))
def oCopy (size : Nat) (d x : Src) : Run := fun f s k => (x.ev f).slLen fun a => (d.ev f).slLen fun b => addedK (x.ev f) size (nmin a b) s fun c => (d.ev f).caseSl
  (k (.int .i64 (.ofNat (nmin a b))) s) (fun id off _ _ _ z => guardK (Nat.beq z size) (s.layK id off c fun s' => k (.int .i64 (.ofNat (nmin a b))) s'))
def oClear (z : AV) (x : Src) : Run := fun f s k => (x.ev f).caseSl (k (.tup .lnil) s) fun id off len _ _ size => guardK (Nat.beq z.len size) (s.layK id off (z.times len) fun s' => k (.tup .lnil) s')
def oMinmax (mx : Bool) (x y : Src) : Run := fun f s k => (x.ev f).asInt fun i a => (y.ev f).asInt fun _ b => k (.int i (Bool.rec (motive := fun _ => Int) a b (Bool.rec (motive := fun _ => Bool) (ilt b a) (ilt a b) mx))) s
def oMms (mx : Bool) (x y : Src) : Run := fun f s k => (x.ev f).asStr fun a => (y.ev f).asStr fun b => k (.str (Bool.rec (motive := fun _ => BL) (Bool.rec (motive := fun _ => BL) a b (BL.less b a)) (Bool.rec (motive := fun _ => BL) a b (BL.less a b)) mx)) s
def oRecover : Run := fun _ s k => k .nili s
def oSdata (x : Src) : Run := fun f s k => (x.ev f).caseSl (k .nilp s) fun id off _ cap _ _ => guardK (Nat.ble 1 cap) (k (.ptr id off) s)
def nmax (a b : Nat) : Nat := Bool.rec a b (Nat.ble a b)
def oUstr (e : Nat) (x n : Src) : Run := fun f s k => intNat (n.ev f) fun m => Nat.rec (motive := fun _ => Res) ((x.ev f).casePtr (k (.str .nil) s) fun _ _ => k (.str .nil) s) (fun _ _ => (x.ev f).asPtr fun id off => (s.get id).asRow fun e' c t z r b => guardK (Nat.beq e e') (Bool.rec (motive := fun _ => Res)
  (guardK b (guardK (Nat.ble m 16777216) (guardK (Nat.ble (Nat.add off m) t) (c.dropK off fun d => d.takeK m fun l => l.bytesK fun bs => s.setK id (.row e' c t (nmax z (Nat.add off m)) r b) fun s' => k (.str bs) s')))) .fail r)) m

/- ### Calls, regions, code -/
abbrev IH := Code → Fr → St → Res
/-- The outcomes of one part handed on to the next. -/
def Res.bind (r : Res) (g : Ex → Fr → St → Res) : Res := Res.rec (motive := fun _ => Res) .fail .nil (fun x f s more ih => Res.rec (motive := fun _ => Res) .fail (g x f s) (fun _ _ _ _ _ => (g x f s).app ih) more) r
def argsK (l : AV) : Nat → NC → (NC → Res) → Res := AV.rec (motive := fun _ => Nat → NC → (NC → Res) → Res) (fun _ _ _ => .fail) (fun _ _ _ _ => .fail) (fun _ _ _ _ _ => .fail) (fun _ _ _ _ => .fail) (fun _ _ _ => .fail) (fun _ _ _ _ _ => .fail) (fun _ _ _ => .fail) (fun _ _ _ _ _ _ _ _ _ => .fail) (fun _ _ _ => .fail) (fun _ _ _ _ => .fail) (fun _ _ _ _ _ _ _ _ => .fail) (fun _ _ _ => .fail) (fun _ _ _ _ _ _ => .fail) (fun _ _ _ => .fail) (fun _ _ _ _ _ => .fail) (fun _ _ _ _ _ => .fail) (fun _ _ _ _ => .fail)
  (fun _ f k => k f) (fun h _ _ ih i f k => NC.setK (fpath i) h f fun f' => ih (Nat.succ i) f' k) l
def RL.evK (l : RL) : NC → St → (AV → Res) → Res := RL.rec (motive := fun _ => NC → St → (AV → Res) → Res) (fun _ _ k => k .lnil)
  (fun p _ ih f s k => ih f s fun l => k (.lcons (NC.get p f) l))
  (fun p agg n _ ih f s k => (NC.get p f).asPtr fun id off => (s.get id).asRow fun _ c m _ _ _ => guardK (Nat.ble (Nat.add off (Bool.rec (motive := fun _ => Nat) 1 n agg)) m) (partK agg off n c fun v => ih f s fun l => k (.lcons v l))) l
/-- A frame's deferred calls, the last one first. -/
def DL.runK (cv : AV → AV → St → (AV → St → Res) → Res) (d : DL) : St → (St → Res) → Res := DL.rec (motive := fun _ => St → (St → Res) → Res) (fun s k => k s)
  (fun f a _ ih s k => cv f a s fun _ s' => ih s' k) (fun id _ ih s k => guardK (s.get id).isDfr (s.setK id .dead fun s' => ih s' k)) d
def isEnd (x : Ex) : Bool := Ex.rec true (fun _ => false) (fun _ => false) true x
def sameEx (x y : Ex) : Bool := Ex.rec (motive := fun _ => Bool) (Ex.rec true (fun _ => false) (fun _ => false) false y) (fun n => Ex.rec (motive := fun _ => Bool) false (fun m => Nat.beq n m) (fun _ => false) false y) (fun n => Ex.rec (motive := fun _ => Bool) false (fun _ => false) (fun m => Nat.beq n m) false y) (Ex.rec false (fun _ => false) (fun _ => false) true y) x
/- joining outcomes -/
def AV.join (a b : AV) : AV := Bool.rec .top a (AV.beq a b)
def NA.join (x y : NA) : NA := ⟨x.a.join y.a, x.b.join y.b, x.c.join y.c, x.d.join y.d, x.e.join y.e, x.f.join y.f, x.g.join y.g, x.h.join y.h⟩
def NB.join (x y : NB) : NB := ⟨x.a.join y.a, x.b.join y.b, x.c.join y.c, x.d.join y.d, x.e.join y.e, x.f.join y.f, x.g.join y.g, x.h.join y.h⟩
def NC.join (x y : NC) : NC := ⟨x.a.join y.a, x.b.join y.b, x.c.join y.c, x.d.join y.d, x.e.join y.e, x.f.join y.f, x.g.join y.g, x.h.join y.h⟩
def ML.beq (x : ML) : ML → Bool := ML.rec (motive := fun _ => ML → Bool) (fun y => ML.rec true (fun _ _ _ _ _ => false) y)
  (fun c v b _ ih y => ML.rec (motive := fun _ => Bool) false (fun c' v' b' t' _ => Bool.rec (motive := fun _ => Bool) false (Bool.rec (motive := fun _ => Bool) false (Bool.rec (motive := fun _ => Bool) false (ih t') (Nat.beq b b')) (AV.beq v v')) (AV.beq c c')) y) x
/-- The object, where another one is spelled alike. -/
def Obj.join (x y : Obj) : Obj := Obj.rec (motive := fun _ => Obj) .dead (fun e c n z r b => Obj.rec (motive := fun _ => Obj) .dead (fun e' c' n' z' r' b' => Bool.rec (motive := fun _ => Obj) .dead x (Bool.rec (motive := fun _ => Bool) false (Bool.rec (motive := fun _ => Bool) false (Bool.rec (motive := fun _ => Bool) false (Bool.rec (motive := fun _ => Bool) false (Bool.rec (motive := fun _ => Bool) false (AV.beq c c') (sameBool b b')) (sameBool r r')) (Nat.beq z z')) (Nat.beq n n')) (Nat.beq e e'))) (fun _ _ => .dead) (fun _ _ => .dead) (fun _ _ _ _ => .dead) .dead (fun _ _ _ _ _ _ _ => .dead) .dead y) (fun e n => Obj.rec (motive := fun _ => Obj) .dead (fun _ _ _ _ _ _ => .dead) (fun e' n' => Bool.rec (motive := fun _ => Obj) .dead x (Bool.rec (motive := fun _ => Bool) false (ML.beq e e') (Nat.beq n n'))) (fun _ _ => .dead) (fun _ _ _ _ => .dead) .dead (fun _ _ _ _ _ _ _ => .dead) .dead y) (fun _ _ => .dead) (fun _ _ _ _ => .dead) .dead (fun _ _ _ _ _ _ _ => .dead) .dead x
def Obj.same (x y : Obj) : Bool := Obj.rec (motive := fun _ => Bool) false (fun _ _ _ _ _ _ => true) (fun _ _ => true) (fun _ _ => false) (fun _ _ _ _ => false) false (fun _ _ _ _ _ _ _ => false) false (x.join y)
def NL.app (x y : NL) : NL := NL.rec y (fun n _ ih => .cons n ih) x
/-- The heap of before, and on it what two outcomes have in common of what was written. -/
def joinHeap (l : NL) : HE → HE → HE → (HE → Res) → Res := NL.rec (motive := fun _ => HE → HE → HE → (HE → Res) → Res) (fun h _ _ k => k h)
  (fun n _ ih h a b k => HE.setK (hpath n) ((HE.get (hpath n) a).join (HE.get (hpath n) b)) h fun h' => ih h' a b k) l
def nmax2 (a b : Nat) : Nat := Bool.rec a b (Nat.ble a b)
/-- What two outcomes have in common, laid over the heap of before. -/
def joinSt (base : HE) (j : Bool) (x y : St) (k : St → Res) : Res := Md.rec (motive := fun _ => Res) .fail (fun _ l _ => Md.rec (motive := fun _ => Res) .fail (fun _ l' _ => guardK (Nat.ble (nmax2 x.next y.next) 262144) (joinHeap (l.app l') base x.heap y.heap fun h => k ⟨h, nmax2 x.next y.next, .on base (l.app l') j⟩)) y.md) x.md
def DL.isNil (d : DL) : Bool := DL.rec true (fun _ _ _ _ => false) (fun _ _ _ => false) d
/-- All outcomes as one, where all leave in the same way. -/
def Res.join1 (base : HE) (j : Bool) (r : Res) : Ex → Fr → St → Res := Res.rec (motive := fun _ => Ex → Fr → St → Res) (fun _ _ _ => .fail) (fun x f s => .ok x f s .nil)
  (fun x f s _ ih x0 f0 s0 => guardK (sameEx x x0) (guardK f.d.isNil (guardK f0.d.isNil (guardK (sameBool f.rd f0.rd) (guardK (Nat.beq f.nt f0.nt) (joinSt base j s0 s fun s' => ih x0 ⟨f0.s.join f.s, .nil, f0.rd, f0.nt⟩ s')))))) r
def Res.join (base : HE) (j : Bool) (r : Res) : Res := Res.rec (motive := fun _ => Res) .fail .nil (fun x f s more _ => more.join1 base j x f s) r
def goK (ih : IH) (cv : AV → AV → St → (AV → St → Res) → Res) (body : Code) (res : RL) (nt : Nat) (f : NC) (s : St) (k : AV → St → Res) : Res :=
  (ih body ⟨f, .nil, false, nt⟩ s).bind fun x f' s' => guardK (isEnd x) (f'.d.runK cv s' fun s2 => res.evK f'.s s2 fun l => k l.handBack s2)
def frameOf (v : AV) (s : St) : Res := NC.setK (fpath 0) v zc fun f => .ok .ret ⟨f, .nil, false, 0⟩ s .nil
def St.with (s : St) (m : Md) : St := St.rec (motive := fun _ => St) (fun h n _ => ⟨h, n, m⟩) s
/-- A call over which the outcomes are joined. -/
def joinedK (flag : Nat) (run : St → (AV → St → Res) → Res) (s : St) (k : AV → St → Res) : Res := Bool.rec (motive := fun _ => Res)
  (((run (s.with (.on s.heap .nil (Nat.beq flag 1))) frameOf).join s.heap (Nat.beq flag 1)).bind fun _ f s' => k (NC.get (fpath 0) f.s) (s'.with .off))
  (run s k) s.md.isOn
def idx (l : BL) (c : Nat) : Int := BL.rec (motive := fun _ => Nat → Int) (fun _ => .negSucc 0) (fun b _ ih i => Bool.rec (motive := fun _ => Int) (ih (Nat.succ i)) (.ofNat i) (Nat.beq b c)) l 0
def BL.revK (x : BL) : BL → (BL → Res) → Res := BL.rec (motive := fun _ => BL → (BL → Res) → Res) (fun a k => k a) (fun h _ ih a k => ih (.cons h a) k) x
def isSp (b : Nat) : Bool := Bool.rec (motive := fun _ => Bool) (Bool.rec (motive := fun _ => Bool) false (Nat.ble b 13) (Nat.ble 9 b)) true (Nat.beq b 32)
/-- The words of an ASCII text. -/
def BL.fieldsK (x : BL) : BL → Bool → (AV → Res) → Res := BL.rec (motive := fun _ => BL → Bool → (AV → Res) → Res)
  (fun cur has k => Bool.rec (motive := fun _ => Res) (k .lnil) (cur.revK .nil fun w => k (.lcons (.str w) .lnil)) has)
  (fun h _ ih cur has k => guardK (Nat.ble h 127) (Bool.rec (motive := fun _ => Res) (ih (.cons h cur) true k) (Bool.rec (motive := fun _ => Res) (ih .nil false k) (cur.revK .nil fun w => ih .nil false fun l => k (.lcons (.str w) l)) has) (isSp h))) x
def AV.asByte (v : AV) (k : Nat → Res) : Res := v.asInt fun i n => guardK (sameKind i .u8) (Int.rec (motive := fun _ => Res) (fun c => guardK (Nat.ble c 255) (k c)) (fun _ => .fail) n)
def AV.asI64 (v : AV) (k : Nat → Res) : Res := v.asInt fun i n => guardK (sameKind i .i64) (Int.rec (motive := fun _ => Res) k (fun _ => .fail) n)
/-- The table of white space: n numbers from the i-th on. -/
def spRow (n : Nat) : Nat → AV := Nat.rec (motive := fun _ => Nat → AV) (fun _ => .lnil) (fun _ ih i => .lcons (.int .u8 (.ofNat (Bool.rec (motive := fun _ => Nat) 0 1 (isSp i)))) (ih (Nat.succ i))) n
/-- Functions that are not walked: 1 bytealg.IndexByteString, 2 maps.clone, 3 abi.NoEscape, 4 strings.Fields (t: the type string, u: its table), 5 bytealg.MakeNoZero (t: the type byte). -/
def extK (n t u : Nat) (a : AV) (s : St) (k : AV → St → Res) : Res := Nat.rec (motive := fun _ => Res) .fail (fun n _ => Nat.rec (motive := fun _ => Res)
  (a.nthK 0 fun x => a.nthK 1 fun y => guardK (Nat.beq a.len 2) (x.asStr fun l => y.asByte fun c => k (.int .i64 (idx l c)) s))
  (fun n _ => Nat.rec (motive := fun _ => Res)
    (a.nthK 0 fun x => guardK (Nat.beq a.len 1) (x.caseIfc .fail fun t v => v.asMap fun id => (s.get id).asMap fun es c => s.newK (.map es c) fun id' s' => k (.ifc t (.map id')) s'))
    (fun n _ => Nat.rec (motive := fun _ => Res) (a.nthK 0 fun x => guardK (Nat.beq a.len 1) (k x s))
      (fun n _ => Nat.rec (motive := fun _ => Res) (a.nthK 0 fun x => guardK (Nat.beq a.len 1) (x.asStr fun l => guardK (Nat.ble l.len 65536) ((s.get u).asRow fun _ tc _ _ _ _ => guardK (AV.beq tc (spRow 256 0)) (l.fieldsK .nil false fun c => s.newK (.row t c c.len 0 false true) fun id s' => k (.sl id 0 c.len c.len true 1) s'))))
        (fun _ _ => a.nthK 0 fun x => guardK (Nat.beq a.len 1) (x.asI64 fun m => guardK (Nat.ble m 16777216) (s.newK (.row t (AV.times (.lcons .top .lnil) m) m 0 false true) fun id s' => k (.sl id 0 m m false 1) s'))) n) n) n) n) n
def callK (fn : FnC) : IH → (AV → AV → St → (AV → St → Res) → Res) → AV → St → (AV → St → Res) → Res := FnC.rec (motive := fun _ => IH → (AV → AV → St → (AV → St → Res) → Res) → AV → St → (AV → St → Res) → Res) (fun _ _ _ _ _ => .fail)
  (fun body res nt flag ih cv args s k => guardK (Nat.ble args.len 512) (argsK args 0 zc fun f => Nat.rec (motive := fun _ => Res) (goK ih cv body res nt f s k) (fun _ _ => joinedK flag (goK ih cv body res nt f) s k) flag))
  (fun run _ _ args s k => run args s k) (fun _ _ _ _ _ => .fail) fn
def paramsK (l : NL) : AV → NC → (NC → Res) → Res := NL.rec (motive := fun _ => AV → NC → (NC → Res) → Res) (fun a f k => a.uncons (k f) fun _ _ => .fail)
  (fun n _ ih a f k => a.uncons .fail fun h t => NC.setK (fpath n) h f fun f' => ih t f' k) l
def jumpOf (x : Ex) : OC := Ex.rec .none (fun n => .some (.exit n)) (fun l => .some (.goto l)) (.some .ret) x
def isNormal (x : Ex) : Bool := Ex.rec true (fun _ => false) (fun _ => false) false x
def NL.under (l : NL) (n : Nat) : Bool := NL.rec true (fun m _ ih => Bool.rec (motive := fun _ => Bool) false ih (Nat.ble (Nat.succ m) n)) l
/-- A round of a loop over a function: its end, its body. -/
def roundEnd (id : Nat) (x : Ex) (f4 : Fr) (s4 : St) (k : AV → St → Res) : Res := guardK f4.d.isNil ((s4.get id).asLoop fun _ _ f' nt' ps' asg' body' => s4.setK id (.loop (isNormal x) (jumpOf x) f' nt' ps' asg' body') fun s5 => k (.bool (isNormal x)) s5)
def roundBody (ih : IH) (id : Nat) (body : Code) (x : Ex) (f2 : Fr) (s2 : St) (k : AV → St → Res) : Res := guardK (isNormal x) (guardK f2.d.isNil ((s2.get id).asLoop fun ready2 pend2 f' nt' ps' asg' body' => guardK ready2 (OC.rec (motive := fun _ => Res)
  (s2.setK id (.loop false .none f' nt' ps' asg' body') fun s3 => (ih body f2 s3).bind fun x f4 s4 => roundEnd id x f4 s4 k) (fun _ => .fail) pend2)))
def roundK (ih : IH) (id : Nat) (args : AV) (s : St) (k : AV → St → Res) : Res := (s.get id).asLoop
  fun ready _ f nt ps asg body => guardK ready (guardK (ps.under nt) (paramsK ps args f fun f1 => (ih asg ⟨f1, .nil, true, nt⟩ s).bind fun x f2 s2 => roundBody ih id body x f2 s2 k))
def callvK (E : Env) (ih : IH) (cv : AV → AV → St → (AV → St → Res) → Res) (f : AV) (args : AV) (s : St) (k : AV → St → Res) : Res := f.asFn fun g x c => Fn.rec (motive := fun _ => Res)
  (fun g => callK (E.fn g) ih cv (x.app (args.app c)) s k) (fun _ => .fail) (fun _ _ => .fail) (fun _ _ _ _ => .fail) (fun l => x.uncons (roundK ih l args s k) fun _ _ => .fail) g
/-- A deferred call: of a function that defers nothing itself, or of one that does nothing there. -/
def deferK (fn : FnC) : IH → AV → St → (AV → St → Res) → Res := FnC.rec (motive := fun _ => IH → AV → St → (AV → St → Res) → Res) (fun _ _ _ _ => .fail)
  (fun body res nt flag ih args s k => guardK (Nat.beq flag 0) (guardK (Nat.ble args.len 512) (argsK args 0 zc fun f => (ih body ⟨f, .nil, false, nt⟩ s).bind fun x f' s' => guardK (isEnd x) (guardK f'.d.isNil (res.evK f'.s s' fun _ => k .top s'))))) (fun _ _ _ _ _ => .fail) (fun _ _ s k => k .top s) fn
def cv1 (E : Env) (ih : IH) (f args : AV) (s : St) (k : AV → St → Res) : Res := f.asFn fun g x c => Fn.rec (motive := fun _ => Res)
  (fun g => deferK (E.fn g) ih (x.app (args.app c)) s k) (fun _ => .fail) (fun _ _ => .fail) (fun _ _ _ _ => .fail) (fun _ => .fail) g
def runOp (o : COp) : Env → IH → Run := COp.rec (motive := fun _ => Env → IH → Run) (fun _ _ _ _ _ => .fail)
  (fun x _ _ => oMv x) (fun c a b _ _ => oPick c a b) (fun e z _ _ => oAlloc e z) (fun e x _ _ => oBox e x) (fun z p _ _ => oBuild z p) (fun e z l p _ _ => oBsl e z l p) (fun x _ _ => oLd1 x) (fun n x _ _ => oLdn n x) (fun n x v _ _ => oSt n x v)
  (fun x _ _ => oNilck x) (fun o x y _ _ => oBin o x y) (fun n p x y _ _ => oEq n p x y) (fun n x y _ _ => oEqp n x y) (fun o x _ _ => oUn o x) (fun k x _ _ => oCvi k x) (fun x _ _ => oCvs x) (fun e x _ _ => oS2b e x) (fun x _ _ => oB2s x) (fun ok x _ _ => oCvp ok x)
  (fun t x _ _ => oMkifc t x) (fun f a c _ _ => oMkfn f a c) (fun _ _ => oMkmap) (fun e b z l c _ _ => oMksl e b z l c) (fun x l h _ _ => oSlstr x l h) (fun n x l h m _ _ => oSlsl n x l h m) (fun o x _ _ => oFaddr o x) (fun a o n x _ _ => oFld a o n x)
  (fun n x i _ _ => oIxsl n x i) (fun m n x i _ _ => oIxarr m n x i) (fun x i _ _ => oIxstr x i) (fun p z o m k _ _ => oLookup p z o m k) (fun p m k v _ _ => oMapset p m k v) (fun x _ _ => oRngs x) (fun x _ _ => oRngm x) (fun b x _ _ => oNext b x) (fun x _ _ => oEntry x)
  (fun t z o x _ _ => oTassert t z o x) (fun z o x _ _ => oIassert z o x) (fun i x _ _ => oExtract i x) (fun x _ _ => oLens x) (fun x _ _ => oLenl x) (fun x _ _ => oLenm x) (fun e n s x _ _ => oAppend e n s x) (fun x _ _ => oCap x) (fun n d s _ _ => oCopy n d s) (fun z x _ _ => oClear z x) (fun m x y _ _ => oMinmax m x y) (fun m x y _ _ => oMms m x y)
  (fun p m k _ _ => oDelete p m k) (fun x _ _ => oSdata x) (fun e x n _ _ => oUstr e x n)
  (fun g a E ih f s k => a.evK f fun l => callK (E.fn g) ih (cv1 E ih) l s k) (fun g a E ih f s k => a.evK f fun l => callvK E ih (cv1 E ih) (g.ev f) l s k) o
def Grd.ok (g : Grd) : NC → Bool := Grd.rec (motive := fun _ => NC → Bool) (fun _ => true) (fun p w f => (NC.get p f).boolIs w) g
/-- Is the guard's answer known? -/
def Grd.sure (g : Grd) : NC → Bool := Grd.rec (motive := fun _ => NC → Bool) (fun _ => true) (fun p _ f => (NC.get p f).known) g
/-- What an operation yields that is passed over. -/
def undefA : AV := .tup .lnil
def Dst.setK (d : Dst) : AV → NC → (NC → Res) → Res := Dst.rec (motive := fun _ => AV → NC → (NC → Res) → Res) (fun _ f k => k f) (fun p v f k => NC.setK p v f k) d
/-- One operation of a region, as it stands there. -/
def runCO (o : CO) : Env → IH → Fr → St → (Fr → St → Res) → Res := CO.rec (motive := fun _ => Env → IH → Fr → St → (Fr → St → Res) → Res)
  (fun d g op _ _ _ E ih f s k => Fr.rec (motive := fun _ => Res) (fun fs fd frd fnt => guardK (g.sure fs) (Bool.rec (motive := fun _ => Res) (d.setK undefA fs fun f' => k ⟨f', fd, frd, fnt⟩ s) (runOp op E ih fs s fun v s' => d.setK v fs fun f' => k ⟨f', fd, frd, fnt⟩ s') (g.ok fs))) f)
  (fun d g x a _ _ f s k => Fr.rec (motive := fun _ => Res) (fun fs fd frd fnt => guardK (bnot frd) (guardK (g.sure fs) (Bool.rec (motive := fun _ => Res) (d.setK undefA fs fun f' => k ⟨f', fd, frd, fnt⟩ s) (a.evK fs fun l => (x.ev fs).asFn fun _ _ _ => d.setK undefA fs fun f' => k ⟨f', .call (x.ev fs) l fd, frd, fnt⟩ s) (g.ok fs)))) f) o
def runOps (l : OL) : Env → IH → Fr → St → Res := OL.rec (motive := fun _ => Env → IH → Fr → St → Res) (fun _ _ f s => .ok .normal f s .nil) (fun o _ rest E ih f s => runCO o E ih f s (rest E ih)) l
def deadSt : St := ⟨za5, 262144, .off⟩
/-- An operation's answer, laid down as an outcome; and taken up again. -/
def valOf (v : AV) (s : St) : Res := .ok .ret ⟨zc, .call v .lnil .nil, false, 0⟩ s .nil
def one (r : Res) (k : AV → St → Res) : Res := Res.rec (motive := fun _ => Res) .fail .fail (fun _ f s more _ => Res.rec (motive := fun _ => Res) .fail (Fr.rec (motive := fun _ => Res) (fun _ d _ _ => DL.rec (motive := fun _ => Res) .fail (fun v _ _ _ => k v s) (fun _ _ _ => .fail) d) f) (fun _ _ _ _ _ => .fail) more) r
inductive OpL where
  | nil
  | read (i : Nat) (o : COp) (v : AV) (t : OpL)
  | made (i id : Nat) (o : Obj) (t : OpL)
def OpL.checkK (l : OpL) : Env → St → Res → Res := OpL.rec (motive := fun _ => Env → St → Res → Res) (fun _ _ k => k)
  (fun _ o v _ rest E s k => one (runOp o E (fun _ _ _ => .fail) zc s valOf) fun v' _ => guardK (AV.beq v v') (rest E s k))
  (fun _ id o _ rest E s k => guardK (Obj.same (s.get id) o) (rest E s k)) l
def bitOf (m i : Nat) : Bool := Nat.beq (Nat.land (Nat.shiftRight m i) 1) 1
def OpL.without (l : OpL) : Nat → OpL := OpL.rec (motive := fun _ => Nat → OpL) (fun _ => .nil)
  (fun i o v _ ih m => Bool.rec (motive := fun _ => OpL) (.read i o v (ih m)) (ih m) (bitOf m i)) (fun i id o _ ih m => Bool.rec (motive := fun _ => OpL) (.made i id o (ih m)) (ih m) (bitOf m i)) l
/-- A reading operation at values. -/
def COp.shut (o : COp) : NC → COp := COp.rec (motive := fun _ => NC → COp) (fun _ => .bad)
  (fun _ _ => .bad) (fun _ _ _ _ => .bad) (fun _ _ _ => .bad) (fun _ _ _ => .bad) (fun _ _ _ => .bad) (fun _ _ _ _ _ => .bad) (fun x f => .ld1 (.val (x.ev f))) (fun n x f => .ldn n (.val (x.ev f))) (fun _ _ _ _ => .bad)
  (fun _ _ => .bad) (fun _ _ _ _ => .bad) (fun _ _ _ _ _ => .bad) (fun n x y f => .eqp n (.val (x.ev f)) (.val (y.ev f))) (fun _ _ _ => .bad) (fun _ _ _ => .bad) (fun _ _ => .bad) (fun _ _ _ => .bad) (fun x f => .b2s (.val (x.ev f))) (fun _ _ _ => .bad)
  (fun _ _ _ => .bad) (fun _ _ _ _ => .bad) (fun _ => .bad) (fun _ _ _ _ _ _ => .bad) (fun _ _ _ _ => .bad) (fun _ _ _ _ _ _ => .bad) (fun _ _ _ => .bad) (fun _ _ _ _ _ => .bad)
  (fun _ _ _ _ => .bad) (fun _ _ _ _ _ => .bad) (fun _ _ _ => .bad) (fun p z ok m k f => .lookup p z ok (.val (m.ev f)) (.val (k.ev f))) (fun _ _ _ _ _ => .bad) (fun _ _ => .bad) (fun _ _ => .bad) (fun _ _ _ => .bad) (fun _ _ => .bad)
  (fun _ _ _ _ _ => .bad) (fun _ _ _ _ => .bad) (fun _ _ _ => .bad) (fun _ _ => .bad) (fun _ _ => .bad) (fun x f => .lenm (.val (x.ev f))) (fun _ _ _ _ _ => .bad) (fun _ _ => .bad) (fun _ _ _ _ => .bad) (fun _ _ _ => .bad) (fun _ _ _ _ => .bad) (fun _ _ _ _ => .bad)
  (fun _ _ _ _ => .bad) (fun _ _ => .bad) (fun _ _ _ _ => .bad) (fun _ _ _ => .bad) (fun _ _ _ => .bad) o
abbrev DK := Env → IH → NC → St → OpL → (NC → St → Res) → Res
/-- A row or a map, taken up and laid down. -/
def Obj.whole (o : Obj) (k : Obj → Res) : Res := Obj.rec (motive := fun _ => Res) .fail (fun e c n z r b => k (.row e c n z r b)) (fun es c => k (.map es c)) (fun _ _ => .fail) (fun _ _ _ _ => .fail) .fail (fun _ _ _ _ _ _ _ => .fail) .fail o
def drawnOp (kind : Nat) (d : Dst) (op : COp) (i bef : Nat) (rest : DK) : DK := Nat.rec (motive := fun _ => DK)
  (fun E ih f s w k => one (runOp op E ih f deadSt valOf) fun v _ => d.setK v f fun f' => rest E ih f' s w k)
  (fun kind _ => Nat.rec (motive := fun _ => DK) (fun E ih f s w k => one (runOp op E ih f s valOf) fun v _ => d.setK v f fun f' => rest E ih f' s (.read i (op.shut f) v w) k)
    (fun kind _ => Nat.rec (motive := fun _ => DK) (fun E ih f s w k => St.rec (motive := fun _ => Res) (fun h n m => one (runOp op E ih f ⟨za5, n, .off⟩ valOf) fun v s' => (s'.get n).whole fun o => St.newK o ⟨h, n, m⟩ fun _ s2 => d.setK v f fun f' => rest E ih f' s2 (.made i n o w) k) s)
      (fun _ _ E ih f s w k => w.checkK E s (runOp op E ih f s fun v s' => d.setK v f fun f' => rest E ih f' s' (w.without bef) k)) kind) kind) kind
/-- A region in whatever order: what reads, or makes an object, may come later than it does here; it is looked at again ahead of each operation that writes. -/
def runDrawn (l : OL) : DK := OL.rec (motive := fun _ => DK) (fun E _ f s w k => w.checkK E s (k f s))
  (fun o _ rest E ih f s w k => CO.rec (motive := fun _ => Res) (fun d g op i bef kind => guardK (g.sure f) (Bool.rec (motive := fun _ => Res) (d.setK undefA f fun f' => rest E ih f' s w k) (drawnOp kind d op i bef rest E ih f s w k) (g.ok f)))
    (fun _ _ _ _ => .fail) o) l

/-- Two writes into two objects, in either order. -/
def runPair (m : Nat) (x v : Src) (m' : Nat) (x' v' : Src) (f : NC) (s : St) (k : St → Res) : Res := (x.ev f).asPtr fun i _ => (x'.ev f).asPtr fun j _ => guardK (Nat.ble (Nat.succ i) 262144) (guardK (Nat.ble (Nat.succ j) 262144) (Bool.rec (motive := fun _ => Res) (oSt m x v f s fun _ s1 => oSt m' x' v' f s1 fun _ s2 => k s2) .fail (Nat.beq i j)))
def mRegion (_ : Nat) (ops : Array Oper) (draw : Bool) (E : Env) (ih : IH) (f : Fr) (s : St) : Res := Fr.rec (motive := fun _ => Res) (fun fs fd frd fnt => RegC.rec (motive := fun _ => Res) .fail (fun l => runOps l E ih ⟨fs, fd, frd, fnt⟩ s) (fun l => runDrawn l E ih fs s .nil fun f' s' => .ok .normal ⟨f', fd, frd, fnt⟩ s' .nil)
  (fun l m x v m' x' v' => runDrawn l E ih fs s .nil fun f' s' => runPair m x v m' x' v' f' s' fun s2 => .ok .normal ⟨f', fd, frd, fnt⟩ s2 .nil) (E.reg ops draw fnt)) f
abbrev CK := Env → IH → Fr → St → Res
def mSeq (a b : Code) (_ _ : CK) (_ : Env) (ih : IH) (f : Fr) (s : St) : Res := (ih a f s).bind fun x f s => Bool.rec (motive := fun _ => Res) (.ok x f s .nil) (ih b f s) (isNormal x)
def mCond (c : Operand) (a b : Code) (_ _ : CK) (_ : Env) (ih : IH) (f : Fr) (s : St) : Res := Operand.rec (motive := fun _ => Res) (fun t => guardK (Nat.ble (Nat.succ t) 512) ((NC.get (fpath t) f.s).asBool fun t => ih (Bool.rec (motive := fun _ => Code) b a t) f s)) (fun v => match v with | .bool t => ih (Bool.rec (motive := fun _ => Code) b a t) f s | _ => .fail) (fun _ => .fail) (fun _ => .fail) c
/-- Behind a block: more outcomes than one are joined, where that is asked. -/
def Res.settle (m : Md) (r : Res) : Res := Md.rec (motive := fun _ => Res) r (fun base _ j => Bool.rec (motive := fun _ => Res) r (r.join base j) j) m
def outOf (id : Nat) (x : Ex) (f : Fr) (s : St) : Res := Ex.rec (motive := fun _ => Res) (.ok .normal f s .nil) (fun n => Bool.rec (motive := fun _ => Res) (.ok (.exit n) f s .nil) (.ok .normal f s .nil) (Nat.beq n id)) (fun l => .ok (.goto l) f s .nil) (.ok .ret f s .nil) x
def mBlock (id : Nat) (c : Code) (_ : CK) (_ : Env) (ih : IH) (f : Fr) (s : St) : Res := ((ih c f s).bind (outOf id)).settle s.md
def mLoop (c : Code) (_ : CK) (_ : Env) (ih : IH) (f : Fr) (s : St) : Res := (ih c f s).bind fun x f s => Bool.rec (motive := fun _ => Res) (.ok x f s .nil) (ih (.loop c) f s) (isNormal x)
def nats (l : List Nat) : NL := List.rec .nil (fun n _ ih => .cons n ih) l
def srcOf (o : Operand) : Src := Operand.rec (fun t => .loc (fpath t)) (fun _ => .val .top) (fun _ => .val .top) (fun g => .val (.fn (.func g) .lnil .lnil)) o
def smallOp (o : Operand) : Bool := Operand.rec (fun t => Nat.ble (Nat.succ t) 512) (fun _ => true) (fun _ => true) (fun _ => true) o
def isGo (f : FnC) : Bool := FnC.rec (motive := fun _ => Bool) false (fun _ _ _ _ => true) (fun _ => false) false f
/-- The call of a loop over a function. -/
def rangeK (E : Env) (ih : IH) (f args : AV) (s : St) (k : AV → St → Res) : Res := f.asFn fun g x c => Fn.rec (motive := fun _ => Res)
  (fun g => guardK (isGo (E.fn g)) (callK (E.fn g) ih (cv1 E ih) (x.app (args.app c)) s k)) (fun _ => .fail) (fun _ _ => .fail) (fun _ _ _ _ => .fail) (fun _ => .fail) g
def mRange (g : Operand) (ps : Array Tmp) (asg body : Code) (_ _ : CK) (E : Env) (ih : IH) (f : Fr) (s : St) : Res := Fr.rec (motive := fun _ => Res) (fun fs fd frd fnt => guardK (bnot frd) (guardK ((nats ps.toList).under fnt) (guardK (smallOp g) (s.newK .dfr fun r s1 => s1.newK (.loop true .none fs fnt (nats ps.toList) asg body) fun l s2 =>
  rangeK E ih ((srcOf g).ev fs) (.lcons (.fn (.yield l) .lnil .lnil) .lnil) s2 fun _ s3 => (s3.get l).asLoop
    fun ready pend _ _ _ _ _ => s3.setK l .dead fun s4 => OC.rec (motive := fun _ => Res) (guardK ready (.ok .normal ⟨fs, .mark r fd, frd, fnt⟩ s4 .nil)) (fun c => ih c ⟨fs, .mark r fd, frd, fnt⟩ s4) pend)))) f
def code (c : Code) : CK := Code.rec (motive := fun _ => CK) (fun _ _ f s => .ok .normal f s .nil) mRegion mSeq mCond mBlock mLoop mRange (fun n _ _ f s => .ok (.exit n) f s .nil)
  (fun c _ _ ih f s => (ih c f s).bind fun x f s => Ex.rec (motive := fun _ => Res) (.ok .normal f s .nil) (fun n => .ok (.exit n) f s .nil) (fun _ => .fail) (.ok .ret f s .nil) x) (fun _ _ _ f s => .ok .normal f s .nil) (fun l _ _ f s => .ok (.goto l) f s .nil) (fun _ _ f s => .ok .ret f s .nil) (fun _ _ _ _ _ => .fail) c
/-- Code, run over the abstract heap: n bounds the depth. -/
def exec (E : Env) (n : Nat) : IH := Nat.rec (motive := fun _ => IH) (fun _ _ _ => .fail) (fun _ ih c f s => code c E ih f s) n

/- ### Making ready -/
/-- What is known of a type: its row, what lies under its name, and two closed facts on `==`. -/
structure TE where
  info : TypeInfo
  und : TypeDesc
  guard : Bool
  stood : Bool
/-- The types, and how many variables of packages there are. -/
structure TI where
  ty : Nat → Option TE
  ng : Nat
instance : CoeFun TI fun _ => Nat → Option TE := ⟨TI.ty⟩
/-- A table in rows of n. -/
def look {α : Type} (n : Nat) (l : List (List α)) (t : Nat) : Option α := match l[t / n]? with
  | some r => r[t % n]?
  | none => none
def blOf (l : List UInt8) : BL := l.foldr (fun b t => .cons b.toNat t) .nil
def listOf : List (Option AV) → Option AV
  | [] => some .lnil
  | none :: _ => none
  | some a :: t => match listOf t with
    | some l => some (.lcons a l)
    | none => none
def oneCellC : Value → Bool
  | .agg _ | .tuple _ => false
  | _ => true
def avOf : Nat → Value → Option AV
  | 0, _ => none
  | n + 1, v => match v with
    | .bool b => some (.bool b)
    | .int k i => some (.int k i)
    | .string s => some (.str (blOf s.data.toList))
    | .pointer none => some .nilp
    | .slice none 0 0 => some .nils
    | .map none => some .nilm
    | .nilFunc => some .nilf
    | .nilIface => some .nili
    | .iface t v => match avOf n v with
      | some a => some (.ifc t a)
      | none => none
    | .agg cs => if cs.toList.all oneCellC then match listOf (cs.toList.map (avOf n)) with
      | some l => some (.agg l)
      | none => none
      else none
    | .tuple cs => match listOf (cs.toList.map (avOf n)) with
      | some l => some (.tup l)
      | none => none
    | _ => none
section
variable (ti : TI)
def srcC (o : Operand) : Option Src := match o with
  | .tmp t => if t < 512 then some (.loc (fpath t)) else none
  | .const v => match avOf 6 v with
    | some a => some (.val a)
    | none => none
  | .global g => if g < ti.ng then some (.val (.ptr g 0)) else none
  | .func f => some (.val (.fn (.func f) .lnil .lnil))
def srcsC : List Operand → Option SL
  | [] => some .nil
  | o :: t => match srcC ti o, srcsC t with
    | some s, some l => some (.cons s l)
    | _, _ => none
def osrcC (o : Option Operand) : Option OSrc := match o with
  | none => some .none
  | some o => match srcC ti o with
    | some s => some (.some s)
    | none => none
def undC (t : Nat) : Option TypeDesc := match ti t with
  | some e => some e.und
  | none => none
def sizeC (t : Nat) : Option Nat := match ti t with
  | some e => some e.info.size
  | none => none
def zeroC (t : Nat) : Option AV := match ti t with
  | some e => match e.info.zero with
    | some (.tuple _) => none
    | some z => avOf 6 z
    | none => none
  | none => none
def isAggD : TypeDesc → Bool
  | .struct _ | .array _ _ => true
  | _ => false
/-- The plan of a struct's fields, which lie one behind the other; none is blank. -/
def fieldsEqC (size : Nat) (part : Nat → Option EqP) : List Field → Nat → Option EqP
  | [], off => if off = size then some .pnil else none
  | f :: rest, off => if f.name = "_" || f.offset ≠ off then none else
    match ti f.type, part f.type with
    | some fe, some p => match fieldsEqC size part rest (off + fe.info.size) with
      | some q => some (.pcons off fe.info.size (isAggD fe.und) p q)
      | none => none
    | _, _ => none
def okC (t : Nat) : Nat := match ti t with
  | some e => if e.info.comparable then match e.und with
    | .bool => 1
    | .int _ => 2
    | .string => 3
    | .pointer u => match sizeC ti u with
      | some (_ + 1) => 4
      | _ => 0
    | _ => 0
    else 0
  | none => 0
/-- 1 a boolean's, 2 an integer's, 3 a string's type. -/
def keyC (t : Nat) : Option Nat := match ti t with
  | some e => match e.und with
    | .bool => some 1
    | .int _ => some 2
    | .string => some 3
    | _ => none
  | none => none
/-- A plan to compare the values of a type. -/
def eqC : Nat → Nat → Option EqP
  | 0, _ => none
  | n + 1, t => match ti t with
    | none => none
    | some e => match e.und with
      | .bool => some (.leaf 1)
      | .int _ => some (.leaf 2)
      | .string => some (.leaf 3)
      | .slice _ => some (.leaf 5)
      | .map _ _ => some (.leaf 6)
      | .func _ _ _ => some (.leaf 7)
      | .interface ms => some (.ifc ms.isEmpty (okC ti))
      | .pointer u => match sizeC ti u with
        | some (_ + 1) => some (.leaf 4)
        | _ => none
      | .struct fs => if e.guard || e.stood || fs.isEmpty then none else fieldsEqC ti e.info.size (eqC n) fs.toList 0
      | _ => none
def partsC (place : Nat → Option (Nat × Nat)) : List (Nat × Operand) → Option PL
  | [] => some .nil
  | (i, o) :: t => match place i, srcC ti o, partsC place t with
    | some (off, size), some s, some l => some (.cons off size s l)
    | _, _, _ => none
def fieldsC (fs : List Field) (i : Nat) : Option (Nat × Nat) := match fs[i]? with
  | some f => match sizeC ti f.type with
    | some n => some (f.offset, n)
    | none => none
  | none => none
variable (okTo : Nat → Nat → Nat → Nat → Bool)
def builtinC (c : Call) (b : Builtin) : Option COp :=
  match c.argTypes[0]? with
  | none => none
  | some t => match b, undC ti t, c.args.toList with
  | .len, some .string, [x] => match srcC ti x with
    | some x => some (.lens x)
    | none => none
  | .len, some (.slice _), [x] => match srcC ti x with
    | some x => some (.lenl x)
    | none => none
  | .len, some (.map _ _), [x] => match srcC ti x with
    | some x => some (.lenm x)
    | none => none
  | .len, some (.array n _), [_] => some (.mv (.val (.int .i64 (.ofNat n))))
  | .cap, some (.slice _), [x] => match srcC ti x with
    | some x => some (.cap x)
    | none => none
  | .append, some (.slice e), [s, x] => match undC ti (c.argTypes.getD 1 0), sizeC ti e, srcC ti s, srcC ti x with
    | some (.int _), _, _, _ => none
    | some _, some (n + 1), some s, some x => match ti e with
      | some te => if te.info.bytes ≤ 65536 then match zeroC ti e with
        | some z => if z.cells.len = n + 1 then some (.append e (n + 1) s x) else none
        | none => none
        else none
      | none => none
    | _, _, _, _ => none
  | .copy, some (.slice e), [d, x] => match sizeC ti e, srcC ti d, srcC ti x with
    | some n, some d, some x => some (.copy n d x)
    | _, _, _ => none
  | .clear, some (.slice e), [x] => match ti e, zeroC ti e, srcC ti x with
    | some _, some z, some x => if z.cells.len = 0 then none else some (.clear z.cells x)
    | _, _, _ => none
  | .min, some (.int _), [x, y] => match srcC ti x, srcC ti y with
    | some x, some y => some (.minmax false x y)
    | _, _ => none
  | .max, some (.int _), [x, y] => match srcC ti x, srcC ti y with
    | some x, some y => some (.minmax true x y)
    | _, _ => none
  | .min, some .string, [x, y] => match srcC ti x, srcC ti y with
    | some x, some y => some (.mms false x y)
    | _, _ => none
  | .max, some .string, [x, y] => match srcC ti x, srcC ti y with
    | some x, some y => some (.mms true x y)
    | _, _ => none
  | .delete, some (.map k _), [m, x] => match keyC ti k, srcC ti m, srcC ti x with
    | some p, some m, some x => some (.delete p m x)
    | _, _, _ => none
  | .unsafeSliceData, _, [x] => match srcC ti x with
    | some x => some (.sdata x)
    | none => none
  | .unsafeString, some (.pointer e), [x, n] => match srcC ti x, srcC ti n with
    | some x, some n => match undC ti e with
      | some (.int .u8) => if okTo e 1 0 e then some (.ustr e x n) else none
      | _ => none
    | _, _ => none
  | _, _, _ => none
def convC (s d : Nat) (x : Operand) : Option COp := match undC ti s, undC ti d, srcC ti x with
  | some (.int _), some (.int k), some x => some (.cvi k x)
  | some .string, some .string, some x => some (.cvs x)
  | some .string, some (.slice e), some x => match undC ti e with
    | some (.int .u8) => some (.s2b e x)
    | _ => none
  | some (.slice e), some .string, some x => match undC ti e with
    | some (.int .u8) => some (.b2s x)
    | _ => none
  | some (.pointer t), some .unsafePointer, some x => match sizeC ti t with
    | some (_ + 1) => some (.cvp (fun _ _ _ => true) x)
    | _ => none
  | some .unsafePointer, some (.pointer u), some x => match sizeC ti u with
    | some (_ + 1) => some (.cvp (fun e n off => okTo e n off u) x)
    | _ => none
  | _, _, _ => none
/-- An operation made ready. -/
def copC (o : Op) : Option COp := match o with
  | .move x | .assign x => match srcC ti x with
    | some x => some (.mv x)
    | none => none
  | .pick c a b => match srcC ti c, srcC ti a, srcC ti b with
    | some c, some a, some b => some (.pick c a b)
    | _, _, _ => none
  | .alloc e => match zeroC ti e with
    | some z => some (.alloc e z.cells)
    | none => none
  | .box e x => match srcC ti x with
    | some x => some (.box e x)
    | none => none
  | .build t ps => match undC ti t, zeroC ti t with
    | some (.struct fs), some z => if fs.toList.all fun f => (sizeC ti f.type).isSome then match partsC ti (fieldsC ti fs.toList) ps.toList with
      | some l => some (.build z.cells l)
      | none => none
      else none
    | some (.array _ e), some z => match sizeC ti e with
      | some n => match partsC ti (fun i => some (i * n, n)) ps.toList with
        | some l => some (.build z.cells l)
        | none => none
      | none => none
    | _, _ => none
  | .buildSlice t len ps => match undC ti t with
    | some (.slice e) => match zeroC ti e, sizeC ti e with
      | some z, some (n + 1) => if len * (n + 1) ≤ 16777216 ∧ z.cells.len = n + 1 then match partsC ti (fun i => some (i * (n + 1), n + 1)) ps.toList with
        | some l => some (.bsl e z.cells len l)
        | none => none
        else none
      | _, _ => none
    | _ => none
  | .load t a => match ti t, srcC ti a with
    | some e, some a => if isAggD e.und then some (.ldn e.info.size a) else some (.ld1 a)
    | _, _ => none
  | .store t a v => match sizeC ti t, srcC ti a, srcC ti v with
    | some n, some a, some v => some (.st n a v)
    | _, _, _ => none
  | .nilCheck x => match srcC ti x with
    | some x => some (.nilck x)
    | none => none
  | .binOp op t x y _ => match undC ti t, srcC ti x, srcC ti y with
    | some (.int _), some x, some y => some (.bin op x y)
    | some .string, some x, some y => some (.bin op x y)
    | some (.interface ms), some a, some b => match op with
      | .eql => some (.eq false (.ifc (ms.isEmpty || Region.isConst x || Region.isConst y) (okC ti)) a b)
      | .neq => some (.eq true (.ifc (ms.isEmpty || Region.isConst x || Region.isConst y) (okC ti)) a b)
      | _ => none
    | some (.pointer u), some x, some y => match op, sizeC ti u with
      | .eql, some (_ + 1) => some (.eqp false x y)
      | .neq, some (_ + 1) => some (.eqp true x y)
      | _, _ => none
    | some _, some x, some y => match op, eqC ti 6 t with
      | .eql, some p => some (.eq false p x y)
      | .neq, some p => some (.eq true p x y)
      | _, _ => none
    | _, _, _ => none
  | .unOp op _ x => match srcC ti x with
    | some x => some (.un op x)
    | none => none
  | .convert s d x => convC ti okTo s d x
  | .makeInterface t x => match undC ti t, srcC ti x with
    | some (.interface _), _ => none
    | some _, some x => some (.mkifc t x)
    | _, _ => none
  | .makeFunc f a c => match f, srcsC ti a.toList, srcsC ti c.toList with
    | .func _, some a, some c => some (.mkfn f a c)
    | _, _, _ => none
  | .makeMap _ none => some .mkmap
  | .makeSlice t l c => match undC ti t with
    | some (.slice e) => match ti e, zeroC ti e, srcC ti l, srcC ti c with
      | some te, some z, some l, some c => if te.info.size = 0 ∨ z.cells.len ≠ te.info.size then none else some (.mksl e te.info.bytes z.cells l c)
      | _, _, _, _ => none
    | _ => none
  | .slice t x lo hi mx => match undC ti t, srcC ti x, osrcC ti lo, osrcC ti hi, osrcC ti mx with
    | some .string, some x, some lo, some hi, some .none => some (.slstr x lo hi)
    | some (.slice e), some x, some lo, some hi, some mx => match sizeC ti e with
      | some n => match mx, hi with
        | .some _, .none => none
        | _, _ => some (.slsl n x lo hi mx)
      | none => none
    | _, _, _, _, _ => none
  | .fieldAddr s x f => match undC ti s, srcC ti x with
    | some (.struct fs), some x => match fieldsC ti fs.toList f with
      | some (off, _ + 1) => some (.faddr off x)
      | _ => none
    | _, _ => none
  | .field t x f => match undC ti t, srcC ti x with
    | some (.struct fs), some x => match fs.toList[f]? with
      | some fl => match ti fl.type with
        | some e => some (.fld (isAggD e.und) fl.offset e.info.size x)
        | none => none
      | none => none
    | _, _ => none
  | .indexAddr t x i => match undC ti t, srcC ti x, srcC ti i with
    | some (.slice e), some x, some i => match sizeC ti e with
      | some n => some (.ixsl n x i)
      | none => none
    | some (.array m e), some x, some i => match sizeC ti e with
      | some n => some (.ixarr m n x i)
      | none => none
    | _, _, _ => none
  | .index t x i => match undC ti t, srcC ti x, srcC ti i with
    | some .string, some x, some i => some (.ixstr x i)
    | _, _, _ => none
  | .lookup t m k ok => match undC ti t with
    | some (.map kt e) => match keyC ti kt, zeroC ti e, srcC ti m, srcC ti k with
      | some p, some z, some m, some k => some (.lookup p z ok m k)
      | _, _, _, _ => none
    | _ => none
  | .mapUpdate t m k v | .insert t m k v => match undC ti t with
    | some (.map kt _) => match keyC ti kt, srcC ti m, srcC ti k, srcC ti v with
      | some p, some m, some k, some v => some (.mapset p m k v)
      | _, _, _, _ => none
    | _ => none
  | .range t x => match undC ti t, srcC ti x with
    | some .string, some x => some (.rngs x)
    | some (.map _ _), some x => some (.rngm x)
    | _, _ => none
  | .next x str => match srcC ti x with
    | some x => some (.next str x)
    | none => none
  | .entry x => match srcC ti x with
    | some x => some (.entry x)
    | none => none
  | .typeAssert x _ t ok => match undC ti t, zeroC ti t, srcC ti x with
    | some (.interface _), some z, some x => some (.iassert z ok x)
    | some _, some z, some x => some (.tassert t z ok x)
    | _, _, _ => none
  | .extract x i => match srcC ti x with
    | some x => some (.extract i x)
    | none => none
  | .call c => match c.callee with
    | .builtin b => builtinC ti okTo c b
    | .value (.func g) => match srcsC ti c.args.toList with
      | some l => some (.callf g l)
      | none => none
    | .value f => match srcC ti f, srcsC ti c.args.toList with
      | some f, some l => some (.callv f l)
      | _, _ => none
    | .invoke _ _ => none
  | _ => none
def dstC (nt : Nat) (d : Option Tmp) : Option Dst := match d with
  | none => some .none
  | some t => if t < nt ∧ t < 512 then some (.slot (fpath t)) else none
def grdC (ops : List Oper) : Option (Nat × Bool) → Option Grd
  | none => some .none
  | some (j, w) => match ops[j]? with
    | some o => match o.dst with
      | some t => if t < 512 then some (.on (fpath t) w) else none
      | none => none
    | none => none
/-- 0: looks at no memory; 1: reads; 2: makes an object; 3: anything. -/
def kindC : COp → Nat
  | .mv _ | .pick .. | .build .. | .nilck _ | .bin .. | .eq .. | .un .. | .cvi .. | .cvs _ | .mkifc .. | .mkfn .. | .slstr .. | .slsl .. | .faddr .. | .fld .. | .ixsl .. | .ixarr .. | .ixstr .. | .tassert .. | .iassert .. | .extract .. | .cap _ | .minmax .. | .mms .. | .lens _ | .lenl _ => 0
  | .ld1 _ | .ldn .. | .lookup .. | .lenm _ | .b2s _ | .eqp .. => 1
  | .alloc .. | .box .. | .bsl .. | .mkmap | .mksl .. | .s2b .. => 2
  | _ => 3
def coC (nt : Nat) (ops : List Oper) (i bef : Nat) (o : Oper) : CO := match dstC nt o.dst, grdC ops o.guard with
  | some d, some g => match o.op with
    | .defer c => match c.callee with
      | .value f => match srcC ti f, srcsC ti c.args.toList with
        | some f, some l => .dfr d g f l
        | _, _ => .mk d g .bad i bef 3
      | _ => .mk d g .bad i bef 3
    | op => match copC ti okTo op with
      | some c => .mk d g c i bef (kindC c)
      | none => .mk d g .bad i bef 3
  | _, _ => .mk .none .none .bad i bef 3
def lineC (nt : Nat) (ops : List Oper) : List Oper → OL
  | [] => .nil
  | o :: t => .cons (coC ti okTo nt ops 0 0 o) (lineC nt ops t)
/-- For each operation those that are ahead of it in every order, as bits. -/
def masksC (ops : List Oper) : List Nat := (ops.foldl (fun (acc : List Nat) o =>
  acc ++ [o.after.toList.foldl (fun s e => if Region.binds .any e then Nat.lor s (Nat.lor (2 ^ e.on) (acc.getD e.on 0)) else s) 0]) [])
def isEff : CO → Bool
  | .mk _ _ _ _ _ k => k == 3
  | _ => true
def numOf : CO → Nat
  | .mk _ _ _ i _ _ => i
  | _ => 0
def befOf : CO → Nat
  | .mk _ _ _ _ b _ => b
  | _ => 0
def isMk : CO → Bool
  | .mk .. => true
  | _ => false
def within (a b : Nat) : Bool := Nat.beq (Nat.land a b) a
def pickC (eff : Bool) (done : Nat) : List CO → Option CO
  | [] => none
  | o :: t => if !bitOf done (numOf o) && within (befOf o) done && isEff o == eff then some o else pickC eff done t
def orderC : Nat → List CO → Nat → List CO
  | 0, _, _ => []
  | n + 1, l, done => match pickC false done l with
    | some o => o :: orderC n l (Nat.lor done (2 ^ numOf o))
    | none => match pickC true done l with
      | some o => o :: orderC n l (Nat.lor done (2 ^ numOf o))
      | none => []
/-- Is the order as it must be? `done`: what stands ahead; `effs`: the writing ones among them; in the end all are there. -/
def orderOk (all : Nat) : List CO → Nat → Nat → Bool
  | [], done, _ => Nat.beq done all
  | o :: t, done, effs => isMk o && !bitOf done (numOf o) && within (befOf o) done && within effs (befOf o) && orderOk all t (Nat.lor done (2 ^ numOf o)) (if isEff o then Nat.lor effs (2 ^ numOf o) else effs)
def readsC (ops : List Oper) (o : Oper) : List Tmp := (o.op.operands.toList.filterMap fun | .tmp t => some t | _ => none) ++ (match o.guard with
  | some (g, _) => match ops[g]? with
    | some p => p.dst.toList
    | none => []
  | none => [])
/-- Each temporary has one writer at most, and who reads it is ahead of that or behind. -/
def tempsOk (ops : List Oper) (masks : List Nat) : Bool :=
  let ws := ops.zipIdx.filterMap fun (o, i) => o.dst.map fun t => (t, i)
  ops.zipIdx.all fun (o, j) => ws.all fun (t, i) => i == j || (o.dst != some t && (!(readsC ops o).contains t || bitOf (masks.getD j 0) i || bitOf (masks.getD i 0) j))
/-- Whom a guard asks, that is ahead. -/
def guardsOk (ops : List Oper) (masks : List Nat) : Bool := ops.zipIdx.all fun (o, i) => match o.guard with
  | some (j, _) => bitOf (masks.getD i 0) j
  | none => true
def olOf : List CO → OL
  | [] => .nil
  | o :: t => .cons o (olOf t)
def impure : List CO → Nat
  | [] => 0
  | .mk _ _ _ _ _ 0 :: t => impure t
  | o :: t => Nat.lor (2 ^ numOf o) (impure t)
/-- A region whose two last operations are writes, with all others ahead of the first of them, and of the second all but such as look at no memory. -/
def pairC (cs : List CO) (ms : List Nat) (tmp : Bool) : RegC :=
  let n := cs.length - 2
  let all := 2 ^ n - 1
  let r := orderC n (cs.take n) 0
  match cs.drop n with
  | [.mk .none .none (.st m x v) _ _ _, .mk .none .none (.st m' x' v') _ _ _] =>
    if tmp && orderOk all r 0 0 && within all (ms.getD n 0) && within (ms.getD n 0) all && within (ms.getD (n + 1) 0) (Nat.lor all (2 ^ n)) && within (impure (cs.take n)) (ms.getD (n + 1) 0) then .pair (olOf r) m x v m' x' v' else .bad
  | _ => .bad
def regC (ops : Array Oper) (draw : Bool) (nt : Nat) : RegC :=
  if draw then
    let l := ops.toList
    let ms := masksC l
    let cs := (l.zip ms).zipIdx.map fun ((o, m), i) => coC ti okTo nt l i m o
    let r := orderC l.length cs 0
    let tmp := tempsOk l ms && guardsOk l ms
    if orderOk (2 ^ l.length - 1) r 0 0 && tmp then .drawn (olOf r) else pairC cs ms tmp
  else .line (lineC ti okTo nt ops.toList ops.toList)
def resC : List ResultVar → Option RL
  | [] => some .nil
  | .tmp t :: l => if t < 512 then match resC l with
    | some r => some (.tmp (fpath t) r)
    | none => none
    else none
  | .cell a t :: l => if a < 512 then match ti t, resC l with
    | some e, some r => some (.cell (fpath a) (isAggD e.und) e.info.size r)
    | _, _ => none
    else none
def fnC (fn : Option Func) (flag : Nat) : FnC := match fn with
  | some fn => match fn.body, resC ti fn.results.toList with
    | some c, some r => if fn.ntmps ≤ 512 then .go c r fn.ntmps flag else .bad
    | _, _ => .bad
  | none => .bad
/-- The functions of a program: those that ext names are not walked. -/
def envFn (fns : List (List Func)) (ext : Nat → Nat × Nat × Nat) (flag : Nat → Nat) (g : Nat) : FnC := match ext g with
  | (0, _, _) => fnC ti (look 38 fns g) (flag g)
  | (n + 1, t, u) => if n = 5 then .hush else .ext (extK (n + 1) t u)
end

/- ### Long runs in parts -/
/-- Objects laid down. -/
inductive PLs where
  | nil
  | cons (id : Nat) (o : Obj) (t : PLs)
/-- Layers of objects, the first one first. -/
inductive PP where
  | nil
  | cons (l : PLs) (t : PP)
def PLs.layK (l : PLs) : HE → (HE → Res) → Res := PLs.rec (motive := fun _ => HE → (HE → Res) → Res) (fun h k => k h) (fun id o _ ih h k => HE.setK (hpath id) o h fun h' => ih h' k) l
def PP.layK (l : PP) : HE → (HE → Res) → Res := PP.rec (motive := fun _ => HE → (HE → Res) → Res) (fun h k => k h) (fun l _ ih h k => l.layK h fun h' => ih h' k) l
/-- An object of which nothing is said, or the same one. -/
def Obj.cov (x y : Obj) : Bool := Obj.rec (motive := fun _ => Bool) true (fun _ _ _ _ _ _ => Obj.same x y) (fun _ _ => Obj.same x y) (fun _ _ => false) (fun _ _ _ _ => false) false (fun _ _ _ _ _ _ _ => false) false x
/-- All that the heap h has at the places of a list is so in the state s. -/
def PLs.covK (l : PLs) : HE → St → Res → Res := PLs.rec (motive := fun _ => HE → St → Res → Res) (fun _ _ k => k) (fun id _ _ ih h s k => guardK (Nat.ble (Nat.succ id) 262144) (guardK (Obj.cov (HE.get (hpath id) h) (s.get id)) (ih h s k))) l
def PP.covK (l : PP) : HE → St → Res → Res := PP.rec (motive := fun _ => HE → St → Res → Res) (fun _ _ k => k) (fun l _ ih h s k => l.covK h s (ih h s k)) l
/-- The end of a part: the value is as it was told, and all that was told of the state is so. -/
def partEnd (P0 : PP) (D : PLs) (h : HE) (v : AV) (n1 : Nat) (v' : AV) (s' : St) : Res := guardK (AV.beq v v') (guardK (Nat.ble s'.next n1) (guardK (Nat.ble n1 262144) (guardK (bnot s'.md.isOn) (D.layK h fun h1 => P0.covK h1 s' (D.covK h1 s' .nil)))))
/-- A part of a run: a call of g in the state that the layers P0 tell; behind it stands what D tells besides. -/
def partRun (E : Env) (ih : IH) (g : Nat) (a : AV) (P0 : PP) (n0 : Nat) (v : AV) (D : PLs) (n1 : Nat) : Res :=
  P0.layK za5 fun h => callK (E.fn g) ih (cv1 E ih) a ⟨h, n0, .off⟩ fun v' s' => partEnd P0 D h v n1 v' s'
def Res.isGood (r : Res) : Bool := Res.rec (motive := fun _ => Bool) false true (fun _ _ _ _ ih => ih) r
abbrev XRun := AV → St → (AV → St → Res) → Res
/-- A call that was run before. -/
def segK (a0 : AV) (P0 : PP) (n0 : Nat) (v : AV) (D : PLs) (n1 : Nat) (rest : XRun) : XRun := fun a s k => Bool.rec (motive := fun _ => Res) (rest a s k)
  (guardK (AV.beq a0 a) (guardK (bnot s.md.isOn) (P0.layK za5 fun h => P0.covK h s (D.layK h fun h1 => k v ⟨h1, n1, .off⟩)))) (Nat.beq s.next n0)
/-- An environment in which one function more is not walked. -/
def Env.put (E : Env) (g : Nat) (x : XRun) : Env := Env.rec (motive := fun _ => Env) (fun reg fn => ⟨reg, fun h => Bool.rec (motive := fun _ => FnC) (fn h) (.ext x) (Nat.beq h g)⟩) E
/-- The walk of a function. -/
def walkK (E : Env) (ih : IH) (g : Nat) : XRun := fun a s k => callK (E.fn g) ih (cv1 E ih) a s k
/-- A whole run: it must answer true. -/
def topRun (E : Env) (ih : IH) (g : Nat) (s : St) : Res := callK (E.fn g) ih (cv1 E ih) .lnil s fun v _ => guardK (v.boolIs true) .nil
/-- Is it dead? -/
def Obj.isDead (o : Obj) : Bool := Obj.rec (motive := fun _ => Bool) true (fun _ _ _ _ _ _ => false) (fun _ _ => false) (fun _ _ => false) (fun _ _ _ _ => false) false (fun _ _ _ _ _ _ _ => false) false o
/-- No object from the number n on, m of them. -/
def deadK (m : Nat) : Nat → St → Res → Res := Nat.rec (motive := fun _ => Nat → St → Res → Res) (fun _ _ k => k) (fun _ ih n s k => guardK (Obj.isDead (s.get n)) (ih (Nat.succ n) s k)) m
/-- A call that was run before; what it does not know stays. -/
def fragK (a0 : AV) (P0 : PP) (n0 : Nat) (v : AV) (D : PLs) (n1 : Nat) (rest : XRun) : XRun := fun a s k => Bool.rec (motive := fun _ => Res) (rest a s k)
  (guardK (AV.beq a0 a) (guardK (bnot s.md.isOn) (guardK (Nat.ble n0 n1) (deadK (Nat.sub n1 n0) n0 s (P0.layK za5 fun h => P0.covK h s (St.rec (motive := fun _ => Res) (fun hs _ _ => D.layK hs fun h1 => k v ⟨h1, n1, .off⟩) s)))))) (Nat.beq s.next n0)

/- ### States told as literals -/
namespace Lit
def b2l (n : Nat) : Nat → BL := Nat.rec (motive := fun _ => Nat → BL) (fun _ => .nil) (fun _ ih v => .cons (Nat.mod v 256) (ih (Nat.div v 256))) n
def b8 (n : Nat) : Nat → AV := Nat.rec (motive := fun _ => Nat → AV) (fun _ => .lnil) (fun _ ih v => .lcons (.int .u8 (.ofNat (Nat.mod v 256))) (ih (Nat.div v 256))) n
def al (l : List AV) : AV := List.rec (motive := fun _ => AV) .lnil (fun h _ ih => .lcons h ih) l
def m (k v : AV) (b : Nat) (t : ML) : ML := .cons k v b t
def ml (l : List (ML → ML)) : ML := List.rec (motive := fun _ => ML) .nil (fun h _ ih => h ih) l
def i (n : Nat) : AV := .int .i64 (.ofNat n)
def j (k : IntKind) (n : Nat) : AV := .int k (.ofNat n)
def q (k : IntKind) (n : Nat) : AV := .int k (.negSucc n)
def s (n v : Nat) : AV := .str (b2l n v)
def o (id : Nat) (x : Obj) (t : PLs) : PLs := .cons id x t
def pl (l : List (PLs → PLs)) : PLs := List.rec (motive := fun _ => PLs) .nil (fun h _ ih => h ih) l
def pp (l : List PLs) : PP := List.rec (motive := fun _ => PP) .nil (fun h _ ih => .cons h ih) l
end Lit
end
end Go.Ax
