/- Proved here: lemmas and contracts (what a function of the program computes) that the proofs of the laws of this seat lean on. Conditions: as each theorem states. -/
import Derived.Test.YtggididnclfahaaA1
import Derived.Test.YtggididnclfahaaM0
import Derived.Test.YtggididnclfahaaM1
set_option linter.unusedVariables false
set_option linter.unusedSimpArgs false
namespace Go.Pk
open Go.RowKit
/-! A plant as plain data, and what its kit computes. -/
structure Pl where
  A : List (List Int)
  B : List Int
  inp : Sp
  W : List Sp
  Inv : List Sp
  Safe : List Sp
  gain : List Int
  bias : Int
/-- How many spans are empty. -/
def emptyB (s : Sp) : Bool := decide (s.hi < s.lo)
def longP (p : Pl) : Bool := decide (1 ≤ p.B.length) && decide (p.B.length ≤ 3) && decide (p.A.length = p.B.length) && !(p.A.any fun l => decide (l.length ≠ p.B.length)) && decide (p.W.length = p.B.length) && decide (p.Inv.length = p.B.length) && decide (p.Safe.length = p.B.length) && decide (p.gain.length = p.B.length)
def farI (n : Int) : Bool := decide (n < -1000) || decide (1000 < n)
def wrongP (p : Pl) : Bool := emptyB p.inp || p.W.any emptyB || p.Inv.any emptyB || (p.A ++ [p.B]).any (fun l => l.any farI) || (p.Inv.zip p.Safe).any fun q => !inS q.1 q.2
/-- The error of New. -/
def newE (p : Pl) : Int := if longP p then (if wrongP p then 42 else 0) else 1
def exS (l : List Sp) : Int := sumI (l.map fun q => q.lo * q.hi)
def fitsI (z : Int) : Bool := decide (-9223372036854775808 ≤ z) && decide (z ≤ 9223372036854775807)
/-- The pairs of a row. -/
def pairsP (p : Pl) (u : Int) (w x : List Int) (i : Nat) : List Sp := [⟨p.B.getD i 0, u⟩, ⟨1, w.getD i 0⟩] ++ (List.range (p.A.getD i []).length).map fun j => ⟨(p.A.getD i []).getD j 0, x.getD j 0⟩
def nextZ (p : Pl) (u : Int) (w x : List Int) (i : Nat) : Int := exS (pairsP p u w x i)
def areP (p : Pl) (n : Nat) : Bool := decide (n = p.B.length) && decide (0 < n)
def mulsP (p : Pl) (x : List Int) : List Int := (List.range x.length).map fun i => clampI (fmul (p.gain.getD i 0) (x.getD i 0) false)
def baseP (p : Pl) (x : List Int) : Int := if areP p x.length then clampTo (clampI (sumI (p.bias :: mulsP p x))) p.inp.lo p.inp.hi else 0
def insideP (p : Pl) (x : List Int) : Bool := areP p x.length && (List.range x.length).all fun i => hasS (p.Inv.getD i ⟨0, 0⟩) (x.getD i 0)
/-- Where all is a number that fits. -/
def InP (p : Pl) : Prop := (∀ l ∈ p.A, InI l) ∧ InI p.B ∧ InS [p.inp] ∧ InS p.W ∧ InS p.Inv ∧ InS p.Safe ∧ InI p.gain ∧ (-9223372036854775808 ≤ p.bias ∧ p.bias ≤ 9223372036854775807)
/-! ### How it lies in memory -/
/-- A slice of slices of numbers is read. -/
def RdR (w : World) (A : Option Addr) (l : List (List Int)) : Prop := l.length ≤ 9223372036854775807 ∧ ∀ i, i < l.length → ∃ b off B c, A = some ⟨b, off, none⟩ ∧ w.cell? ⟨b, off + i, none⟩ = some (.slice B (l.getD i []).length c) ∧ (l.getD i []).length ≤ c ∧ RdI w B (l.getD i [])
theorem RdR.below {w W : World} {A : Option Addr} {l : List (List Int)} (h : RdR w A l) (hb : Below w.heap.size w W) : RdR W A l := ⟨h.1, fun i hi => by
  obtain ⟨b, off, B, c, e, h1, h2, h3⟩ := h.2 i hi
  exact ⟨b, off, B, c, e, bl_cell hb h1, h2, h3.below hb⟩⟩
structure PA where
  aA : Option Addr
  cA : Nat
  aB : Option Addr
  cB : Nat
  aW : Option Addr
  cW : Nat
  aI : Option Addr
  cI : Nat
  aS : Option Addr
  cS : Nat
  aG : Option Addr
  cG : Nat
def PA.cells (q : PA) (p : Pl) : List Value := [.slice q.aA p.A.length q.cA, .slice q.aB p.B.length q.cB, .int .i64 p.inp.lo, .int .i64 p.inp.hi, .slice q.aW p.W.length q.cW, .slice q.aI p.Inv.length q.cI, .slice q.aS p.Safe.length q.cS, .slice q.aG p.gain.length q.cG, .int .i64 p.bias]
structure PA.rd (q : PA) (w : World) (p : Pl) : Prop where
  A : RdR w q.aA p.A
  B : RdI w q.aB p.B
  W : RdS w q.aW p.W
  I : RdS w q.aI p.Inv
  S : RdS w q.aS p.Safe
  G : RdI w q.aG p.gain
  kA : p.A.length ≤ q.cA
  kB : p.B.length ≤ q.cB
  kW : p.W.length ≤ q.cW
  kI : p.Inv.length ≤ q.cI
  kS : p.Safe.length ≤ q.cS
  kG : p.gain.length ≤ q.cG
theorem PA.rd.below {q : PA} {w W : World} {p : Pl} (h : q.rd w p) (hb : Below w.heap.size w W) : q.rd W p :=
  ⟨h.A.below hb, h.B.below hb, h.W.below hb, h.I.below hb, h.S.below hb, h.G.below hb, h.kA, h.kB, h.kW, h.kI, h.kS, h.kG⟩
/-- A kit lies in block g. -/
def KitAt (w : World) (g T : Nat) (p : Pl) : Prop := ∃ q1 q2 : PA, w.heap[g]? = some (.cells (q1.cells p ++ q2.cells p).toArray T (0, 0)) ∧ q1.rd w p ∧ q2.rd w p
theorem KitAt.below {w W : World} {g T : Nat} {p : Pl} (h : KitAt w g T p) (hb : Below w.heap.size w W) : KitAt W g T p := by
  obtain ⟨q1, q2, h1, h2, h3⟩ := h
  exact ⟨q1, q2, bl_block hb h1, h2.below hb, h3.below hb⟩
end Go.Pk
