/- Proved here: lemmas and contracts (what a function of the program computes) that the proofs of the laws of this seat lean on. Conditions: as each theorem states. -/
import Derived.Test.YtggididnclfahaaM0
set_option linter.unusedVariables false
set_option linter.unusedSimpArgs false
namespace Go.Pk
open Go.RowKit
def mxI (a b : Int) : Int := if a < b then b else a
def prodL (l m : List Int) (up : Bool) : List Int := l.flatMap fun x => m.map fun y => clampI (fmul x y up)
def ovP (l m : List Int) : Bool := l.any fun x => m.any fun y => ovI (fmul x y false) || ovI (fmul x y true)
theorem prodL_snoc (l m : List Int) (x : Int) (up : Bool) : prodL (l ++ [x]) m up = prodL l m up ++ m.map fun y => clampI (fmul x y up) := by simp [prodL]
theorem ovP_snoc (l m : List Int) (x : Int) : ovP (l ++ [x]) m = (ovP l m || m.any fun y => ovI (fmul x y false) || ovI (fmul x y true)) := by simp [ovP]
theorem prodL_length (l m : List Int) (up : Bool) : (prodL l m up).length = l.length * m.length := by
  induction l with
  | nil => simp [prodL]
  | cons x l ih => simp only [prodL, List.flatMap_cons, List.length_append, List.length_map] at *; rw [ih, List.length_cons, Nat.succ_mul]; omega
theorem clampL_in (l : List Int) (f : Int → Int) : InI (l.map fun y => clampI (f y)) := fun x hx => by
  obtain ⟨y, _, rfl⟩ := List.mem_map.1 hx; exact clampI_rng _
def halvesS (s : Sp) : Sp × Sp := if s.hi < s.lo then (⟨0, -1⟩, ⟨0, -1⟩) else if s.lo = s.hi then (s, ⟨0, -1⟩) else (⟨s.lo, (s.lo + s.hi) / 2⟩, ⟨(s.lo + s.hi) / 2 + 1, s.hi⟩)
def wideS (s : Sp) (n : Int) : Sp := if s.hi < s.lo then ⟨0, -1⟩ else ⟨clampI (s.lo - mxI n 0), clampI (s.hi + mxI n 0)⟩
def spanOf (l : List Int) : Sp := if l = [] then ⟨0, -1⟩ else ⟨minL l, maxL l⟩
def endsJ (l : List Sp) : List Int := l.flatMap fun s => if s.hi < s.lo then [] else [s.lo, s.hi]
def joinS (l : List Sp) : Sp := spanOf (endsJ l)
def meetO (l : List Sp) : Sp := ⟨maxL (l.map Sp.lo ++ [-9223372036854775808]), minL (l.map Sp.hi ++ [9223372036854775807])⟩
def meetS (l : List Sp) : Sp := if (meetO l).hi < (meetO l).lo then ⟨0, -1⟩ else if someB l then meetO l else ⟨0, -1⟩
theorem endsJ_snoc (l : List Sp) (s : Sp) : endsJ (l ++ [s]) = endsJ l ++ if s.hi < s.lo then [] else [s.lo, s.hi] := by simp [endsJ]
theorem endsJ_length (l : List Sp) : (endsJ l).length ≤ l.length * 2 := by
  induction l with
  | nil => simp [endsJ]
  | cons s l ih =>
    have e : endsJ (s :: l) = (if s.hi < s.lo then [] else [s.lo, s.hi]) ++ endsJ l := by simp [endsJ]
    rw [e, List.length_append, List.length_cons]
    have h2 : (if s.hi < s.lo then ([] : List Int) else [s.lo, s.hi]).length ≤ 2 := by split <;> simp
    omega
theorem endsJ_in (l : List Sp) (h : InS l) : InI (endsJ l) := by
  intro x hx
  obtain ⟨s, hs, hx⟩ := List.mem_flatMap.1 hx
  split at hx
  · simp at hx
  · have := h s hs
    simp at hx
    rcases hx with rfl | rfl
    · exact this.1
    · exact this.2
end Go.Pk
