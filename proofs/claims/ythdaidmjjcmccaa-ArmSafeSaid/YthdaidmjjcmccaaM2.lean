/- Proved here: lemmas and contracts (what a function of the program computes) that the proofs of the laws of this seat lean on. Conditions: as each theorem states. -/
import Derived.Test.YthdaidmjjcmccaaM1
set_option linter.unusedVariables false
set_option linter.unusedSimpArgs false
namespace Go.Pk
theorem minL2 (a b : Int) (l : List Int) : minL (a :: b :: l) = minL (min a b :: l) := by
  have e : (if b < a then b else a) = min a b := by split <;> omega
  simp only [minL, List.foldl_cons, e]
theorem maxL2 (a b : Int) (l : List Int) : maxL (a :: b :: l) = maxL (max a b :: l) := by
  have e : (if a < b then b else a) = max a b := by split <;> omega
  simp only [maxL, List.foldl_cons, e]
theorem minL1 (a : Int) : minL [a] = a := rfl
theorem maxL1 (a : Int) : maxL [a] = a := rfl
theorem someB_cons (s : Sp) (l : List Sp) : someB (s :: l) = (!decide (s.hi < s.lo) && someB l) := rfl
theorem in_iff (x y : Sp) : (inS x y = true) ↔ (x.hi < x.lo ∨ (y.lo ≤ x.lo ∧ x.hi ≤ y.hi)) := by simp [inS]
theorem has_iff (x : Sp) (n : Int) : (hasS x n = true) ↔ (x.lo ≤ n ∧ n ≤ x.hi) := by simp [hasS]
end Go.Pk
