/- Proved here: lemmas and contracts (what a function of the program computes) that the proofs of the laws of this seat lean on. Conditions: as each theorem states. -/
import Derived.Test.YthdaidmjjcmccaaPl13
import Derived.Test.YthdaidmjjcmccaaMp2
set_option linter.unusedVariables false
set_option linter.unusedSimpArgs false
namespace Go.Pk
open Go.RowKit
theorem AtM.of {M : Nat} {l : List Int} {n : Nat} (hn : l.length = n) (h : ∀ j, j < n → -(M : Int) ≤ l.getD j 0 ∧ l.getD j 0 ≤ M) : AtM M l := fun i => by
  by_cases hi : i < n
  · exact h i hi
  · rw [List.getD_eq_getElem?_getD, List.getElem?_eq_none (by omega)]; simp
end Go.Pk
namespace Go.Proofs.Ythdaidmjjcmccaa
open Go.RowKit Go.Pk Go.Proofs.YthdaidmjjcmccaaW.PrintLast
end Go.Proofs.Ythdaidmjjcmccaa
