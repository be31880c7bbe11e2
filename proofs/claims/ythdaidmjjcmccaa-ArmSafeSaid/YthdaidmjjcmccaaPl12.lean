/- Proved here: lemmas and contracts (what a function of the program computes) that the proofs of the laws of this seat lean on. Conditions: as each theorem states. -/
import Derived.Test.YthdaidmjjcmccaaPl9
set_option linter.unusedVariables false
set_option linter.unusedSimpArgs false
namespace Go.Pk
open Go.RowKit
theorem GoodP.inp {p : Pl} (h : GoodP p) : p.inp.lo ≤ p.inp.hi := by
  have hw := h.2.1
  unfold wrongP at hw
  simp only [Bool.or_eq_false_iff] at hw
  have := hw.1.1.1.1
  unfold emptyB at this
  have := of_decide_eq_false this
  omega
theorem baseP_in {p : Pl} (h : GoodP p) (x : List Int) (hx : x.length = p.B.length) : p.inp.lo ≤ baseP p x ∧ baseP p x ≤ p.inp.hi := by
  obtain ⟨h1, h2, -⟩ := h.lens
  have hare : areP p x.length = true := by unfold areP; simp [hx]; omega
  have := h.inp
  unfold baseP
  rw [if_pos hare]
  unfold clampTo
  split
  · omega
  · split <;> omega
end Go.Pk
namespace Go.Proofs.Ythdaidmjjcmccaa
open Go.RowKit Go.Pk Go.Proofs.YthdaidmjjcmccaaW.PrintLast
end Go.Proofs.Ythdaidmjjcmccaa
