/- Proved here: lemmas and contracts (what a function of the program computes) that the proofs of the laws of this seat lean on. Conditions: as each theorem states. -/
import Derived.Test.YtjidbjmekpholaaA2
set_option linter.unusedVariables false
set_option linter.unusedSimpArgs false
namespace Go.Pk
open Go.RowKit
structure Bx (J : Prop) : Prop where
  out : J
theorem cutB {J G : Prop} (h : Bx J → G) (j : J) : G := h ⟨j⟩
theorem AccAt.other {w w1 : World} {p q : Addr} {o b : Bool} (h : AccAt w (some q) o) (hb : Below w.heap.size (orCell w (some p) b) w1) (hne : p.block ≠ q.block) : AccAt w1 (some q) o := by
  cases b
  · exact AccAt.below h hb
  · have h2 : AccAt (w.setCell p (.bool true)) (some q) o := by
      refine ⟨?_, ?_⟩
      · rw [World.cell?_setCell_other w _ _ _ (fun k => hne (by rw [k]))]; exact h.1
      · rw [World.frozen?_setCell]; exact h.2
    have hb2 : Below w.heap.size (w.setCell p (.bool true)) w1 := hb
    exact AccAt.below h2 (by rw [show (w.setCell p (.bool true)).heap.size = w.heap.size by simp [World.setCell]]; exact hb2)
end Go.Pk
