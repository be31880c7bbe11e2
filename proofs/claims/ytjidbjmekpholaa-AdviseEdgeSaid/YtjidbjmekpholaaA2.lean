/- Proved here: lemmas and contracts (what a function of the program computes) that the proofs of the laws of this seat lean on. Conditions: as each theorem states. -/
import Derived.Test.YtjidbjmekpholaaA1
set_option linter.unusedVariables false
set_option linter.unusedSimpArgs false
namespace Go.Pk
open Go.RowKit
theorem cutL {J G : Prop} (h : J → G) (j : J) : G := h j
theorem blk_cell {w : World} {g : Nat} {cs : Array Value} {t : TypeId} {fr : Nat × Nat} (h : w.heap[g]? = some (.cells cs t fr)) (i : Nat) {v : Value} (hv : cs[i]? = some v) : w.cell? ⟨g, i, none⟩ = some v := (blkc h i).trans hv
theorem AccAt.far {w : World} {a : Addr} {o : Bool} (h : AccAt w (some a) o) {g : Nat} (hne : PNe (some a) g) (i : Nat) (u : Value) : AccAt (w.setCell ⟨g, i, none⟩ u) (some a) o := by
  have e := hne a rfl
  refine ⟨?_, ?_⟩
  · rw [World.cell?_setCell_other w _ _ _ (fun k => e (by rw [← k]))]; exact h.1
  · rw [World.frozen?_setCell]; exact h.2
theorem AccAt.far2 {w : World} {a : Addr} {o : Bool} (h : AccAt w (some a) o) {g : Nat} (hne : PNe (some a) g) (u v : Value) : AccAt ((w.setCell ⟨g, 0, none⟩ u).setCell ⟨g, 1, none⟩ v) (some a) o := (h.far hne 0 u).far hne 1 v
end Go.Pk
