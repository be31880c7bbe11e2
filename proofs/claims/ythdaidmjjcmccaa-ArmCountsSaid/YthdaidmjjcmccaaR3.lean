/- Proved here: lemmas and contracts (what a function of the program computes) that the proofs of the laws of this seat lean on. Conditions: as each theorem states. -/
import Derived.Test.YthdaidmjjcmccaaR0
set_option linter.unusedVariables false
set_option linter.unusedSimpArgs false
namespace Go.Pk
open Go.RowKit Go.ChangeShapes Go.WideShapes Go.ChangeAt Go.Deep
/-! Slices of bools. -/
def encB (l : List Bool) : List Value := l.map Value.bool
def RdBo (w : World) (A : Option Addr) (l : List Bool) : Prop := l.length ≤ 9223372036854775807 ∧ RdC w A (encB l)
theorem RdC.below' {w W : World} {A : Option Addr} {vs : List Value} (h : RdC w A vs) (hb : Below w.heap.size w W) : RdC W A vs := fun i u hi => by
  obtain ⟨b, off, e, hc⟩ := h i u hi
  exact ⟨b, off, e, bl_cell hb hc⟩
theorem RdBo.below {w W : World} {A : Option Addr} {l : List Bool} (h : RdBo w A l) (hb : Below w.heap.size w W) : RdBo W A l := ⟨h.1, h.2.below' hb⟩
theorem RdBo.at {w : World} {A : Option Addr} {l : List Bool} (h : RdBo w A l) {i : Nat} (hi : i < l.length) : ∃ b off, A = some ⟨b, off, none⟩ ∧ w.cell? ⟨b, off + i, none⟩ = some (.bool (l.getD i false)) := by
  have : (encB l)[i]? = some (.bool (l.getD i false)) := by
    unfold encB
    rw [List.getElem?_map, List.getD_eq_getElem?_getD, List.getElem?_eq_getElem hi]
    rfl
  exact h.2 i _ this
section
variable {H : Type} {enc : TypeId × Value → H} {P : Program} {w : World} {base : Nat} {spare : Nat → Bool} {held : Bool}
theorem open_boolsC {t e : TypeId} {fuel : Nat} {cs : List Value} {x : DataW H × List MemPlace} (ht : P.underlying t = some (.slice e)) (he : P.underlying e = some .bool) (hk : P.cellsOf e = 1) (h : DataW.trod enc P w base spare held fuel t cs = some x) :
    ∃ (A : Option Addr) (l : List Bool) (c : Nat), cs = [.slice A l.length c] ∧ l.length ≤ c ∧ RdBo w A l := by
  obtain ⟨A, n, c, m, R, rfl, hc, hn, hR, hrd⟩ := open_rowC ht hk (by omega) h
  obtain ⟨z, hz⟩ := choose_lt (n := n) (α := Bool) (p := fun i v => R i = [.bool v]) (fun i hi => by
    obtain ⟨_, y, hy⟩ := hR i hi
    obtain ⟨v, h1, _⟩ := DataW.trod_bool he hy
    exact ⟨v, h1⟩)
  refine ⟨A, (List.range n).map z, c, by simp, by simpa using hc, by simpa using hn, ?_⟩
  have e : encB ((List.range n).map z) = (List.range n).flatMap R := by
    unfold encB
    rw [List.map_map]
    have : ∀ l : List Nat, (∀ i ∈ l, i < n) → l.map (Value.bool ∘ z) = l.flatMap R := by
      intro l
      induction l with
      | nil => intro _; rfl
      | cons a l ih =>
        intro hl
        rw [List.map_cons, List.flatMap_cons, ih (fun i hi => hl i (by simp [hi])), hz a (hl a (by simp))]
        rfl
    exact this _ (fun i hi => List.mem_range.1 hi)
  rw [e]; exact hrd
theorem open_boolsV {r : Reach} {b0 : Nat} {t e : TypeId} {v : Value} {d : DataW H} {ps : List MemPlace} (ht : P.underlying t = some (.slice e)) (he : P.underlying e = some .bool) (hk : P.cellsOf e = 1) (hv : Value.okWide P w r b0 t v) (h : DataW.Trod enc P w base spare held t v d ps) :
    ∃ (A : Option Addr) (l : List Bool) (c : Nat), v = .slice A l.length c ∧ l.length ≤ c ∧ RdBo w A l := by
  obtain ⟨a, l, c, rfl⟩ := okWide_slice ht hv
  obtain ⟨fuel, hf⟩ := h
  obtain ⟨A, xs, cc, h1, h2, h3⟩ := open_boolsC ht he hk (cs := [.slice a l c]) (by simpa [Value.cells] using hf)
  injection h1 with h1
  exact ⟨A, xs, cc, h1, h2, h3⟩
end
end Go.Pk
namespace Go.Proofs.Ythdaidmjjcmccaa
end Go.Proofs.Ythdaidmjjcmccaa
