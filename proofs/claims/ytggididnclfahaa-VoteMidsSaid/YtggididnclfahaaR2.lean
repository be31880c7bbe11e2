/- Proved here: lemmas and contracts (what a function of the program computes) that the proofs of the laws of this seat lean on. Conditions: as each theorem states. -/
import Derived.Test.YtggididnclfahaaR1
set_option linter.unusedVariables false
set_option linter.unusedSimpArgs false
namespace Go.Pk
open Go.RowKit Go.ChangeShapes Go.WideShapes Go.Deep
section
variable {H : Type} {enc : TypeId × Value → H} {P : Program} {w : World} {base : Nat} {spare : Nat → Bool} {held : Bool}
/-- A slice of spans as an argument. -/
theorem open_spansV {r : Reach} {b0 : Nat} {t e ti : TypeId} {fs : Array Field} {f0 f1 : Field} {v : Value} {d : DataW H} {ps : List MemPlace} (ht : P.underlying t = some (.slice e)) (he : P.underlying e = some (.struct fs)) (hf0 : fs[0]? = some f0) (hf1 : fs[1]? = some f1) (ht0 : f0.type = ti) (ht1 : f1.type = ti) (ho0 : f0.offset = 0) (ho1 : f1.offset = 1) (hti : P.underlying ti = some (.int .i64)) (hk : P.cellsOf e = 2) (hk2 : P.cellsOf ti = 1) (hv : Value.okWide P w r b0 t v) (h : DataW.Trod enc P w base spare held t v d ps) :
    ∃ (A : Option Addr) (l : List Sp) (c : Nat), v = .slice A l.length c ∧ l.length ≤ c ∧ RdS w A l ∧ InS l := by
  obtain ⟨a, l, c, rfl⟩ := okWide_slice ht hv
  obtain ⟨fuel, hf⟩ := h
  obtain ⟨A, xs, cc, h1, h2, h3, h4⟩ := open_spansC ht he hf0 hf1 ht0 ht1 ho0 ho1 hti hk hk2 (cs := [.slice a l c]) (by simpa [Value.cells] using hf)
  injection h1 with h1
  exact ⟨A, xs, cc, h1, h2, h3, h4⟩
end
end Go.Pk
namespace Go.Proofs.Ytggididnclfahaa
end Go.Proofs.Ytggididnclfahaa
