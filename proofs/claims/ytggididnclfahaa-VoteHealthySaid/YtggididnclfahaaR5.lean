/- Proved here: lemmas and contracts (what a function of the program computes) that the proofs of the laws of this seat lean on. Conditions: as each theorem states. -/
import Derived.Test.YtggididnclfahaaR2
set_option linter.unusedVariables false
set_option linter.unusedSimpArgs false
namespace Go.Pk
open Go.RowKit Go.ChangeShapes Go.WideShapes Go.Deep
section
variable {H : Type} {enc : TypeId × Value → H} {P : Program} {w : World} {base : Nat} {spare : Nat → Bool} {held : Bool}
/-- A pair's two cells (an array of two numbers). -/
theorem open_pairC {e ti : TypeId} {fuel : Nat} {cs : List Value} {x : DataW H × List MemPlace} (he : P.underlying e = some (.array 2 ti)) (hti : P.underlying ti = some (.int .i64)) (hk2 : P.cellsOf ti = 1) (hl : cs.length = 2) (h : DataW.trod enc P w base spare held fuel e cs = some x) :
    ∃ s : Sp, cs = [.int .i64 s.lo, .int .i64 s.hi] ∧ InS [s] := by
  obtain ⟨ys, m, _, rfl, _, hy, hf⟩ := DataW.trod_array he h
  match ys, hy with
  | [y0, y1], _ =>
    match cs, hl with
    | [u, v], _ =>
      have h0 := hf 0 (by omega)
      have h1 := hf 1 (by omega)
      rw [hk2] at h0 h1
      obtain ⟨a, ha, _, ha2⟩ := DataW.trod_int hti (by simpa using h0)
      obtain ⟨b, hb, _, hb2⟩ := DataW.trod_int hti (by simpa using h1)
      simp only [List.cons.injEq, and_true] at ha hb
      subst ha hb
      refine ⟨⟨a, b⟩, rfl, ?_⟩
      have := bounds_i64 ha2
      have := bounds_i64 hb2
      unfold InS
      simp
      omega
instance : Inhabited Sp := ⟨⟨0, 0⟩⟩
/-- A slice of pairs. -/
theorem open_pairsC {t e ti : TypeId} {fuel : Nat} {cs : List Value} {x : DataW H × List MemPlace} (ht : P.underlying t = some (.slice e)) (he : P.underlying e = some (.array 2 ti)) (hti : P.underlying ti = some (.int .i64)) (hk : P.cellsOf e = 2) (hk2 : P.cellsOf ti = 1) (h : DataW.trod enc P w base spare held fuel t cs = some x) :
    ∃ (A : Option Addr) (l : List Sp) (c : Nat), cs = [.slice A l.length c] ∧ l.length ≤ c ∧ RdS w A l ∧ InS l := by
  obtain ⟨A, n, c, m, R, rfl, hc, hn, hR, hrd⟩ := open_rowC ht hk (by omega) h
  obtain ⟨z, hz⟩ := choose_lt (n := n) (α := Sp) (p := fun i v => R i = [.int .i64 v.lo, .int .i64 v.hi] ∧ InS [v]) (fun i hi => by
    obtain ⟨hl, y, hy⟩ := hR i hi
    exact open_pairC he hti hk2 hl hy)
  refine ⟨A, (List.range n).map z, c, by simp, by simpa using hc, ⟨by simpa using hn, ?_⟩, ?_⟩
  · have e : encS ((List.range n).map z) = (List.range n).flatMap R := by
      unfold encS
      have : ∀ l : List Nat, (∀ i ∈ l, i < n) → (l.map z).flatMap (fun s => [Value.int .i64 s.lo, .int .i64 s.hi]) = l.flatMap R := by
        intro l
        induction l with
        | nil => intro _; rfl
        | cons a l ih =>
          intro hl
          rw [List.map_cons, List.flatMap_cons, List.flatMap_cons, ih (fun i hi => hl i (by simp [hi])), (hz a (hl a (by simp))).1]
      exact this _ (fun i hi => List.mem_range.1 hi)
    rw [e]; exact hrd
  · intro v hv
    obtain ⟨i, hi, rfl⟩ := List.mem_map.1 hv
    exact (hz i (List.mem_range.1 hi)).2 _ (by simp)
/-- A slice of pairs as an argument. -/
theorem open_pairsV {r : Reach} {b0 : Nat} {t e ti : TypeId} {v : Value} {d : DataW H} {ps : List MemPlace} (ht : P.underlying t = some (.slice e)) (he : P.underlying e = some (.array 2 ti)) (hti : P.underlying ti = some (.int .i64)) (hk : P.cellsOf e = 2) (hk2 : P.cellsOf ti = 1) (hv : Value.okWide P w r b0 t v) (h : DataW.Trod enc P w base spare held t v d ps) :
    ∃ (A : Option Addr) (l : List Sp) (c : Nat), v = .slice A l.length c ∧ l.length ≤ c ∧ RdS w A l ∧ InS l := by
  obtain ⟨a, l, c, rfl⟩ := okWide_slice ht hv
  obtain ⟨fuel, hf⟩ := h
  obtain ⟨A, xs, cc, h1, h2, h3, h4⟩ := open_pairsC ht he hti hk hk2 (cs := [.slice a l c]) (by simpa [Value.cells] using hf)
  injection h1 with h1
  exact ⟨A, xs, cc, h1, h2, h3, h4⟩
end
end Go.Pk
namespace Go.Proofs.Ytggididnclfahaa
end Go.Proofs.Ytggididnclfahaa
