/- Proved here: lemmas and contracts (what a function of the program computes) that the proofs of the laws of this seat lean on. Conditions: as each theorem states. -/
import Derived.Test.YtggididnclfahaaR0
import Derived.Test.YtggididnclfahaaPl
set_option linter.unusedVariables false
set_option linter.unusedSimpArgs false
namespace Go.Pk
open Go.RowKit Go.ChangeShapes Go.WideShapes Go.Deep
section
variable {H : Type} {enc : TypeId × Value → H} {P : Program} {w : World} {base : Nat} {spare : Nat → Bool} {held : Bool}
/-- A slice of slices of numbers. -/
theorem open_rowsC {t e e2 : TypeId} {fuel : Nat} {cs : List Value} {x : DataW H × List MemPlace} (ht : P.underlying t = some (.slice e)) (he : P.underlying e = some (.slice e2)) (he2 : P.underlying e2 = some (.int .i64)) (hk : P.cellsOf e = 1) (hk2 : P.cellsOf e2 = 1) (h : DataW.trod enc P w base spare held fuel t cs = some x) :
    ∃ (A : Option Addr) (l : List (List Int)) (c : Nat), cs = [.slice A l.length c] ∧ l.length ≤ c ∧ RdR w A l ∧ (∀ x ∈ l, InI x) := by
  obtain ⟨A, n, c, m, R, rfl, hc, hn, hR, hrd⟩ := open_rowC ht hk (by omega) h
  obtain ⟨z, hz⟩ := choose_lt (n := n) (α := Option Addr × List Int × Nat) (p := fun i v => R i = [.slice v.1 v.2.1.length v.2.2] ∧ v.2.1.length ≤ v.2.2 ∧ RdI w v.1 v.2.1 ∧ InI v.2.1) (fun i hi => by
    obtain ⟨_, y, hy⟩ := hR i hi
    obtain ⟨B, l, c, h1, h2, h3, h4⟩ := open_intsC he he2 hk2 hy
    exact ⟨(B, l, c), h1, h2, h3, h4⟩)
  have hg : ∀ i, i < n → ((List.range n).map fun i => (z i).2.1).getD i [] = (z i).2.1 := fun i hi => by
    rw [List.getD_eq_getElem?_getD, List.getElem?_map, List.getElem?_range hi]; rfl
  refine ⟨A, (List.range n).map (fun i => (z i).2.1), c, by simp, by simpa using hc, ⟨by simpa using hn, fun i hi => ?_⟩, fun v hv => ?_⟩
  · have hi' : i < n := by simpa using hi
    obtain ⟨h1, h2, h3, h4⟩ := hz i hi'
    obtain ⟨f1, f2⟩ := flat_at R 1 (by omega) n (fun i hi => (hR i hi).1)
    have hj := f2 i (by omega)
    rw [Nat.div_one, Nat.mod_one, h1] at hj
    obtain ⟨b, off, e1, e2⟩ := hrd i _ hj
    rw [hg i hi']
    exact ⟨b, off, _, _, e1, e2, h2, h3⟩
  · obtain ⟨i, hi, rfl⟩ := List.mem_map.1 hv
    exact (hz i (List.mem_range.1 hi)).2.2.2
/-- A span's two cells. -/
theorem open_spanC {e ti : TypeId} {fs : Array Field} {f0 f1 : Field} {fuel : Nat} {cs : List Value} {x : DataW H × List MemPlace} (he : P.underlying e = some (.struct fs)) (hf0 : fs[0]? = some f0) (hf1 : fs[1]? = some f1) (ht0 : f0.type = ti) (ht1 : f1.type = ti) (ho0 : f0.offset = 0) (ho1 : f1.offset = 1) (hti : P.underlying ti = some (.int .i64)) (hk2 : P.cellsOf ti = 1) (hl : cs.length = 2) (h : DataW.trod enc P w base spare held fuel e cs = some x) :
    ∃ s : Sp, cs = [.int .i64 s.lo, .int .i64 s.hi] ∧ InS [s] := by
  obtain ⟨n0, y0, hy0⟩ := open_field he h hf0
  obtain ⟨n1, y1, hy1⟩ := open_field he h hf1
  rw [ht0, ho0, hk2] at hy0
  rw [ht1, ho1, hk2] at hy1
  obtain ⟨a, ha, _, ha2⟩ := DataW.trod_int hti hy0
  obtain ⟨b, hb, _, hb2⟩ := DataW.trod_int hti hy1
  match cs, hl with
  | [u, v], _ =>
    simp only [List.drop_zero, List.take_succ_cons, List.take_zero, List.drop_succ_cons, List.cons.injEq, and_true] at ha hb
    subst ha hb
    refine ⟨⟨a, b⟩, rfl, ?_⟩
    have := bounds_i64 ha2
    have := bounds_i64 hb2
    unfold InS
    simp
    omega
instance : Inhabited Sp := ⟨⟨0, 0⟩⟩
/-- A slice of spans. -/
theorem open_spansC {t e ti : TypeId} {fs : Array Field} {f0 f1 : Field} {fuel : Nat} {cs : List Value} {x : DataW H × List MemPlace} (ht : P.underlying t = some (.slice e)) (he : P.underlying e = some (.struct fs)) (hf0 : fs[0]? = some f0) (hf1 : fs[1]? = some f1) (ht0 : f0.type = ti) (ht1 : f1.type = ti) (ho0 : f0.offset = 0) (ho1 : f1.offset = 1) (hti : P.underlying ti = some (.int .i64)) (hk : P.cellsOf e = 2) (hk2 : P.cellsOf ti = 1) (h : DataW.trod enc P w base spare held fuel t cs = some x) :
    ∃ (A : Option Addr) (l : List Sp) (c : Nat), cs = [.slice A l.length c] ∧ l.length ≤ c ∧ RdS w A l ∧ InS l := by
  obtain ⟨A, n, c, m, R, rfl, hc, hn, hR, hrd⟩ := open_rowC ht hk (by omega) h
  obtain ⟨z, hz⟩ := choose_lt (n := n) (α := Sp) (p := fun i v => R i = [.int .i64 v.lo, .int .i64 v.hi] ∧ InS [v]) (fun i hi => by
    obtain ⟨hl, y, hy⟩ := hR i hi
    exact open_spanC he hf0 hf1 ht0 ht1 ho0 ho1 hti hk2 hl hy)
  refine ⟨A, (List.range n).map z, c, by simp, by simpa using hc, ⟨by simpa using hn, ?_⟩, ?_⟩
  · have e : encS ((List.range n).map z) = (List.range n).flatMap R := by
      unfold encS
      have : ∀ l : List Nat, (∀ i ∈ l, i < n) → (l.map z).flatMap (fun s => [Value.int .i64 s.lo, .int .i64 s.hi]) = l.flatMap R := by
        intro l
        induction l with
        | nil => intro _; rfl
        | cons a l ih =>
          intro hl
          rw [List.map_cons, List.flatMap_cons, List.flatMap_cons, ih (fun i hi => hl i (by simp [hi])), (hz a (hl a (by simp))).1]
      exact this _ (fun i hi => List.mem_range.1 hi)
    rw [e]; exact hrd
  · intro v hv
    obtain ⟨i, hi, rfl⟩ := List.mem_map.1 hv
    exact (hz i (List.mem_range.1 hi)).2 _ (by simp)
end
end Go.Pk
namespace Go.Proofs.Ytggididnclfahaa
end Go.Proofs.Ytggididnclfahaa
