/- Proved here: lemmas and contracts (what a function of the program computes) that the proofs of the laws of this seat lean on. Conditions: as each theorem states. -/
import Derived.Test.YthdaidmjjcmccaaPl12
set_option linter.unusedVariables false
set_option linter.unusedSimpArgs false
namespace Go.Pk
open Go.RowKit
theorem sumI_addmap (l : List Nat) (f g : Nat → Int) : sumI (l.map fun j => f j + g j) = sumI (l.map f) + sumI (l.map g) := by
  induction l with
  | nil => rfl
  | cons a l ih => rw [List.map_cons, List.map_cons, List.map_cons, sumI_cons, sumI_cons, sumI_cons, ih]; omega
theorem sumI_app (a b : List Int) : sumI (a ++ b) = sumI a + sumI b := by
  induction a with
  | nil => simp [sumI_nil]
  | cons x a ih => rw [List.cons_append, sumI_cons, sumI_cons, ih]; omega
theorem nextZ_eq (p : Pl) (u : Int) (w x : List Int) (i : Nat) : nextZ p u w x i = p.B.getD i 0 * u + 1 * w.getD i 0 + sumI ((List.range (p.A.getD i []).length).map fun j => (p.A.getD i []).getD j 0 * x.getD j 0) := by
  unfold nextZ exS pairsP
  rw [List.map_append, sumI_app, List.map_map]
  congr 1
  simp [sumI]
theorem nextZ_add (p : Pl) (u v : Int) (w o x y z : List Int) (i : Nat) (ho : ∀ j, o.getD j 0 = 0) (hz : ∀ j, j < (p.A.getD i []).length → z.getD j 0 = x.getD j 0 + y.getD j 0) :
    nextZ p (u + v) w z i = nextZ p u w x i + nextZ p v o y i := by
  rw [nextZ_eq, nextZ_eq, nextZ_eq, ho i]
  have e : ((List.range (p.A.getD i []).length).map fun j => (p.A.getD i []).getD j 0 * z.getD j 0) = (List.range (p.A.getD i []).length).map fun j => (p.A.getD i []).getD j 0 * x.getD j 0 + (p.A.getD i []).getD j 0 * y.getD j 0 := by
    apply List.map_congr_left
    intro j hj
    rw [hz j (List.mem_range.1 hj), Int.mul_add]
  rw [e, sumI_addmap, Int.mul_add]
  omega
theorem exS_rngM (M : Nat) (l : List Sp) (h : ∀ q ∈ l, (-1000 ≤ q.lo ∧ q.lo ≤ 1000) ∧ -(M : Int) ≤ q.hi ∧ q.hi ≤ M) : (exS l).natAbs ≤ 1000 * M * l.length := by
  induction l with
  | nil => simp [exS, sumI]
  | cons q l ih =>
    have h1 := ih (fun x hx => h x (by simp [hx]))
    obtain ⟨⟨a, b⟩, c, d⟩ := h q (by simp)
    have e : exS (q :: l) = q.lo * q.hi + exS l := by unfold exS; rw [List.map_cons, sumI_cons]
    have hn : (q.lo * q.hi).natAbs ≤ 1000 * M := by rw [Int.natAbs_mul]; exact Nat.mul_le_mul (by omega) (by omega)
    rw [e, List.length_cons, Nat.mul_add]
    omega
def AtM (M : Nat) (l : List Int) : Prop := ∀ i, -(M : Int) ≤ l.getD i 0 ∧ l.getD i 0 ≤ M
theorem pairs_okM {p : Pl} (h : GoodP p) (M : Nat) {u : Int} {w x : List Int} {i : Nat} (hi : i < p.B.length) (hu0 : -(M : Int) ≤ u) (hu1 : u ≤ M) (iw : AtM M w) (ix : AtM M x) :
    (pairsP p u w x i).length = 2 + p.B.length ∧ ∀ q ∈ pairsP p u w x i, (-1000 ≤ q.lo ∧ q.lo ≤ 1000) ∧ -(M : Int) ≤ q.hi ∧ q.hi ≤ M := by
  obtain ⟨h1, h2, h3, h4, -⟩ := h.lens
  have hr := h.row hi
  refine ⟨by unfold pairsP; rw [List.length_append, List.length_map, List.length_range, hr.1]; rfl, fun q hq => ?_⟩
  unfold pairsP at hq
  simp only [List.cons_append, List.nil_append, List.mem_cons, List.mem_map, List.mem_range] at hq
  have wd := iw i
  rcases hq with rfl | rfl | ⟨j, hj, rfl⟩
  · have := h.small.2 (p.B.getD i 0) (by rw [List.getD_eq_getElem?_getD, List.getElem?_eq_getElem hi]; exact List.getElem_mem hi)
    exact ⟨this, hu0, hu1⟩
  · exact ⟨by simp, wd⟩
  · have hm : p.A.getD i [] ∈ p.A := by rw [List.getD_eq_getElem?_getD, List.getElem?_eq_getElem (by omega)]; exact List.getElem_mem _
    have := h.small.1 _ hm ((p.A.getD i []).getD j 0) (by rw [List.getD_eq_getElem?_getD (l := p.A.getD i []), List.getElem?_eq_getElem hj]; exact List.getElem_mem hj)
    exact ⟨this, ix j⟩
theorem nextZ_rngM {p : Pl} (h : GoodP p) (M : Nat) {u : Int} {w x : List Int} {i : Nat} (hi : i < p.B.length) (hu0 : -(M : Int) ≤ u) (hu1 : u ≤ M) (iw : AtM M w) (ix : AtM M x) : (nextZ p u w x i).natAbs ≤ 5000 * M := by
  obtain ⟨h1, h2⟩ := pairs_okM h M hi hu0 hu1 iw ix
  have h3 := exS_rngM M _ h2
  rw [h1] at h3
  have := h.lens.2.1
  have : 1000 * M * (2 + p.B.length) ≤ 1000 * M * 5 := Nat.mul_le_mul_left _ (by omega)
  unfold nextZ
  omega
/-- Where all is small, what comes is told. -/
theorem nextP_small {p : Pl} (h : GoodP p) {u : Int} {w x : List Int} (hx : x.length = p.B.length) (hw : w.length = p.B.length) (hu0 : -562949953421312 ≤ u) (hu1 : u ≤ 562949953421312) (iw : AtM 562949953421312 w) (ix : AtM 562949953421312 x) :
    nextP p u w x = ((List.range p.B.length).map (nextZ p u w x), true) ∧ ∀ i, i < p.B.length → -2814749767106560000 ≤ nextZ p u w x i ∧ nextZ p u w x i ≤ 2814749767106560000 := by
  have hr : ∀ i, i < p.B.length → -2814749767106560000 ≤ nextZ p u w x i ∧ nextZ p u w x i ≤ 2814749767106560000 := fun i hi => by
    have := nextZ_rngM h 562949953421312 hi hu0 hu1 iw ix
    omega
  obtain ⟨h1, h2, -⟩ := h.lens
  have hare : areP p x.length = true := by unfold areP; simp [hx]; omega
  refine ⟨?_, hr⟩
  unfold nextP
  rw [if_pos ⟨hare, by omega⟩]
  have hall : (List.range p.B.length).all (fun i => fitsI (nextZ p u w x i)) = true := by
    rw [List.all_eq_true]
    intro i hi
    have := hr i (List.mem_range.1 hi)
    unfold fitsI
    simp
    omega
  rw [if_pos hall]
end Go.Pk
namespace Go.Proofs.Ythdaidmjjcmccaa
end Go.Proofs.Ythdaidmjjcmccaa
