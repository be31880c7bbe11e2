/- Proved here: lemmas and contracts (what a function of the program computes) that the proofs of the laws of this seat lean on. Conditions: as each theorem states. -/
import Derived.Test.YthdaidmjjcmccaaPl34
set_option linter.unusedVariables false
set_option linter.unusedSimpArgs false
namespace Go.Pk
open Go.RowKit Go.Pk.Rx
theorem clampTo_in {x lo hi : Int} (h : lo ≤ hi) : lo ≤ clampTo x lo hi ∧ clampTo x lo hi ≤ hi := by unfold clampTo; (repeat' split) <;> omega
def clampsL (x : List Int) (b : List Sp) (n : Nat) : List Int := (List.range n).map fun j => clampTo (x.getD j 0) (b.getD j ⟨0, 0⟩).lo (b.getD j ⟨0, 0⟩).hi
theorem clampsL_length (x : List Int) (b : List Sp) (n : Nat) : (clampsL x b n).length = n := by unfold clampsL; simp
theorem clampsL_succ (x : List Int) (b : List Sp) (n : Nat) : clampsL x b (n + 1) = clampsL x b n ++ [clampTo (x.getD n 0) (b.getD n ⟨0, 0⟩).lo (b.getD n ⟨0, 0⟩).hi] := by unfold clampsL; rw [List.range_succ, List.map_append]; rfl
theorem clampsL_inB {x : List Int} {b : List Sp} {n : Nat} (h : ∀ j, j < n → (b.getD j ⟨0, 0⟩).lo ≤ (b.getD j ⟨0, 0⟩).hi) : InB n b (clampsL x b n) := fun j hj => by
  unfold clampsL
  rw [getD_map_range _ _ _ _ hj]
  exact clampTo_in (h j hj)
theorem InI.of_getD {l : List Int} (h : ∀ j, j < l.length → -9223372036854775808 ≤ l.getD j 0 ∧ l.getD j 0 ≤ 9223372036854775807) : InI l := fun a ha => by
  obtain ⟨k, hk, rfl⟩ := List.mem_iff_getElem.1 ha
  have := h k hk
  rw [List.getD_eq_getElem?_getD, List.getElem?_eq_getElem hk] at this
  exact this
theorem InB.inI {n : Nat} {b : List Sp} {x : List Int} (hx : InB n b x) (hl : x.length = n) (hb : InS b) (hn : b.length = n) : InI x := InI.of_getD fun j hj => by
  have h1 := hx j (by omega)
  have h2 := hb.one j
  unfold InSp at h2
  omega
theorem plant_holds_law {p : Pl} (hg : GoodP p) {us : Sp} {box : List Sp} {y v : List Int} {u : Int} (hbl : box.length = p.B.length) (hy : InB p.B.length box y) (hyl : y.length = p.B.length) (hv : InB p.B.length p.W v) (hvl : v.length = p.B.length) (hu : us.lo ≤ u ∧ u ≤ us.hi) :
    ((commandP p box).2 = true → hasS (commandP p box).1 (baseP p y) = true) ∧ ((reachP p us box).2 = true → (nextP p u v y).2 = true ∧ (nextP p u v y).1.length = p.B.length ∧ (reachP p us box).1.length = p.B.length ∧ ∀ i, i < p.B.length → hasS ((reachP p us box).1.getD i ⟨0, 0⟩) ((nextP p u v y).1.getD i 0) = true) := by
  obtain ⟨l1, l2, l3, l4, l5, l6, l7, l8⟩ := hg.lens
  refine ⟨command_sound hg.inp (by omega) (fun j hj => hy j (by omega)), fun h => ?_⟩
  obtain ⟨r1, r2, r3, r4⟩ := reachP_yes h
  have hr : ∀ i, i < p.B.length → hasS (plusS (reachParts p us box i)) (nextZ p u v y i) = true ∧ fitsI (nextZ p u v y i) = true := fun i hi =>
    reach_sound hu (hv i hi) (fun j hj => hy j (by have := (hg.row hi).1; omega)) (r3 i hi)
  have hn : nextP p u v y = ((List.range p.B.length).map (nextZ p u v y), true) := by
    unfold nextP
    rw [if_pos ⟨by unfold areP; simp; omega, by omega⟩, if_pos]
    rw [List.all_eq_true]
    intro i hi
    exact (hr i (List.mem_range.1 hi)).2
  rw [hn, r4]
  refine ⟨rfl, by simp, by simp, fun i hi => ?_⟩
  rw [getD_map_range _ _ _ _ hi, getD_map_range _ _ _ _ hi]
  exact (hr i hi).1
theorem Le.inS {a b : Sp} (h : Le a b) : inS a b = true := by
  rw [in_iff]; unfold Le at h; omega
end Go.Pk
namespace Go.Proofs.Ythdaidmjjcmccaa
end Go.Proofs.Ythdaidmjjcmccaa
