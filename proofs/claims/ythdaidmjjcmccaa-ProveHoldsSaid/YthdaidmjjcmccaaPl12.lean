/- Proved here: lemmas and contracts (what a function of the program computes) that the proofs of the laws of this seat lean on. Conditions: as each theorem states. -/
import Derived.Test.YthdaidmjjcmccaaPl9
set_option linter.unusedVariables false
set_option linter.unusedSimpArgs false
namespace Go.Pk
open Go.RowKit
theorem sumI_zeros (l : List Int) (h : ∀ a ∈ l, a = 0) : sumI l = 0 := by
  unfold sumI
  induction l with
  | nil => rfl
  | cons a l ih =>
    rw [List.foldl_cons, h a (by simp)]
    exact ih (fun b hb => h b (by simp [hb]))
theorem getD_zeros (n i : Nat) : (List.replicate n (0 : Int)).getD i 0 = 0 := by
  rw [List.getD_eq_getElem?_getD, List.getElem?_replicate]
  split <;> rfl
theorem nextZ_zero (p : Pl) (n i : Nat) : nextZ p 0 (List.replicate n 0) (List.replicate n 0) i = 0 := by
  unfold nextZ exS
  apply sumI_zeros
  intro a ha
  unfold pairsP at ha
  simp only [List.map_append, List.map_map, List.mem_append, List.map_cons, List.map_nil, List.mem_cons, List.mem_map, List.not_mem_nil, or_false, Function.comp, getD_zeros, Int.mul_zero] at ha
  rcases ha with (h | h) | ⟨_, _, h⟩
  · exact h
  · exact h
  · exact h.symm
theorem nextP_zero {p : Pl} (h : GoodP p) (l : List Int) (hl : l = List.replicate p.B.length 0) : nextP p 0 l l = (l, true) := by
  obtain ⟨h1, h2, -⟩ := h.lens
  have hlen : l.length = p.B.length := by rw [hl, List.length_replicate]
  have hare : areP p l.length = true := by unfold areP; simp [hlen]; omega
  unfold nextP
  rw [if_pos ⟨hare, rfl⟩]
  have hz : ∀ i, nextZ p 0 l l i = 0 := fun i => by rw [hl]; exact nextZ_zero p _ i
  have hall : (List.range p.B.length).all (fun i => fitsI (nextZ p 0 l l i)) = true := by
    rw [List.all_eq_true]
    intro i _
    rw [hz]
    decide
  rw [if_pos hall]
  have e : (List.range p.B.length).map (nextZ p 0 l l) = l := by
    rw [hl]
    apply List.ext_getElem
    · simp
    · intro i h1 h2
      simp [nextZ_zero]
  rw [e]
theorem GoodP.inp {p : Pl} (h : GoodP p) : p.inp.lo ≤ p.inp.hi := by
  have hw := h.2.1
  unfold wrongP at hw
  simp only [Bool.or_eq_false_iff] at hw
  have := hw.1.1.1.1
  unfold emptyB at this
  have := of_decide_eq_false this
  omega
theorem baseP_in {p : Pl} (h : GoodP p) (x : List Int) (hx : x.length = p.B.length) : p.inp.lo ≤ baseP p x ∧ baseP p x ≤ p.inp.hi := by
  obtain ⟨h1, h2, -⟩ := h.lens
  have hare : areP p x.length = true := by unfold areP; simp [hx]; omega
  have := h.inp
  unfold baseP
  rw [if_pos hare]
  unfold clampTo
  split
  · omega
  · split <;> omega
theorem stays_law {p : Pl} (h : GoodP p) (x : List Int) (hx : x.length = p.B.length) (i : Nat) (hi : i < x.length) : (insideP p x && (decide (x.getD i 0 < (p.Safe.getD i ⟨0, 0⟩).lo) || decide ((p.Safe.getD i ⟨0, 0⟩).hi < x.getD i 0))) = false := by
  obtain ⟨h1, h2, h3, h4, h5, h6, h7, h8⟩ := h.lens
  cases hin : insideP p x
  · rfl
  · unfold insideP at hin
    rw [Bool.and_eq_true, List.all_eq_true] at hin
    have hi1 := hin.2 i (List.mem_range.2 hi)
    have hw := h.2.1
    unfold wrongP at hw
    simp only [Bool.or_eq_false_iff, List.any_eq_false] at hw
    have hm : (p.Inv.getD i ⟨0, 0⟩, p.Safe.getD i ⟨0, 0⟩) ∈ p.Inv.zip p.Safe := by
      rw [List.getD_eq_getElem?_getD, List.getD_eq_getElem?_getD, List.getElem?_eq_getElem (by omega), List.getElem?_eq_getElem (by omega)]
      rw [List.mem_iff_getElem]
      exact ⟨i, by simp; omega, by simp⟩
    have hz := hw.2 _ hm
    unfold inS at hz
    unfold hasS at hi1
    simp at hz hi1 ⊢
    omega
theorem al_step {w w1 : World} {o : Obj} {n : Nat} (e : w1 = w.alloc o) (hn : w.heap.size = n) : w1.heap[n]? = some o ∧ w1.heap.size = n + 1 := by
  subst e
  subst hn
  exact ⟨blk_new w o, World.size_alloc _ _⟩
end Go.Pk
namespace Go.Proofs.Ythdaidmjjcmccaa
open Go.RowKit Go.Pk Go.Proofs.YthdaidmjjcmccaaW.PrintLast
end Go.Proofs.Ythdaidmjjcmccaa
