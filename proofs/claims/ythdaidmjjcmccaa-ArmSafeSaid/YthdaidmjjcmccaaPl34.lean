/- Proved here: lemmas and contracts (what a function of the program computes) that the proofs of the laws of this seat lean on. Conditions: as each theorem states. -/
import Derived.Test.YthdaidmjjcmccaaPl25
set_option linter.unusedVariables false
set_option linter.unusedSimpArgs false
namespace Go.Pk
open Go.RowKit Go.Pk.Rx
theorem slP_length {p : Pl} {l : List Int} (h : l.length ≤ p.B.length) : (slP p l).length = p.B.length := by
  unfold slP; rw [List.length_append, List.length_replicate]; omega
theorem slP_getD (p : Pl) (l : List Int) (j : Nat) : (slP p l).getD j 0 = l.getD j 0 := by
  unfold slP
  rw [List.getD_eq_getElem?_getD, List.getD_eq_getElem?_getD]
  by_cases h : j < l.length
  · rw [List.getElem?_append_left h]
  · rw [List.getElem?_append_right (by omega), List.getElem?_replicate, List.getElem?_eq_none (l := l) (by omega)]
    split <;> rfl
theorem InI.of_slP {p : Pl} {l : List Int} (h : ∀ j, -9223372036854775808 ≤ l.getD j 0 ∧ l.getD j 0 ≤ 9223372036854775807) : InI (slP p l) := fun a ha => by
  obtain ⟨k, hk, rfl⟩ := List.mem_iff_getElem.1 ha
  have h1 := slP_getD p l k
  rw [List.getD_eq_getElem?_getD, List.getElem?_eq_getElem hk] at h1
  simp only [Option.getD_some] at h1
  rw [h1]
  exact h k
theorem slacks_iff {p : Pl} {l : List Int} : slacksP p l = true ↔ l.length ≤ p.B.length ∧ ∀ j, 0 ≤ l.getD j 0 := by
  unfold slacksP
  rw [Bool.and_eq_true, decide_eq_true_eq, Bool.not_eq_true', List.any_eq_false]
  constructor
  · rintro ⟨h1, h2⟩
    refine ⟨h1, fun j => ?_⟩
    by_cases hj : j < l.length
    · have := h2 _ (getD_mem (d := 0) hj)
      unfold negI at this
      simp at this
      exact this
    · rw [List.getD_eq_getElem?_getD, List.getElem?_eq_none (by omega)]; exact Int.le_refl _
  · rintro ⟨h1, h2⟩
    refine ⟨h1, fun x hx => ?_⟩
    obtain ⟨j, hj, rfl⟩ := List.mem_iff_getElem.1 hx
    have := h2 j
    rw [List.getD_eq_getElem?_getD, List.getElem?_eq_getElem hj] at this
    unfold negI
    simpa using this
theorem Nest.rfl' {n : Nat} {a : List Sp} (hn : a.length = n) (h : ∀ j, j < a.length → (a.getD j ⟨0, 0⟩).lo ≤ (a.getD j ⟨0, 0⟩).hi) : Nest n a a := ⟨hn, hn, fun j hj => Le.rfl' (h j (by omega))⟩
theorem prRes_zero {p : Pl} (hg : GoodP p) {H : List Sp → Bool} {d : Nat} : prRes (boxG H d p.Inv) = 0 ↔ (boxG H d p.Inv).2 = none := by
  have hl := hg.lens
  have hc := boxG_corner (H := H) (n := p.B.length) d p.Inv (by omega) (fun j hj => (hg.Wne hj).2)
  obtain ⟨z, hz⟩ : ∃ z, boxG H d p.Inv = z := ⟨_, rfl⟩
  rw [hz] at hc ⊢
  obtain ⟨n, r⟩ := z
  cases r with
  | none => exact ⟨fun _ => rfl, fun _ => rfl⟩
  | some r =>
    have h1 := (hc r rfl).1
    constructor
    · intro h
      have h2 : r.1 = 0 := h
      omega
    · intro h; cases h
theorem newOk_yes {p : Pl} {ls : List Int} (hin : InP p) (hsi : InI ls) (h : newOk p ls = true) : GoodP p ∧ InI (slP p ls) ∧ slacksP p ls = true ∧ kitOk p = true := by
  unfold newOk at h
  rw [Bool.and_eq_true] at h
  exact ⟨kitOk_good h.1 hin, InI.of_slP hsi.getD, h.2, h.1⟩
end Go.Pk
namespace Go.Proofs.Ythdaidmjjcmccaa
open Go.RowKit Go.Pk Go.Proofs.YthdaidmjjcmccaaW.PrintLast
end Go.Proofs.Ythdaidmjjcmccaa
