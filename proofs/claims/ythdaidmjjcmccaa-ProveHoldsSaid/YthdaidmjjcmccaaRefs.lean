/- Proved here: lemmas and contracts (what a function of the program computes) that the proofs of the laws of this seat lean on. Conditions: as each theorem states. -/
import Derived.Test.YthdaidmjjcmccaaSpan
set_option linter.unusedVariables false
set_option linter.unusedSimpArgs false
namespace Go.Proofs.Ythdaidmjjcmccaa
open Go.RowKit Go.Pk
theorem refEmpty_calls (a b : Int) (w : World) : Calls Try.prog 18 #[.agg #[.int .i64 (a), .int .i64 (b)]] w fun e w' => e = .returned (.bool (decide (b < a))) ∧ Below w.heap.size w w' := by
  go_enter Try.func18, Try.ntmps18
  go_wp2
  go_ret
  exact ⟨rfl, (by (repeat (first | with_reducible exact Below.refl _ _ | with_reducible assumption | with_reducible apply bl_alloc | with_reducible apply bl_drew | with_reducible apply bl_drewN | (with_reducible refine bl_set ?_ (by first | omega | (simp; done) | (simp; omega)) _) | (with_reducible refine bl_step ?_ (by assumption)) | (with_reducible refine bl_grown ?_ (by assumption) (by assumption)) | (with_reducible refine bl_own ?_ (by assumption) (by assumption)))))⟩
theorem refHas_calls (a b x : Int) (w : World) : Calls Try.prog 23 #[.agg #[.int .i64 (a), .int .i64 (b)], .int .i64 x] w fun e w' => e = .returned (.bool (hasS ⟨a, b⟩ x)) ∧ Below w.heap.size w w' := by
  have d : hasS ⟨a, b⟩ x = (decide (a ≤ x) && decide (x ≤ b)) := rfl
  by_cases h1 : a ≤ x
  · rw [d]; clear d
    simp only [h1, decide_true, Bool.true_and]
    go_enter Try.func23, Try.ntmps23
    go_wp2
    go_ret
    exact ⟨rfl, (by (repeat (first | with_reducible exact Below.refl _ _ | with_reducible assumption | with_reducible apply bl_alloc | with_reducible apply bl_drew | with_reducible apply bl_drewN | (with_reducible refine bl_set ?_ (by first | omega | (simp; done) | (simp; omega)) _) | (with_reducible refine bl_step ?_ (by assumption)) | (with_reducible refine bl_grown ?_ (by assumption) (by assumption)) | (with_reducible refine bl_own ?_ (by assumption) (by assumption)))))⟩
  · rw [d]; clear d
    simp only [h1, decide_false, Bool.false_and]
    have h2 : decide (a ≤ x) = false := decide_eq_false h1
    go_enter Try.func23, Try.ntmps23
    go_wp2
    go_ret
    exact ⟨rfl, (by (repeat (first | with_reducible exact Below.refl _ _ | with_reducible assumption | with_reducible apply bl_alloc | with_reducible apply bl_drew | with_reducible apply bl_drewN | (with_reducible refine bl_set ?_ (by first | omega | (simp; done) | (simp; omega)) _) | (with_reducible refine bl_step ?_ (by assumption)) | (with_reducible refine bl_grown ?_ (by assumption) (by assumption)) | (with_reducible refine bl_own ?_ (by assumption) (by assumption)))))⟩
theorem refIn_calls (a b c d : Int) (w : World) : Calls Try.prog 29 #[.agg #[.int .i64 (a), .int .i64 (b)], .agg #[.int .i64 (c), .int .i64 (d)]] w fun e w' => e = .returned (.bool (inS ⟨a, b⟩ ⟨c, d⟩)) ∧ Below w.heap.size w w' := by
  have dd : inS ⟨a, b⟩ ⟨c, d⟩ = (decide (b < a) || (decide (c ≤ a) && decide (b ≤ d))) := rfl
  by_cases h0 : b < a
  · have h1 : decide (b < a) = true := decide_eq_true h0
    rw [dd, h1, Bool.true_or]; clear dd
    go_enter Try.func29, Try.ntmps29
    go_wp2_with (go_at_call 18; refine (refEmpty_calls _ _ _).mono ?_; rintro e w1 ⟨rfl, hb1⟩; obtain ⟨hc1, hf1⟩ := bcell hb1; rw [h1])
    go_ret
    exact ⟨rfl, (by (repeat (first | with_reducible exact Below.refl _ _ | with_reducible assumption | with_reducible apply bl_alloc | with_reducible apply bl_drew | with_reducible apply bl_drewN | (with_reducible refine bl_set ?_ (by first | omega | (simp; done) | (simp; omega)) _) | (with_reducible refine bl_step ?_ (by assumption)) | (with_reducible refine bl_grown ?_ (by assumption) (by assumption)) | (with_reducible refine bl_own ?_ (by assumption) (by assumption)))))⟩
  · have h1 : decide (b < a) = false := decide_eq_false h0
    rw [dd, h1, Bool.false_or]; clear dd
    by_cases h2 : c ≤ a
    · have h3 : decide (c ≤ a) = true := decide_eq_true h2
      rw [h3, Bool.true_and]
      go_enter Try.func29, Try.ntmps29
      go_wp2_with (go_at_call 18; refine (refEmpty_calls _ _ _).mono ?_; rintro e w1 ⟨rfl, hb1⟩; obtain ⟨hc1, hf1⟩ := bcell hb1; rw [h1])
      go_ret
      exact ⟨rfl, (by (repeat (first | with_reducible exact Below.refl _ _ | with_reducible assumption | with_reducible apply bl_alloc | with_reducible apply bl_drew | with_reducible apply bl_drewN | (with_reducible refine bl_set ?_ (by first | omega | (simp; done) | (simp; omega)) _) | (with_reducible refine bl_step ?_ (by assumption)) | (with_reducible refine bl_grown ?_ (by assumption) (by assumption)) | (with_reducible refine bl_own ?_ (by assumption) (by assumption)))))⟩
    · have h3 : decide (c ≤ a) = false := decide_eq_false h2
      rw [h3, Bool.false_and]
      go_enter Try.func29, Try.ntmps29
      go_wp2_with (go_at_call 18; refine (refEmpty_calls _ _ _).mono ?_; rintro e w1 ⟨rfl, hb1⟩; obtain ⟨hc1, hf1⟩ := bcell hb1; rw [h1])
      go_ret
      exact ⟨rfl, (by (repeat (first | with_reducible exact Below.refl _ _ | with_reducible assumption | with_reducible apply bl_alloc | with_reducible apply bl_drew | with_reducible apply bl_drewN | (with_reducible refine bl_set ?_ (by first | omega | (simp; done) | (simp; omega)) _) | (with_reducible refine bl_step ?_ (by assumption)) | (with_reducible refine bl_grown ?_ (by assumption) (by assumption)) | (with_reducible refine bl_own ?_ (by assumption) (by assumption)))))⟩
end Go.Proofs.Ythdaidmjjcmccaa
