/- Proved here: lemmas and contracts (what a function of the program computes) that the proofs of the laws of this seat lean on. Conditions: as each theorem states. -/
import Derived.Test.YtljkhfookegmaaaSpan5
set_option linter.unusedVariables false
set_option linter.unusedSimpArgs false
namespace Go.Proofs.Ytljkhfookegmaaa
open Go.RowKit Go.Pk
set_option maxHeartbeats 1000000 in
theorem alive_calls (w : World) : Calls Try.prog 15 #[] w fun e w' => e = .returned (.bool true) ∧ Below w.heap.size w w' := by
  have e1 : Hid (clampI (plusLo [⟨1, 2⟩, ⟨10, 20⟩]) = 11) := by unfold Hid; decide
  have e2 : Hid (clampI (plusHi [⟨1, 2⟩, ⟨10, 20⟩]) = 22) := by unfold Hid; decide
  have e3 : Hid ((ovI (plusLo [⟨1, 2⟩, ⟨10, 20⟩]) || ovI (plusHi [⟨1, 2⟩, ⟨10, 20⟩])) = false) := by unfold Hid; decide
  have e4 : Hid (halvesS ⟨0, 3⟩ = (⟨0, 1⟩, ⟨2, 3⟩)) := by unfold Hid; decide
  have e5 : Hid (clampI (sumI [1, 2]) = 3) := by unfold Hid; decide
  have e6 : Hid (ovI (sumI [1, 2]) = false) := by unfold Hid; decide
  go_enter Try.func15, Try.ntmps15
  go_wp2_with fail
  refine (Plus_some _ false _ [⟨1, 2⟩, ⟨10, 20⟩] _ _ ?_ ?_ ?_ ?_ ?_).mono ?_
  · exact AccAt.blk (t := 50) (by (repeat (first | with_reducible assumption | with_reducible exact blk_new _ _ | with_reducible apply blk_drew | (with_reducible refine blk_newE ?_; (first | done | (simp; done))) | with_reducible apply blk_put2 | (with_reducible refine blk_far ?_ (by first | omega | (simp; done) | (simp; omega)) _) | with_reducible apply blk_alloc | (with_reducible refine bl_block (by assumption) ?_) | (with_reducible refine blk_grown ?_ (by assumption) (by assumption)) | (with_reducible refine blk_acc (by assumption) ?_ (by assumption)))))
  · refine RdS.of_blk (t := 23) (fr := (0, 0)) ?_ (by simp)
    change _ = some (Obj.cells #[.int .i64 1, .int .i64 2, .int .i64 10, .int .i64 20] 23 (0, 0))
    exact (by (repeat (first | with_reducible assumption | with_reducible exact blk_new _ _ | with_reducible apply blk_drew | (with_reducible refine blk_newE ?_; (first | done | (simp; done))) | with_reducible apply blk_put2 | (with_reducible refine blk_far ?_ (by first | omega | (simp; done) | (simp; omega)) _) | with_reducible apply blk_alloc | (with_reducible refine bl_block (by assumption) ?_) | (with_reducible refine blk_grown ?_ (by assumption) (by assumption)) | (with_reducible refine blk_acc (by assumption) ?_ (by assumption)))))
  · intro s hs; simp at hs; rcases hs with rfl | rfl <;> simp
  · simp
  · decide
  rintro e w1 ⟨rfl, hb1⟩
  rw [e3.out, orCell_false] at hb1
  rw [e1.out, e2.out]
  have hk0 : w1.heap[w.heap.size]? = some (.cells #[.bool false] 50 (0, 0)) := (by (repeat (first | with_reducible assumption | with_reducible exact blk_new _ _ | with_reducible apply blk_drew | (with_reducible refine blk_newE ?_; (first | done | (simp; done))) | with_reducible apply blk_put2 | (with_reducible refine blk_far ?_ (by first | omega | (simp; done) | (simp; omega)) _) | with_reducible apply blk_alloc | (with_reducible refine bl_block (by assumption) ?_) | (with_reducible refine blk_grown ?_ (by assumption) (by assumption)) | (with_reducible refine blk_acc (by assumption) ?_ (by assumption)))))
  have hbw : Below w.heap.size w w1 := (by (repeat (first | with_reducible exact Below.refl _ _ | with_reducible assumption | with_reducible apply bl_alloc | with_reducible apply bl_drew | with_reducible apply bl_drewN | (with_reducible refine bl_set ?_ (by first | omega | (simp; done) | (simp; omega)) _) | (with_reducible refine bl_step ?_ (by assumption)) | (with_reducible refine bl_grown ?_ (by assumption) (by assumption)) | (with_reducible refine bl_own ?_ (by assumption) (by assumption)))))
  clear hb1
  go_wp2_with fail
  refine (Halves_calls 0 3 _ (by omega) (by omega) (by omega) (by omega)).mono ?_
  rintro e w2 ⟨rfl, hb2⟩
  rw [e4.out]
  have hk2 : w2.heap[w.heap.size]? = some (.cells #[.bool false] 50 (0, 0)) := (by (repeat (first | with_reducible assumption | with_reducible exact blk_new _ _ | with_reducible apply blk_drew | (with_reducible refine blk_newE ?_; (first | done | (simp; done))) | with_reducible apply blk_put2 | (with_reducible refine blk_far ?_ (by first | omega | (simp; done) | (simp; omega)) _) | with_reducible apply blk_alloc | (with_reducible refine bl_block (by assumption) ?_) | (with_reducible refine blk_grown ?_ (by assumption) (by assumption)) | (with_reducible refine blk_acc (by assumption) ?_ (by assumption)))))
  have hk3 : w2.heap[w1.heap.size]? = some (.cells #[.int .i64 11, .int .i64 22] 23 (0, 0)) := (by (repeat (first | with_reducible assumption | with_reducible exact blk_new _ _ | with_reducible apply blk_drew | (with_reducible refine blk_newE ?_; (first | done | (simp; done))) | with_reducible apply blk_put2 | (with_reducible refine blk_far ?_ (by first | omega | (simp; done) | (simp; omega)) _) | with_reducible apply blk_alloc | (with_reducible refine bl_block (by assumption) ?_) | (with_reducible refine blk_grown ?_ (by assumption) (by assumption)) | (with_reducible refine blk_acc (by assumption) ?_ (by assumption)))))
  have m2 := blk_one hk2
  have m3 := blk_two hk3
  have z2 := blk_lt hk2
  have z3 := blk_lt hk3
  go_wp2_with fail
  refine (Add_calls _ _ [1, 2] _ false _ ?_ ?_ ?_).mono ?_
  · exact AccAt.blk (t := 50) (by (repeat (first | with_reducible assumption | with_reducible exact blk_new _ _ | with_reducible apply blk_drew | (with_reducible refine blk_newE ?_; (first | done | (simp; done))) | with_reducible apply blk_put2 | (with_reducible refine blk_far ?_ (by first | omega | (simp; done) | (simp; omega)) _) | with_reducible apply blk_alloc | (with_reducible refine bl_block (by assumption) ?_) | (with_reducible refine blk_grown ?_ (by assumption) (by assumption)) | (with_reducible refine blk_acc (by assumption) ?_ (by assumption)))))
  · refine RdI.of_blk (t := 3) (fr := (0, 0)) ?_ (by simp)
    change _ = some (Obj.cells #[.int .i64 1, .int .i64 2] 3 (0, 0))
    exact (by (repeat (first | with_reducible assumption | with_reducible exact blk_new _ _ | with_reducible apply blk_drew | (with_reducible refine blk_newE ?_; (first | done | (simp; done))) | with_reducible apply blk_put2 | (with_reducible refine blk_far ?_ (by first | omega | (simp; done) | (simp; omega)) _) | with_reducible apply blk_alloc | (with_reducible refine bl_block (by assumption) ?_) | (with_reducible refine blk_grown ?_ (by assumption) (by assumption)) | (with_reducible refine blk_acc (by assumption) ?_ (by assumption)))))
  · intro x hx; simp at hx; rcases hx with rfl | rfl <;> simp
  rintro e w3 ⟨rfl, hb3⟩
  rw [e6.out, orCell_false] at hb3
  rw [e5.out]
  go_wp2
  go_ret
  exact ⟨rfl, (by (repeat (first | with_reducible exact Below.refl _ _ | with_reducible assumption | with_reducible apply bl_alloc | with_reducible apply bl_drew | with_reducible apply bl_drewN | (with_reducible refine bl_set ?_ (by first | omega | (simp; done) | (simp; omega)) _) | (with_reducible refine bl_step ?_ (by assumption)) | (with_reducible refine bl_grown ?_ (by assumption) (by assumption)) | (with_reducible refine bl_own ?_ (by assumption) (by assumption)))))⟩
end Go.Proofs.Ytljkhfookegmaaa
