/- Proved here: lemmas and contracts (what a function of the program computes) that the proofs of the laws of this seat lean on. Conditions: as each theorem states. -/
import Derived.Test.YthdaidmjjcmccaaSpan
import Derived.Test.YthdaidmjjcmccaaA1
set_option linter.unusedVariables false
set_option linter.unusedSimpArgs false
namespace Go.Proofs.Ythdaidmjjcmccaa
open Go.RowKit Go.Pk
def plusLo (l : List Sp) : Int := sumI (l.map Sp.lo)
def plusHi (l : List Sp) : Int := sumI (l.map Sp.hi)
set_option maxHeartbeats 1000000 in
theorem Plus_some (p : Option Addr) (o : Bool) (A : Option Addr) (l : List Sp) (c : Nat) (w : World) (hp : AccAt w p o) (hl : RdS w A l) (hin : InS l) (hsm : l.length ≤ 1000000) (hs : someB l = true) :
    Calls Try.prog 66 #[.pointer p, .slice A l.length c] w fun e w' => e = .returned (.agg #[.int .i64 (clampI (plusLo l)), .int .i64 (clampI (plusHi l))]) ∧ Below w.heap.size (orCell w p (ovI (plusLo l) || ovI (plusHi l))) w' := by
  obtain ⟨xs, hxs⟩ : ∃ xs, Hid (l.map Sp.lo = xs) := ⟨_, rfl⟩
  obtain ⟨ys, hys⟩ : ∃ ys, Hid (l.map Sp.hi = ys) := ⟨_, rfl⟩
  have hx : InI xs := by rw [← hxs.out]; exact hin.lo
  have hy : InI ys := by rw [← hys.out]; exact hin.hi
  unfold plusLo plusHi
  rw [hxs.out, hys.out]
  go_enter Try.func66, Try.ntmps66
  go_wp2_with fail
  refine (some_calls _ l _ _ ?_).mono ?_
  · exact hl.below (by (repeat (first | with_reducible exact Below.refl _ _ | with_reducible assumption | with_reducible apply bl_alloc | with_reducible apply bl_drew | with_reducible apply bl_drewN | (with_reducible refine bl_set ?_ (by first | omega | (simp; done) | (simp; omega)) _) | (with_reducible refine bl_step ?_ (by assumption)) | (with_reducible refine bl_grown ?_ (by assumption) (by assumption)) | (with_reducible refine bl_own ?_ (by assumption) (by assumption)))))
  rintro e w1 ⟨rfl, hb1⟩
  rw [hs]
  clear hs
  go_wp2_with fail
  refine (ends_calls _ l _ _ ?_ hsm).mono ?_
  · exact hl.below (by (repeat (first | with_reducible exact Below.refl _ _ | with_reducible assumption | with_reducible apply bl_alloc | with_reducible apply bl_drew | with_reducible apply bl_drewN | (with_reducible refine bl_set ?_ (by first | omega | (simp; done) | (simp; omega)) _) | (with_reducible refine bl_step ?_ (by assumption)) | (with_reducible refine bl_grown ?_ (by assumption) (by assumption)) | (with_reducible refine bl_own ?_ (by assumption) (by assumption)))))
  rintro e w2 ⟨v1, v2, rfl, ho1, ho2, hne, hb2⟩
  rw [hxs.out] at ho1
  rw [hys.out] at ho2
  obtain ⟨A1, c1, rfl, hr1⟩ := own_readsI ho1
  obtain ⟨A2, c2, rfl, hr2⟩ := own_readsI ho2
  clear ho1 ho2 hne
  go_wp2_with (first | (go_at_call 103; refine (acc_calls _ _).mono ?_; rintro e w9 ⟨rfl, rfl⟩) | fail)
  refine (Add_calls _ _ _ _ o _ ?_ ?_ hx).mono ?_
  · exact AccAt.below hp (by (repeat (first | with_reducible exact Below.refl _ _ | with_reducible assumption | with_reducible apply bl_alloc | with_reducible apply bl_drew | with_reducible apply bl_drewN | (with_reducible refine bl_set ?_ (by first | omega | (simp; done) | (simp; omega)) _) | (with_reducible refine bl_step ?_ (by assumption)) | (with_reducible refine bl_grown ?_ (by assumption) (by assumption)) | (with_reducible refine bl_own ?_ (by assumption) (by assumption)))))
  · exact hr1
  rintro e w3 ⟨rfl, hb3⟩
  have hk3 := blk_acc hb3 (bl_block hb2 (bl_block hb1 (blk_new w _))) (hp.ne (Nat.le_refl _))
  have hp2 : AccAt w9 p o := AccAt.below hp (by (repeat (first | with_reducible exact Below.refl _ _ | with_reducible assumption | with_reducible apply bl_alloc | with_reducible apply bl_drew | with_reducible apply bl_drewN | (with_reducible refine bl_set ?_ (by first | omega | (simp; done) | (simp; omega)) _) | (with_reducible refine bl_step ?_ (by assumption)) | (with_reducible refine bl_grown ?_ (by assumption) (by assumption)) | (with_reducible refine bl_own ?_ (by assumption) (by assumption)))))
  have hp3 := hp2.or hb3
  have hr3 := hr2.acc hp2 hb3
  obtain ⟨hd0, hd1, hf0, hf1⟩ := blk_two hk3
  go_wp2_with (first | (go_at_call 103; refine (acc_calls _ _).mono ?_; rintro e w9 ⟨rfl, rfl⟩) | fail)
  refine (Add_calls _ _ _ _ _ _ hp3 hr3 hy).mono ?_
  rintro e w4 ⟨rfl, hb4⟩
  have hk4 := blk_acc hb4 hk3 (hp.ne (Nat.le_refl _))
  obtain ⟨he0, he1, hg0, hg1⟩ := blk_two hk4
  go_wp2
  refine bodyPost_ret (results_cell_row rfl _ _ (w.heap.size) 25 #[.int .i64 (clampI (sumI xs)), .int .i64 (clampI (sumI ys))] (0, 0) _ rfl (by (repeat (first | with_reducible assumption | with_reducible exact blk_new _ _ | with_reducible apply blk_drew | (with_reducible refine blk_newE ?_; (first | done | (simp; done))) | with_reducible apply blk_put2 | (with_reducible refine blk_far ?_ (by first | omega | (simp; done) | (simp; omega)) _) | with_reducible apply blk_alloc | (with_reducible refine bl_block (by assumption) ?_) | (with_reducible refine blk_grown ?_ (by assumption) (by assumption)) | (with_reducible refine blk_acc (by assumption) ?_ (by assumption))))) Try.underlying25 rfl (by kernel_rfl)) rfl ?_
  refine ⟨rfl, bl_orSet (bl_orSet (bl_or2 (bl_thenOr (by (repeat (first | with_reducible exact Below.refl _ _ | with_reducible assumption | with_reducible apply bl_alloc | with_reducible apply bl_drew | with_reducible apply bl_drewN | (with_reducible refine bl_set ?_ (by first | omega | (simp; done) | (simp; omega)) _) | (with_reducible refine bl_step ?_ (by assumption)) | (with_reducible refine bl_grown ?_ (by assumption) (by assumption)) | (with_reducible refine bl_own ?_ (by assumption) (by assumption))))) hb3) hb4) (Nat.le_refl _) _) (Nat.le_refl _) _⟩
end Go.Proofs.Ythdaidmjjcmccaa
