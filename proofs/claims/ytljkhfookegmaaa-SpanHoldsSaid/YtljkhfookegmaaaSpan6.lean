/- Proved here: lemmas and contracts (what a function of the program computes) that the proofs of the laws of this seat lean on. Conditions: as each theorem states. -/
import Derived.Test.YtljkhfookegmaaaSpan5
set_option linter.unusedVariables false
set_option linter.unusedSimpArgs false
namespace Go.Proofs.Ytljkhfookegmaaa
open Go.RowKit Go.Pk
set_option maxHeartbeats 1000000 in
set_option maxRecDepth 100000 in
theorem Join_calls (A : Option Addr) (l : List Sp) (c : Nat) (w : World) (hl : RdS w A l) (hsm : l.length ≤ 1000000) :
    Calls Try.prog 20 #[.slice A l.length c] w fun e w' => e = .returned (.agg #[.int .i64 ((joinS l).lo), .int .i64 ((joinS l).hi)]) ∧ Below w.heap.size w w' := by
  have hlen := hl.1
  have ej : joinS l = spanOf (endsJ l) := rfl
  rw [ej]
  clear ej
  go_enter Try.func20, Try.ntmps20
  go_wp2
  go_loopw [3, 5, 8] (fun v p i wr => ∃ k : Nat, k ≤ l.length ∧ i = .int .i64 k ∧ Below w.heap.size w wr ∧ wr.heap[w.heap.size]? = some (.cells #[.int .i64 0, .int .i64 0] 23 (0, 0)) ∧ wr.ownsRow (w.heap.size + 1) 3 1 v (endsJ (l.take k)).length (encI (endsJ (l.take k)))) (fun _ _ i _ => l.length - (intOf i).toNat)
  case atStart => exact ⟨0, by omega, rfl, (by (repeat (first | with_reducible exact Below.refl _ _ | with_reducible assumption | with_reducible apply bl_alloc | with_reducible apply bl_drew | with_reducible apply bl_drewN | (with_reducible refine bl_set ?_ (by first | omega | (simp; done) | (simp; omega)) _) | (with_reducible refine bl_step ?_ (by assumption)) | (with_reducible refine bl_grown ?_ (by assumption) (by assumption)) | (with_reducible refine bl_own ?_ (by assumption) (by assumption))))), (by (repeat (first | with_reducible assumption | with_reducible exact blk_new _ _ | with_reducible apply blk_drew | (with_reducible refine blk_newE ?_; (first | done | (simp; done))) | with_reducible apply blk_put2 | (with_reducible refine blk_far ?_ (by first | omega | (simp; done) | (simp; omega)) _) | with_reducible apply blk_alloc | (with_reducible refine bl_block (by assumption) ?_) | (with_reducible refine blk_grown ?_ (by assumption) (by assumption)) | (with_reducible refine blk_acc (by assumption) ?_ (by assumption))))), World.ownsRow_nil _ _ _ _⟩
  case round =>
    obtain ⟨k, hk, rfl, hb, hr, ho⟩ := hrel
    by_cases hlt : k < l.length
    · obtain ⟨b, off, rfl, hc0, hc1⟩ := (hl.below hb).at hlt
      have hx1 : Hid (endsJ (l.take (k + 1)) = endsJ (l.take k) ++ (if (l.getD k ⟨0, 0⟩).hi < (l.getD k ⟨0, 0⟩).lo then [] else [(l.getD k ⟨0, 0⟩).lo, (l.getD k ⟨0, 0⟩).hi])) := by unfold Hid; rw [take_snocS l k hlt, endsJ_snoc]
      have hn : (endsJ (l.take k)).length ≤ 2000000 := by have := endsJ_length (l.take k); rw [List.length_take] at this; omega
      generalize endsJ (l.take k) = E at *
      generalize l.getD k ⟨0, 0⟩ = x at hc0 hc1 hx1
      obtain ⟨xl, xh⟩ := x
      have hz := blk_lt hr
      go_upto_region 5 with fail
      have hk0 := blk_new wr (.cells #[.int .i64 xl, .int .i64 xh] 23)
      replace hb := bl_alloc hb (.cells #[.int .i64 xl, .int .i64 xh] 23)
      replace hr := blk_alloc hr (.cells #[.int .i64 xl, .int .i64 xh] 23)
      replace ho := ho.alloc (.cells #[.int .i64 xl, .int .i64 xh] 23)
      generalize wr.alloc (.cells #[.int .i64 xl, .int .i64 xh] 23) = W at *
      generalize wr.heap.size = g0 at *
      clear hc0 hc1 hl
      have m0 := blk_two hk0
      by_cases he : xh < xl
      · have h1 : decide (xh < xl) = true := decide_eq_true he
        go_wp2_with (go_at_call 13; refine (Empty_calls _ _ _).mono ?_; rintro e w1 ⟨rfl, hb1⟩; rw [h1])
        go_roundw
        case rel => exact ⟨k + 1, by omega, by go_num, (by (repeat (first | with_reducible exact Below.refl _ _ | with_reducible assumption | with_reducible apply bl_alloc | with_reducible apply bl_drew | with_reducible apply bl_drewN | (with_reducible refine bl_set ?_ (by first | omega | (simp; done) | (simp; omega)) _) | (with_reducible refine bl_step ?_ (by assumption)) | (with_reducible refine bl_grown ?_ (by assumption) (by assumption)) | (with_reducible refine bl_own ?_ (by assumption) (by assumption))))), (by (repeat (first | with_reducible assumption | with_reducible exact blk_new _ _ | with_reducible apply blk_drew | (with_reducible refine blk_newE ?_; (first | done | (simp; done))) | with_reducible apply blk_put2 | (with_reducible refine blk_far ?_ (by first | omega | (simp; done) | (simp; omega)) _) | with_reducible apply blk_alloc | (with_reducible refine bl_block (by assumption) ?_) | (with_reducible refine blk_grown ?_ (by assumption) (by assumption)) | (with_reducible refine blk_acc (by assumption) ?_ (by assumption))))), by rw [hx1.out, if_pos he, List.append_nil]; exact (by (repeat (first | with_reducible assumption | with_reducible apply own_drew | with_reducible apply own_alloc | (with_reducible refine own_below ?_ (by assumption)) | (with_reducible refine own_grown ?_ (by assumption) (by assumption)))))⟩
        case measure => simp [intOf]; omega
      · have h1 : decide (xh < xl) = false := decide_eq_false he
        have hx2 : Hid (endsJ (l.take (k + 1)) = E ++ [xl, xh]) := by have := hx1.out; rw [if_neg he] at this; exact this
        clear hx1
        go_wp2_with (first | (go_at_call 13; refine (Empty_calls _ _ _).mono ?_; rintro e w1 ⟨rfl, hb1⟩; rw [h1]; replace hk0 : w1.heap[g0]? = some (.cells #[.int .i64 xl, .int .i64 xh] 23 (0, 0)) := (by (repeat (first | with_reducible assumption | with_reducible exact blk_new _ _ | with_reducible apply blk_drew | (with_reducible refine blk_newE ?_; (first | done | (simp; done))) | with_reducible apply blk_put2 | (with_reducible refine blk_far ?_ (by first | omega | (simp; done) | (simp; omega)) _) | with_reducible apply blk_alloc | (with_reducible refine bl_block (by assumption) ?_) | (with_reducible refine blk_grown ?_ (by assumption) (by assumption)) | (with_reducible refine blk_acc (by assumption) ?_ (by assumption))))); replace hr : w1.heap[w.heap.size]? = some (.cells #[.int .i64 0, .int .i64 0] 23 (0, 0)) := (by (repeat (first | with_reducible assumption | with_reducible exact blk_new _ _ | with_reducible apply blk_drew | (with_reducible refine blk_newE ?_; (first | done | (simp; done))) | with_reducible apply blk_put2 | (with_reducible refine blk_far ?_ (by first | omega | (simp; done) | (simp; omega)) _) | with_reducible apply blk_alloc | (with_reducible refine bl_block (by assumption) ?_) | (with_reducible refine blk_grown ?_ (by assumption) (by assumption)) | (with_reducible refine blk_acc (by assumption) ?_ (by assumption))))); replace ho : w1.ownsRow (w.heap.size + 1) 3 1 u3 E.length (encI E) := (by (repeat (first | with_reducible assumption | with_reducible apply own_drew | with_reducible apply own_alloc | (with_reducible refine own_below ?_ (by assumption)) | (with_reducible refine own_grown ?_ (by assumption) (by assumption))))); replace hb : Below w.heap.size w w1 := (by (repeat (first | with_reducible exact Below.refl _ _ | with_reducible assumption | with_reducible apply bl_alloc | with_reducible apply bl_drew | with_reducible apply bl_drewN | (with_reducible refine bl_set ?_ (by first | omega | (simp; done) | (simp; omega)) _) | (with_reducible refine bl_step ?_ (by assumption)) | (with_reducible refine bl_grown ?_ (by assumption) (by assumption)) | (with_reducible refine bl_own ?_ (by assumption) (by assumption))))); have m0 := blk_two hk0; clear hb1) | (at_builtin; go_loud (refine list_apm (by rfl) _ _ _ (by rfl) (w.heap.size + 1) 3 _ 1 8 Try.underlying41 infoI rfl (by omega) u3 E.length (encI E) (by rfl) ?ho _ 2 _ [.int .i64 xl, .int .i64 xh] (by rfl) (by omega) rfl ?hG (by simp [Value.oneCell']) (by omega) (by omega) ?hB ?_); (case ho => (repeat (first | with_reducible assumption | with_reducible apply own_drew | with_reducible apply own_alloc | (with_reducible refine own_below ?_ (by assumption)) | (with_reducible refine own_grown ?_ (by assumption) (by assumption))))); (case hG => (repeat (first | with_reducible assumption | with_reducible exact blk_new _ _ | with_reducible apply blk_drew | (with_reducible refine blk_newE ?_; (first | done | (simp; done))) | with_reducible apply blk_put2 | (with_reducible refine blk_far ?_ (by first | omega | (simp; done) | (simp; omega)) _) | with_reducible apply blk_alloc | (with_reducible refine bl_block (by assumption) ?_) | (with_reducible refine blk_grown ?_ (by assumption) (by assumption)) | (with_reducible refine blk_acc (by assumption) ?_ (by assumption))))); (case hB => (have h_ := hb.size; simp; omega)); intro g1 c1 w2 hown hgrow hat hlt1) | fail)
        have r0 := own_row ho
        have r1 : ∀ k, u3.ownBlock = some k → w.heap.size ≤ k := fun k h => by have := r0 k h; omega
        have hbF : Below w.heap.size w w2 := (by (repeat (first | with_reducible exact Below.refl _ _ | with_reducible assumption | with_reducible apply bl_alloc | with_reducible apply bl_drew | with_reducible apply bl_drewN | (with_reducible refine bl_set ?_ (by first | omega | (simp; done) | (simp; omega)) _) | (with_reducible refine bl_step ?_ (by assumption)) | (with_reducible refine bl_grown ?_ (by assumption) (by assumption)) | (with_reducible refine bl_own ?_ (by assumption) (by assumption)))))
        replace hr := blk_grown (blk_alloc hr _) hgrow (fun e => by have := r0 _ e.symm; omega)
        go_roundw
        case rel => exact ⟨k + 1, by omega, by go_num, hbF, hr, by rw [hx2.out]; simpa [encI] using hown⟩
        case measure => simp [intOf]; omega
    · have hkl : k = l.length := by omega
      subst hkl
      rw [List.take_length] at ho
      obtain ⟨A1, c1, rfl, hr1⟩ := own_readsI ho
      have m0 := blk_two hr
      go_wp2_with fail
      refine (Of_calls _ _ _ _ hr1).mono ?_
      rintro e w1 ⟨rfl, hb1⟩
      replace hr := bl_block hb1 hr
      have m1 := blk_two hr
      go_wp2
      refine bodyPost_ret (results_cell_row rfl _ _ (w.heap.size) 23 #[.int .i64 ((spanOf (endsJ l)).lo), .int .i64 ((spanOf (endsJ l)).hi)] (0, 0) _ rfl (by (repeat (first | with_reducible assumption | with_reducible exact blk_new _ _ | with_reducible apply blk_drew | (with_reducible refine blk_newE ?_; (first | done | (simp; done))) | with_reducible apply blk_put2 | (with_reducible refine blk_far ?_ (by first | omega | (simp; done) | (simp; omega)) _) | with_reducible apply blk_alloc | (with_reducible refine bl_block (by assumption) ?_) | (with_reducible refine blk_grown ?_ (by assumption) (by assumption)) | (with_reducible refine blk_acc (by assumption) ?_ (by assumption))))) Try.underlying23 rfl (by kernel_rfl)) rfl ?_
      exact ⟨rfl, (by (repeat (first | with_reducible exact Below.refl _ _ | with_reducible assumption | with_reducible apply bl_alloc | with_reducible apply bl_drew | with_reducible apply bl_drewN | (with_reducible refine bl_set ?_ (by first | omega | (simp; done) | (simp; omega)) _) | (with_reducible refine bl_step ?_ (by assumption)) | (with_reducible refine bl_grown ?_ (by assumption) (by assumption)) | (with_reducible refine bl_own ?_ (by assumption) (by assumption)))))⟩
end Go.Proofs.Ytljkhfookegmaaa
