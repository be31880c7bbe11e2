/- Proved here: lemmas and contracts (what a function of the program computes) that the proofs of the laws of this seat lean on. Conditions: as each theorem states. -/
import Derived.Test.YthdaidmjjcmccaaFix2
set_option linter.unusedVariables false
set_option linter.unusedSimpArgs false
namespace Go.Pk
open Go.RowKit
theorem hidI {p : Prop} (h : p) : Hid p := h
theorem RdS.of_blk {w : World} {g : Nat} {l : List Sp} {t : TypeId} {fr : Nat × Nat} (h : w.heap[g]? = some (.cells (encS l).toArray t fr)) (hn : l.length ≤ 9223372036854775807) : RdS w (some ⟨g, 0, none⟩) l :=
  ⟨hn, fun i u hi => ⟨g, 0, rfl, by rw [Nat.zero_add, blkc h]; simpa using hi⟩⟩
theorem RdI.of_blk {w : World} {g : Nat} {l : List Int} {t : TypeId} {fr : Nat × Nat} (h : w.heap[g]? = some (.cells (encI l).toArray t fr)) (hn : l.length ≤ 9223372036854775807) : RdI w (some ⟨g, 0, none⟩) l :=
  ⟨hn, fun i u hi => ⟨g, 0, rfl, by rw [Nat.zero_add, blkc h]; simpa using hi⟩⟩
end Go.Pk
namespace Go.Proofs.Ythdaidmjjcmccaa
open Go.RowKit Go.Pk

theorem Empty_calls (a b : Int) (w : World) : Calls Try.prog 56 #[.agg #[.int .i64 (a), .int .i64 (b)]] w fun e w' => e = .returned (.bool (decide (b < a))) ∧ Below w.heap.size w w' := by
  go_enter Try.func56, Try.ntmps56
  go_wp2
  go_ret
  exact ⟨rfl, (by (repeat (first | with_reducible exact Below.refl _ _ | with_reducible assumption | with_reducible apply bl_alloc | with_reducible apply bl_drew | with_reducible apply bl_drewN | (with_reducible refine bl_set ?_ (by first | omega | (simp; done) | (simp; omega)) _) | (with_reducible refine bl_step ?_ (by assumption)) | (with_reducible refine bl_grown ?_ (by assumption) (by assumption)) | (with_reducible refine bl_own ?_ (by assumption) (by assumption)))))⟩
theorem Has_calls (a b x : Int) (w : World) : Calls Try.prog 80 #[.agg #[.int .i64 (a), .int .i64 (b)], .int .i64 x] w fun e w' => e = .returned (.bool (hasS ⟨a, b⟩ x)) ∧ Below w.heap.size w w' := by
  have d : hasS ⟨a, b⟩ x = (decide (a ≤ x) && decide (x ≤ b)) := rfl
  by_cases h1 : a ≤ x
  · rw [d]; clear d
    simp only [h1, decide_true, Bool.true_and]
    go_enter Try.func80, Try.ntmps80
    go_wp2
    go_ret
    exact ⟨rfl, (by (repeat (first | with_reducible exact Below.refl _ _ | with_reducible assumption | with_reducible apply bl_alloc | with_reducible apply bl_drew | with_reducible apply bl_drewN | (with_reducible refine bl_set ?_ (by first | omega | (simp; done) | (simp; omega)) _) | (with_reducible refine bl_step ?_ (by assumption)) | (with_reducible refine bl_grown ?_ (by assumption) (by assumption)) | (with_reducible refine bl_own ?_ (by assumption) (by assumption)))))⟩
  · rw [d]; clear d
    simp only [h1, decide_false, Bool.false_and]
    have h2 : decide (a ≤ x) = false := decide_eq_false h1
    go_enter Try.func80, Try.ntmps80
    go_wp2
    go_ret
    exact ⟨rfl, (by (repeat (first | with_reducible exact Below.refl _ _ | with_reducible assumption | with_reducible apply bl_alloc | with_reducible apply bl_drew | with_reducible apply bl_drewN | (with_reducible refine bl_set ?_ (by first | omega | (simp; done) | (simp; omega)) _) | (with_reducible refine bl_step ?_ (by assumption)) | (with_reducible refine bl_grown ?_ (by assumption) (by assumption)) | (with_reducible refine bl_own ?_ (by assumption) (by assumption)))))⟩
theorem In_calls (a b c d : Int) (w : World) : Calls Try.prog 61 #[.agg #[.int .i64 (a), .int .i64 (b)], .agg #[.int .i64 (c), .int .i64 (d)]] w fun e w' => e = .returned (.bool (inS ⟨a, b⟩ ⟨c, d⟩)) ∧ Below w.heap.size w w' := by
  have dd : inS ⟨a, b⟩ ⟨c, d⟩ = (decide (b < a) || (decide (c ≤ a) && decide (b ≤ d))) := rfl
  by_cases h0 : b < a
  · have h1 : decide (b < a) = true := decide_eq_true h0
    rw [dd, h1, Bool.true_or]; clear dd
    go_enter Try.func61, Try.ntmps61
    go_wp2_with (go_at_call 56; refine (Empty_calls _ _ _).mono ?_; rintro e w1 ⟨rfl, hb1⟩; obtain ⟨hc1, hf1⟩ := bcell hb1; rw [h1])
    go_ret
    exact ⟨rfl, (by (repeat (first | with_reducible exact Below.refl _ _ | with_reducible assumption | with_reducible apply bl_alloc | with_reducible apply bl_drew | with_reducible apply bl_drewN | (with_reducible refine bl_set ?_ (by first | omega | (simp; done) | (simp; omega)) _) | (with_reducible refine bl_step ?_ (by assumption)) | (with_reducible refine bl_grown ?_ (by assumption) (by assumption)) | (with_reducible refine bl_own ?_ (by assumption) (by assumption)))))⟩
  · have h1 : decide (b < a) = false := decide_eq_false h0
    rw [dd, h1, Bool.false_or]; clear dd
    by_cases h2 : c ≤ a
    · have h3 : decide (c ≤ a) = true := decide_eq_true h2
      rw [h3, Bool.true_and]
      go_enter Try.func61, Try.ntmps61
      go_wp2_with (go_at_call 56; refine (Empty_calls _ _ _).mono ?_; rintro e w1 ⟨rfl, hb1⟩; obtain ⟨hc1, hf1⟩ := bcell hb1; rw [h1])
      go_ret
      exact ⟨rfl, (by (repeat (first | with_reducible exact Below.refl _ _ | with_reducible assumption | with_reducible apply bl_alloc | with_reducible apply bl_drew | with_reducible apply bl_drewN | (with_reducible refine bl_set ?_ (by first | omega | (simp; done) | (simp; omega)) _) | (with_reducible refine bl_step ?_ (by assumption)) | (with_reducible refine bl_grown ?_ (by assumption) (by assumption)) | (with_reducible refine bl_own ?_ (by assumption) (by assumption)))))⟩
    · have h3 : decide (c ≤ a) = false := decide_eq_false h2
      rw [h3, Bool.false_and]
      go_enter Try.func61, Try.ntmps61
      go_wp2_with (go_at_call 56; refine (Empty_calls _ _ _).mono ?_; rintro e w1 ⟨rfl, hb1⟩; obtain ⟨hc1, hf1⟩ := bcell hb1; rw [h1])
      go_ret
      exact ⟨rfl, (by (repeat (first | with_reducible exact Below.refl _ _ | with_reducible assumption | with_reducible apply bl_alloc | with_reducible apply bl_drew | with_reducible apply bl_drewN | (with_reducible refine bl_set ?_ (by first | omega | (simp; done) | (simp; omega)) _) | (with_reducible refine bl_step ?_ (by assumption)) | (with_reducible refine bl_grown ?_ (by assumption) (by assumption)) | (with_reducible refine bl_own ?_ (by assumption) (by assumption)))))⟩
theorem none_calls (w : World) : Calls Try.prog 99 #[] w fun e w' => e = .returned (.agg #[.int .i64 (0), .int .i64 ((-1))]) ∧ Below w.heap.size w w' := by
  go_enter Try.func99, Try.ntmps99
  go_wp2
  refine bodyPost_ret (results_cell_row rfl _ _ (w.heap.size) 25 #[.int .i64 (0), .int .i64 ((-1))] (0, 0) _ rfl (by (repeat (first | with_reducible assumption | with_reducible exact blk_new _ _ | with_reducible apply blk_drew | (with_reducible refine blk_newE ?_; (first | done | (simp; done))) | with_reducible apply blk_put2 | (with_reducible refine blk_far ?_ (by first | omega | (simp; done) | (simp; omega)) _) | with_reducible apply blk_alloc | (with_reducible refine bl_block (by assumption) ?_) | (with_reducible refine blk_grown ?_ (by assumption) (by assumption)) | (with_reducible refine blk_acc (by assumption) ?_ (by assumption))))) Try.underlying25 rfl (by kernel_rfl)) rfl ?_
  exact ⟨rfl, (by (repeat (first | with_reducible exact Below.refl _ _ | with_reducible assumption | with_reducible apply bl_alloc | with_reducible apply bl_drew | with_reducible apply bl_drewN | (with_reducible refine bl_set ?_ (by first | omega | (simp; done) | (simp; omega)) _) | (with_reducible refine bl_step ?_ (by assumption)) | (with_reducible refine bl_grown ?_ (by assumption) (by assumption)) | (with_reducible refine bl_own ?_ (by assumption) (by assumption)))))⟩
theorem acc_calls (p : Option Addr) (w : World) : Calls Try.prog 103 #[.pointer p] w fun e w' => e = .returned (.pointer p) ∧ w' = w := by
  rcases p with _ | a
  · go_enter Try.func103, Try.ntmps103
    go_wp2
    go_ret
    exact ⟨rfl, rfl⟩
  · go_enter Try.func103, Try.ntmps103
    go_wp2
    go_ret
    exact ⟨rfl, rfl⟩
theorem some_calls (A : Option Addr) (l : List Sp) (c : Nat) (w : World) (hl : RdS w A l) :
    Calls Try.prog 101 #[.slice A l.length c] w fun e w' => e = .returned (.bool (someB l)) ∧ Below w.heap.size w w' := by
  have hlen := hl.1
  go_enter Try.func101, Try.ntmps101
  go_wp2
  go_loopw [4, 7] (fun v i wr => ∃ k : Nat, k ≤ l.length ∧ i = .int .i64 k ∧ Below w.heap.size w wr ∧ someB (l.take k) = true) (fun _ i _ => l.length - (intOf i).toNat)
  case atStart => exact ⟨0, by omega, rfl, (by (repeat (first | with_reducible exact Below.refl _ _ | with_reducible assumption | with_reducible apply bl_alloc | with_reducible apply bl_drew | with_reducible apply bl_drewN | (with_reducible refine bl_set ?_ (by first | omega | (simp; done) | (simp; omega)) _) | (with_reducible refine bl_step ?_ (by assumption)) | (with_reducible refine bl_grown ?_ (by assumption) (by assumption)) | (with_reducible refine bl_own ?_ (by assumption) (by assumption))))), rfl⟩
  case round =>
    obtain ⟨k, hk, rfl, hb, hs⟩ := hrel
    by_cases hlt : k < l.length
    · obtain ⟨b, off, rfl, hc0, hc1⟩ := (hl.below hb).at hlt
      have hst : Hid (someB (l.take (k + 1)) = (someB (l.take k) && !decide ((l.getD k ⟨0, 0⟩).hi < (l.getD k ⟨0, 0⟩).lo))) := someB_take l k hlt
      have hal : Hid (someB l = true → someB (l.take (k + 1)) = true) := someB_all l (k + 1)
      generalize l.getD k ⟨0, 0⟩ = x at hc0 hc1 hst
      obtain ⟨xl, xh⟩ := x
      have Hs : Hid (someB (l.take k) = true) := hs
      clear hs
      by_cases he : xh < xl
      · have h1 : decide (xh < xl) = true := decide_eq_true he
        have hfin : Hid (someB l = false) := by
          cases hh : someB l with
          | false => rfl
          | true => have := hal.out hh; rw [hst.out] at this; simp [h1] at this
        go_wp2_with (go_at_call 56; refine (Empty_calls _ _ _).mono ?_; rintro e w1 ⟨rfl, hb1⟩; obtain ⟨hc1, hf1⟩ := bcell hb1; rw [h1])
        go_ret
        exact ⟨by rw [hfin.out]; rfl, (by (repeat (first | with_reducible exact Below.refl _ _ | with_reducible assumption | with_reducible apply bl_alloc | with_reducible apply bl_drew | with_reducible apply bl_drewN | (with_reducible refine bl_set ?_ (by first | omega | (simp; done) | (simp; omega)) _) | (with_reducible refine bl_step ?_ (by assumption)) | (with_reducible refine bl_grown ?_ (by assumption) (by assumption)) | (with_reducible refine bl_own ?_ (by assumption) (by assumption)))))⟩
      · have h1 : decide (xh < xl) = false := decide_eq_false he
        go_wp2_with (go_at_call 56; refine (Empty_calls _ _ _).mono ?_; rintro e w1 ⟨rfl, hb1⟩; obtain ⟨hc1, hf1⟩ := bcell hb1; rw [h1])
        go_roundw
        case rel => exact ⟨k + 1, by omega, by go_num, (by (repeat (first | with_reducible exact Below.refl _ _ | with_reducible assumption | with_reducible apply bl_alloc | with_reducible apply bl_drew | with_reducible apply bl_drewN | (with_reducible refine bl_set ?_ (by first | omega | (simp; done) | (simp; omega)) _) | (with_reducible refine bl_step ?_ (by assumption)) | (with_reducible refine bl_grown ?_ (by assumption) (by assumption)) | (with_reducible refine bl_own ?_ (by assumption) (by assumption))))), by rw [hst.out, Hs.out]; simp [h1]⟩
        case measure => simp [intOf]; omega
    · have hkl : k = l.length := by omega
      subst hkl
      rw [List.take_length] at hs
      have Hs : Hid (someB l = true) := hs
      clear hs
      go_wp2
      go_ret
      exact ⟨by rw [Hs.out]; rfl, (by (repeat (first | with_reducible exact Below.refl _ _ | with_reducible assumption | with_reducible apply bl_alloc | with_reducible apply bl_drew | with_reducible apply bl_drewN | (with_reducible refine bl_set ?_ (by first | omega | (simp; done) | (simp; omega)) _) | (with_reducible refine bl_step ?_ (by assumption)) | (with_reducible refine bl_grown ?_ (by assumption) (by assumption)) | (with_reducible refine bl_own ?_ (by assumption) (by assumption)))))⟩
theorem Plus_none (p : Option Addr) (A : Option Addr) (l : List Sp) (c : Nat) (w : World) (hl : RdS w A l) (hs : someB l = false) :
    Calls Try.prog 66 #[.pointer p, .slice A l.length c] w fun e w' => e = .returned (.agg #[.int .i64 (0), .int .i64 ((-1))]) ∧ Below w.heap.size w w' := by
  go_enter Try.func66, Try.ntmps66
  go_wp2_with (first | (go_at_call 101; refine (some_calls _ l _ _ ?_).mono ?_; exact hl.below (by (repeat (first | with_reducible exact Below.refl _ _ | with_reducible assumption | with_reducible apply bl_alloc | with_reducible apply bl_drew | with_reducible apply bl_drewN | (with_reducible refine bl_set ?_ (by first | omega | (simp; done) | (simp; omega)) _) | (with_reducible refine bl_step ?_ (by assumption)) | (with_reducible refine bl_grown ?_ (by assumption) (by assumption)) | (with_reducible refine bl_own ?_ (by assumption) (by assumption))))); rintro e w1 ⟨rfl, hb1⟩; obtain ⟨hc1, hf1⟩ := bcell hb1; rw [hs]) | (go_at_call 99; refine (none_calls _).mono ?_; rintro e w2 ⟨rfl, hb2⟩; obtain ⟨hc2, hf2⟩ := bcell hb2; have hz2 : w.heap.size < w1.heap.size := (by have h_ := hb1.size; simp at h_; omega)))
  refine bodyPost_ret (results_cell_row rfl _ _ (w.heap.size) 25 #[.int .i64 (0), .int .i64 ((-1))] (0, 0) _ rfl (by (repeat (first | with_reducible assumption | with_reducible exact blk_new _ _ | with_reducible apply blk_drew | (with_reducible refine blk_newE ?_; (first | done | (simp; done))) | with_reducible apply blk_put2 | (with_reducible refine blk_far ?_ (by first | omega | (simp; done) | (simp; omega)) _) | with_reducible apply blk_alloc | (with_reducible refine bl_block (by assumption) ?_) | (with_reducible refine blk_grown ?_ (by assumption) (by assumption)) | (with_reducible refine blk_acc (by assumption) ?_ (by assumption))))) Try.underlying25 rfl (by kernel_rfl)) rfl ?_
  exact ⟨rfl, (by (repeat (first | with_reducible exact Below.refl _ _ | with_reducible assumption | with_reducible apply bl_alloc | with_reducible apply bl_drew | with_reducible apply bl_drewN | (with_reducible refine bl_set ?_ (by first | omega | (simp; done) | (simp; omega)) _) | (with_reducible refine bl_step ?_ (by assumption)) | (with_reducible refine bl_grown ?_ (by assumption) (by assumption)) | (with_reducible refine bl_own ?_ (by assumption) (by assumption)))))⟩
theorem infoI : (Try.prog.info? 3).map (fun i => (i.zero, i.size, i.bytes)) = some (some (.int .i64 0), 1, 8) := by kernel_rfl
def EndsPost (w : World) (l : List Sp) (e : Ending) (w' : World) : Prop :=
  ∃ v1 v2, e = .returned (.tuple #[v1, v2]) ∧ w'.ownsRow w.heap.size 3 1 v1 l.length (encI (l.map Sp.lo)) ∧ w'.ownsRow w.heap.size 3 1 v2 l.length (encI (l.map Sp.hi)) ∧ (v1.ownBlock = none ∨ v1.ownBlock ≠ v2.ownBlock) ∧ Below w.heap.size w w'
set_option maxRecDepth 100000 in
set_option maxHeartbeats 1000000 in
theorem ends_calls (A : Option Addr) (l : List Sp) (c : Nat) (w : World) (hl : RdS w A l) (hsm : l.length ≤ 1000000) :
    Calls Try.prog 102 #[.slice A l.length c] w (EndsPost w l) := by
  have hlen := hl.1
  go_enter Try.func102, Try.ntmps102
  go_wp2
  go_loopw [2, 3, 5, 8] (fun v1 v2 p i wr => ∃ k : Nat, k ≤ l.length ∧ i = .int .i64 k ∧ Below w.heap.size w wr ∧ wr.ownsRow w.heap.size 3 1 v1 k (encI ((l.take k).map Sp.lo)) ∧ wr.ownsRow w.heap.size 3 1 v2 k (encI ((l.take k).map Sp.hi)) ∧ (v1.ownBlock = none ∨ v1.ownBlock ≠ v2.ownBlock)) (fun _ _ _ i _ => l.length - (intOf i).toNat)
  case atStart => exact ⟨0, by omega, rfl, (by (repeat (first | with_reducible exact Below.refl _ _ | with_reducible assumption | with_reducible apply bl_alloc | with_reducible apply bl_drew | with_reducible apply bl_drewN | (with_reducible refine bl_set ?_ (by first | omega | (simp; done) | (simp; omega)) _) | (with_reducible refine bl_step ?_ (by assumption)) | (with_reducible refine bl_grown ?_ (by assumption) (by assumption)) | (with_reducible refine bl_own ?_ (by assumption) (by assumption))))), World.ownsRow_nil _ _ _ _, World.ownsRow_nil _ _ _ _, Or.inl rfl⟩
  case round =>
    obtain ⟨k, hk, rfl, hb, ho1, ho2, hne⟩ := hrel
    by_cases hlt : k < l.length
    · obtain ⟨b, off, rfl, hc0, hc1⟩ := (hl.below hb).at hlt
      have hx1 : Hid (encI ((l.take (k + 1)).map Sp.lo) = encI ((l.take k).map Sp.lo) ++ [.int .i64 (l.getD k ⟨0, 0⟩).lo]) := by unfold Hid; rw [take_snocS l k hlt]; simp [encI]
      have hx2 : Hid (encI ((l.take (k + 1)).map Sp.hi) = encI ((l.take k).map Sp.hi) ++ [.int .i64 (l.getD k ⟨0, 0⟩).hi]) := by unfold Hid; rw [take_snocS l k hlt]; simp [encI]
      generalize l.getD k ⟨0, 0⟩ = x at hc0 hc1 hx1 hx2
      obtain ⟨xl, xh⟩ := x
      go_wp2_with fail
      have hk0 := blk_new wr (.cells #[.int .i64 xl, .int .i64 xh] 25)
      have hb0 := bl_alloc hb (.cells #[.int .i64 xl, .int .i64 xh] 25)
      have n1 := own_ne_of_lt ho1 (Nat.le_refl _)
      have n2 := own_ne_of_lt ho2 (Nat.le_refl _)
      replace ho1 := ho1.alloc (.cells #[.int .i64 xl, .int .i64 xh] 25)
      replace ho2 := ho2.alloc (.cells #[.int .i64 xl, .int .i64 xh] 25)
      generalize wr.alloc (.cells #[.int .i64 xl, .int .i64 xh] 25) = W at *
      generalize wr.heap.size = g0 at *
      clear hb hc0 hc1 hl
      have hz0 := blk_lt hk0
      obtain ⟨hd0, hd1, hf0, hf1⟩ := blk_two hk0
      have hne' := apart_symm hne
      have n3 := own_ne_of_lt ho1 (Nat.le_refl _)
      have n4 : some (W.heap.size + 1) ≠ u2.ownBlock := own_ne_of_lt ho1 (Nat.le_succ _)
      go_region_held3 (fun w' => w'.cell? ⟨g0, 0, none⟩ = some (.int .i64 xl) ∧ w'.cell? ⟨g0, 1, none⟩ = some (.int .i64 xh)) (first | go_keep | exact ⟨(blkc (g := g0) (cs := #[.int .i64 xl, .int .i64 xh]) (t := 25) (fr := (0, 0)) (by (repeat (first | with_reducible assumption | with_reducible exact blk_new _ _ | with_reducible apply blk_drew | (with_reducible refine blk_newE ?_; (first | done | (simp; done))) | with_reducible apply blk_put2 | (with_reducible refine blk_far ?_ (by first | omega | (simp; done) | (simp; omega)) _) | with_reducible apply blk_alloc | (with_reducible refine bl_block (by assumption) ?_) | (with_reducible refine blk_grown ?_ (by assumption) (by assumption)) | (with_reducible refine blk_acc (by assumption) ?_ (by assumption))))) 0).trans rfl, (blkc (g := g0) (cs := #[.int .i64 xl, .int .i64 xh]) (t := 25) (fr := (0, 0)) (by (repeat (first | with_reducible assumption | with_reducible exact blk_new _ _ | with_reducible apply blk_drew | (with_reducible refine blk_newE ?_; (first | done | (simp; done))) | with_reducible apply blk_put2 | (with_reducible refine blk_far ?_ (by first | omega | (simp; done) | (simp; omega)) _) | with_reducible apply blk_alloc | (with_reducible refine bl_block (by assumption) ?_) | (with_reducible refine blk_grown ?_ (by assumption) (by assumption)) | (with_reducible refine blk_acc (by assumption) ?_ (by assumption))))) 1).trans rfl⟩) (first | (refine step_ap (by rfl) _ _ _ (by rfl) w.heap.size 3 _ 1 8 Try.underlying23 infoI rfl (by omega) u2 k (encI ((l.take k).map Sp.lo)) (by rfl) ?ho _ [.int .i64 xl] (by rfl) rfl ?hG (by simp [Value.oneCell']) (by omega) (by omega) ?hB ?_; (case ho => (repeat (first | with_reducible assumption | with_reducible apply own_drew | with_reducible apply own_alloc | (with_reducible refine own_below ?_ (by assumption)) | (with_reducible refine own_grown ?_ (by assumption) (by assumption))))); (case hG => (repeat (first | with_reducible assumption | with_reducible exact blk_new _ _ | with_reducible apply blk_drew | (with_reducible refine blk_newE ?_; (first | done | (simp; done))) | with_reducible apply blk_put2 | (with_reducible refine blk_far ?_ (by first | omega | (simp; done) | (simp; omega)) _) | with_reducible apply blk_alloc | (with_reducible refine bl_block (by assumption) ?_) | (with_reducible refine blk_grown ?_ (by assumption) (by assumption)) | (with_reducible refine blk_acc (by assumption) ?_ (by assumption))))); (case hB => (have := hb0.size; simp; omega)); intro g1 c1 w1 hown1 hgrow hat1 hlt1) | (refine step_ap (by rfl) _ _ _ (by rfl) w.heap.size 3 _ 1 8 Try.underlying23 infoI rfl (by omega) u3 k (encI ((l.take k).map Sp.hi)) (by rfl) ?ho _ [.int .i64 xh] (by rfl) rfl ?hG (by simp [Value.oneCell']) (by omega) (by omega) ?hB ?_; (case ho => (repeat (first | with_reducible assumption | with_reducible apply own_drew | with_reducible apply own_alloc | (with_reducible refine own_below ?_ (by assumption)) | (with_reducible refine own_grown ?_ (by assumption) (by assumption))))); (case hG => (repeat (first | with_reducible assumption | with_reducible exact blk_new _ _ | with_reducible apply blk_drew | (with_reducible refine blk_newE ?_; (first | done | (simp; done))) | with_reducible apply blk_put2 | (with_reducible refine blk_far ?_ (by first | omega | (simp; done) | (simp; omega)) _) | with_reducible apply blk_alloc | (with_reducible refine bl_block (by assumption) ?_) | (with_reducible refine blk_grown ?_ (by assumption) (by assumption)) | (with_reducible refine blk_acc (by assumption) ?_ (by assumption))))); (case hB => (have := hb0.size; have h_ := hgrow.size; simp at h_; simp; omega)); intro g2 c2 w2 hown2 hgrow2 hat2 hlt2))
      all_goals
        have a1 := apart_ap ho1 ho2 hne (by first | omega | (simp; done) | (simp; omega)) hat1
        have b1 := apart_flip (n := k + 1) (c := c1) a1
        have a2 := apart_ap2 (n := k + 1) (m := k + 1) (c := c1) (d := c2) a1 (by first | omega | (simp; done) | (simp; omega)) hat2
        have r1 := own_row ho1
        have r2 := own_row ho2
        clear hne hne' n1 n2 n3 n4 hd0 hd1 hf0 hf1 hat1 hat2
        go_wp2
        go_roundw
        case rel => exact ⟨k + 1, by omega, by go_num, (by (repeat (first | with_reducible exact Below.refl _ _ | with_reducible assumption | with_reducible apply bl_alloc | with_reducible apply bl_drew | with_reducible apply bl_drewN | (with_reducible refine bl_set ?_ (by first | omega | (simp; done) | (simp; omega)) _) | (with_reducible refine bl_step ?_ (by assumption)) | (with_reducible refine bl_grown ?_ (by assumption) (by assumption)) | (with_reducible refine bl_own ?_ (by assumption) (by assumption))))), by rw [hx1.out]; exact (by (repeat (first | with_reducible assumption | with_reducible apply own_drew | with_reducible apply own_alloc | (with_reducible refine own_below ?_ (by assumption)) | (with_reducible refine own_grown ?_ (by assumption) (by assumption))))), by rw [hx2.out]; exact (by (repeat (first | with_reducible assumption | with_reducible apply own_drew | with_reducible apply own_alloc | (with_reducible refine own_below ?_ (by assumption)) | (with_reducible refine own_grown ?_ (by assumption) (by assumption))))), a2⟩
        case measure => simp [intOf]; omega
    · have hkl : k = l.length := by omega
      subst hkl
      rw [List.take_length] at ho1 ho2
      go_wp2
      go_ret2
      exact ⟨_, _, rfl, ho1, ho2, hne, hb⟩
end Go.Proofs.Ythdaidmjjcmccaa
