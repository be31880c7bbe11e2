/- Proved here: lemmas and contracts (what a function of the program computes) that the proofs of the laws of this seat lean on. Conditions: as each theorem states. -/
import Derived.Test.YthdaidmjjcmccaaPl
import Derived.Test.YthdaidmjjcmccaaFix
import Derived.Test.YthdaidmjjcmccaaFix2
import Derived.Test.YthdaidmjjcmccaaSpan
import Derived.Test.YthdaidmjjcmccaaKimp
import Derived.Test.YthdaidmjjcmccaaLin
set_option linter.unusedVariables false
set_option linter.unusedSimpArgs false
namespace Go.Pk
open Go.RowKit
/-- The upper half of a product with signs, out of the product without. -/
theorem whi_prod (n x : Int) (hn0 : -9223372036854775808 ≤ n) (hn1 : n ≤ 9223372036854775807) (hx0 : -9223372036854775808 ≤ x) (hx1 : x ≤ 9223372036854775807) :
    ((if x < 0 then (if n < 0 then ((wlo n) * (wlo x) / 18446744073709551616 - wlo x) % 18446744073709551616 else (wlo n) * (wlo x) / 18446744073709551616) - wlo n else (if n < 0 then ((wlo n) * (wlo x) / 18446744073709551616 - wlo x) else (wlo n) * (wlo x) / 18446744073709551616)) % 18446744073709551616) = whi (n * x) := by
  have en : wlo n = if n < 0 then n + 18446744073709551616 else n := by unfold wlo; split <;> omega
  have ex : wlo x = if x < 0 then x + 18446744073709551616 else x := by unfold wlo; split <;> omega
  rw [en, ex]
  unfold whi
  by_cases h1 : n < 0 <;> by_cases h2 : x < 0 <;> simp only [h1, h2, if_true, if_false]
  · have e : (n + 18446744073709551616) * (x + 18446744073709551616) = n * x + 18446744073709551616 * (n + x + 18446744073709551616) := by rw [Int.add_mul, Int.mul_add, Int.mul_comm n 18446744073709551616]; omega
    rw [e, Int.add_mul_ediv_left _ _ (by omega)]; omega
  · have e : (n + 18446744073709551616) * x = n * x + 18446744073709551616 * x := by rw [Int.add_mul]
    rw [e, Int.add_mul_ediv_left _ _ (by omega)]; omega
  · have e : n * (x + 18446744073709551616) = n * x + 18446744073709551616 * n := by rw [Int.mul_add, Int.mul_comm n 18446744073709551616]
    rw [e, Int.add_mul_ediv_left _ _ (by omega)]; omega
theorem wlo_prod (n x : Int) : (wlo n) * (wlo x) % 18446744073709551616 = wlo (n * x) := by unfold wlo; rw [← Int.mul_emod]
end Go.Pk
namespace Go.Proofs.Ythdaidmjjcmccaa
open Go.RowKit Go.Pk Go.Proofs.YthdaidmjjcmccaaW.PrintLast
theorem ePlus_any (a b c d : Int) (w : World) (ha : 0 ≤ a) (hb : 0 ≤ b) (hc : 0 ≤ c) (hd : 0 ≤ d) (hb2 : b < 18446744073709551616) (hd2 : d < 18446744073709551616) :
    Calls Try.prog 107 #[.agg #[.int .u64 a, .int .u64 b], .agg #[.int .u64 c, .int .u64 d]] w fun e w' =>
      e = .returned (.agg #[.int .u64 (s64 a c (k64 b d 0)), .int .u64 (s64 b d 0)]) ∧ Below w.heap.size w w' := by
  have hA := bits_Add64 b d 0 hb hd (by omega) (by omega)
  have hB := bits_Add64 a c (k64 b d 0) ha hc (k64_rng b d hb hd hb2 hd2).1 (k64_rng b d hb hd hb2 hd2).2
  clear ha hb hc hd hb2 hd2
  go_enter Try.func107, Try.ntmps107
  go_wp2
  refine bodyPost_ret (v := .agg #[.int .u64 (s64 a c (k64 b d 0)), .int .u64 (s64 b d 0)]) (by simp [results, Try.results107, go_sem]) rfl ⟨rfl, (by (repeat (first | with_reducible exact Below.refl _ _ | with_reducible assumption | with_reducible apply bl_alloc | with_reducible apply bl_drew | with_reducible apply bl_drewN | (with_reducible refine bl_set ?_ (by first | omega | (simp; done) | (simp; omega)) _) | (with_reducible refine bl_step ?_ (by assumption)) | (with_reducible refine bl_grown ?_ (by assumption) (by assumption)) | (with_reducible refine bl_own ?_ (by assumption) (by assumption)))))⟩
theorem ePlus_calls (a b : Int) (w : World) :
    Calls Try.prog 107 #[.agg #[.int .u64 (whi a), .int .u64 (wlo a)], .agg #[.int .u64 (whi b), .int .u64 (wlo b)]] w fun e w' => e = .returned (.agg #[.int .u64 (whi (a + b)), .int .u64 (wlo (a + b))]) ∧ Below w.heap.size w w' :=
  (ePlus_any _ _ _ _ w (whi_rng a).1 (wlo_rng a).1 (whi_rng b).1 (wlo_rng b).1 (wlo_rng a).2 (wlo_rng b).2).mono fun e w' ⟨h, k⟩ => ⟨by rw [h, wlo_add, whi_add], k⟩
set_option maxRecDepth 100000 in
theorem eOf_calls (n x : Int) (w : World) (hn0 : -9223372036854775808 ≤ n) (hn1 : n ≤ 9223372036854775807) (hx0 : -9223372036854775808 ≤ x) (hx1 : x ≤ 9223372036854775807) :
    Calls Try.prog 108 #[.int .i64 n, .int .i64 x] w fun e w' => e = .returned (.agg #[.int .u64 (whi (n * x)), .int .u64 (wlo (n * x))]) ∧ Below w.heap.size w w' := by
  have hp := whi_prod n x hn0 hn1 hx0 hx1
  have hq := wlo_prod n x
  have un : IntKind.u64.wrap n = wlo n := by unfold wlo IntKind.wrap; simp [IntKind.signed, IntKind.bits]
  have ux : IntKind.u64.wrap x = wlo x := by unfold wlo IntKind.wrap; simp [IntKind.signed, IntKind.bits]
  have uw : ∀ z, IntKind.u64.wrap z = z % 18446744073709551616 := by intro z; unfold IntKind.wrap; simp [IntKind.signed, IntKind.bits]
  have rn := wlo_rng n
  have rx := wlo_rng x
  have hm := fun W => Mul64_calls (wlo n).toNat (wlo x).toNat (by omega) (by omega) W
  have e1 : (((wlo n).toNat * (wlo x).toNat / 18446744073709551616 : Nat) : Int) = wlo n * wlo x / 18446744073709551616 := by
    rw [Int.natCast_ediv, Int.natCast_mul, Int.toNat_of_nonneg rn.1, Int.toNat_of_nonneg rx.1]; rfl
  have e2 : (((wlo n).toNat * (wlo x).toNat % 18446744073709551616 : Nat) : Int) = wlo n * wlo x % 18446744073709551616 := by
    rw [Int.natCast_emod, Int.natCast_mul, Int.toNat_of_nonneg rn.1, Int.toNat_of_nonneg rx.1]; rfl
  simp only [Int.toNat_of_nonneg rn.1, Int.toNat_of_nonneg rx.1] at hm
  rw [e1, e2, hq] at hm
  have hHm : (wlo n * wlo x / 18446744073709551616) % 18446744073709551616 = wlo n * wlo x / 18446744073709551616 := by
    have h0 := Int.mul_nonneg rn.1 rx.1
    have h1 : wlo n * wlo x ≤ 18446744073709551615 * 18446744073709551615 := Int.mul_le_mul (by omega) (by omega) rx.1 (by omega)
    exact Int.emod_eq_of_lt (by omega) (by omega)
  replace hHm := hidI hHm
  generalize wlo n * wlo x / 18446744073709551616 = H at *
  have hL := wlo_rng (n * x)
  generalize whi (n * x) = R at *
  generalize wlo (n * x) = L at *
  generalize wlo n = N at *
  generalize wlo x = X at *
  clear e1 e2 hq
  replace hp := hidI hp
  replace hm := hidI hm
  replace uw := hidI uw
  clear hn0 hn1 hx0 hx1 rn rx hL
  by_cases h1 : n < 0 <;> by_cases h2 : x < 0
  · have d1 : decide (n < 0) = true := decide_eq_true h1
    have d2 : decide (x < 0) = true := decide_eq_true h2
    rw [if_pos h2, if_pos h1] at hp
    go_enter Try.func108, Try.ntmps108
    go_wp2_with (first | (go_at_call 104; refine (hm.out _).mono ?_; rintro e w1 ⟨rfl, hw1⟩; obtain rfl := hw1) | fail)
    have ev : IntKind.u64.wrap (IntKind.u64.wrap (H - X) - N) = R := by first | (rw [uw.out, uw.out]; exact hp.out) | (rw [uw.out]; exact hp.out) | (rw [← hp.out]; exact hHm.out.symm)
    rw [ev]
    clear ev
    refine bodyPost_ret (results_cell_row rfl _ _ (w.heap.size) 169 #[.int .u64 R, .int .u64 L] (0, 0) _ rfl (by (repeat (first | with_reducible assumption | with_reducible exact blk_new _ _ | with_reducible apply blk_drew | (with_reducible refine blk_newE ?_; (first | done | (simp; done))) | with_reducible apply blk_put2 | (with_reducible refine blk_far ?_ (by first | omega | (simp; done) | (simp; omega)) _) | with_reducible apply blk_alloc | (with_reducible refine bl_block (by assumption) ?_) | (with_reducible refine blk_grown ?_ (by assumption) (by assumption)) | (with_reducible refine blk_acc (by assumption) ?_ (by assumption))))) Try.underlying169 rfl (by kernel_rfl)) rfl ?_
    exact ⟨rfl, (by (repeat (first | with_reducible exact Below.refl _ _ | with_reducible assumption | with_reducible apply bl_alloc | with_reducible apply bl_drew | with_reducible apply bl_drewN | (with_reducible refine bl_set ?_ (by first | omega | (simp; done) | (simp; omega)) _) | (with_reducible refine bl_step ?_ (by assumption)) | (with_reducible refine bl_grown ?_ (by assumption) (by assumption)) | (with_reducible refine bl_own ?_ (by assumption) (by assumption)))))⟩
  · have d1 : decide (n < 0) = true := decide_eq_true h1
    have d2 : decide (x < 0) = false := decide_eq_false h2
    rw [if_neg h2, if_pos h1] at hp
    go_enter Try.func108, Try.ntmps108
    go_wp2_with (first | (go_at_call 104; refine (hm.out _).mono ?_; rintro e w1 ⟨rfl, hw1⟩; obtain rfl := hw1) | fail)
    have ev : IntKind.u64.wrap (H - X) = R := by first | (rw [uw.out, uw.out]; exact hp.out) | (rw [uw.out]; exact hp.out) | (rw [← hp.out]; exact hHm.out.symm)
    rw [ev]
    clear ev
    refine bodyPost_ret (results_cell_row rfl _ _ (w.heap.size) 169 #[.int .u64 R, .int .u64 L] (0, 0) _ rfl (by (repeat (first | with_reducible assumption | with_reducible exact blk_new _ _ | with_reducible apply blk_drew | (with_reducible refine blk_newE ?_; (first | done | (simp; done))) | with_reducible apply blk_put2 | (with_reducible refine blk_far ?_ (by first | omega | (simp; done) | (simp; omega)) _) | with_reducible apply blk_alloc | (with_reducible refine bl_block (by assumption) ?_) | (with_reducible refine blk_grown ?_ (by assumption) (by assumption)) | (with_reducible refine blk_acc (by assumption) ?_ (by assumption))))) Try.underlying169 rfl (by kernel_rfl)) rfl ?_
    exact ⟨rfl, (by (repeat (first | with_reducible exact Below.refl _ _ | with_reducible assumption | with_reducible apply bl_alloc | with_reducible apply bl_drew | with_reducible apply bl_drewN | (with_reducible refine bl_set ?_ (by first | omega | (simp; done) | (simp; omega)) _) | (with_reducible refine bl_step ?_ (by assumption)) | (with_reducible refine bl_grown ?_ (by assumption) (by assumption)) | (with_reducible refine bl_own ?_ (by assumption) (by assumption)))))⟩
  · have d1 : decide (n < 0) = false := decide_eq_false h1
    have d2 : decide (x < 0) = true := decide_eq_true h2
    rw [if_pos h2, if_neg h1] at hp
    go_enter Try.func108, Try.ntmps108
    go_wp2_with (first | (go_at_call 104; refine (hm.out _).mono ?_; rintro e w1 ⟨rfl, hw1⟩; obtain rfl := hw1) | fail)
    have ev : IntKind.u64.wrap (H - N) = R := by first | (rw [uw.out, uw.out]; exact hp.out) | (rw [uw.out]; exact hp.out) | (rw [← hp.out]; exact hHm.out.symm)
    rw [ev]
    clear ev
    refine bodyPost_ret (results_cell_row rfl _ _ (w.heap.size) 169 #[.int .u64 R, .int .u64 L] (0, 0) _ rfl (by (repeat (first | with_reducible assumption | with_reducible exact blk_new _ _ | with_reducible apply blk_drew | (with_reducible refine blk_newE ?_; (first | done | (simp; done))) | with_reducible apply blk_put2 | (with_reducible refine blk_far ?_ (by first | omega | (simp; done) | (simp; omega)) _) | with_reducible apply blk_alloc | (with_reducible refine bl_block (by assumption) ?_) | (with_reducible refine blk_grown ?_ (by assumption) (by assumption)) | (with_reducible refine blk_acc (by assumption) ?_ (by assumption))))) Try.underlying169 rfl (by kernel_rfl)) rfl ?_
    exact ⟨rfl, (by (repeat (first | with_reducible exact Below.refl _ _ | with_reducible assumption | with_reducible apply bl_alloc | with_reducible apply bl_drew | with_reducible apply bl_drewN | (with_reducible refine bl_set ?_ (by first | omega | (simp; done) | (simp; omega)) _) | (with_reducible refine bl_step ?_ (by assumption)) | (with_reducible refine bl_grown ?_ (by assumption) (by assumption)) | (with_reducible refine bl_own ?_ (by assumption) (by assumption)))))⟩
  · have d1 : decide (n < 0) = false := decide_eq_false h1
    have d2 : decide (x < 0) = false := decide_eq_false h2
    rw [if_neg h2, if_neg h1] at hp
    go_enter Try.func108, Try.ntmps108
    go_wp2_with (first | (go_at_call 104; refine (hm.out _).mono ?_; rintro e w1 ⟨rfl, hw1⟩; obtain rfl := hw1) | fail)
    have ev : H = R := by first | (rw [uw.out, uw.out]; exact hp.out) | (rw [uw.out]; exact hp.out) | (rw [← hp.out]; exact hHm.out.symm)
    rw [ev]
    clear ev
    refine bodyPost_ret (results_cell_row rfl _ _ (w.heap.size) 169 #[.int .u64 R, .int .u64 L] (0, 0) _ rfl (by (repeat (first | with_reducible assumption | with_reducible exact blk_new _ _ | with_reducible apply blk_drew | (with_reducible refine blk_newE ?_; (first | done | (simp; done))) | with_reducible apply blk_put2 | (with_reducible refine blk_far ?_ (by first | omega | (simp; done) | (simp; omega)) _) | with_reducible apply blk_alloc | (with_reducible refine bl_block (by assumption) ?_) | (with_reducible refine blk_grown ?_ (by assumption) (by assumption)) | (with_reducible refine blk_acc (by assumption) ?_ (by assumption))))) Try.underlying169 rfl (by kernel_rfl)) rfl ?_
    exact ⟨rfl, (by (repeat (first | with_reducible exact Below.refl _ _ | with_reducible assumption | with_reducible apply bl_alloc | with_reducible apply bl_drew | with_reducible apply bl_drewN | (with_reducible refine bl_set ?_ (by first | omega | (simp; done) | (simp; omega)) _) | (with_reducible refine bl_step ?_ (by assumption)) | (with_reducible refine bl_grown ?_ (by assumption) (by assumption)) | (with_reducible refine bl_own ?_ (by assumption) (by assumption)))))⟩
theorem exS_snoc (l : List Sp) (q : Sp) : exS (l ++ [q]) = exS l + q.lo * q.hi := by unfold exS; rw [List.map_append, List.map_cons, List.map_nil, sumI_snoc]
theorem exS_take (l : List Sp) (k : Nat) (h : k < l.length) : exS (l.take (k + 1)) = exS (l.take k) + (l.getD k ⟨0, 0⟩).lo * (l.getD k ⟨0, 0⟩).hi := by
  rw [List.take_succ_eq_append_getElem h, exS_snoc]; simp [List.getElem?_eq_getElem h]
set_option maxHeartbeats 4000000 in
set_option maxRecDepth 100000 in
theorem Exact_calls (A : Option Addr) (l : List Sp) (c : Nat) (w : World) (hl : RdS w A l) (hin : InS l) (h0 : -170141183460469231731687303715884105728 ≤ exS l) (h1 : exS l < 170141183460469231731687303715884105728) :
    Calls Try.prog 69 #[.slice A l.length c] w fun e w' => e = .returned (.tuple #[.int .i64 (wrap64 (wlo (exS l))), .bool (fitsI (exS l))]) ∧ Below w.heap.size w w' := by
  have hlen := hl.1
  have h01 := hidI (And.intro h0 h1)
  clear h0 h1
  go_enter Try.func69, Try.ntmps69
  go_upto_region 3 with fail
  have hk0 := blk_new w (.cells #[.int .u64 0, .int .u64 0] 169)
  have hbw := bl_alloc (Below.refl w.heap.size w) (.cells #[.int .u64 0, .int .u64 0] 169)
  generalize w.alloc (.cells #[.int .u64 0, .int .u64 0] 169) = W1 at *
  obtain ⟨g0, hg0⟩ : ∃ g, g = w.heap.size := ⟨_, rfl⟩
  rw [← hg0] at hk0 ⊢
  have hle : w.heap.size ≤ g0 := by omega
  clear hg0
  go_loopw [6, 10] (fun v i wr => ∃ k : Nat, k ≤ l.length ∧ i = .int .i64 k ∧ Below w.heap.size w wr ∧ wr.heap[g0]? = some (.cells #[.int .u64 (whi (exS (l.take k))), .int .u64 (wlo (exS (l.take k)))] 169 (0, 0))) (fun _ i _ => (l.length - intOf i).toNat)
  case atStart => exact ⟨0, by omega, rfl, hbw, by simpa [exS, sumI, whi, wlo] using hk0⟩
  case round =>
    clear hk0 hbw
    obtain ⟨k, hk, rfl, hbw, hk_x⟩ := hrel
    by_cases hlt : k < l.length
    · obtain ⟨b, off, rfl, hc0, hc1⟩ := (hl.below hbw).at hlt
      have hq := hin (l.getD k ⟨0, 0⟩) (by rw [List.getD_eq_getElem?_getD, List.getElem?_eq_getElem hlt]; exact List.getElem_mem hlt)
      have hS := exS_take l k hlt
      generalize (l.getD k ⟨0, 0⟩).lo = n at *
      generalize (l.getD k ⟨0, 0⟩).hi = x at *
      replace hS := hidI hS
      obtain ⟨⟨qn0, qn1⟩, qx0, qx1⟩ := hq
      have hd : decide ((k : Int) < (l.length : Int)) = true := decide_eq_true (by omega)
      go_upto_region 5 with fail
      have hk_y := blk_new wr (.cells #[.int .i64 n, .int .i64 x] 76)
      have hlt0 := blk_lt hk_x
      replace hk_x := blk_alloc hk_x (.cells #[.int .i64 n, .int .i64 x] 76)
      have n_x_y : g0 ≠ wr.heap.size := Nat.ne_of_lt hlt0
      replace hbw := bl_alloc hbw (.cells #[.int .i64 n, .int .i64 x] 76)
      generalize wr.alloc (.cells #[.int .i64 n, .int .i64 x] 76) = W2 at *
      generalize wr.heap.size = gy at *
      have hle_x := hle
      clear hc0 hc1
      apply cutB
      intro hJ0
      · skip
        replace hk_x := blk_drew hk_x
        replace hk_y := blk_drew hk_y
        replace hbw := bl_drew hbw
        refine start_ (n := 8) (S := fun w' => w'.cell? ⟨gy, 0, none⟩ = some (.int .i64 n) ∧ w'.cell? ⟨gy, 1, none⟩ = some (.int .i64 x)) (ds := []) #[false, false, false, false, false, false, false, false] (by kernel_rfl) rfl rfl ⟨(blk_cell hk_y 0 (by rfl)), (blk_cell hk_y 1 (by rfl))⟩ (fun hHeld => ?_)
        generalize W2.drew = wn at *
        refine pure_ (i := 1) (N := some 15) (v := ?_) (a' := ?_) #[false, true, false, false, false, false, false, false] rfl rfl (by kernel_rfl) (fun _ _ _ h => h) (Or.inl ⟨by rfl, ?_⟩) ?_ ?_
        rotate_left
        · intro w'
          go_simp
          with_reducible rfl
        rotate_left
        · simp only [Act.put, List.setIfInBounds_toArray, List.set_cons_zero, List.set_cons_succ, i64_w, i32_w]
          rfl
        refine pure_ (i := 3) (N := some 17) (v := ?_) (a' := ?_) #[false, true, false, true, false, false, false, false] rfl rfl (by kernel_rfl) (fun _ _ _ h => h) (Or.inl ⟨by rfl, ?_⟩) ?_ ?_
        rotate_left
        · intro w'
          go_simp
          with_reducible rfl
        rotate_left
        · simp only [Act.put, List.setIfInBounds_toArray, List.set_cons_zero, List.set_cons_succ, i64_w, i32_w]
          rfl
        refine take_ (i := 2) (N := some 16) (v := ?_) (a' := ?_) #[false, true, true, true, false, false, false, false] rfl rfl (by kernel_rfl) (fun _ _ _ h => h) (Or.inl ⟨by rfl, ?_⟩) hHeld ?_ ?_
        rotate_left
        · rintro w' ⟨s0, s1⟩
          go_simp
          with_reducible rfl
        rotate_left
        · simp only [Act.put, List.setIfInBounds_toArray, List.set_cons_zero, List.set_cons_succ, i64_w, i32_w]
          rfl
        refine take_ (i := 4) (N := some 18) (v := ?_) (a' := ?_) #[false, true, true, true, true, false, false, false] rfl rfl (by kernel_rfl) (fun _ _ _ h => h) (Or.inl ⟨by rfl, ?_⟩) hHeld ?_ ?_
        rotate_left
        · rintro w' ⟨s0, s1⟩
          go_simp
          with_reducible rfl
        rotate_left
        · simp only [Act.put, List.setIfInBounds_toArray, List.set_cons_zero, List.set_cons_succ, i64_w, i32_w]
          rfl
        refine two_ (i := 0) (j := 5) (Ni := some 14) (Nj := some 19) #[true, true, true, true, true, false, false, false] #[false, true, true, true, true, true, false, false] rfl rfl rfl rfl (by kernel_rfl) (by decide) (by decide) (fun K hK => ?_) (fun K hK => ?_)
        · skip
          have m_ := blk_two hk_x
          refine value_ (w1 := wn) (v := .agg #[.int .u64 (whi (exS (l.take k))), .int .u64 (wlo (exS (l.take k)))]) (by rfl) rfl ?_ ?_
          · go_simp
            try rfl
          clear m_
          clear hHeld
          refine hK.out _ _ ⟨(blk_cell hk_y 0 (by rfl)), (blk_cell hk_y 1 (by rfl))⟩ (fun hHeld => ?_)
          clear hK K
          refine norm_ (a' := ?_) ?_ ?_
          rotate_left
          · show Act.put _ (some 14) _ = _
            simp only [Act.put, List.setIfInBounds_toArray, List.set_cons_zero, List.set_cons_succ, i64_w, i32_w]
            rfl
          refine one_ (i := 5) (N := some 19) #[true, true, true, true, true, true, false, false] rfl rfl (by kernel_rfl) (by decide) (fun K hK => ?_)
          refine goes_ Try.func108 (by kernel_rfl) rfl #[.int .i64 n, .int .i64 x] (by rfl) rfl rfl (by simp only [List.map_toArray, List.map_cons, List.map_nil] <;> rfl) ?_
          refine (eOf_calls n x _ qn0 qn1 qx0 qx1).mono ?_
          rintro e wn ⟨rfl, hbn⟩
          refine ⟨_, rfl, ?_⟩
          replace hk_x := bl_block hbn hk_x
          replace hk_y := bl_block hbn hk_y
          replace hbw := bl_step hbw hbn
          clear hbn
          clear hHeld
          refine hK.out _ _ ⟨(blk_cell hk_y 0 (by rfl)), (blk_cell hk_y 1 (by rfl))⟩ (fun hHeld => ?_)
          clear hK K
          refine norm_ (a' := ?_) ?_ ?_
          rotate_left
          · show Act.put _ (some 19) _ = _
            simp only [Act.put, List.setIfInBounds_toArray, List.set_cons_zero, List.set_cons_succ, i64_w, i32_w]
            rfl
          revert hHeld
          revert hk_y
          revert hk_x
          revert hbw
          revert wn
          exact Bx.out hJ0
        · skip
          refine goes_ Try.func108 (by kernel_rfl) rfl #[.int .i64 n, .int .i64 x] (by rfl) rfl rfl (by simp only [List.map_toArray, List.map_cons, List.map_nil] <;> rfl) ?_
          refine (eOf_calls n x _ qn0 qn1 qx0 qx1).mono ?_
          rintro e wn ⟨rfl, hbn⟩
          refine ⟨_, rfl, ?_⟩
          replace hk_x := bl_block hbn hk_x
          replace hk_y := bl_block hbn hk_y
          replace hbw := bl_step hbw hbn
          clear hbn
          clear hHeld
          refine hK.out _ _ ⟨(blk_cell hk_y 0 (by rfl)), (blk_cell hk_y 1 (by rfl))⟩ (fun hHeld => ?_)
          clear hK K
          refine norm_ (a' := ?_) ?_ ?_
          rotate_left
          · show Act.put _ (some 19) _ = _
            simp only [Act.put, List.setIfInBounds_toArray, List.set_cons_zero, List.set_cons_succ, i64_w, i32_w]
            rfl
          refine one_ (i := 0) (N := some 14) #[true, true, true, true, true, true, false, false] rfl rfl (by kernel_rfl) (by decide) (fun K hK => ?_)
          have m_ := blk_two hk_x
          refine value_ (w1 := wn) (v := .agg #[.int .u64 (whi (exS (l.take k))), .int .u64 (wlo (exS (l.take k)))]) (by rfl) rfl ?_ ?_
          · go_simp
            try rfl
          clear m_
          clear hHeld
          refine hK.out _ _ ⟨(blk_cell hk_y 0 (by rfl)), (blk_cell hk_y 1 (by rfl))⟩ (fun hHeld => ?_)
          clear hK K
          refine norm_ (a' := ?_) ?_ ?_
          rotate_left
          · show Act.put _ (some 14) _ = _
            simp only [Act.put, List.setIfInBounds_toArray, List.set_cons_zero, List.set_cons_succ, i64_w, i32_w]
            rfl
          revert hHeld
          revert hk_y
          revert hk_x
          revert hbw
          revert wn
          exact Bx.out hJ0
      · intro wn hbw hk_x hk_y hHeld
        refine one_ (i := 6) (N := some 20) #[true, true, true, true, true, true, true, false] rfl rfl (by kernel_rfl) (by decide) (fun K hK => ?_)
        refine goes_ Try.func107 (by kernel_rfl) rfl #[.agg #[.int .u64 (whi (exS (l.take k))), .int .u64 (wlo (exS (l.take k)))], .agg #[.int .u64 (whi (n * x)), .int .u64 (wlo (n * x))]] (by rfl) rfl rfl (by simp only [List.map_toArray, List.map_cons, List.map_nil] <;> rfl) ?_
        refine (ePlus_calls (exS (l.take k)) (n * x) _).mono ?_
        rintro e wn ⟨rfl, hbn⟩
        refine ⟨_, rfl, ?_⟩
        rw [← hS.out]
        replace hk_x := bl_block hbn hk_x
        replace hk_y := bl_block hbn hk_y
        replace hbw := bl_step hbw hbn
        clear hbn
        clear hHeld
        refine hK.out _ _ ⟨(blk_cell hk_y 0 (by rfl)), (blk_cell hk_y 1 (by rfl))⟩ (fun hHeld => ?_)
        clear hK K
        refine norm_ (a' := ?_) ?_ ?_
        rotate_left
        · show Act.put _ (some 20) _ = _
          simp only [Act.put, List.setIfInBounds_toArray, List.set_cons_zero, List.set_cons_succ, i64_w, i32_w]
          rfl
        refine one_ (i := 7) (N := none) #[true, true, true, true, true, true, true, true] rfl rfl (by kernel_rfl) (by decide) (fun K hK => ?_)
        have m_ := blk_two hk_x
        refine skip_ (w1 := (wn.setCell ⟨g0, 0, none⟩ (.int .u64 (whi (exS (l.take (k + 1)))))).setCell ⟨g0, 1, none⟩ (.int .u64 (wlo (exS (l.take (k + 1)))))) (by rfl) rfl ?_ ?_
        · go_simp
          try rfl
        clear m_
        replace hk_x := blk_put2 hk_x (.int .u64 (whi (exS (l.take (k + 1))))) (.int .u64 (wlo (exS (l.take (k + 1)))))
        replace hk_y := blk_far (blk_far hk_y (a := ⟨g0, 0, none⟩) n_x_y (.int .u64 (whi (exS (l.take (k + 1)))))) (a := ⟨g0, 1, none⟩) n_x_y (.int .u64 (wlo (exS (l.take (k + 1)))))
        replace hbw := bl_set (bl_set hbw (p := ⟨g0, 0, none⟩) hle_x (.int .u64 (whi (exS (l.take (k + 1)))))) (p := ⟨g0, 1, none⟩) hle_x (.int .u64 (wlo (exS (l.take (k + 1)))))
        generalize (wn.setCell ⟨g0, 0, none⟩ (.int .u64 (whi (exS (l.take (k + 1)))))).setCell ⟨g0, 1, none⟩ (.int .u64 (wlo (exS (l.take (k + 1))))) = wn at *
        clear hHeld
        refine hK.out _ _ ⟨(blk_cell hk_y 0 (by rfl)), (blk_cell hk_y 1 (by rfl))⟩ (fun hHeld => ?_)
        clear hK K
        refine done_ (by kernel_rfl) ?_
        go_wp2
        go_roundw
        case rel => exact ⟨k + 1, by omega, by go_num, hbw, hk_x⟩
        case measure => simp [intOf]; omega
    · have hke : k = l.length := by omega
      subst hke
      rw [List.take_length] at hk_x
      have hd : decide ((l.length : Int) < (l.length : Int)) = false := decide_eq_false (by omega)
      have m_x := blk_two hk_x
      have hrng := wlo_rng (exS l)
      go_upto_region 8 with fail
      have hx : -9223372036854775808 ≤ wrap64 (wlo (exS l)) ∧ wrap64 (wlo (exS l)) ≤ 9223372036854775807 := by unfold wrap64; omega
      have hwf := wide_fits (exS l) h01.out.1 h01.out.2
      have hfit : (whi (wrap64 (wlo (exS l))) = whi (exS l) ∧ wlo (wrap64 (wlo (exS l))) = wlo (exS l)) ↔ fitsI (exS l) = true := by
        rw [hwf]; unfold fitsI; simp only [Bool.and_eq_true, decide_eq_true_eq]
      have hft : fitsI (exS l) = decide (whi (wrap64 (wlo (exS l))) = whi (exS l) ∧ wlo (wrap64 (wlo (exS l))) = wlo (exS l)) := by rw [Bool.eq_iff_iff, decide_eq_true_iff]; exact hfit.symm
      clear hwf hrng hfit
      obtain ⟨x, hxE⟩ : ∃ x, Hid (wrap64 (wlo (exS l)) = x) := ⟨_, rfl⟩
      rw [hxE.out] at hx hft ⊢
      obtain ⟨ft, hfE⟩ : ∃ x, Hid (fitsI (exS l) = x) := ⟨_, rfl⟩
      rw [hfE.out] at hft
      replace hft := hidI hft
      obtain ⟨z, hzE⟩ : ∃ x, Hid (exS l = x) := ⟨_, rfl⟩
      replace hft := hft.out
      rw [hzE.out] at hft hk_x
      replace hft := hidI hft
      clear hl hin m_x
      have hk_g0 := hk_x
      obtain ⟨w0, hw0⟩ : ∃ z : World, z = w := ⟨_, rfl⟩
      rw [← hw0] at hbw hle
      clear hk_x hk hlt hd h01
      have hof := hidI (fun W => eOf_calls 1 x W (by omega) (by omega) hx.1 hx.2)
      rw [Int.one_mul] at hof
      obtain ⟨B0, hB0⟩ : ∃ B, B = wr.heap.size := ⟨_, rfl⟩
      have c0_hsz : B0 ≤ wr.heap.size := Nat.le_of_eq hB0
      have hw0B0 : w0.heap.size ≤ B0 := by rw [hB0]; exact hbw.size
      have c0_hle : wr.heap.size ≤ B0 := Nat.le_of_eq hB0.symm
      have c0_hk_g0 := blk_drew hk_g0
      have c0_lt_g0 : g0 < B0 := by rw [hB0]; exact blk_lt hk_g0
      have c0_hbw := bl_drew hbw
      clear hB0 hbw hk_g0
      refine region_lin (n := 7) (st := ?st1) { R := [0, 0, 2, 0, 14, 7, 63], kill := [[], [], [], [], [], [], []], cls := [0, 0, 0, 0, 0, 0, 0], dst := [some 25, some 26, some 27, some 28, some 29, some 2, some 3], pre := [[], [], [1], [], [2, 3], [0], [4]], cov := [], fin := [5, 6], locs := [], tgt := [none], abt := [none, none, none, none, none, none, none] }
        [.v [25] (fun vs => (vs.getD 0 undef) = .int .i64 x),
         .v [26] (fun vs => (vs.getD 0 undef) = .int .i64 x),
         .v [27] (fun vs => (vs.getD 0 undef) = .agg #[.int .u64 (whi x), .int .u64 (wlo x)]),
         .v [28] (fun vs => (vs.getD 0 undef) = .agg #[.int .u64 (whi z), .int .u64 (wlo z)]),
         .v [29] (fun vs => (vs.getD 0 undef) = .bool ft),
         .v [2] (fun vs => (vs.getD 0 undef) = .int .i64 x),
         .v [3] (fun vs => (vs.getD 0 undef) = .bool ft)]
        (fun w => B0 ≤ w.heap.size ∧ w.heap[g0]? = some (.cells #[.int .u64 (whi z), .int .u64 (wlo z)] 169 (0, 0)) ∧ g0 < B0 ∧ Below w0.heap.size w0 w)
        (fun c => ([fun s w w' => Below w.heap.size w w'] : List ((Nat → Value) → World → World → Prop)).getD c (fun s w w' => w' = w))
        [2, 3, 25, 26, 27, 28, 29] (by kernel_rfl) ⟨by kernel_rfl, by kernel_rfl, by kernel_rfl, by kernel_rfl, by kernel_rfl, by kernel_rfl, by kernel_rfl, by kernel_rfl⟩ (fun s => ?_) ?_ ?_ ?_ ?_ ?_ (fun s w hC hA => ?_)
      rotate_left
      · simp only [fillS, List.foldl, List.setIfInBounds_toArray, List.set_cons_zero, List.set_cons_succ]; rfl
      · exact ⟨c0_hsz, c0_hk_g0, c0_lt_g0, c0_hbw⟩
      · intro c s w w' hE
        match c, hE with
        | 0, hE => exact Below.size hE
        | c + 1, hE => cases hE; exact Nat.le_refl _
      · rintro c s w w' ⟨hsz, hk_g0, lt_g0, hbw⟩ hE
        match c, hE with
        | 0, hE => replace hE : Below w.heap.size w w' := hE; exact ⟨Nat.le_trans hsz hE.size, bl_block hE hk_g0, lt_g0, bl_step hbw hE⟩
        | c + 1, hE => cases hE; exact ⟨hsz, hk_g0, lt_g0, hbw⟩
      · exact trivial
      · skip
        refine StepsP.cons ?_ ?_
        · intro Q s w hC hA K hK
          clear hC
          clear hA
          refine guard_none (by rfl) ?_
          refine wp_value (v := .int .i64 x) (w1 := w) ?_ (hK.out _ w (Below.refl _ _) rfl (fun h => by cases h))
          go_simp
          try (first | done | rfl | (simp; done))
        refine StepsP.cons ?_ ?_
        · intro Q s w hC hA K hK
          clear hC
          clear hA
          refine guard_none (by rfl) ?_
          refine wp_value (v := .int .i64 x) (w1 := w) ?_ (hK.out _ w (Below.refl _ _) rfl (fun h => by cases h))
          go_simp
          try (first | done | rfl | (simp; done))
        refine StepsP.cons ?_ ?_
        · intro Q s w hC hA K hK
          obtain ⟨hsz, hk_g0, lt_g0, hbw⟩ := hC
          obtain ⟨f1, -⟩ := hA
          replace f1 : (s 26) = .int .i64 x := f1
          refine guard_none (by rfl) ?_
          refine wp_call (N := some 27) (by rfl) Try.func108 (by kernel_rfl) #[.int .i64 1, .int .i64 x] rfl (by rfl) ?_ ?_
          · show [.int .i64 1, s 26] = [.int .i64 1, .int .i64 x]
            first | rfl | simp only [f1]
          refine (hof.out _).mono ?_
          rintro e w1 ⟨rfl, hb⟩
          refine ⟨_, rfl, ?_⟩
          exact hK.out _ _ hb rfl (fun h => by cases h)
        refine StepsP.cons ?_ ?_
        · intro Q s w hC hA K hK
          obtain ⟨hsz, hk_g0, lt_g0, hbw⟩ := hC
          clear hA
          refine guard_none (by rfl) ?_
          have m0_g0 : w.cell? ⟨g0, 0, none⟩ = some (.int .u64 (whi z)) := blk_cell hk_g0 0 (by rfl)
          have m1_g0 : w.cell? ⟨g0, 1, none⟩ = some (.int .u64 (wlo z)) := blk_cell hk_g0 1 (by rfl)
          refine wp_value (v := .agg #[.int .u64 (whi z), .int .u64 (wlo z)]) (w1 := w) ?_ (hK.out _ w (Below.refl _ _) rfl (fun h => by cases h))
          go_simp
          try (first | done | rfl | (simp; done))
        refine StepsP.cons ?_ ?_
        · intro Q s w hC hA K hK
          clear hC
          obtain ⟨f2, f3, -⟩ := hA
          replace f2 : (s 27) = .agg #[.int .u64 (whi x), .int .u64 (wlo x)] := f2
          replace f3 : (s 28) = .agg #[.int .u64 (whi z), .int .u64 (wlo z)] := f3
          refine guard_none (by rfl) ?_
          refine wp_value (v := .bool ft) (w1 := w) ?_ (hK.out _ w (Below.refl _ _) rfl (fun h => by cases h))
          try simp only [f2, f3]
          go_simp
          first | done | (rw [hft.out]; by_cases q1 : whi x = whi z <;> by_cases q2 : wlo x = wlo z <;> simp only [q1, q2, if_true, if_false, and_self, and_true, and_false, false_and, decide_true, decide_false])
        refine StepsP.cons ?_ ?_
        · intro Q s w hC hA K hK
          clear hC
          obtain ⟨f0, -⟩ := hA
          replace f0 : (s 25) = .int .i64 x := f0
          refine guard_none (by rfl) ?_
          refine wp_value (v := .int .i64 x) (w1 := w) ?_ (hK.out _ w (Below.refl _ _) rfl (fun h => by cases h))
          try simp only [f0]
          go_simp
          try (first | done | rfl | (simp; done))
        refine StepsP.cons ?_ ?_
        · intro Q s w hC hA K hK
          clear hC
          obtain ⟨f4, -⟩ := hA
          replace f4 : (s 29) = .bool ft := f4
          refine guard_none (by rfl) ?_
          refine wp_value (v := .bool ft) (w1 := w) ?_ (hK.out _ w (Below.refl _ _) rfl (fun h => by cases h))
          try simp only [f4]
          go_simp
          try (first | done | rfl | (simp; done))
        exact StepsP.nil
      obtain ⟨hsz, hk_g0, lt_g0, hbw⟩ := hC
      obtain ⟨f5, f6, -⟩ := hA
      replace f5 : (s 2) = .int .i64 x := f5
      replace f6 : (s 3) = .bool ft := f6
      refine act_eq (b' := ?b1) ?h1 ?q1
      case h1 => simp only [f5, f6]; rfl
      subst hw0
      go_wp2
      go_ret2
      exact ⟨by rw [hxE.out, hfE.out]; rfl, hbw⟩
end Go.Proofs.Ythdaidmjjcmccaa
