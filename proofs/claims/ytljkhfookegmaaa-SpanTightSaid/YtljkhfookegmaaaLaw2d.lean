/- Proved here: lemmas and contracts (what a function of the program computes) that the proofs of the laws of this seat lean on. Conditions: as each theorem states. -/
import Derived.Test.YtljkhfookegmaaaSpan9
import Derived.Test.YtljkhfookegmaaaLaw2a
import Derived.Test.YtljkhfookegmaaaM2
import Derived.Test.YtljkhfookegmaaaA3
import Derived.Test.YtljkhfookegmaaaWFour
set_option linter.unusedVariables false
set_option linter.unusedSimpArgs false
namespace Go.Proofs.Ytljkhfookegmaaa
open Go.RowKit Go.Pk Go.Proofs.YtljkhfookegmaaaW.PrintLast
theorem fmul_mono {a b c : Int} (h : a ≤ b) (hc : 0 ≤ c) (up : Bool) : fmul a c up ≤ fmul b c up := by
  have k : a * c ≤ b * c := Int.mul_le_mul_of_nonneg_right h hc
  unfold fmul
  split
  · have : -(b * c) / 4294967296 ≤ -(a * c) / 4294967296 := Int.ediv_le_ediv (by omega) (by omega)
    omega
  · exact Int.ediv_le_ediv (by omega) k
theorem fmul_anti {a b c : Int} (h : a ≤ b) (hc : c ≤ 0) (up : Bool) : fmul b c up ≤ fmul a c up := by
  have k : b * c ≤ a * c := Int.mul_le_mul_of_nonpos_right h hc
  unfold fmul
  split
  · have : -(a * c) / 4294967296 ≤ -(b * c) / 4294967296 := Int.ediv_le_ediv (by omega) (by omega)
    omega
  · exact Int.ediv_le_ediv (by omega) k
theorem clampI_mono {a b : Int} (h : a ≤ b) : clampI a ≤ clampI b := by unfold clampI; (repeat' split) <;> omega
theorem times_lo {a b c : Int} (h : a ≤ b) (hc : 0 ≤ c) : minL (prodL [a, b] [c] false) = clampI (fmul a c false) := by
  have k := clampI_mono (fmul_mono h hc false)
  show minL [clampI (fmul a c false), clampI (fmul b c false)] = _
  rw [minL2, minL1]; omega
theorem times_hi {a b c : Int} (h : a ≤ b) (hc : 0 ≤ c) : maxL (prodL [a, b] [c] true) = clampI (fmul b c true) := by
  have k := clampI_mono (fmul_mono h hc true)
  show maxL [clampI (fmul a c true), clampI (fmul b c true)] = _
  rw [maxL2, maxL1]; omega
theorem times_lo' {a b c : Int} (h : a ≤ b) (hc : c ≤ 0) : minL (prodL [a, b] [c] false) = clampI (fmul b c false) := by
  have k := clampI_mono (fmul_anti h hc false)
  show minL [clampI (fmul a c false), clampI (fmul b c false)] = _
  rw [minL2, minL1]; omega
theorem times_hi' {a b c : Int} (h : a ≤ b) (hc : c ≤ 0) : maxL (prodL [a, b] [c] true) = clampI (fmul a c true) := by
  have k := clampI_mono (fmul_anti h hc true)
  show maxL [clampI (fmul a c true), clampI (fmul b c true)] = _
  rw [maxL2, maxL1]; omega
set_option maxHeartbeats 100000000 in
set_option maxRecDepth 100000 in
theorem SpanTight_walk (xl xh yl yh c : Int) (w : World) (hx0 : -9223372036854775808 ≤ xl) (hx1 : xl ≤ 9223372036854775807) (hx2 : -9223372036854775808 ≤ xh) (hx3 : xh ≤ 9223372036854775807) (hy0 : -9223372036854775808 ≤ yl) (hy1 : yl ≤ 9223372036854775807) (hy2 : -9223372036854775808 ≤ yh) (hy3 : yh ≤ 9223372036854775807) (hc0 : -9223372036854775808 ≤ c) (hc1 : c ≤ 9223372036854775807) :
    Calls Try.prog 6 #[.agg #[.int .i64 (xl), .int .i64 (xh)], .agg #[.int .i64 (yl), .int .i64 (yh)], .int .i64 c] w fun e w' => e = .returned (.bool true) ∧ Below w.heap.size w w' := by
  by_cases hex : xh < xl
  · have hx : decide (xh < xl) = true := decide_eq_true hex
    have hy : True := trivial
    go_enter Try.func6, Try.ntmps6
    go_upto_region 1 with fail
    have hk_x : ((w.alloc (.cells #[.int .i64 xl, .int .i64 xh] 23)).alloc (.cells #[.int .i64 yl, .int .i64 yh] 23)).heap[w.heap.size]? = some (.cells #[.int .i64 xl, .int .i64 xh] 23 (0, 0)) := (by (repeat (first | with_reducible assumption | with_reducible exact blk_new _ _ | with_reducible apply blk_drew | (with_reducible refine blk_newE ?_; (first | done | (simp; done))) | with_reducible apply blk_put2 | (with_reducible refine blk_far ?_ (by first | omega | (simp; done) | (simp; omega)) _) | with_reducible apply blk_alloc | (with_reducible refine bl_block (by assumption) ?_) | (with_reducible refine blk_grown ?_ (by assumption) (by assumption)) | (with_reducible refine blk_acc (by assumption) ?_ (by assumption)))))
    have hk_y : ((w.alloc (.cells #[.int .i64 xl, .int .i64 xh] 23)).alloc (.cells #[.int .i64 yl, .int .i64 yh] 23)).heap[w.heap.size + 1]? = some (.cells #[.int .i64 yl, .int .i64 yh] 23 (0, 0)) := (by (repeat (first | with_reducible assumption | with_reducible exact blk_new _ _ | with_reducible apply blk_drew | (with_reducible refine blk_newE ?_; (first | done | (simp; done))) | with_reducible apply blk_put2 | (with_reducible refine blk_far ?_ (by first | omega | (simp; done) | (simp; omega)) _) | with_reducible apply blk_alloc | (with_reducible refine bl_block (by assumption) ?_) | (with_reducible refine blk_grown ?_ (by assumption) (by assumption)) | (with_reducible refine blk_acc (by assumption) ?_ (by assumption)))))
    have hbw : Below w.heap.size w ((w.alloc (.cells #[.int .i64 xl, .int .i64 xh] 23)).alloc (.cells #[.int .i64 yl, .int .i64 yh] 23)) := (by (repeat (first | with_reducible exact Below.refl _ _ | with_reducible assumption | with_reducible apply bl_alloc | with_reducible apply bl_drew | with_reducible apply bl_drewN | (with_reducible refine bl_set ?_ (by first | omega | (simp; done) | (simp; omega)) _) | (with_reducible refine bl_step ?_ (by assumption)) | (with_reducible refine bl_grown ?_ (by assumption) (by assumption)) | (with_reducible refine bl_own ?_ (by assumption) (by assumption)))))
    generalize (w.alloc (.cells #[.int .i64 xl, .int .i64 xh] 23)).alloc (.cells #[.int .i64 yl, .int .i64 yh] 23) = W at *
    have m0 := blk_two hk_x
    have m1 := blk_two hk_y
    go_wp2_with (first | (go_at_call 13; refine (Empty_calls _ _ _).mono ?_; rintro e wn ⟨rfl, hbn⟩; (first | rw [hx] | rw [hy]); replace hk_x : wn.heap[w.heap.size]? = some (.cells #[.int .i64 xl, .int .i64 xh] 23 (0, 0)) := bl_block hbn hk_x; replace hk_y : wn.heap[w.heap.size + 1]? = some (.cells #[.int .i64 yl, .int .i64 yh] 23 (0, 0)) := bl_block hbn hk_y; replace hbw : Below w.heap.size w wn := bl_step hbw hbn; clear hbn m0 m1; have m0 := blk_two hk_x; have m1 := blk_two hk_y) | fail)
    refine (alive_calls _).mono ?_
    rintro e w9 ⟨rfl, hb9⟩
    go_wp2
    go_ret
    exact ⟨rfl, bl_step hbw hb9⟩
  have hx : decide (xh < xl) = false := decide_eq_false hex
  by_cases hey : yh < yl
  · have hy : decide (yh < yl) = true := decide_eq_true hey
    go_enter Try.func6, Try.ntmps6
    go_upto_region 1 with fail
    have hk_x : ((w.alloc (.cells #[.int .i64 xl, .int .i64 xh] 23)).alloc (.cells #[.int .i64 yl, .int .i64 yh] 23)).heap[w.heap.size]? = some (.cells #[.int .i64 xl, .int .i64 xh] 23 (0, 0)) := (by (repeat (first | with_reducible assumption | with_reducible exact blk_new _ _ | with_reducible apply blk_drew | (with_reducible refine blk_newE ?_; (first | done | (simp; done))) | with_reducible apply blk_put2 | (with_reducible refine blk_far ?_ (by first | omega | (simp; done) | (simp; omega)) _) | with_reducible apply blk_alloc | (with_reducible refine bl_block (by assumption) ?_) | (with_reducible refine blk_grown ?_ (by assumption) (by assumption)) | (with_reducible refine blk_acc (by assumption) ?_ (by assumption)))))
    have hk_y : ((w.alloc (.cells #[.int .i64 xl, .int .i64 xh] 23)).alloc (.cells #[.int .i64 yl, .int .i64 yh] 23)).heap[w.heap.size + 1]? = some (.cells #[.int .i64 yl, .int .i64 yh] 23 (0, 0)) := (by (repeat (first | with_reducible assumption | with_reducible exact blk_new _ _ | with_reducible apply blk_drew | (with_reducible refine blk_newE ?_; (first | done | (simp; done))) | with_reducible apply blk_put2 | (with_reducible refine blk_far ?_ (by first | omega | (simp; done) | (simp; omega)) _) | with_reducible apply blk_alloc | (with_reducible refine bl_block (by assumption) ?_) | (with_reducible refine blk_grown ?_ (by assumption) (by assumption)) | (with_reducible refine blk_acc (by assumption) ?_ (by assumption)))))
    have hbw : Below w.heap.size w ((w.alloc (.cells #[.int .i64 xl, .int .i64 xh] 23)).alloc (.cells #[.int .i64 yl, .int .i64 yh] 23)) := (by (repeat (first | with_reducible exact Below.refl _ _ | with_reducible assumption | with_reducible apply bl_alloc | with_reducible apply bl_drew | with_reducible apply bl_drewN | (with_reducible refine bl_set ?_ (by first | omega | (simp; done) | (simp; omega)) _) | (with_reducible refine bl_step ?_ (by assumption)) | (with_reducible refine bl_grown ?_ (by assumption) (by assumption)) | (with_reducible refine bl_own ?_ (by assumption) (by assumption)))))
    generalize (w.alloc (.cells #[.int .i64 xl, .int .i64 xh] 23)).alloc (.cells #[.int .i64 yl, .int .i64 yh] 23) = W at *
    have m0 := blk_two hk_x
    have m1 := blk_two hk_y
    go_wp2_with (first | (go_at_call 13; refine (Empty_calls _ _ _).mono ?_; rintro e wn ⟨rfl, hbn⟩; (first | rw [hx] | rw [hy]); replace hk_x : wn.heap[w.heap.size]? = some (.cells #[.int .i64 xl, .int .i64 xh] 23 (0, 0)) := bl_block hbn hk_x; replace hk_y : wn.heap[w.heap.size + 1]? = some (.cells #[.int .i64 yl, .int .i64 yh] 23 (0, 0)) := bl_block hbn hk_y; replace hbw : Below w.heap.size w wn := bl_step hbw hbn; clear hbn m0 m1; have m0 := blk_two hk_x; have m1 := blk_two hk_y) | fail)
    refine (alive_calls _).mono ?_
    rintro e w9 ⟨rfl, hb9⟩
    go_wp2
    go_ret
    exact ⟨rfl, bl_step hbw hb9⟩
  have hy : decide (yh < yl) = false := decide_eq_false hey
  go_enter Try.func6, Try.ntmps6
  go_upto_region 1 with fail
  have hk_x : ((w.alloc (.cells #[.int .i64 xl, .int .i64 xh] 23)).alloc (.cells #[.int .i64 yl, .int .i64 yh] 23)).heap[w.heap.size]? = some (.cells #[.int .i64 xl, .int .i64 xh] 23 (0, 0)) := (by (repeat (first | with_reducible assumption | with_reducible exact blk_new _ _ | with_reducible apply blk_drew | (with_reducible refine blk_newE ?_; (first | done | (simp; done))) | with_reducible apply blk_put2 | (with_reducible refine blk_far ?_ (by first | omega | (simp; done) | (simp; omega)) _) | with_reducible apply blk_alloc | (with_reducible refine bl_block (by assumption) ?_) | (with_reducible refine blk_grown ?_ (by assumption) (by assumption)) | (with_reducible refine blk_acc (by assumption) ?_ (by assumption)))))
  have hk_y : ((w.alloc (.cells #[.int .i64 xl, .int .i64 xh] 23)).alloc (.cells #[.int .i64 yl, .int .i64 yh] 23)).heap[w.heap.size + 1]? = some (.cells #[.int .i64 yl, .int .i64 yh] 23 (0, 0)) := (by (repeat (first | with_reducible assumption | with_reducible exact blk_new _ _ | with_reducible apply blk_drew | (with_reducible refine blk_newE ?_; (first | done | (simp; done))) | with_reducible apply blk_put2 | (with_reducible refine blk_far ?_ (by first | omega | (simp; done) | (simp; omega)) _) | with_reducible apply blk_alloc | (with_reducible refine bl_block (by assumption) ?_) | (with_reducible refine blk_grown ?_ (by assumption) (by assumption)) | (with_reducible refine blk_acc (by assumption) ?_ (by assumption)))))
  have hbw : Below w.heap.size w ((w.alloc (.cells #[.int .i64 xl, .int .i64 xh] 23)).alloc (.cells #[.int .i64 yl, .int .i64 yh] 23)) := (by (repeat (first | with_reducible exact Below.refl _ _ | with_reducible assumption | with_reducible apply bl_alloc | with_reducible apply bl_drew | with_reducible apply bl_drewN | (with_reducible refine bl_set ?_ (by first | omega | (simp; done) | (simp; omega)) _) | (with_reducible refine bl_step ?_ (by assumption)) | (with_reducible refine bl_grown ?_ (by assumption) (by assumption)) | (with_reducible refine bl_own ?_ (by assumption) (by assumption)))))
  generalize (w.alloc (.cells #[.int .i64 xl, .int .i64 xh] 23)).alloc (.cells #[.int .i64 yl, .int .i64 yh] 23) = W at *
  have m0 := blk_two hk_x
  have m1 := blk_two hk_y
  go_upto_region 4 with (first | (go_at_call 13; refine (Empty_calls _ _ _).mono ?_; rintro e wn ⟨rfl, hbn⟩; (first | rw [hx] | rw [hy]); replace hk_x : wn.heap[w.heap.size]? = some (.cells #[.int .i64 xl, .int .i64 xh] 23 (0, 0)) := bl_block hbn hk_x; replace hk_y : wn.heap[w.heap.size + 1]? = some (.cells #[.int .i64 yl, .int .i64 yh] 23 (0, 0)) := bl_block hbn hk_y; replace hbw : Below w.heap.size w wn := bl_step hbw hbn; clear hbn m0 m1; have m0 := blk_two hk_x; have m1 := blk_two hk_y) | fail)
  have hka : ((wn.alloc (.cells #[.bool false] 50)).alloc (.cells #[.bool false] 31)).heap[wn.heap.size]? = some (.cells #[.bool false] 50 (0, 0)) := (by (repeat (first | with_reducible assumption | with_reducible exact blk_new _ _ | with_reducible apply blk_drew | (with_reducible refine blk_newE ?_; (first | done | (simp; done))) | with_reducible apply blk_put2 | (with_reducible refine blk_far ?_ (by first | omega | (simp; done) | (simp; omega)) _) | with_reducible apply blk_alloc | (with_reducible refine bl_block (by assumption) ?_) | (with_reducible refine blk_grown ?_ (by assumption) (by assumption)) | (with_reducible refine blk_acc (by assumption) ?_ (by assumption)))))
  have hkb : ((wn.alloc (.cells #[.bool false] 50)).alloc (.cells #[.bool false] 31)).heap[wn.heap.size + 1]? = some (.cells #[.bool false] 31 (0, 0)) := (by (repeat (first | with_reducible assumption | with_reducible exact blk_new _ _ | with_reducible apply blk_drew | (with_reducible refine blk_newE ?_; (first | done | (simp; done))) | with_reducible apply blk_put2 | (with_reducible refine blk_far ?_ (by first | omega | (simp; done) | (simp; omega)) _) | with_reducible apply blk_alloc | (with_reducible refine bl_block (by assumption) ?_) | (with_reducible refine blk_grown ?_ (by assumption) (by assumption)) | (with_reducible refine blk_acc (by assumption) ?_ (by assumption)))))
  have ha_a := AccAt.blk hka
  have ha_b := AccAt.blk hkb
  have p_a_x : PNe (some ⟨wn.heap.size, 0, none⟩) w.heap.size := PNe.of (Nat.ne_of_gt (blk_lt hk_x))
  have p_a_y : PNe (some ⟨wn.heap.size, 0, none⟩) (w.heap.size + 1) := PNe.of (Nat.ne_of_gt (blk_lt hk_y))
  have p_b_x : PNe (some ⟨wn.heap.size + 1, 0, none⟩) w.heap.size := PNe.of (by have := blk_lt hk_x; show wn.heap.size + 1 ≠ w.heap.size; omega)
  have p_b_y : PNe (some ⟨wn.heap.size + 1, 0, none⟩) (w.heap.size + 1) := PNe.of (by have := blk_lt hk_y; show wn.heap.size + 1 ≠ w.heap.size + 1; omega)
  have hl_a : w.heap.size ≤ (⟨wn.heap.size, 0, none⟩ : Addr).block := hbw.size
  have hl_b : w.heap.size ≤ (⟨wn.heap.size + 1, 0, none⟩ : Addr).block := Nat.le_succ_of_le hbw.size
  have n_a_b : (⟨wn.heap.size, 0, none⟩ : Addr).block ≠ (⟨wn.heap.size + 1, 0, none⟩ : Addr).block := by show wn.heap.size ≠ wn.heap.size + 1; omega
  have n_b_a := n_a_b.symm
  replace hk_x := blk_alloc (blk_alloc hk_x (.cells #[.bool false] 50)) (.cells #[.bool false] 31)
  replace hk_y := blk_alloc (blk_alloc hk_y (.cells #[.bool false] 50)) (.cells #[.bool false] 31)
  replace hbw := bl_alloc (bl_alloc hbw (.cells #[.bool false] 50)) (.cells #[.bool false] 31)
  clear hka hkb m0 m1
  generalize (wn.alloc (.cells #[.bool false] 50)).alloc (.cells #[.bool false] 31) = W at *
  generalize wn.heap.size + 1 = gb at *
  generalize wn.heap.size = ga at *
  generalize w.heap.size + 1 = gy at *
  obtain ⟨gx, hgx⟩ : ∃ g, g = w.heap.size := ⟨_, rfl⟩
  rw [← hgx] at hk_x p_a_x p_b_x ⊢
  clear hgx
  have hinS : InS [⟨xl, xh⟩, ⟨yl, yh⟩] := by intro s hs; simp only [List.mem_cons, List.not_mem_nil, or_false] at hs; rcases hs with rfl | rfl <;> simp only [] <;> omega
  have hsome : someB [⟨xl, xh⟩, ⟨yl, yh⟩] = true := by rw [someB_cons, someB_cons, someB_nil]; simp only [hx, hy]; rfl
  have hinL : InI [xl, yl] := by intro z hz; simp only [List.mem_cons, List.not_mem_nil, or_false] at hz; rcases hz with rfl | rfl <;> omega
  have hinH : InI [xh, yh] := by intro z hz; simp only [List.mem_cons, List.not_mem_nil, or_false] at hz; rcases hz with rfl | rfl <;> omega
  obtain ⟨PL, hPL⟩ : ∃ z, Hid (clampI (plusLo [⟨xl, xh⟩, ⟨yl, yh⟩]) = z) := ⟨clampI (plusLo [⟨xl, xh⟩, ⟨yl, yh⟩]), rfl⟩
  obtain ⟨PH, hPH⟩ : ∃ z, Hid (clampI (plusHi [⟨xl, xh⟩, ⟨yl, yh⟩]) = z) := ⟨clampI (plusHi [⟨xl, xh⟩, ⟨yl, yh⟩]), rfl⟩
  have hSL : Hid (clampI (sumI [xl, yl]) = PL) := hPL
  have hSH : Hid (clampI (sumI [xh, yh]) = PH) := hPH
  obtain ⟨TL, hTL⟩ : ∃ z, Hid (minL (prodL [xl, xh] [c] false) = z) := ⟨minL (prodL [xl, xh] [c] false), rfl⟩
  obtain ⟨TH, hTH⟩ : ∃ z, Hid (maxL (prodL [xl, xh] [c] true) = z) := ⟨maxL (prodL [xl, xh] [c] true), rfl⟩
  go_cut [9, 10] (fun s9 s10 wx => ∃ gp gt ob, s9 = .pointer (some ⟨gp, 0, none⟩) ∧ s10 = .pointer (some ⟨gt, 0, none⟩) ∧ Below w.heap.size w wx ∧ wx.heap[gx]? = some (.cells #[.int .i64 xl, .int .i64 xh] 23 (0, 0)) ∧ wx.heap[gy]? = some (.cells #[.int .i64 yl, .int .i64 yh] 23 (0, 0)) ∧ wx.heap[gp]? = some (.cells #[.int .i64 PL, .int .i64 PH] 23 (0, 0)) ∧ wx.heap[gt]? = some (.cells #[.int .i64 TL, .int .i64 TH] 23 (0, 0)) ∧ AccAt wx (some ⟨gb, 0, none⟩) ob ∧ PNe (some ⟨gb, 0, none⟩) gp ∧ PNe (some ⟨gb, 0, none⟩) gt)
  case first =>
    apply cutB
    intro hJ0
    apply cutB
    intro hJ1
    apply cutB
    intro hJ2
    apply cutB
    intro hJ3
    apply cutB
    intro hJ4
    apply cutB
    intro hJ5
    apply cutB
    intro hJ6
    apply cutB
    intro hJ7
    apply cutB
    intro hJ8
    apply cutB
    intro hJ9
    · skip
      replace hk_x := blk_drew hk_x
      replace hk_y := blk_drew hk_y
      replace ha_a := AccAt.below ha_a (bl_drew (Below.refl _ _))
      replace ha_b := AccAt.below ha_b (bl_drew (Below.refl _ _))
      replace hbw := bl_drew hbw
      refine start_ (n := 13) (S := fun w' => w'.cell? ⟨gx, 0, none⟩ = some (.int .i64 xl) ∧ w'.cell? ⟨gx, 1, none⟩ = some (.int .i64 xh) ∧ w'.cell? ⟨gy, 0, none⟩ = some (.int .i64 yl) ∧ w'.cell? ⟨gy, 1, none⟩ = some (.int .i64 yh)) (ds := []) #[false, false, false, false, false, false, false, false, false, false, false, false, false] (by kernel_rfl) rfl rfl ⟨(blk_cell hk_x 0 (by rfl)), (blk_cell hk_x 1 (by rfl)), (blk_cell hk_y 0 (by rfl)), (blk_cell hk_y 1 (by rfl))⟩ (fun hHeld => ?_)
      generalize W.drew = wn at *
      refine pure_ (i := 0) (N := some 24) (v := ?_) (a' := ?_) #[true, false, false, false, false, false, false, false, false, false, false, false, false] rfl rfl (by kernel_rfl) (fun _ _ _ h => h) (Or.inl ⟨by rfl, ?_⟩) ?_ ?_
      rotate_left
      · intro w'
        go_simp
        with_reducible rfl
      rotate_left
      · simp only [Act.put, List.setIfInBounds_toArray, List.set_cons_zero, List.set_cons_succ, i64_w, i32_w]
        rfl
      refine pure_ (i := 5) (N := some 29) (v := ?_) (a' := ?_) #[true, false, false, false, false, true, false, false, false, false, false, false, false] rfl rfl (by kernel_rfl) (fun _ _ _ h => h) (Or.inl ⟨by rfl, ?_⟩) ?_ ?_
      rotate_left
      · intro w'
        go_simp
        with_reducible rfl
      rotate_left
      · simp only [Act.put, List.setIfInBounds_toArray, List.set_cons_zero, List.set_cons_succ, i64_w, i32_w]
        rfl
      refine pure_ (i := 7) (N := some 31) (v := ?_) (a' := ?_) #[true, false, false, false, false, true, false, true, false, false, false, false, false] rfl rfl (by kernel_rfl) (fun _ _ _ h => h) (Or.inl ⟨by rfl, ?_⟩) ?_ ?_
      rotate_left
      · intro w'
        go_simp
        with_reducible rfl
      rotate_left
      · simp only [Act.put, List.setIfInBounds_toArray, List.set_cons_zero, List.set_cons_succ, i64_w, i32_w]
        rfl
      refine take_ (i := 1) (N := some 25) (v := ?_) (a' := ?_) #[true, true, false, false, false, true, false, true, false, false, false, false, false] rfl rfl (by kernel_rfl) (fun _ _ _ h => h) (Or.inl ⟨by rfl, ?_⟩) hHeld ?_ ?_
      rotate_left
      · rintro w' ⟨s0, s1, s2, s3⟩
        go_simp
        with_reducible rfl
      rotate_left
      · simp only [Act.put, List.setIfInBounds_toArray, List.set_cons_zero, List.set_cons_succ, i64_w, i32_w]
        rfl
      refine take_ (i := 2) (N := some 26) (v := ?_) (a' := ?_) #[true, true, true, false, false, true, false, true, false, false, false, false, false] rfl rfl (by kernel_rfl) (fun _ _ _ h => h) (Or.inl ⟨by rfl, ?_⟩) hHeld ?_ ?_
      rotate_left
      · rintro w' ⟨s0, s1, s2, s3⟩
        go_simp
        with_reducible rfl
      rotate_left
      · simp only [Act.put, List.setIfInBounds_toArray, List.set_cons_zero, List.set_cons_succ, i64_w, i32_w]
        rfl
      refine take_ (i := 6) (N := some 30) (v := ?_) (a' := ?_) #[true, true, true, false, false, true, true, true, false, false, false, false, false] rfl rfl (by kernel_rfl) (fun _ _ _ h => h) (Or.inl ⟨by rfl, ?_⟩) hHeld ?_ ?_
      rotate_left
      · rintro w' ⟨s0, s1, s2, s3⟩
        go_simp
        with_reducible rfl
      rotate_left
      · simp only [Act.put, List.setIfInBounds_toArray, List.set_cons_zero, List.set_cons_succ, i64_w, i32_w]
        rfl
      refine three_ (i := 3) (j := 9) (k := 10) (Ni := some 27) (Nj := some 9) (Nk := some 10) #[true, true, true, true, false, true, true, true, false, false, false, false, false] #[true, true, true, false, false, true, true, true, false, true, false, false, false] #[true, true, true, false, false, true, true, true, false, false, true, false, false] rfl rfl rfl rfl rfl rfl (by kernel_rfl) (by decide) (by decide) (by decide) (fun K hK => ?_) (fun K hK => ?_) (fun K hK => ?_)
      · skip
        refine value_ (w1 := wn.alloc (.cells #[.int .i64 xl, .int .i64 xh, .int .i64 yl, .int .i64 yh] 23)) (v := .slice (some ⟨wn.heap.size, 0, none⟩) 2 2) (by rfl) rfl ?_ ?_
        · go_simp
          try rfl
        have hk_3 : (wn.alloc (.cells #[.int .i64 xl, .int .i64 xh, .int .i64 yl, .int .i64 yh] 23)).heap[wn.heap.size]? = some (.cells #[.int .i64 xl, .int .i64 xh, .int .i64 yl, .int .i64 yh] 23 (0, 0)) := blk_new wn _
        have hle_3 : w.heap.size ≤ wn.heap.size := hbw.size
        have p_a_3 : PNe (some ⟨ga, 0, none⟩) wn.heap.size := AccAt.ne ha_a (Nat.le_refl _)
        have p_b_3 : PNe (some ⟨gb, 0, none⟩) wn.heap.size := AccAt.ne ha_b (Nat.le_refl _)
        replace hk_x := blk_alloc hk_x (.cells #[.int .i64 xl, .int .i64 xh, .int .i64 yl, .int .i64 yh] 23)
        replace hk_y := blk_alloc hk_y (.cells #[.int .i64 xl, .int .i64 xh, .int .i64 yl, .int .i64 yh] 23)
        replace ha_a := AccAt.below ha_a (bl_alloc (Below.refl _ _) (.cells #[.int .i64 xl, .int .i64 xh, .int .i64 yl, .int .i64 yh] 23))
        replace ha_b := AccAt.below ha_b (bl_alloc (Below.refl _ _) (.cells #[.int .i64 xl, .int .i64 xh, .int .i64 yl, .int .i64 yh] 23))
        replace hbw := bl_alloc hbw (.cells #[.int .i64 xl, .int .i64 xh, .int .i64 yl, .int .i64 yh] 23)
        generalize wn.heap.size = g3 at *
        generalize wn.alloc (.cells #[.int .i64 xl, .int .i64 xh, .int .i64 yl, .int .i64 yh] 23) = wn at *
        clear hHeld
        refine hK.out _ _ ⟨(blk_cell hk_x 0 (by rfl)), (blk_cell hk_x 1 (by rfl)), (blk_cell hk_y 0 (by rfl)), (blk_cell hk_y 1 (by rfl))⟩ (fun hHeld => ?_)
        clear hK K
        refine norm_ (a' := ?_) ?_ ?_
        rotate_left
        · show Act.put _ (some 27) _ = _
          simp only [Act.put, List.setIfInBounds_toArray, List.set_cons_zero, List.set_cons_succ, i64_w, i32_w]
          rfl
        refine three_ (i := 4) (j := 9) (k := 10) (Ni := some 28) (Nj := some 9) (Nk := some 10) #[true, true, true, true, true, true, true, true, false, false, false, false, false] #[true, true, true, true, false, true, true, true, false, true, false, false, false] #[true, true, true, true, false, true, true, true, false, false, true, false, false] rfl rfl rfl rfl rfl rfl (by kernel_rfl) (by decide) (by decide) (by decide) (fun K hK => ?_) (fun K hK => ?_) (fun K hK => ?_)
        · skip
          refine goes_ Try.func35 (by kernel_rfl) rfl #[.pointer (some ⟨ga, 0, none⟩), .slice (some ⟨g3, 0, none⟩) 2 2] (by rfl) rfl rfl (by simp only [List.map_toArray, List.map_cons, List.map_nil] <;> rfl) ?_
          refine (Plus_some (some ⟨ga, 0, none⟩) _ (some ⟨g3, 0, none⟩) [⟨xl, xh⟩, ⟨yl, yh⟩] 2 _ ha_a (RdS.of_blk (l := [⟨xl, xh⟩, ⟨yl, yh⟩]) hk_3 (by simp)) hinS (by simp) hsome).mono ?_
          rintro e wn ⟨rfl, hbn⟩
          refine ⟨_, rfl, ?_⟩
          rw [hPL.out, hPH.out]
          replace hk_x := blk_acc hbn hk_x p_a_x
          replace hk_y := blk_acc hbn hk_y p_a_y
          replace hk_3 := blk_acc hbn hk_3 p_a_3
          replace ha_a := AccAt.or ha_a hbn
          replace ha_b := AccAt.other ha_b hbn n_a_b
          replace hbw := bl_own hbw hl_a hbn
          clear hbn
          clear hHeld
          refine hK.out _ _ ⟨(blk_cell hk_x 0 (by rfl)), (blk_cell hk_x 1 (by rfl)), (blk_cell hk_y 0 (by rfl)), (blk_cell hk_y 1 (by rfl))⟩ (fun hHeld => ?_)
          clear hK K
          refine norm_ (a' := ?_) ?_ ?_
          rotate_left
          · show Act.put _ (some 28) _ = _
            simp only [Act.put, List.setIfInBounds_toArray, List.set_cons_zero, List.set_cons_succ, i64_w, i32_w]
            rfl
          refine three_ (i := 8) (j := 9) (k := 10) (Ni := some 32) (Nj := some 9) (Nk := some 10) #[true, true, true, true, true, true, true, true, true, false, false, false, false] #[true, true, true, true, true, true, true, true, false, true, false, false, false] #[true, true, true, true, true, true, true, true, false, false, true, false, false] rfl rfl rfl rfl rfl rfl (by kernel_rfl) (by decide) (by decide) (by decide) (fun K hK => ?_) (fun K hK => ?_) (fun K hK => ?_)
          · skip
            refine goes_ Try.func36 (by kernel_rfl) rfl #[.pointer (some ⟨ga, 0, none⟩), .agg #[.int .i64 xl, .int .i64 xh], .int .i64 c] (by rfl) rfl rfl (by simp only [List.map_toArray, List.map_cons, List.map_nil] <;> rfl) ?_
            refine (Times_some (some ⟨ga, 0, none⟩) _ xl xh c _ ha_a (by omega) hx0 hx1 hx2 hx3 hc0 hc1).mono ?_
            rintro e wn ⟨rfl, hbn⟩
            refine ⟨_, rfl, ?_⟩
            rw [hTL.out, hTH.out]
            replace hk_x := blk_acc hbn hk_x p_a_x
            replace hk_y := blk_acc hbn hk_y p_a_y
            replace hk_3 := blk_acc hbn hk_3 p_a_3
            replace ha_a := AccAt.or ha_a hbn
            replace ha_b := AccAt.other ha_b hbn n_a_b
            replace hbw := bl_own hbw hl_a hbn
            clear hbn
            clear hHeld
            refine hK.out _ _ ⟨(blk_cell hk_x 0 (by rfl)), (blk_cell hk_x 1 (by rfl)), (blk_cell hk_y 0 (by rfl)), (blk_cell hk_y 1 (by rfl))⟩ (fun hHeld => ?_)
            clear hK K
            refine norm_ (a' := ?_) ?_ ?_
            rotate_left
            · show Act.put _ (some 32) _ = _
              simp only [Act.put, List.setIfInBounds_toArray, List.set_cons_zero, List.set_cons_succ, i64_w, i32_w]
              rfl
            refine two_ (i := 9) (j := 10) (Ni := some 9) (Nj := some 10) #[true, true, true, true, true, true, true, true, true, true, false, false, false] #[true, true, true, true, true, true, true, true, true, false, true, false, false] rfl rfl rfl rfl (by kernel_rfl) (by decide) (by decide) (fun K hK => ?_) (fun K hK => ?_)
            · skip
              refine value_ (w1 := wn.alloc (.cells #[.int .i64 0, .int .i64 0] 23)) (v := .pointer (some ⟨wn.heap.size, 0, none⟩)) (by rfl) rfl ?_ ?_
              · go_simp
                try rfl
              have hk_9 : (wn.alloc (.cells #[.int .i64 0, .int .i64 0] 23)).heap[wn.heap.size]? = some (.cells #[.int .i64 0, .int .i64 0] 23 (0, 0)) := blk_new wn _
              have hle_9 : w.heap.size ≤ wn.heap.size := hbw.size
              have p_a_9 : PNe (some ⟨ga, 0, none⟩) wn.heap.size := AccAt.ne ha_a (Nat.le_refl _)
              have p_b_9 : PNe (some ⟨gb, 0, none⟩) wn.heap.size := AccAt.ne ha_b (Nat.le_refl _)
              have n_x_9 : gx ≠ wn.heap.size := Nat.ne_of_lt (blk_lt hk_x)
              have n_y_9 : gy ≠ wn.heap.size := Nat.ne_of_lt (blk_lt hk_y)
              have n_3_9 : g3 ≠ wn.heap.size := Nat.ne_of_lt (blk_lt hk_3)
              replace hk_x := blk_alloc hk_x (.cells #[.int .i64 0, .int .i64 0] 23)
              replace hk_y := blk_alloc hk_y (.cells #[.int .i64 0, .int .i64 0] 23)
              replace hk_3 := blk_alloc hk_3 (.cells #[.int .i64 0, .int .i64 0] 23)
              replace ha_a := AccAt.below ha_a (bl_alloc (Below.refl _ _) (.cells #[.int .i64 0, .int .i64 0] 23))
              replace ha_b := AccAt.below ha_b (bl_alloc (Below.refl _ _) (.cells #[.int .i64 0, .int .i64 0] 23))
              replace hbw := bl_alloc hbw (.cells #[.int .i64 0, .int .i64 0] 23)
              generalize wn.heap.size = g9 at *
              generalize wn.alloc (.cells #[.int .i64 0, .int .i64 0] 23) = wn at *
              clear hHeld
              refine hK.out _ _ ⟨(blk_cell hk_x 0 (by rfl)), (blk_cell hk_x 1 (by rfl)), (blk_cell hk_y 0 (by rfl)), (blk_cell hk_y 1 (by rfl))⟩ (fun hHeld => ?_)
              clear hK K
              refine norm_ (a' := ?_) ?_ ?_
              rotate_left
              · show Act.put _ (some 9) _ = _
                simp only [Act.put, List.setIfInBounds_toArray, List.set_cons_zero, List.set_cons_succ, i64_w, i32_w]
                rfl
              revert hHeld
              revert n_3_9
              revert n_y_9
              revert n_x_9
              revert p_b_9
              revert p_a_9
              revert hle_9
              revert p_b_3
              revert p_a_3
              revert hle_3
              revert ha_b
              revert ha_a
              revert hk_9
              revert hk_3
              revert hk_y
              revert hk_x
              revert hbw
              revert g9
              revert g3
              revert wn
              exact Bx.out hJ1
            · skip
              refine value_ (w1 := wn.alloc (.cells #[.int .i64 0, .int .i64 0] 23)) (v := .pointer (some ⟨wn.heap.size, 0, none⟩)) (by rfl) rfl ?_ ?_
              · go_simp
                try rfl
              have hk_10 : (wn.alloc (.cells #[.int .i64 0, .int .i64 0] 23)).heap[wn.heap.size]? = some (.cells #[.int .i64 0, .int .i64 0] 23 (0, 0)) := blk_new wn _
              have hle_10 : w.heap.size ≤ wn.heap.size := hbw.size
              have p_a_10 : PNe (some ⟨ga, 0, none⟩) wn.heap.size := AccAt.ne ha_a (Nat.le_refl _)
              have p_b_10 : PNe (some ⟨gb, 0, none⟩) wn.heap.size := AccAt.ne ha_b (Nat.le_refl _)
              have n_x_10 : gx ≠ wn.heap.size := Nat.ne_of_lt (blk_lt hk_x)
              have n_y_10 : gy ≠ wn.heap.size := Nat.ne_of_lt (blk_lt hk_y)
              have n_3_10 : g3 ≠ wn.heap.size := Nat.ne_of_lt (blk_lt hk_3)
              replace hk_x := blk_alloc hk_x (.cells #[.int .i64 0, .int .i64 0] 23)
              replace hk_y := blk_alloc hk_y (.cells #[.int .i64 0, .int .i64 0] 23)
              replace hk_3 := blk_alloc hk_3 (.cells #[.int .i64 0, .int .i64 0] 23)
              replace ha_a := AccAt.below ha_a (bl_alloc (Below.refl _ _) (.cells #[.int .i64 0, .int .i64 0] 23))
              replace ha_b := AccAt.below ha_b (bl_alloc (Below.refl _ _) (.cells #[.int .i64 0, .int .i64 0] 23))
              replace hbw := bl_alloc hbw (.cells #[.int .i64 0, .int .i64 0] 23)
              generalize wn.heap.size = g10 at *
              generalize wn.alloc (.cells #[.int .i64 0, .int .i64 0] 23) = wn at *
              clear hHeld
              refine hK.out _ _ ⟨(blk_cell hk_x 0 (by rfl)), (blk_cell hk_x 1 (by rfl)), (blk_cell hk_y 0 (by rfl)), (blk_cell hk_y 1 (by rfl))⟩ (fun hHeld => ?_)
              clear hK K
              refine norm_ (a' := ?_) ?_ ?_
              rotate_left
              · show Act.put _ (some 10) _ = _
                simp only [Act.put, List.setIfInBounds_toArray, List.set_cons_zero, List.set_cons_succ, i64_w, i32_w]
                rfl
              revert hHeld
              revert n_3_10
              revert n_y_10
              revert n_x_10
              revert p_b_10
              revert p_a_10
              revert hle_10
              revert p_b_3
              revert p_a_3
              revert hle_3
              revert ha_b
              revert ha_a
              revert hk_10
              revert hk_3
              revert hk_y
              revert hk_x
              revert hbw
              revert g10
              revert g3
              revert wn
              exact Bx.out hJ2
          · skip
            refine value_ (w1 := wn.alloc (.cells #[.int .i64 0, .int .i64 0] 23)) (v := .pointer (some ⟨wn.heap.size, 0, none⟩)) (by rfl) rfl ?_ ?_
            · go_simp
              try rfl
            have hk_9 : (wn.alloc (.cells #[.int .i64 0, .int .i64 0] 23)).heap[wn.heap.size]? = some (.cells #[.int .i64 0, .int .i64 0] 23 (0, 0)) := blk_new wn _
            have hle_9 : w.heap.size ≤ wn.heap.size := hbw.size
            have p_a_9 : PNe (some ⟨ga, 0, none⟩) wn.heap.size := AccAt.ne ha_a (Nat.le_refl _)
            have p_b_9 : PNe (some ⟨gb, 0, none⟩) wn.heap.size := AccAt.ne ha_b (Nat.le_refl _)
            have n_x_9 : gx ≠ wn.heap.size := Nat.ne_of_lt (blk_lt hk_x)
            have n_y_9 : gy ≠ wn.heap.size := Nat.ne_of_lt (blk_lt hk_y)
            have n_3_9 : g3 ≠ wn.heap.size := Nat.ne_of_lt (blk_lt hk_3)
            replace hk_x := blk_alloc hk_x (.cells #[.int .i64 0, .int .i64 0] 23)
            replace hk_y := blk_alloc hk_y (.cells #[.int .i64 0, .int .i64 0] 23)
            replace hk_3 := blk_alloc hk_3 (.cells #[.int .i64 0, .int .i64 0] 23)
            replace ha_a := AccAt.below ha_a (bl_alloc (Below.refl _ _) (.cells #[.int .i64 0, .int .i64 0] 23))
            replace ha_b := AccAt.below ha_b (bl_alloc (Below.refl _ _) (.cells #[.int .i64 0, .int .i64 0] 23))
            replace hbw := bl_alloc hbw (.cells #[.int .i64 0, .int .i64 0] 23)
            generalize wn.heap.size = g9 at *
            generalize wn.alloc (.cells #[.int .i64 0, .int .i64 0] 23) = wn at *
            clear hHeld
            refine hK.out _ _ ⟨(blk_cell hk_x 0 (by rfl)), (blk_cell hk_x 1 (by rfl)), (blk_cell hk_y 0 (by rfl)), (blk_cell hk_y 1 (by rfl))⟩ (fun hHeld => ?_)
            clear hK K
            refine norm_ (a' := ?_) ?_ ?_
            rotate_left
            · show Act.put _ (some 9) _ = _
              simp only [Act.put, List.setIfInBounds_toArray, List.set_cons_zero, List.set_cons_succ, i64_w, i32_w]
              rfl
            revert hHeld
            revert n_3_9
            revert n_y_9
            revert n_x_9
            revert p_b_9
            revert p_a_9
            revert hle_9
            revert p_b_3
            revert p_a_3
            revert hle_3
            revert ha_b
            revert ha_a
            revert hk_9
            revert hk_3
            revert hk_y
            revert hk_x
            revert hbw
            revert g9
            revert g3
            revert wn
            exact Bx.out hJ4
          · skip
            refine value_ (w1 := wn.alloc (.cells #[.int .i64 0, .int .i64 0] 23)) (v := .pointer (some ⟨wn.heap.size, 0, none⟩)) (by rfl) rfl ?_ ?_
            · go_simp
              try rfl
            have hk_10 : (wn.alloc (.cells #[.int .i64 0, .int .i64 0] 23)).heap[wn.heap.size]? = some (.cells #[.int .i64 0, .int .i64 0] 23 (0, 0)) := blk_new wn _
            have hle_10 : w.heap.size ≤ wn.heap.size := hbw.size
            have p_a_10 : PNe (some ⟨ga, 0, none⟩) wn.heap.size := AccAt.ne ha_a (Nat.le_refl _)
            have p_b_10 : PNe (some ⟨gb, 0, none⟩) wn.heap.size := AccAt.ne ha_b (Nat.le_refl _)
            have n_x_10 : gx ≠ wn.heap.size := Nat.ne_of_lt (blk_lt hk_x)
            have n_y_10 : gy ≠ wn.heap.size := Nat.ne_of_lt (blk_lt hk_y)
            have n_3_10 : g3 ≠ wn.heap.size := Nat.ne_of_lt (blk_lt hk_3)
            replace hk_x := blk_alloc hk_x (.cells #[.int .i64 0, .int .i64 0] 23)
            replace hk_y := blk_alloc hk_y (.cells #[.int .i64 0, .int .i64 0] 23)
            replace hk_3 := blk_alloc hk_3 (.cells #[.int .i64 0, .int .i64 0] 23)
            replace ha_a := AccAt.below ha_a (bl_alloc (Below.refl _ _) (.cells #[.int .i64 0, .int .i64 0] 23))
            replace ha_b := AccAt.below ha_b (bl_alloc (Below.refl _ _) (.cells #[.int .i64 0, .int .i64 0] 23))
            replace hbw := bl_alloc hbw (.cells #[.int .i64 0, .int .i64 0] 23)
            generalize wn.heap.size = g10 at *
            generalize wn.alloc (.cells #[.int .i64 0, .int .i64 0] 23) = wn at *
            clear hHeld
            refine hK.out _ _ ⟨(blk_cell hk_x 0 (by rfl)), (blk_cell hk_x 1 (by rfl)), (blk_cell hk_y 0 (by rfl)), (blk_cell hk_y 1 (by rfl))⟩ (fun hHeld => ?_)
            clear hK K
            refine norm_ (a' := ?_) ?_ ?_
            rotate_left
            · show Act.put _ (some 10) _ = _
              simp only [Act.put, List.setIfInBounds_toArray, List.set_cons_zero, List.set_cons_succ, i64_w, i32_w]
              rfl
            revert hHeld
            revert n_3_10
            revert n_y_10
            revert n_x_10
            revert p_b_10
            revert p_a_10
            revert hle_10
            revert p_b_3
            revert p_a_3
            revert hle_3
            revert ha_b
            revert ha_a
            revert hk_10
            revert hk_3
            revert hk_y
            revert hk_x
            revert hbw
            revert g10
            revert g3
            revert wn
            exact Bx.out hJ5
        · skip
          refine value_ (w1 := wn.alloc (.cells #[.int .i64 0, .int .i64 0] 23)) (v := .pointer (some ⟨wn.heap.size, 0, none⟩)) (by rfl) rfl ?_ ?_
          · go_simp
            try rfl
          have hk_9 : (wn.alloc (.cells #[.int .i64 0, .int .i64 0] 23)).heap[wn.heap.size]? = some (.cells #[.int .i64 0, .int .i64 0] 23 (0, 0)) := blk_new wn _
          have hle_9 : w.heap.size ≤ wn.heap.size := hbw.size
          have p_a_9 : PNe (some ⟨ga, 0, none⟩) wn.heap.size := AccAt.ne ha_a (Nat.le_refl _)
          have p_b_9 : PNe (some ⟨gb, 0, none⟩) wn.heap.size := AccAt.ne ha_b (Nat.le_refl _)
          have n_x_9 : gx ≠ wn.heap.size := Nat.ne_of_lt (blk_lt hk_x)
          have n_y_9 : gy ≠ wn.heap.size := Nat.ne_of_lt (blk_lt hk_y)
          have n_3_9 : g3 ≠ wn.heap.size := Nat.ne_of_lt (blk_lt hk_3)
          replace hk_x := blk_alloc hk_x (.cells #[.int .i64 0, .int .i64 0] 23)
          replace hk_y := blk_alloc hk_y (.cells #[.int .i64 0, .int .i64 0] 23)
          replace hk_3 := blk_alloc hk_3 (.cells #[.int .i64 0, .int .i64 0] 23)
          replace ha_a := AccAt.below ha_a (bl_alloc (Below.refl _ _) (.cells #[.int .i64 0, .int .i64 0] 23))
          replace ha_b := AccAt.below ha_b (bl_alloc (Below.refl _ _) (.cells #[.int .i64 0, .int .i64 0] 23))
          replace hbw := bl_alloc hbw (.cells #[.int .i64 0, .int .i64 0] 23)
          generalize wn.heap.size = g9 at *
          generalize wn.alloc (.cells #[.int .i64 0, .int .i64 0] 23) = wn at *
          clear hHeld
          refine hK.out _ _ ⟨(blk_cell hk_x 0 (by rfl)), (blk_cell hk_x 1 (by rfl)), (blk_cell hk_y 0 (by rfl)), (blk_cell hk_y 1 (by rfl))⟩ (fun hHeld => ?_)
          clear hK K
          refine norm_ (a' := ?_) ?_ ?_
          rotate_left
          · show Act.put _ (some 9) _ = _
            simp only [Act.put, List.setIfInBounds_toArray, List.set_cons_zero, List.set_cons_succ, i64_w, i32_w]
            rfl
          revert hHeld
          revert n_3_9
          revert n_y_9
          revert n_x_9
          revert p_b_9
          revert p_a_9
          revert hle_9
          revert p_b_3
          revert p_a_3
          revert hle_3
          revert ha_b
          revert ha_a
          revert hk_9
          revert hk_3
          revert hk_y
          revert hk_x
          revert hbw
          revert g9
          revert g3
          revert wn
          exact Bx.out hJ7
        · skip
          refine value_ (w1 := wn.alloc (.cells #[.int .i64 0, .int .i64 0] 23)) (v := .pointer (some ⟨wn.heap.size, 0, none⟩)) (by rfl) rfl ?_ ?_
          · go_simp
            try rfl
          have hk_10 : (wn.alloc (.cells #[.int .i64 0, .int .i64 0] 23)).heap[wn.heap.size]? = some (.cells #[.int .i64 0, .int .i64 0] 23 (0, 0)) := blk_new wn _
          have hle_10 : w.heap.size ≤ wn.heap.size := hbw.size
          have p_a_10 : PNe (some ⟨ga, 0, none⟩) wn.heap.size := AccAt.ne ha_a (Nat.le_refl _)
          have p_b_10 : PNe (some ⟨gb, 0, none⟩) wn.heap.size := AccAt.ne ha_b (Nat.le_refl _)
          have n_x_10 : gx ≠ wn.heap.size := Nat.ne_of_lt (blk_lt hk_x)
          have n_y_10 : gy ≠ wn.heap.size := Nat.ne_of_lt (blk_lt hk_y)
          have n_3_10 : g3 ≠ wn.heap.size := Nat.ne_of_lt (blk_lt hk_3)
          replace hk_x := blk_alloc hk_x (.cells #[.int .i64 0, .int .i64 0] 23)
          replace hk_y := blk_alloc hk_y (.cells #[.int .i64 0, .int .i64 0] 23)
          replace hk_3 := blk_alloc hk_3 (.cells #[.int .i64 0, .int .i64 0] 23)
          replace ha_a := AccAt.below ha_a (bl_alloc (Below.refl _ _) (.cells #[.int .i64 0, .int .i64 0] 23))
          replace ha_b := AccAt.below ha_b (bl_alloc (Below.refl _ _) (.cells #[.int .i64 0, .int .i64 0] 23))
          replace hbw := bl_alloc hbw (.cells #[.int .i64 0, .int .i64 0] 23)
          generalize wn.heap.size = g10 at *
          generalize wn.alloc (.cells #[.int .i64 0, .int .i64 0] 23) = wn at *
          clear hHeld
          refine hK.out _ _ ⟨(blk_cell hk_x 0 (by rfl)), (blk_cell hk_x 1 (by rfl)), (blk_cell hk_y 0 (by rfl)), (blk_cell hk_y 1 (by rfl))⟩ (fun hHeld => ?_)
          clear hK K
          refine norm_ (a' := ?_) ?_ ?_
          rotate_left
          · show Act.put _ (some 10) _ = _
            simp only [Act.put, List.setIfInBounds_toArray, List.set_cons_zero, List.set_cons_succ, i64_w, i32_w]
            rfl
          revert hHeld
          revert n_3_10
          revert n_y_10
          revert n_x_10
          revert p_b_10
          revert p_a_10
          revert hle_10
          revert p_b_3
          revert p_a_3
          revert hle_3
          revert ha_b
          revert ha_a
          revert hk_10
          revert hk_3
          revert hk_y
          revert hk_x
          revert hbw
          revert g10
          revert g3
          revert wn
          exact Bx.out hJ8
      · skip
        refine value_ (w1 := wn.alloc (.cells #[.int .i64 0, .int .i64 0] 23)) (v := .pointer (some ⟨wn.heap.size, 0, none⟩)) (by rfl) rfl ?_ ?_
        · go_simp
          try rfl
        have hk_9 : (wn.alloc (.cells #[.int .i64 0, .int .i64 0] 23)).heap[wn.heap.size]? = some (.cells #[.int .i64 0, .int .i64 0] 23 (0, 0)) := blk_new wn _
        have hle_9 : w.heap.size ≤ wn.heap.size := hbw.size
        have p_a_9 : PNe (some ⟨ga, 0, none⟩) wn.heap.size := AccAt.ne ha_a (Nat.le_refl _)
        have p_b_9 : PNe (some ⟨gb, 0, none⟩) wn.heap.size := AccAt.ne ha_b (Nat.le_refl _)
        have n_x_9 : gx ≠ wn.heap.size := Nat.ne_of_lt (blk_lt hk_x)
        have n_y_9 : gy ≠ wn.heap.size := Nat.ne_of_lt (blk_lt hk_y)
        replace hk_x := blk_alloc hk_x (.cells #[.int .i64 0, .int .i64 0] 23)
        replace hk_y := blk_alloc hk_y (.cells #[.int .i64 0, .int .i64 0] 23)
        replace ha_a := AccAt.below ha_a (bl_alloc (Below.refl _ _) (.cells #[.int .i64 0, .int .i64 0] 23))
        replace ha_b := AccAt.below ha_b (bl_alloc (Below.refl _ _) (.cells #[.int .i64 0, .int .i64 0] 23))
        replace hbw := bl_alloc hbw (.cells #[.int .i64 0, .int .i64 0] 23)
        generalize wn.heap.size = g9 at *
        generalize wn.alloc (.cells #[.int .i64 0, .int .i64 0] 23) = wn at *
        clear hHeld
        refine hK.out _ _ ⟨(blk_cell hk_x 0 (by rfl)), (blk_cell hk_x 1 (by rfl)), (blk_cell hk_y 0 (by rfl)), (blk_cell hk_y 1 (by rfl))⟩ (fun hHeld => ?_)
        clear hK K
        refine norm_ (a' := ?_) ?_ ?_
        rotate_left
        · show Act.put _ (some 9) _ = _
          simp only [Act.put, List.setIfInBounds_toArray, List.set_cons_zero, List.set_cons_succ, i64_w, i32_w]
          rfl
        refine two_ (i := 3) (j := 10) (Ni := some 27) (Nj := some 10) #[true, true, true, true, false, true, true, true, false, true, false, false, false] #[true, true, true, false, false, true, true, true, false, true, true, false, false] rfl rfl rfl rfl (by kernel_rfl) (by decide) (by decide) (fun K hK => ?_) (fun K hK => ?_)
        · skip
          refine value_ (w1 := wn.alloc (.cells #[.int .i64 xl, .int .i64 xh, .int .i64 yl, .int .i64 yh] 23)) (v := .slice (some ⟨wn.heap.size, 0, none⟩) 2 2) (by rfl) rfl ?_ ?_
          · go_simp
            try rfl
          have hk_3 : (wn.alloc (.cells #[.int .i64 xl, .int .i64 xh, .int .i64 yl, .int .i64 yh] 23)).heap[wn.heap.size]? = some (.cells #[.int .i64 xl, .int .i64 xh, .int .i64 yl, .int .i64 yh] 23 (0, 0)) := blk_new wn _
          have hle_3 : w.heap.size ≤ wn.heap.size := hbw.size
          have p_a_3 : PNe (some ⟨ga, 0, none⟩) wn.heap.size := AccAt.ne ha_a (Nat.le_refl _)
          have p_b_3 : PNe (some ⟨gb, 0, none⟩) wn.heap.size := AccAt.ne ha_b (Nat.le_refl _)
          have n_3_9 : wn.heap.size ≠ g9 := (Nat.ne_of_lt (blk_lt hk_9)).symm
          replace hk_x := blk_alloc hk_x (.cells #[.int .i64 xl, .int .i64 xh, .int .i64 yl, .int .i64 yh] 23)
          replace hk_y := blk_alloc hk_y (.cells #[.int .i64 xl, .int .i64 xh, .int .i64 yl, .int .i64 yh] 23)
          replace hk_9 := blk_alloc hk_9 (.cells #[.int .i64 xl, .int .i64 xh, .int .i64 yl, .int .i64 yh] 23)
          replace ha_a := AccAt.below ha_a (bl_alloc (Below.refl _ _) (.cells #[.int .i64 xl, .int .i64 xh, .int .i64 yl, .int .i64 yh] 23))
          replace ha_b := AccAt.below ha_b (bl_alloc (Below.refl _ _) (.cells #[.int .i64 xl, .int .i64 xh, .int .i64 yl, .int .i64 yh] 23))
          replace hbw := bl_alloc hbw (.cells #[.int .i64 xl, .int .i64 xh, .int .i64 yl, .int .i64 yh] 23)
          generalize wn.heap.size = g3 at *
          generalize wn.alloc (.cells #[.int .i64 xl, .int .i64 xh, .int .i64 yl, .int .i64 yh] 23) = wn at *
          clear hHeld
          refine hK.out _ _ ⟨(blk_cell hk_x 0 (by rfl)), (blk_cell hk_x 1 (by rfl)), (blk_cell hk_y 0 (by rfl)), (blk_cell hk_y 1 (by rfl))⟩ (fun hHeld => ?_)
          clear hK K
          refine norm_ (a' := ?_) ?_ ?_
          rotate_left
          · show Act.put _ (some 27) _ = _
            simp only [Act.put, List.setIfInBounds_toArray, List.set_cons_zero, List.set_cons_succ, i64_w, i32_w]
            rfl
          revert hHeld
          revert n_3_9
          revert n_y_9
          revert n_x_9
          revert p_b_9
          revert p_a_9
          revert hle_9
          revert p_b_3
          revert p_a_3
          revert hle_3
          revert ha_b
          revert ha_a
          revert hk_9
          revert hk_3
          revert hk_y
          revert hk_x
          revert hbw
          revert g9
          revert g3
          revert wn
          exact Bx.out hJ7
        · skip
          refine value_ (w1 := wn.alloc (.cells #[.int .i64 0, .int .i64 0] 23)) (v := .pointer (some ⟨wn.heap.size, 0, none⟩)) (by rfl) rfl ?_ ?_
          · go_simp
            try rfl
          have hk_10 : (wn.alloc (.cells #[.int .i64 0, .int .i64 0] 23)).heap[wn.heap.size]? = some (.cells #[.int .i64 0, .int .i64 0] 23 (0, 0)) := blk_new wn _
          have hle_10 : w.heap.size ≤ wn.heap.size := hbw.size
          have p_a_10 : PNe (some ⟨ga, 0, none⟩) wn.heap.size := AccAt.ne ha_a (Nat.le_refl _)
          have p_b_10 : PNe (some ⟨gb, 0, none⟩) wn.heap.size := AccAt.ne ha_b (Nat.le_refl _)
          have n_x_10 : gx ≠ wn.heap.size := Nat.ne_of_lt (blk_lt hk_x)
          have n_y_10 : gy ≠ wn.heap.size := Nat.ne_of_lt (blk_lt hk_y)
          have n_9_10 : g9 ≠ wn.heap.size := Nat.ne_of_lt (blk_lt hk_9)
          replace hk_x := blk_alloc hk_x (.cells #[.int .i64 0, .int .i64 0] 23)
          replace hk_y := blk_alloc hk_y (.cells #[.int .i64 0, .int .i64 0] 23)
          replace hk_9 := blk_alloc hk_9 (.cells #[.int .i64 0, .int .i64 0] 23)
          replace ha_a := AccAt.below ha_a (bl_alloc (Below.refl _ _) (.cells #[.int .i64 0, .int .i64 0] 23))
          replace ha_b := AccAt.below ha_b (bl_alloc (Below.refl _ _) (.cells #[.int .i64 0, .int .i64 0] 23))
          replace hbw := bl_alloc hbw (.cells #[.int .i64 0, .int .i64 0] 23)
          generalize wn.heap.size = g10 at *
          generalize wn.alloc (.cells #[.int .i64 0, .int .i64 0] 23) = wn at *
          clear hHeld
          refine hK.out _ _ ⟨(blk_cell hk_x 0 (by rfl)), (blk_cell hk_x 1 (by rfl)), (blk_cell hk_y 0 (by rfl)), (blk_cell hk_y 1 (by rfl))⟩ (fun hHeld => ?_)
          clear hK K
          refine norm_ (a' := ?_) ?_ ?_
          rotate_left
          · show Act.put _ (some 10) _ = _
            simp only [Act.put, List.setIfInBounds_toArray, List.set_cons_zero, List.set_cons_succ, i64_w, i32_w]
            rfl
          revert hHeld
          revert n_9_10
          revert n_y_10
          revert n_y_9
          revert n_x_10
          revert n_x_9
          revert p_b_10
          revert p_a_10
          revert hle_10
          revert p_b_9
          revert p_a_9
          revert hle_9
          revert ha_b
          revert ha_a
          revert hk_10
          revert hk_9
          revert hk_y
          revert hk_x
          revert hbw
          revert g10
          revert g9
          revert wn
          exact Bx.out hJ9
      · skip
        refine value_ (w1 := wn.alloc (.cells #[.int .i64 0, .int .i64 0] 23)) (v := .pointer (some ⟨wn.heap.size, 0, none⟩)) (by rfl) rfl ?_ ?_
        · go_simp
          try rfl
        have hk_10 : (wn.alloc (.cells #[.int .i64 0, .int .i64 0] 23)).heap[wn.heap.size]? = some (.cells #[.int .i64 0, .int .i64 0] 23 (0, 0)) := blk_new wn _
        have hle_10 : w.heap.size ≤ wn.heap.size := hbw.size
        have p_a_10 : PNe (some ⟨ga, 0, none⟩) wn.heap.size := AccAt.ne ha_a (Nat.le_refl _)
        have p_b_10 : PNe (some ⟨gb, 0, none⟩) wn.heap.size := AccAt.ne ha_b (Nat.le_refl _)
        have n_x_10 : gx ≠ wn.heap.size := Nat.ne_of_lt (blk_lt hk_x)
        have n_y_10 : gy ≠ wn.heap.size := Nat.ne_of_lt (blk_lt hk_y)
        replace hk_x := blk_alloc hk_x (.cells #[.int .i64 0, .int .i64 0] 23)
        replace hk_y := blk_alloc hk_y (.cells #[.int .i64 0, .int .i64 0] 23)
        replace ha_a := AccAt.below ha_a (bl_alloc (Below.refl _ _) (.cells #[.int .i64 0, .int .i64 0] 23))
        replace ha_b := AccAt.below ha_b (bl_alloc (Below.refl _ _) (.cells #[.int .i64 0, .int .i64 0] 23))
        replace hbw := bl_alloc hbw (.cells #[.int .i64 0, .int .i64 0] 23)
        generalize wn.heap.size = g10 at *
        generalize wn.alloc (.cells #[.int .i64 0, .int .i64 0] 23) = wn at *
        clear hHeld
        refine hK.out _ _ ⟨(blk_cell hk_x 0 (by rfl)), (blk_cell hk_x 1 (by rfl)), (blk_cell hk_y 0 (by rfl)), (blk_cell hk_y 1 (by rfl))⟩ (fun hHeld => ?_)
        clear hK K
        refine norm_ (a' := ?_) ?_ ?_
        rotate_left
        · show Act.put _ (some 10) _ = _
          simp only [Act.put, List.setIfInBounds_toArray, List.set_cons_zero, List.set_cons_succ, i64_w, i32_w]
          rfl
        refine two_ (i := 3) (j := 9) (Ni := some 27) (Nj := some 9) #[true, true, true, true, false, true, true, true, false, false, true, false, false] #[true, true, true, false, false, true, true, true, false, true, true, false, false] rfl rfl rfl rfl (by kernel_rfl) (by decide) (by decide) (fun K hK => ?_) (fun K hK => ?_)
        · skip
          refine value_ (w1 := wn.alloc (.cells #[.int .i64 xl, .int .i64 xh, .int .i64 yl, .int .i64 yh] 23)) (v := .slice (some ⟨wn.heap.size, 0, none⟩) 2 2) (by rfl) rfl ?_ ?_
          · go_simp
            try rfl
          have hk_3 : (wn.alloc (.cells #[.int .i64 xl, .int .i64 xh, .int .i64 yl, .int .i64 yh] 23)).heap[wn.heap.size]? = some (.cells #[.int .i64 xl, .int .i64 xh, .int .i64 yl, .int .i64 yh] 23 (0, 0)) := blk_new wn _
          have hle_3 : w.heap.size ≤ wn.heap.size := hbw.size
          have p_a_3 : PNe (some ⟨ga, 0, none⟩) wn.heap.size := AccAt.ne ha_a (Nat.le_refl _)
          have p_b_3 : PNe (some ⟨gb, 0, none⟩) wn.heap.size := AccAt.ne ha_b (Nat.le_refl _)
          have n_3_10 : wn.heap.size ≠ g10 := (Nat.ne_of_lt (blk_lt hk_10)).symm
          replace hk_x := blk_alloc hk_x (.cells #[.int .i64 xl, .int .i64 xh, .int .i64 yl, .int .i64 yh] 23)
          replace hk_y := blk_alloc hk_y (.cells #[.int .i64 xl, .int .i64 xh, .int .i64 yl, .int .i64 yh] 23)
          replace hk_10 := blk_alloc hk_10 (.cells #[.int .i64 xl, .int .i64 xh, .int .i64 yl, .int .i64 yh] 23)
          replace ha_a := AccAt.below ha_a (bl_alloc (Below.refl _ _) (.cells #[.int .i64 xl, .int .i64 xh, .int .i64 yl, .int .i64 yh] 23))
          replace ha_b := AccAt.below ha_b (bl_alloc (Below.refl _ _) (.cells #[.int .i64 xl, .int .i64 xh, .int .i64 yl, .int .i64 yh] 23))
          replace hbw := bl_alloc hbw (.cells #[.int .i64 xl, .int .i64 xh, .int .i64 yl, .int .i64 yh] 23)
          generalize wn.heap.size = g3 at *
          generalize wn.alloc (.cells #[.int .i64 xl, .int .i64 xh, .int .i64 yl, .int .i64 yh] 23) = wn at *
          clear hHeld
          refine hK.out _ _ ⟨(blk_cell hk_x 0 (by rfl)), (blk_cell hk_x 1 (by rfl)), (blk_cell hk_y 0 (by rfl)), (blk_cell hk_y 1 (by rfl))⟩ (fun hHeld => ?_)
          clear hK K
          refine norm_ (a' := ?_) ?_ ?_
          rotate_left
          · show Act.put _ (some 27) _ = _
            simp only [Act.put, List.setIfInBounds_toArray, List.set_cons_zero, List.set_cons_succ, i64_w, i32_w]
            rfl
          revert hHeld
          revert n_3_10
          revert n_y_10
          revert n_x_10
          revert p_b_10
          revert p_a_10
          revert hle_10
          revert p_b_3
          revert p_a_3
          revert hle_3
          revert ha_b
          revert ha_a
          revert hk_10
          revert hk_3
          revert hk_y
          revert hk_x
          revert hbw
          revert g10
          revert g3
          revert wn
          exact Bx.out hJ8
        · skip
          refine value_ (w1 := wn.alloc (.cells #[.int .i64 0, .int .i64 0] 23)) (v := .pointer (some ⟨wn.heap.size, 0, none⟩)) (by rfl) rfl ?_ ?_
          · go_simp
            try rfl
          have hk_9 : (wn.alloc (.cells #[.int .i64 0, .int .i64 0] 23)).heap[wn.heap.size]? = some (.cells #[.int .i64 0, .int .i64 0] 23 (0, 0)) := blk_new wn _
          have hle_9 : w.heap.size ≤ wn.heap.size := hbw.size
          have p_a_9 : PNe (some ⟨ga, 0, none⟩) wn.heap.size := AccAt.ne ha_a (Nat.le_refl _)
          have p_b_9 : PNe (some ⟨gb, 0, none⟩) wn.heap.size := AccAt.ne ha_b (Nat.le_refl _)
          have n_x_9 : gx ≠ wn.heap.size := Nat.ne_of_lt (blk_lt hk_x)
          have n_y_9 : gy ≠ wn.heap.size := Nat.ne_of_lt (blk_lt hk_y)
          have n_9_10 : wn.heap.size ≠ g10 := (Nat.ne_of_lt (blk_lt hk_10)).symm
          replace hk_x := blk_alloc hk_x (.cells #[.int .i64 0, .int .i64 0] 23)
          replace hk_y := blk_alloc hk_y (.cells #[.int .i64 0, .int .i64 0] 23)
          replace hk_10 := blk_alloc hk_10 (.cells #[.int .i64 0, .int .i64 0] 23)
          replace ha_a := AccAt.below ha_a (bl_alloc (Below.refl _ _) (.cells #[.int .i64 0, .int .i64 0] 23))
          replace ha_b := AccAt.below ha_b (bl_alloc (Below.refl _ _) (.cells #[.int .i64 0, .int .i64 0] 23))
          replace hbw := bl_alloc hbw (.cells #[.int .i64 0, .int .i64 0] 23)
          generalize wn.heap.size = g9 at *
          generalize wn.alloc (.cells #[.int .i64 0, .int .i64 0] 23) = wn at *
          clear hHeld
          refine hK.out _ _ ⟨(blk_cell hk_x 0 (by rfl)), (blk_cell hk_x 1 (by rfl)), (blk_cell hk_y 0 (by rfl)), (blk_cell hk_y 1 (by rfl))⟩ (fun hHeld => ?_)
          clear hK K
          refine norm_ (a' := ?_) ?_ ?_
          rotate_left
          · show Act.put _ (some 9) _ = _
            simp only [Act.put, List.setIfInBounds_toArray, List.set_cons_zero, List.set_cons_succ, i64_w, i32_w]
            rfl
          revert hHeld
          revert n_9_10
          revert n_y_10
          revert n_y_9
          revert n_x_10
          revert n_x_9
          revert p_b_10
          revert p_a_10
          revert hle_10
          revert p_b_9
          revert p_a_9
          revert hle_9
          revert ha_b
          revert ha_a
          revert hk_10
          revert hk_9
          revert hk_y
          revert hk_x
          revert hbw
          revert g10
          revert g9
          revert wn
          exact Bx.out hJ9
    · intro wn g9 g10 hbw hk_x hk_y hk_9 hk_10 ha_a ha_b hle_9 p_a_9 p_b_9 hle_10 p_a_10 p_b_10 n_x_9 n_x_10 n_y_9 n_y_10 n_9_10 hHeld
      refine one_ (i := 3) (N := some 27) #[true, true, true, true, false, true, true, true, false, true, true, false, false] rfl rfl (by kernel_rfl) (by decide) (fun K hK => ?_)
      refine value_ (w1 := wn.alloc (.cells #[.int .i64 xl, .int .i64 xh, .int .i64 yl, .int .i64 yh] 23)) (v := .slice (some ⟨wn.heap.size, 0, none⟩) 2 2) (by rfl) rfl ?_ ?_
      · go_simp
        try rfl
      have hk_3 : (wn.alloc (.cells #[.int .i64 xl, .int .i64 xh, .int .i64 yl, .int .i64 yh] 23)).heap[wn.heap.size]? = some (.cells #[.int .i64 xl, .int .i64 xh, .int .i64 yl, .int .i64 yh] 23 (0, 0)) := blk_new wn _
      have hle_3 : w.heap.size ≤ wn.heap.size := hbw.size
      have p_a_3 : PNe (some ⟨ga, 0, none⟩) wn.heap.size := AccAt.ne ha_a (Nat.le_refl _)
      have p_b_3 : PNe (some ⟨gb, 0, none⟩) wn.heap.size := AccAt.ne ha_b (Nat.le_refl _)
      have n_3_9 : wn.heap.size ≠ g9 := (Nat.ne_of_lt (blk_lt hk_9)).symm
      have n_3_10 : wn.heap.size ≠ g10 := (Nat.ne_of_lt (blk_lt hk_10)).symm
      replace hk_x := blk_alloc hk_x (.cells #[.int .i64 xl, .int .i64 xh, .int .i64 yl, .int .i64 yh] 23)
      replace hk_y := blk_alloc hk_y (.cells #[.int .i64 xl, .int .i64 xh, .int .i64 yl, .int .i64 yh] 23)
      replace hk_9 := blk_alloc hk_9 (.cells #[.int .i64 xl, .int .i64 xh, .int .i64 yl, .int .i64 yh] 23)
      replace hk_10 := blk_alloc hk_10 (.cells #[.int .i64 xl, .int .i64 xh, .int .i64 yl, .int .i64 yh] 23)
      replace ha_a := AccAt.below ha_a (bl_alloc (Below.refl _ _) (.cells #[.int .i64 xl, .int .i64 xh, .int .i64 yl, .int .i64 yh] 23))
      replace ha_b := AccAt.below ha_b (bl_alloc (Below.refl _ _) (.cells #[.int .i64 xl, .int .i64 xh, .int .i64 yl, .int .i64 yh] 23))
      replace hbw := bl_alloc hbw (.cells #[.int .i64 xl, .int .i64 xh, .int .i64 yl, .int .i64 yh] 23)
      generalize wn.heap.size = g3 at *
      generalize wn.alloc (.cells #[.int .i64 xl, .int .i64 xh, .int .i64 yl, .int .i64 yh] 23) = wn at *
      clear hHeld
      refine hK.out _ _ ⟨(blk_cell hk_x 0 (by rfl)), (blk_cell hk_x 1 (by rfl)), (blk_cell hk_y 0 (by rfl)), (blk_cell hk_y 1 (by rfl))⟩ (fun hHeld => ?_)
      clear hK K
      refine norm_ (a' := ?_) ?_ ?_
      rotate_left
      · show Act.put _ (some 27) _ = _
        simp only [Act.put, List.setIfInBounds_toArray, List.set_cons_zero, List.set_cons_succ, i64_w, i32_w]
        rfl
      revert hHeld
      revert n_9_10
      revert n_3_10
      revert n_3_9
      revert n_y_10
      revert n_y_9
      revert n_x_10
      revert n_x_9
      revert p_b_10
      revert p_a_10
      revert hle_10
      revert p_b_9
      revert p_a_9
      revert hle_9
      revert p_b_3
      revert p_a_3
      revert hle_3
      revert ha_b
      revert ha_a
      revert hk_10
      revert hk_9
      revert hk_3
      revert hk_y
      revert hk_x
      revert hbw
      revert g10
      revert g9
      revert g3
      revert wn
      exact Bx.out hJ6
    · intro wn g3 g10 hbw hk_x hk_y hk_3 hk_10 ha_a ha_b hle_3 p_a_3 p_b_3 hle_10 p_a_10 p_b_10 n_x_10 n_y_10 n_3_10 hHeld
      refine two_ (i := 4) (j := 9) (Ni := some 28) (Nj := some 9) #[true, true, true, true, true, true, true, true, false, false, true, false, false] #[true, true, true, true, false, true, true, true, false, true, true, false, false] rfl rfl rfl rfl (by kernel_rfl) (by decide) (by decide) (fun K hK => ?_) (fun K hK => ?_)
      · skip
        refine goes_ Try.func35 (by kernel_rfl) rfl #[.pointer (some ⟨ga, 0, none⟩), .slice (some ⟨g3, 0, none⟩) 2 2] (by rfl) rfl rfl (by simp only [List.map_toArray, List.map_cons, List.map_nil] <;> rfl) ?_
        refine (Plus_some (some ⟨ga, 0, none⟩) _ (some ⟨g3, 0, none⟩) [⟨xl, xh⟩, ⟨yl, yh⟩] 2 _ ha_a (RdS.of_blk (l := [⟨xl, xh⟩, ⟨yl, yh⟩]) hk_3 (by simp)) hinS (by simp) hsome).mono ?_
        rintro e wn ⟨rfl, hbn⟩
        refine ⟨_, rfl, ?_⟩
        rw [hPL.out, hPH.out]
        replace hk_x := blk_acc hbn hk_x p_a_x
        replace hk_y := blk_acc hbn hk_y p_a_y
        replace hk_3 := blk_acc hbn hk_3 p_a_3
        replace hk_10 := blk_acc hbn hk_10 p_a_10
        replace ha_a := AccAt.or ha_a hbn
        replace ha_b := AccAt.other ha_b hbn n_a_b
        replace hbw := bl_own hbw hl_a hbn
        clear hbn
        clear hHeld
        refine hK.out _ _ ⟨(blk_cell hk_x 0 (by rfl)), (blk_cell hk_x 1 (by rfl)), (blk_cell hk_y 0 (by rfl)), (blk_cell hk_y 1 (by rfl))⟩ (fun hHeld => ?_)
        clear hK K
        refine norm_ (a' := ?_) ?_ ?_
        rotate_left
        · show Act.put _ (some 28) _ = _
          simp only [Act.put, List.setIfInBounds_toArray, List.set_cons_zero, List.set_cons_succ, i64_w, i32_w]
          rfl
        revert hHeld
        revert n_3_10
        revert n_y_10
        revert n_x_10
        revert p_b_10
        revert p_a_10
        revert hle_10
        revert p_b_3
        revert p_a_3
        revert hle_3
        revert ha_b
        revert ha_a
        revert hk_10
        revert hk_3
        revert hk_y
        revert hk_x
        revert hbw
        revert g10
        revert g3
        revert wn
        exact Bx.out hJ5
      · skip
        refine value_ (w1 := wn.alloc (.cells #[.int .i64 0, .int .i64 0] 23)) (v := .pointer (some ⟨wn.heap.size, 0, none⟩)) (by rfl) rfl ?_ ?_
        · go_simp
          try rfl
        have hk_9 : (wn.alloc (.cells #[.int .i64 0, .int .i64 0] 23)).heap[wn.heap.size]? = some (.cells #[.int .i64 0, .int .i64 0] 23 (0, 0)) := blk_new wn _
        have hle_9 : w.heap.size ≤ wn.heap.size := hbw.size
        have p_a_9 : PNe (some ⟨ga, 0, none⟩) wn.heap.size := AccAt.ne ha_a (Nat.le_refl _)
        have p_b_9 : PNe (some ⟨gb, 0, none⟩) wn.heap.size := AccAt.ne ha_b (Nat.le_refl _)
        have n_x_9 : gx ≠ wn.heap.size := Nat.ne_of_lt (blk_lt hk_x)
        have n_y_9 : gy ≠ wn.heap.size := Nat.ne_of_lt (blk_lt hk_y)
        have n_3_9 : g3 ≠ wn.heap.size := Nat.ne_of_lt (blk_lt hk_3)
        have n_9_10 : wn.heap.size ≠ g10 := (Nat.ne_of_lt (blk_lt hk_10)).symm
        replace hk_x := blk_alloc hk_x (.cells #[.int .i64 0, .int .i64 0] 23)
        replace hk_y := blk_alloc hk_y (.cells #[.int .i64 0, .int .i64 0] 23)
        replace hk_3 := blk_alloc hk_3 (.cells #[.int .i64 0, .int .i64 0] 23)
        replace hk_10 := blk_alloc hk_10 (.cells #[.int .i64 0, .int .i64 0] 23)
        replace ha_a := AccAt.below ha_a (bl_alloc (Below.refl _ _) (.cells #[.int .i64 0, .int .i64 0] 23))
        replace ha_b := AccAt.below ha_b (bl_alloc (Below.refl _ _) (.cells #[.int .i64 0, .int .i64 0] 23))
        replace hbw := bl_alloc hbw (.cells #[.int .i64 0, .int .i64 0] 23)
        generalize wn.heap.size = g9 at *
        generalize wn.alloc (.cells #[.int .i64 0, .int .i64 0] 23) = wn at *
        clear hHeld
        refine hK.out _ _ ⟨(blk_cell hk_x 0 (by rfl)), (blk_cell hk_x 1 (by rfl)), (blk_cell hk_y 0 (by rfl)), (blk_cell hk_y 1 (by rfl))⟩ (fun hHeld => ?_)
        clear hK K
        refine norm_ (a' := ?_) ?_ ?_
        rotate_left
        · show Act.put _ (some 9) _ = _
          simp only [Act.put, List.setIfInBounds_toArray, List.set_cons_zero, List.set_cons_succ, i64_w, i32_w]
          rfl
        revert hHeld
        revert n_9_10
        revert n_3_10
        revert n_3_9
        revert n_y_10
        revert n_y_9
        revert n_x_10
        revert n_x_9
        revert p_b_10
        revert p_a_10
        revert hle_10
        revert p_b_9
        revert p_a_9
        revert hle_9
        revert p_b_3
        revert p_a_3
        revert hle_3
        revert ha_b
        revert ha_a
        revert hk_10
        revert hk_9
        revert hk_3
        revert hk_y
        revert hk_x
        revert hbw
        revert g10
        revert g9
        revert g3
        revert wn
        exact Bx.out hJ6
    · intro wn g3 g9 hbw hk_x hk_y hk_3 hk_9 ha_a ha_b hle_3 p_a_3 p_b_3 hle_9 p_a_9 p_b_9 n_x_9 n_y_9 n_3_9 hHeld
      refine two_ (i := 4) (j := 10) (Ni := some 28) (Nj := some 10) #[true, true, true, true, true, true, true, true, false, true, false, false, false] #[true, true, true, true, false, true, true, true, false, true, true, false, false] rfl rfl rfl rfl (by kernel_rfl) (by decide) (by decide) (fun K hK => ?_) (fun K hK => ?_)
      · skip
        refine goes_ Try.func35 (by kernel_rfl) rfl #[.pointer (some ⟨ga, 0, none⟩), .slice (some ⟨g3, 0, none⟩) 2 2] (by rfl) rfl rfl (by simp only [List.map_toArray, List.map_cons, List.map_nil] <;> rfl) ?_
        refine (Plus_some (some ⟨ga, 0, none⟩) _ (some ⟨g3, 0, none⟩) [⟨xl, xh⟩, ⟨yl, yh⟩] 2 _ ha_a (RdS.of_blk (l := [⟨xl, xh⟩, ⟨yl, yh⟩]) hk_3 (by simp)) hinS (by simp) hsome).mono ?_
        rintro e wn ⟨rfl, hbn⟩
        refine ⟨_, rfl, ?_⟩
        rw [hPL.out, hPH.out]
        replace hk_x := blk_acc hbn hk_x p_a_x
        replace hk_y := blk_acc hbn hk_y p_a_y
        replace hk_3 := blk_acc hbn hk_3 p_a_3
        replace hk_9 := blk_acc hbn hk_9 p_a_9
        replace ha_a := AccAt.or ha_a hbn
        replace ha_b := AccAt.other ha_b hbn n_a_b
        replace hbw := bl_own hbw hl_a hbn
        clear hbn
        clear hHeld
        refine hK.out _ _ ⟨(blk_cell hk_x 0 (by rfl)), (blk_cell hk_x 1 (by rfl)), (blk_cell hk_y 0 (by rfl)), (blk_cell hk_y 1 (by rfl))⟩ (fun hHeld => ?_)
        clear hK K
        refine norm_ (a' := ?_) ?_ ?_
        rotate_left
        · show Act.put _ (some 28) _ = _
          simp only [Act.put, List.setIfInBounds_toArray, List.set_cons_zero, List.set_cons_succ, i64_w, i32_w]
          rfl
        revert hHeld
        revert n_3_9
        revert n_y_9
        revert n_x_9
        revert p_b_9
        revert p_a_9
        revert hle_9
        revert p_b_3
        revert p_a_3
        revert hle_3
        revert ha_b
        revert ha_a
        revert hk_9
        revert hk_3
        revert hk_y
        revert hk_x
        revert hbw
        revert g9
        revert g3
        revert wn
        exact Bx.out hJ4
      · skip
        refine value_ (w1 := wn.alloc (.cells #[.int .i64 0, .int .i64 0] 23)) (v := .pointer (some ⟨wn.heap.size, 0, none⟩)) (by rfl) rfl ?_ ?_
        · go_simp
          try rfl
        have hk_10 : (wn.alloc (.cells #[.int .i64 0, .int .i64 0] 23)).heap[wn.heap.size]? = some (.cells #[.int .i64 0, .int .i64 0] 23 (0, 0)) := blk_new wn _
        have hle_10 : w.heap.size ≤ wn.heap.size := hbw.size
        have p_a_10 : PNe (some ⟨ga, 0, none⟩) wn.heap.size := AccAt.ne ha_a (Nat.le_refl _)
        have p_b_10 : PNe (some ⟨gb, 0, none⟩) wn.heap.size := AccAt.ne ha_b (Nat.le_refl _)
        have n_x_10 : gx ≠ wn.heap.size := Nat.ne_of_lt (blk_lt hk_x)
        have n_y_10 : gy ≠ wn.heap.size := Nat.ne_of_lt (blk_lt hk_y)
        have n_3_10 : g3 ≠ wn.heap.size := Nat.ne_of_lt (blk_lt hk_3)
        have n_9_10 : g9 ≠ wn.heap.size := Nat.ne_of_lt (blk_lt hk_9)
        replace hk_x := blk_alloc hk_x (.cells #[.int .i64 0, .int .i64 0] 23)
        replace hk_y := blk_alloc hk_y (.cells #[.int .i64 0, .int .i64 0] 23)
        replace hk_3 := blk_alloc hk_3 (.cells #[.int .i64 0, .int .i64 0] 23)
        replace hk_9 := blk_alloc hk_9 (.cells #[.int .i64 0, .int .i64 0] 23)
        replace ha_a := AccAt.below ha_a (bl_alloc (Below.refl _ _) (.cells #[.int .i64 0, .int .i64 0] 23))
        replace ha_b := AccAt.below ha_b (bl_alloc (Below.refl _ _) (.cells #[.int .i64 0, .int .i64 0] 23))
        replace hbw := bl_alloc hbw (.cells #[.int .i64 0, .int .i64 0] 23)
        generalize wn.heap.size = g10 at *
        generalize wn.alloc (.cells #[.int .i64 0, .int .i64 0] 23) = wn at *
        clear hHeld
        refine hK.out _ _ ⟨(blk_cell hk_x 0 (by rfl)), (blk_cell hk_x 1 (by rfl)), (blk_cell hk_y 0 (by rfl)), (blk_cell hk_y 1 (by rfl))⟩ (fun hHeld => ?_)
        clear hK K
        refine norm_ (a' := ?_) ?_ ?_
        rotate_left
        · show Act.put _ (some 10) _ = _
          simp only [Act.put, List.setIfInBounds_toArray, List.set_cons_zero, List.set_cons_succ, i64_w, i32_w]
          rfl
        revert hHeld
        revert n_9_10
        revert n_3_10
        revert n_3_9
        revert n_y_10
        revert n_y_9
        revert n_x_10
        revert n_x_9
        revert p_b_10
        revert p_a_10
        revert hle_10
        revert p_b_9
        revert p_a_9
        revert hle_9
        revert p_b_3
        revert p_a_3
        revert hle_3
        revert ha_b
        revert ha_a
        revert hk_10
        revert hk_9
        revert hk_3
        revert hk_y
        revert hk_x
        revert hbw
        revert g10
        revert g9
        revert g3
        revert wn
        exact Bx.out hJ6
    · intro wn g3 g9 g10 hbw hk_x hk_y hk_3 hk_9 hk_10 ha_a ha_b hle_3 p_a_3 p_b_3 hle_9 p_a_9 p_b_9 hle_10 p_a_10 p_b_10 n_x_9 n_x_10 n_y_9 n_y_10 n_3_9 n_3_10 n_9_10 hHeld
      refine one_ (i := 4) (N := some 28) #[true, true, true, true, true, true, true, true, false, true, true, false, false] rfl rfl (by kernel_rfl) (by decide) (fun K hK => ?_)
      refine goes_ Try.func35 (by kernel_rfl) rfl #[.pointer (some ⟨ga, 0, none⟩), .slice (some ⟨g3, 0, none⟩) 2 2] (by rfl) rfl rfl (by simp only [List.map_toArray, List.map_cons, List.map_nil] <;> rfl) ?_
      refine (Plus_some (some ⟨ga, 0, none⟩) _ (some ⟨g3, 0, none⟩) [⟨xl, xh⟩, ⟨yl, yh⟩] 2 _ ha_a (RdS.of_blk (l := [⟨xl, xh⟩, ⟨yl, yh⟩]) hk_3 (by simp)) hinS (by simp) hsome).mono ?_
      rintro e wn ⟨rfl, hbn⟩
      refine ⟨_, rfl, ?_⟩
      rw [hPL.out, hPH.out]
      replace hk_x := blk_acc hbn hk_x p_a_x
      replace hk_y := blk_acc hbn hk_y p_a_y
      replace hk_3 := blk_acc hbn hk_3 p_a_3
      replace hk_9 := blk_acc hbn hk_9 p_a_9
      replace hk_10 := blk_acc hbn hk_10 p_a_10
      replace ha_a := AccAt.or ha_a hbn
      replace ha_b := AccAt.other ha_b hbn n_a_b
      replace hbw := bl_own hbw hl_a hbn
      clear hbn
      clear hHeld
      refine hK.out _ _ ⟨(blk_cell hk_x 0 (by rfl)), (blk_cell hk_x 1 (by rfl)), (blk_cell hk_y 0 (by rfl)), (blk_cell hk_y 1 (by rfl))⟩ (fun hHeld => ?_)
      clear hK K
      refine norm_ (a' := ?_) ?_ ?_
      rotate_left
      · show Act.put _ (some 28) _ = _
        simp only [Act.put, List.setIfInBounds_toArray, List.set_cons_zero, List.set_cons_succ, i64_w, i32_w]
        rfl
      revert hHeld
      revert n_9_10
      revert n_3_10
      revert n_3_9
      revert n_y_10
      revert n_y_9
      revert n_x_10
      revert n_x_9
      revert p_b_10
      revert p_a_10
      revert hle_10
      revert p_b_9
      revert p_a_9
      revert hle_9
      revert p_b_3
      revert p_a_3
      revert hle_3
      revert ha_b
      revert ha_a
      revert hk_10
      revert hk_9
      revert hk_3
      revert hk_y
      revert hk_x
      revert hbw
      revert g10
      revert g9
      revert g3
      revert wn
      exact Bx.out hJ3
    · intro wn g3 g10 hbw hk_x hk_y hk_3 hk_10 ha_a ha_b hle_3 p_a_3 p_b_3 hle_10 p_a_10 p_b_10 n_x_10 n_y_10 n_3_10 hHeld
      refine two_ (i := 8) (j := 9) (Ni := some 32) (Nj := some 9) #[true, true, true, true, true, true, true, true, true, false, true, false, false] #[true, true, true, true, true, true, true, true, false, true, true, false, false] rfl rfl rfl rfl (by kernel_rfl) (by decide) (by decide) (fun K hK => ?_) (fun K hK => ?_)
      · skip
        refine goes_ Try.func36 (by kernel_rfl) rfl #[.pointer (some ⟨ga, 0, none⟩), .agg #[.int .i64 xl, .int .i64 xh], .int .i64 c] (by rfl) rfl rfl (by simp only [List.map_toArray, List.map_cons, List.map_nil] <;> rfl) ?_
        refine (Times_some (some ⟨ga, 0, none⟩) _ xl xh c _ ha_a (by omega) hx0 hx1 hx2 hx3 hc0 hc1).mono ?_
        rintro e wn ⟨rfl, hbn⟩
        refine ⟨_, rfl, ?_⟩
        rw [hTL.out, hTH.out]
        replace hk_x := blk_acc hbn hk_x p_a_x
        replace hk_y := blk_acc hbn hk_y p_a_y
        replace hk_3 := blk_acc hbn hk_3 p_a_3
        replace hk_10 := blk_acc hbn hk_10 p_a_10
        replace ha_a := AccAt.or ha_a hbn
        replace ha_b := AccAt.other ha_b hbn n_a_b
        replace hbw := bl_own hbw hl_a hbn
        clear hbn
        clear hHeld
        refine hK.out _ _ ⟨(blk_cell hk_x 0 (by rfl)), (blk_cell hk_x 1 (by rfl)), (blk_cell hk_y 0 (by rfl)), (blk_cell hk_y 1 (by rfl))⟩ (fun hHeld => ?_)
        clear hK K
        refine norm_ (a' := ?_) ?_ ?_
        rotate_left
        · show Act.put _ (some 32) _ = _
          simp only [Act.put, List.setIfInBounds_toArray, List.set_cons_zero, List.set_cons_succ, i64_w, i32_w]
          rfl
        revert hHeld
        revert n_3_10
        revert n_y_10
        revert n_x_10
        revert p_b_10
        revert p_a_10
        revert hle_10
        revert p_b_3
        revert p_a_3
        revert hle_3
        revert ha_b
        revert ha_a
        revert hk_10
        revert hk_3
        revert hk_y
        revert hk_x
        revert hbw
        revert g10
        revert g3
        revert wn
        exact Bx.out hJ2
      · skip
        refine value_ (w1 := wn.alloc (.cells #[.int .i64 0, .int .i64 0] 23)) (v := .pointer (some ⟨wn.heap.size, 0, none⟩)) (by rfl) rfl ?_ ?_
        · go_simp
          try rfl
        have hk_9 : (wn.alloc (.cells #[.int .i64 0, .int .i64 0] 23)).heap[wn.heap.size]? = some (.cells #[.int .i64 0, .int .i64 0] 23 (0, 0)) := blk_new wn _
        have hle_9 : w.heap.size ≤ wn.heap.size := hbw.size
        have p_a_9 : PNe (some ⟨ga, 0, none⟩) wn.heap.size := AccAt.ne ha_a (Nat.le_refl _)
        have p_b_9 : PNe (some ⟨gb, 0, none⟩) wn.heap.size := AccAt.ne ha_b (Nat.le_refl _)
        have n_x_9 : gx ≠ wn.heap.size := Nat.ne_of_lt (blk_lt hk_x)
        have n_y_9 : gy ≠ wn.heap.size := Nat.ne_of_lt (blk_lt hk_y)
        have n_3_9 : g3 ≠ wn.heap.size := Nat.ne_of_lt (blk_lt hk_3)
        have n_9_10 : wn.heap.size ≠ g10 := (Nat.ne_of_lt (blk_lt hk_10)).symm
        replace hk_x := blk_alloc hk_x (.cells #[.int .i64 0, .int .i64 0] 23)
        replace hk_y := blk_alloc hk_y (.cells #[.int .i64 0, .int .i64 0] 23)
        replace hk_3 := blk_alloc hk_3 (.cells #[.int .i64 0, .int .i64 0] 23)
        replace hk_10 := blk_alloc hk_10 (.cells #[.int .i64 0, .int .i64 0] 23)
        replace ha_a := AccAt.below ha_a (bl_alloc (Below.refl _ _) (.cells #[.int .i64 0, .int .i64 0] 23))
        replace ha_b := AccAt.below ha_b (bl_alloc (Below.refl _ _) (.cells #[.int .i64 0, .int .i64 0] 23))
        replace hbw := bl_alloc hbw (.cells #[.int .i64 0, .int .i64 0] 23)
        generalize wn.heap.size = g9 at *
        generalize wn.alloc (.cells #[.int .i64 0, .int .i64 0] 23) = wn at *
        clear hHeld
        refine hK.out _ _ ⟨(blk_cell hk_x 0 (by rfl)), (blk_cell hk_x 1 (by rfl)), (blk_cell hk_y 0 (by rfl)), (blk_cell hk_y 1 (by rfl))⟩ (fun hHeld => ?_)
        clear hK K
        refine norm_ (a' := ?_) ?_ ?_
        rotate_left
        · show Act.put _ (some 9) _ = _
          simp only [Act.put, List.setIfInBounds_toArray, List.set_cons_zero, List.set_cons_succ, i64_w, i32_w]
          rfl
        revert hHeld
        revert n_9_10
        revert n_3_10
        revert n_3_9
        revert n_y_10
        revert n_y_9
        revert n_x_10
        revert n_x_9
        revert p_b_10
        revert p_a_10
        revert hle_10
        revert p_b_9
        revert p_a_9
        revert hle_9
        revert p_b_3
        revert p_a_3
        revert hle_3
        revert ha_b
        revert ha_a
        revert hk_10
        revert hk_9
        revert hk_3
        revert hk_y
        revert hk_x
        revert hbw
        revert g10
        revert g9
        revert g3
        revert wn
        exact Bx.out hJ3
    · intro wn g3 g9 hbw hk_x hk_y hk_3 hk_9 ha_a ha_b hle_3 p_a_3 p_b_3 hle_9 p_a_9 p_b_9 n_x_9 n_y_9 n_3_9 hHeld
      refine two_ (i := 8) (j := 10) (Ni := some 32) (Nj := some 10) #[true, true, true, true, true, true, true, true, true, true, false, false, false] #[true, true, true, true, true, true, true, true, false, true, true, false, false] rfl rfl rfl rfl (by kernel_rfl) (by decide) (by decide) (fun K hK => ?_) (fun K hK => ?_)
      · skip
        refine goes_ Try.func36 (by kernel_rfl) rfl #[.pointer (some ⟨ga, 0, none⟩), .agg #[.int .i64 xl, .int .i64 xh], .int .i64 c] (by rfl) rfl rfl (by simp only [List.map_toArray, List.map_cons, List.map_nil] <;> rfl) ?_
        refine (Times_some (some ⟨ga, 0, none⟩) _ xl xh c _ ha_a (by omega) hx0 hx1 hx2 hx3 hc0 hc1).mono ?_
        rintro e wn ⟨rfl, hbn⟩
        refine ⟨_, rfl, ?_⟩
        rw [hTL.out, hTH.out]
        replace hk_x := blk_acc hbn hk_x p_a_x
        replace hk_y := blk_acc hbn hk_y p_a_y
        replace hk_3 := blk_acc hbn hk_3 p_a_3
        replace hk_9 := blk_acc hbn hk_9 p_a_9
        replace ha_a := AccAt.or ha_a hbn
        replace ha_b := AccAt.other ha_b hbn n_a_b
        replace hbw := bl_own hbw hl_a hbn
        clear hbn
        clear hHeld
        refine hK.out _ _ ⟨(blk_cell hk_x 0 (by rfl)), (blk_cell hk_x 1 (by rfl)), (blk_cell hk_y 0 (by rfl)), (blk_cell hk_y 1 (by rfl))⟩ (fun hHeld => ?_)
        clear hK K
        refine norm_ (a' := ?_) ?_ ?_
        rotate_left
        · show Act.put _ (some 32) _ = _
          simp only [Act.put, List.setIfInBounds_toArray, List.set_cons_zero, List.set_cons_succ, i64_w, i32_w]
          rfl
        revert hHeld
        revert n_3_9
        revert n_y_9
        revert n_x_9
        revert p_b_9
        revert p_a_9
        revert hle_9
        revert p_b_3
        revert p_a_3
        revert hle_3
        revert ha_b
        revert ha_a
        revert hk_9
        revert hk_3
        revert hk_y
        revert hk_x
        revert hbw
        revert g9
        revert g3
        revert wn
        exact Bx.out hJ1
      · skip
        refine value_ (w1 := wn.alloc (.cells #[.int .i64 0, .int .i64 0] 23)) (v := .pointer (some ⟨wn.heap.size, 0, none⟩)) (by rfl) rfl ?_ ?_
        · go_simp
          try rfl
        have hk_10 : (wn.alloc (.cells #[.int .i64 0, .int .i64 0] 23)).heap[wn.heap.size]? = some (.cells #[.int .i64 0, .int .i64 0] 23 (0, 0)) := blk_new wn _
        have hle_10 : w.heap.size ≤ wn.heap.size := hbw.size
        have p_a_10 : PNe (some ⟨ga, 0, none⟩) wn.heap.size := AccAt.ne ha_a (Nat.le_refl _)
        have p_b_10 : PNe (some ⟨gb, 0, none⟩) wn.heap.size := AccAt.ne ha_b (Nat.le_refl _)
        have n_x_10 : gx ≠ wn.heap.size := Nat.ne_of_lt (blk_lt hk_x)
        have n_y_10 : gy ≠ wn.heap.size := Nat.ne_of_lt (blk_lt hk_y)
        have n_3_10 : g3 ≠ wn.heap.size := Nat.ne_of_lt (blk_lt hk_3)
        have n_9_10 : g9 ≠ wn.heap.size := Nat.ne_of_lt (blk_lt hk_9)
        replace hk_x := blk_alloc hk_x (.cells #[.int .i64 0, .int .i64 0] 23)
        replace hk_y := blk_alloc hk_y (.cells #[.int .i64 0, .int .i64 0] 23)
        replace hk_3 := blk_alloc hk_3 (.cells #[.int .i64 0, .int .i64 0] 23)
        replace hk_9 := blk_alloc hk_9 (.cells #[.int .i64 0, .int .i64 0] 23)
        replace ha_a := AccAt.below ha_a (bl_alloc (Below.refl _ _) (.cells #[.int .i64 0, .int .i64 0] 23))
        replace ha_b := AccAt.below ha_b (bl_alloc (Below.refl _ _) (.cells #[.int .i64 0, .int .i64 0] 23))
        replace hbw := bl_alloc hbw (.cells #[.int .i64 0, .int .i64 0] 23)
        generalize wn.heap.size = g10 at *
        generalize wn.alloc (.cells #[.int .i64 0, .int .i64 0] 23) = wn at *
        clear hHeld
        refine hK.out _ _ ⟨(blk_cell hk_x 0 (by rfl)), (blk_cell hk_x 1 (by rfl)), (blk_cell hk_y 0 (by rfl)), (blk_cell hk_y 1 (by rfl))⟩ (fun hHeld => ?_)
        clear hK K
        refine norm_ (a' := ?_) ?_ ?_
        rotate_left
        · show Act.put _ (some 10) _ = _
          simp only [Act.put, List.setIfInBounds_toArray, List.set_cons_zero, List.set_cons_succ, i64_w, i32_w]
          rfl
        revert hHeld
        revert n_9_10
        revert n_3_10
        revert n_3_9
        revert n_y_10
        revert n_y_9
        revert n_x_10
        revert n_x_9
        revert p_b_10
        revert p_a_10
        revert hle_10
        revert p_b_9
        revert p_a_9
        revert hle_9
        revert p_b_3
        revert p_a_3
        revert hle_3
        revert ha_b
        revert ha_a
        revert hk_10
        revert hk_9
        revert hk_3
        revert hk_y
        revert hk_x
        revert hbw
        revert g10
        revert g9
        revert g3
        revert wn
        exact Bx.out hJ3
    · intro wn g3 g9 g10 hbw hk_x hk_y hk_3 hk_9 hk_10 ha_a ha_b hle_3 p_a_3 p_b_3 hle_9 p_a_9 p_b_9 hle_10 p_a_10 p_b_10 n_x_9 n_x_10 n_y_9 n_y_10 n_3_9 n_3_10 n_9_10 hHeld
      refine one_ (i := 8) (N := some 32) #[true, true, true, true, true, true, true, true, true, true, true, false, false] rfl rfl (by kernel_rfl) (by decide) (fun K hK => ?_)
      refine goes_ Try.func36 (by kernel_rfl) rfl #[.pointer (some ⟨ga, 0, none⟩), .agg #[.int .i64 xl, .int .i64 xh], .int .i64 c] (by rfl) rfl rfl (by simp only [List.map_toArray, List.map_cons, List.map_nil] <;> rfl) ?_
      refine (Times_some (some ⟨ga, 0, none⟩) _ xl xh c _ ha_a (by omega) hx0 hx1 hx2 hx3 hc0 hc1).mono ?_
      rintro e wn ⟨rfl, hbn⟩
      refine ⟨_, rfl, ?_⟩
      rw [hTL.out, hTH.out]
      replace hk_x := blk_acc hbn hk_x p_a_x
      replace hk_y := blk_acc hbn hk_y p_a_y
      replace hk_3 := blk_acc hbn hk_3 p_a_3
      replace hk_9 := blk_acc hbn hk_9 p_a_9
      replace hk_10 := blk_acc hbn hk_10 p_a_10
      replace ha_a := AccAt.or ha_a hbn
      replace ha_b := AccAt.other ha_b hbn n_a_b
      replace hbw := bl_own hbw hl_a hbn
      clear hbn
      clear hHeld
      refine hK.out _ _ ⟨(blk_cell hk_x 0 (by rfl)), (blk_cell hk_x 1 (by rfl)), (blk_cell hk_y 0 (by rfl)), (blk_cell hk_y 1 (by rfl))⟩ (fun hHeld => ?_)
      clear hK K
      refine norm_ (a' := ?_) ?_ ?_
      rotate_left
      · show Act.put _ (some 32) _ = _
        simp only [Act.put, List.setIfInBounds_toArray, List.set_cons_zero, List.set_cons_succ, i64_w, i32_w]
        rfl
      revert hHeld
      revert n_9_10
      revert n_3_10
      revert n_3_9
      revert n_y_10
      revert n_y_9
      revert n_x_10
      revert n_x_9
      revert p_b_10
      revert p_a_10
      revert hle_10
      revert p_b_9
      revert p_a_9
      revert hle_9
      revert p_b_3
      revert p_a_3
      revert hle_3
      revert ha_b
      revert ha_a
      revert hk_10
      revert hk_9
      revert hk_3
      revert hk_y
      revert hk_x
      revert hbw
      revert g10
      revert g9
      revert g3
      revert wn
      exact Bx.out hJ0
    · intro wn g3 g10 hbw hk_x hk_y hk_3 hk_10 ha_a ha_b hle_3 p_a_3 p_b_3 hle_10 p_a_10 p_b_10 n_x_10 n_y_10 n_3_10 hHeld
      refine one_ (i := 9) (N := some 9) #[true, true, true, true, true, true, true, true, true, true, true, false, false] rfl rfl (by kernel_rfl) (by decide) (fun K hK => ?_)
      refine value_ (w1 := wn.alloc (.cells #[.int .i64 0, .int .i64 0] 23)) (v := .pointer (some ⟨wn.heap.size, 0, none⟩)) (by rfl) rfl ?_ ?_
      · go_simp
        try rfl
      have hk_9 : (wn.alloc (.cells #[.int .i64 0, .int .i64 0] 23)).heap[wn.heap.size]? = some (.cells #[.int .i64 0, .int .i64 0] 23 (0, 0)) := blk_new wn _
      have hle_9 : w.heap.size ≤ wn.heap.size := hbw.size
      have p_a_9 : PNe (some ⟨ga, 0, none⟩) wn.heap.size := AccAt.ne ha_a (Nat.le_refl _)
      have p_b_9 : PNe (some ⟨gb, 0, none⟩) wn.heap.size := AccAt.ne ha_b (Nat.le_refl _)
      have n_x_9 : gx ≠ wn.heap.size := Nat.ne_of_lt (blk_lt hk_x)
      have n_y_9 : gy ≠ wn.heap.size := Nat.ne_of_lt (blk_lt hk_y)
      have n_3_9 : g3 ≠ wn.heap.size := Nat.ne_of_lt (blk_lt hk_3)
      have n_9_10 : wn.heap.size ≠ g10 := (Nat.ne_of_lt (blk_lt hk_10)).symm
      replace hk_x := blk_alloc hk_x (.cells #[.int .i64 0, .int .i64 0] 23)
      replace hk_y := blk_alloc hk_y (.cells #[.int .i64 0, .int .i64 0] 23)
      replace hk_3 := blk_alloc hk_3 (.cells #[.int .i64 0, .int .i64 0] 23)
      replace hk_10 := blk_alloc hk_10 (.cells #[.int .i64 0, .int .i64 0] 23)
      replace ha_a := AccAt.below ha_a (bl_alloc (Below.refl _ _) (.cells #[.int .i64 0, .int .i64 0] 23))
      replace ha_b := AccAt.below ha_b (bl_alloc (Below.refl _ _) (.cells #[.int .i64 0, .int .i64 0] 23))
      replace hbw := bl_alloc hbw (.cells #[.int .i64 0, .int .i64 0] 23)
      generalize wn.heap.size = g9 at *
      generalize wn.alloc (.cells #[.int .i64 0, .int .i64 0] 23) = wn at *
      clear hHeld
      refine hK.out _ _ ⟨(blk_cell hk_x 0 (by rfl)), (blk_cell hk_x 1 (by rfl)), (blk_cell hk_y 0 (by rfl)), (blk_cell hk_y 1 (by rfl))⟩ (fun hHeld => ?_)
      clear hK K
      refine norm_ (a' := ?_) ?_ ?_
      rotate_left
      · show Act.put _ (some 9) _ = _
        simp only [Act.put, List.setIfInBounds_toArray, List.set_cons_zero, List.set_cons_succ, i64_w, i32_w]
        rfl
      revert hHeld
      revert n_9_10
      revert n_3_10
      revert n_3_9
      revert n_y_10
      revert n_y_9
      revert n_x_10
      revert n_x_9
      revert p_b_10
      revert p_a_10
      revert hle_10
      revert p_b_9
      revert p_a_9
      revert hle_9
      revert p_b_3
      revert p_a_3
      revert hle_3
      revert ha_b
      revert ha_a
      revert hk_10
      revert hk_9
      revert hk_3
      revert hk_y
      revert hk_x
      revert hbw
      revert g10
      revert g9
      revert g3
      revert wn
      exact Bx.out hJ0
    · intro wn g3 g9 hbw hk_x hk_y hk_3 hk_9 ha_a ha_b hle_3 p_a_3 p_b_3 hle_9 p_a_9 p_b_9 n_x_9 n_y_9 n_3_9 hHeld
      refine one_ (i := 10) (N := some 10) #[true, true, true, true, true, true, true, true, true, true, true, false, false] rfl rfl (by kernel_rfl) (by decide) (fun K hK => ?_)
      refine value_ (w1 := wn.alloc (.cells #[.int .i64 0, .int .i64 0] 23)) (v := .pointer (some ⟨wn.heap.size, 0, none⟩)) (by rfl) rfl ?_ ?_
      · go_simp
        try rfl
      have hk_10 : (wn.alloc (.cells #[.int .i64 0, .int .i64 0] 23)).heap[wn.heap.size]? = some (.cells #[.int .i64 0, .int .i64 0] 23 (0, 0)) := blk_new wn _
      have hle_10 : w.heap.size ≤ wn.heap.size := hbw.size
      have p_a_10 : PNe (some ⟨ga, 0, none⟩) wn.heap.size := AccAt.ne ha_a (Nat.le_refl _)
      have p_b_10 : PNe (some ⟨gb, 0, none⟩) wn.heap.size := AccAt.ne ha_b (Nat.le_refl _)
      have n_x_10 : gx ≠ wn.heap.size := Nat.ne_of_lt (blk_lt hk_x)
      have n_y_10 : gy ≠ wn.heap.size := Nat.ne_of_lt (blk_lt hk_y)
      have n_3_10 : g3 ≠ wn.heap.size := Nat.ne_of_lt (blk_lt hk_3)
      have n_9_10 : g9 ≠ wn.heap.size := Nat.ne_of_lt (blk_lt hk_9)
      replace hk_x := blk_alloc hk_x (.cells #[.int .i64 0, .int .i64 0] 23)
      replace hk_y := blk_alloc hk_y (.cells #[.int .i64 0, .int .i64 0] 23)
      replace hk_3 := blk_alloc hk_3 (.cells #[.int .i64 0, .int .i64 0] 23)
      replace hk_9 := blk_alloc hk_9 (.cells #[.int .i64 0, .int .i64 0] 23)
      replace ha_a := AccAt.below ha_a (bl_alloc (Below.refl _ _) (.cells #[.int .i64 0, .int .i64 0] 23))
      replace ha_b := AccAt.below ha_b (bl_alloc (Below.refl _ _) (.cells #[.int .i64 0, .int .i64 0] 23))
      replace hbw := bl_alloc hbw (.cells #[.int .i64 0, .int .i64 0] 23)
      generalize wn.heap.size = g10 at *
      generalize wn.alloc (.cells #[.int .i64 0, .int .i64 0] 23) = wn at *
      clear hHeld
      refine hK.out _ _ ⟨(blk_cell hk_x 0 (by rfl)), (blk_cell hk_x 1 (by rfl)), (blk_cell hk_y 0 (by rfl)), (blk_cell hk_y 1 (by rfl))⟩ (fun hHeld => ?_)
      clear hK K
      refine norm_ (a' := ?_) ?_ ?_
      rotate_left
      · show Act.put _ (some 10) _ = _
        simp only [Act.put, List.setIfInBounds_toArray, List.set_cons_zero, List.set_cons_succ, i64_w, i32_w]
        rfl
      revert hHeld
      revert n_9_10
      revert n_3_10
      revert n_3_9
      revert n_y_10
      revert n_y_9
      revert n_x_10
      revert n_x_9
      revert p_b_10
      revert p_a_10
      revert hle_10
      revert p_b_9
      revert p_a_9
      revert hle_9
      revert p_b_3
      revert p_a_3
      revert hle_3
      revert ha_b
      revert ha_a
      revert hk_10
      revert hk_9
      revert hk_3
      revert hk_y
      revert hk_x
      revert hbw
      revert g10
      revert g9
      revert g3
      revert wn
      exact Bx.out hJ0
    · intro wn g3 g9 g10 hbw hk_x hk_y hk_3 hk_9 hk_10 ha_a ha_b hle_3 p_a_3 p_b_3 hle_9 p_a_9 p_b_9 hle_10 p_a_10 p_b_10 n_x_9 n_x_10 n_y_9 n_y_10 n_3_9 n_3_10 n_9_10 hHeld
      refine one_ (i := 11) (N := none) #[true, true, true, true, true, true, true, true, true, true, true, true, false] rfl rfl (by kernel_rfl) (by decide) (fun K hK => ?_)
      have m_ := blk_two hk_9
      refine skip_ (w1 := (wn.setCell ⟨g9, 0, none⟩ (.int .i64 PL)).setCell ⟨g9, 1, none⟩ (.int .i64 PH)) (by rfl) rfl ?_ ?_
      · go_simp
        try rfl
      clear m_
      replace hk_x := blk_far (blk_far hk_x (a := ⟨g9, 0, none⟩) n_x_9.symm (.int .i64 PL)) (a := ⟨g9, 1, none⟩) n_x_9.symm (.int .i64 PH)
      replace hk_y := blk_far (blk_far hk_y (a := ⟨g9, 0, none⟩) n_y_9.symm (.int .i64 PL)) (a := ⟨g9, 1, none⟩) n_y_9.symm (.int .i64 PH)
      replace hk_3 := blk_far (blk_far hk_3 (a := ⟨g9, 0, none⟩) n_3_9.symm (.int .i64 PL)) (a := ⟨g9, 1, none⟩) n_3_9.symm (.int .i64 PH)
      replace hk_9 := blk_put2 hk_9 (.int .i64 PL) (.int .i64 PH)
      replace hk_10 := blk_far (blk_far hk_10 (a := ⟨g9, 0, none⟩) n_9_10 (.int .i64 PL)) (a := ⟨g9, 1, none⟩) n_9_10 (.int .i64 PH)
      replace ha_a := AccAt.far2 ha_a p_a_9 (.int .i64 PL) (.int .i64 PH)
      replace ha_b := AccAt.far2 ha_b p_b_9 (.int .i64 PL) (.int .i64 PH)
      replace hbw := bl_set (bl_set hbw (p := ⟨g9, 0, none⟩) hle_9 (.int .i64 PL)) (p := ⟨g9, 1, none⟩) hle_9 (.int .i64 PH)
      generalize (wn.setCell ⟨g9, 0, none⟩ (.int .i64 PL)).setCell ⟨g9, 1, none⟩ (.int .i64 PH) = wn at *
      clear hHeld
      refine hK.out _ _ ⟨(blk_cell hk_x 0 (by rfl)), (blk_cell hk_x 1 (by rfl)), (blk_cell hk_y 0 (by rfl)), (blk_cell hk_y 1 (by rfl))⟩ (fun hHeld => ?_)
      clear hK K
      refine one_ (i := 12) (N := none) #[true, true, true, true, true, true, true, true, true, true, true, true, true] rfl rfl (by kernel_rfl) (by decide) (fun K hK => ?_)
      have m_ := blk_two hk_10
      refine skip_ (w1 := (wn.setCell ⟨g10, 0, none⟩ (.int .i64 TL)).setCell ⟨g10, 1, none⟩ (.int .i64 TH)) (by rfl) rfl ?_ ?_
      · go_simp
        try rfl
      clear m_
      replace hk_x := blk_far (blk_far hk_x (a := ⟨g10, 0, none⟩) n_x_10.symm (.int .i64 TL)) (a := ⟨g10, 1, none⟩) n_x_10.symm (.int .i64 TH)
      replace hk_y := blk_far (blk_far hk_y (a := ⟨g10, 0, none⟩) n_y_10.symm (.int .i64 TL)) (a := ⟨g10, 1, none⟩) n_y_10.symm (.int .i64 TH)
      replace hk_3 := blk_far (blk_far hk_3 (a := ⟨g10, 0, none⟩) n_3_10.symm (.int .i64 TL)) (a := ⟨g10, 1, none⟩) n_3_10.symm (.int .i64 TH)
      replace hk_9 := blk_far (blk_far hk_9 (a := ⟨g10, 0, none⟩) n_9_10.symm (.int .i64 TL)) (a := ⟨g10, 1, none⟩) n_9_10.symm (.int .i64 TH)
      replace hk_10 := blk_put2 hk_10 (.int .i64 TL) (.int .i64 TH)
      replace ha_a := AccAt.far2 ha_a p_a_10 (.int .i64 TL) (.int .i64 TH)
      replace ha_b := AccAt.far2 ha_b p_b_10 (.int .i64 TL) (.int .i64 TH)
      replace hbw := bl_set (bl_set hbw (p := ⟨g10, 0, none⟩) hle_10 (.int .i64 TL)) (p := ⟨g10, 1, none⟩) hle_10 (.int .i64 TH)
      generalize (wn.setCell ⟨g10, 0, none⟩ (.int .i64 TL)).setCell ⟨g10, 1, none⟩ (.int .i64 TH) = wn at *
      clear hHeld
      refine hK.out _ _ ⟨(blk_cell hk_x 0 (by rfl)), (blk_cell hk_x 1 (by rfl)), (blk_cell hk_y 0 (by rfl)), (blk_cell hk_y 1 (by rfl))⟩ (fun hHeld => ?_)
      clear hK K
      refine done_ (by kernel_rfl) ?_
      go_wp2_with fail
      go_meet
      exact ⟨g9, g10, _, rfl, rfl, hbw, hk_x, hk_y, hk_9, hk_10, ha_b, p_b_9, p_b_10⟩
  case rest =>
    clear hk_x hk_y hbw ha_a ha_b hPL hPH p_a_x p_a_y hl_a n_a_b n_b_a hinS hsome
    obtain ⟨gp, gt, ob, rfl, rfl, hbw, hk_x, hk_y, hk_p, hk_t, ha_b, p_b_p, p_b_t⟩ := hcut
    go_upto_region 5 with fail
    by_cases hneg : c < 0
    · have hML : Hid (clampI (fmul xh c false) = TL) := by rw [← hTL.out]; exact hidI (times_lo' hex (by omega)).symm
      have hMH : Hid (clampI (fmul xl c true) = TH) := by rw [← hTH.out]; exact hidI (times_hi' hex (by omega)).symm
      clear hTL hTH
      as_aux_lemma =>
      have hxx0 := hx2
      have hxx1 := hx3
      replace hk_x := blk_drew hk_x
      replace hk_y := blk_drew hk_y
      replace hk_p := blk_drew hk_p
      replace hk_t := blk_drew hk_t
      replace ha_b := AccAt.below ha_b (bl_drew (Below.refl _ _))
      replace hbw := bl_drew hbw
      refine start_ (n := 12) (S := fun w' => w'.cell? ⟨gx, 0, none⟩ = some (.int .i64 xl) ∧ w'.cell? ⟨gx, 1, none⟩ = some (.int .i64 xh)) (ds := []) #[false, false, false, false, false, false, false, false, false, false, false, false] (by kernel_rfl) rfl rfl ⟨(blk_cell hk_x 0 (by rfl)), (blk_cell hk_x 1 (by rfl))⟩ (fun hHeld => ?_)
      generalize wc.drew = wn at *
      refine pure_ (i := 0) (N := some 33) (v := ?_) (a' := ?_) #[true, false, false, false, false, false, false, false, false, false, false, false] rfl rfl (by kernel_rfl) (fun _ _ _ h => h) (Or.inl ⟨by rfl, ?_⟩) ?_ ?_
      rotate_left
      · intro w'
        go_simp
        with_reducible rfl
      rotate_left
      · simp only [Act.put, List.setIfInBounds_toArray, List.set_cons_zero, List.set_cons_succ, i64_w, i32_w]
        rfl
      refine pure_ (i := 1) (N := some 34) (v := ?_) (a' := ?_) #[true, true, false, false, false, false, false, false, false, false, false, false] rfl rfl (by kernel_rfl) (fun _ _ _ h => h) (Or.inl ⟨by rfl, ?_⟩) ?_ ?_
      rotate_left
      · intro w'
        go_simp
        with_reducible rfl
      rotate_left
      · simp only [Act.put, List.setIfInBounds_toArray, List.set_cons_zero, List.set_cons_succ, i64_w, i32_w]
        rfl
      refine pure_ (i := 3) (N := some 36) (v := ?_) (a' := ?_) #[true, true, false, true, false, false, false, false, false, false, false, false] rfl rfl (by kernel_rfl) (fun _ _ _ h => h) (Or.inl ⟨by rfl, ?_⟩) ?_ ?_
      rotate_left
      · intro w'
        go_simp
        with_reducible rfl
      rotate_left
      · simp only [Act.put, List.setIfInBounds_toArray, List.set_cons_zero, List.set_cons_succ, i64_w, i32_w]
        rfl
      refine pure_ (i := 5) (N := some 38) (v := ?_) (a' := ?_) #[true, true, false, true, false, true, false, false, false, false, false, false] rfl rfl (by kernel_rfl) (fun _ _ _ h => h) (Or.inl ⟨by rfl, ?_⟩) ?_ ?_
      rotate_left
      · intro w'
        go_simp
        with_reducible rfl
      rotate_left
      · simp only [Act.put, List.setIfInBounds_toArray, List.set_cons_zero, List.set_cons_succ, i64_w, i32_w]
        rfl
      refine pure_ (i := 6) (N := some 39) (v := ?_) (a' := ?_) #[true, true, false, true, false, true, true, false, false, false, false, false] rfl rfl (by kernel_rfl) (fun _ _ _ h => h) (Or.inl ⟨by rfl, ?_⟩) ?_ ?_
      rotate_left
      · intro w'
        go_simp
        with_reducible rfl
      rotate_left
      · simp only [Act.put, List.setIfInBounds_toArray, List.set_cons_zero, List.set_cons_succ, i64_w, i32_w]
        rfl
      refine pure_ (i := 8) (N := some 41) (v := ?_) (a' := ?_) #[true, true, false, true, false, true, true, false, true, false, false, false] rfl rfl (by kernel_rfl) (fun _ _ _ h => h) (Or.inl ⟨by rfl, ?_⟩) ?_ ?_
      rotate_left
      · intro w'
        go_simp
        with_reducible rfl
      rotate_left
      · simp only [Act.put, List.setIfInBounds_toArray, List.set_cons_zero, List.set_cons_succ, i64_w, i32_w]
        rfl
      refine take_ (i := 2) (N := some 35) (v := ?_) (a' := ?_) #[true, true, true, true, false, true, true, false, true, false, false, false] rfl rfl (by kernel_rfl) (fun _ _ _ h => h) (Or.inl ⟨by rfl, ?_⟩) hHeld ?_ ?_
      rotate_left
      · rintro w' ⟨s0, s1⟩
        go_simp
        with_reducible rfl
      rotate_left
      · simp only [Act.put, List.setIfInBounds_toArray, List.set_cons_zero, List.set_cons_succ, i64_w, i32_w]
        rfl
      refine take_ (i := 7) (N := some 40) (v := ?_) (a' := ?_) #[true, true, true, true, false, true, true, true, true, false, false, false] rfl rfl (by kernel_rfl) (fun _ _ _ h => h) (Or.inl ⟨by rfl, ?_⟩) hHeld ?_ ?_
      rotate_left
      · rintro w' ⟨s0, s1⟩
        go_simp
        with_reducible rfl
      rotate_left
      · simp only [Act.put, List.setIfInBounds_toArray, List.set_cons_zero, List.set_cons_succ, i64_w, i32_w]
        rfl
      refine one_ (i := 4) (N := some 37) #[true, true, true, true, true, true, true, true, true, false, false, false] rfl rfl (by kernel_rfl) (by decide) (fun K hK => ?_)
      refine goes_ Try.func37 (by kernel_rfl) rfl #[.pointer (some ⟨gb, 0, none⟩), .int .i64 xl, .int .i64 c, .bool false] (by rfl) rfl rfl (by simp only [List.map_toArray, List.map_cons, List.map_nil] <;> rfl) ?_
      refine (Mul_calls (some ⟨gb, 0, none⟩) xl c false _ _ ha_b hx0 hx1 hc0 hc1).mono ?_
      rintro e wn ⟨rfl, hbn⟩
      refine ⟨_, rfl, ?_⟩
      replace hk_x := blk_acc hbn hk_x p_b_x
      replace hk_y := blk_acc hbn hk_y p_b_y
      replace hk_p := blk_acc hbn hk_p p_b_p
      replace hk_t := blk_acc hbn hk_t p_b_t
      replace ha_b := AccAt.or ha_b hbn
      replace hbw := bl_own hbw hl_b hbn
      clear hbn
      clear hHeld
      refine hK.out _ _ ⟨(blk_cell hk_x 0 (by rfl)), (blk_cell hk_x 1 (by rfl))⟩ (fun hHeld => ?_)
      clear hK K
      refine norm_ (a' := ?_) ?_ ?_
      rotate_left
      · show Act.put _ (some 37) _ = _
        simp only [Act.put, List.setIfInBounds_toArray, List.set_cons_zero, List.set_cons_succ, i64_w, i32_w]
        rfl
      refine one_ (i := 9) (N := some 42) #[true, true, true, true, true, true, true, true, true, true, false, false] rfl rfl (by kernel_rfl) (by decide) (fun K hK => ?_)
      refine goes_ Try.func37 (by kernel_rfl) rfl #[.pointer (some ⟨gb, 0, none⟩), .int .i64 xh, .int .i64 c, .bool true] (by rfl) rfl rfl (by simp only [List.map_toArray, List.map_cons, List.map_nil] <;> rfl) ?_
      refine (Mul_calls (some ⟨gb, 0, none⟩) xh c true _ _ ha_b hxx0 hxx1 hc0 hc1).mono ?_
      rintro e wn ⟨rfl, hbn⟩
      refine ⟨_, rfl, ?_⟩
      replace hk_x := blk_acc hbn hk_x p_b_x
      replace hk_y := blk_acc hbn hk_y p_b_y
      replace hk_p := blk_acc hbn hk_p p_b_p
      replace hk_t := blk_acc hbn hk_t p_b_t
      replace ha_b := AccAt.or ha_b hbn
      replace hbw := bl_own hbw hl_b hbn
      clear hbn
      clear hHeld
      refine hK.out _ _ ⟨(blk_cell hk_x 0 (by rfl)), (blk_cell hk_x 1 (by rfl))⟩ (fun hHeld => ?_)
      clear hK K
      refine norm_ (a' := ?_) ?_ ?_
      rotate_left
      · show Act.put _ (some 42) _ = _
        simp only [Act.put, List.setIfInBounds_toArray, List.set_cons_zero, List.set_cons_succ, i64_w, i32_w]
        rfl
      refine pure_ (i := 10) (N := some 11) (v := ?_) (a' := ?_) #[true, true, true, true, true, true, true, true, true, true, true, false] rfl rfl (by kernel_rfl) (fun _ _ _ h => h) (Or.inl ⟨by rfl, ?_⟩) ?_ ?_
      rotate_left
      · intro w'
        go_simp
        with_reducible rfl
      rotate_left
      · simp only [Act.put, List.setIfInBounds_toArray, List.set_cons_zero, List.set_cons_succ, i64_w, i32_w]
        rfl
      refine pure_ (i := 11) (N := some 12) (v := ?_) (a' := ?_) #[true, true, true, true, true, true, true, true, true, true, true, true] rfl rfl (by kernel_rfl) (fun _ _ _ h => h) (Or.inl ⟨by rfl, ?_⟩) ?_ ?_
      rotate_left
      · intro w'
        go_simp
        with_reducible rfl
      rotate_left
      · simp only [Act.put, List.setIfInBounds_toArray, List.set_cons_zero, List.set_cons_succ, i64_w, i32_w]
        rfl
      refine done_ (by kernel_rfl) ?_
      go_upto_region 7 with fail
      replace hk_x := blk_drew hk_x
      replace hk_y := blk_drew hk_y
      replace hk_p := blk_drew hk_p
      replace hk_t := blk_drew hk_t
      replace ha_b := AccAt.below ha_b (bl_drew (Below.refl _ _))
      replace hbw := bl_drew hbw
      refine start_ (n := 12) (S := fun w' => w'.cell? ⟨gx, 0, none⟩ = some (.int .i64 xl) ∧ w'.cell? ⟨gx, 1, none⟩ = some (.int .i64 xh)) (ds := []) #[false, false, false, false, false, false, false, false, false, false, false, false] (by kernel_rfl) rfl rfl ⟨(blk_cell hk_x 0 (by rfl)), (blk_cell hk_x 1 (by rfl))⟩ (fun hHeld => ?_)
      generalize wn.drew = wn at *
      refine pure_ (i := 0) (N := some 45) (v := ?_) (a' := ?_) #[true, false, false, false, false, false, false, false, false, false, false, false] rfl rfl (by kernel_rfl) (fun _ _ _ h => h) (Or.inl ⟨by rfl, ?_⟩) ?_ ?_
      rotate_left
      · intro w'
        go_simp
        with_reducible rfl
      rotate_left
      · simp only [Act.put, List.setIfInBounds_toArray, List.set_cons_zero, List.set_cons_succ, i64_w, i32_w]
        rfl
      refine pure_ (i := 1) (N := some 46) (v := ?_) (a' := ?_) #[true, true, false, false, false, false, false, false, false, false, false, false] rfl rfl (by kernel_rfl) (fun _ _ _ h => h) (Or.inl ⟨by rfl, ?_⟩) ?_ ?_
      rotate_left
      · intro w'
        go_simp
        with_reducible rfl
      rotate_left
      · simp only [Act.put, List.setIfInBounds_toArray, List.set_cons_zero, List.set_cons_succ, i64_w, i32_w]
        rfl
      refine pure_ (i := 3) (N := some 48) (v := ?_) (a' := ?_) #[true, true, false, true, false, false, false, false, false, false, false, false] rfl rfl (by kernel_rfl) (fun _ _ _ h => h) (Or.inl ⟨by rfl, ?_⟩) ?_ ?_
      rotate_left
      · intro w'
        go_simp
        with_reducible rfl
      rotate_left
      · simp only [Act.put, List.setIfInBounds_toArray, List.set_cons_zero, List.set_cons_succ, i64_w, i32_w]
        rfl
      refine pure_ (i := 5) (N := some 50) (v := ?_) (a' := ?_) #[true, true, false, true, false, true, false, false, false, false, false, false] rfl rfl (by kernel_rfl) (fun _ _ _ h => h) (Or.inl ⟨by rfl, ?_⟩) ?_ ?_
      rotate_left
      · intro w'
        go_simp
        with_reducible rfl
      rotate_left
      · simp only [Act.put, List.setIfInBounds_toArray, List.set_cons_zero, List.set_cons_succ, i64_w, i32_w]
        rfl
      refine pure_ (i := 6) (N := some 51) (v := ?_) (a' := ?_) #[true, true, false, true, false, true, true, false, false, false, false, false] rfl rfl (by kernel_rfl) (fun _ _ _ h => h) (Or.inl ⟨by rfl, ?_⟩) ?_ ?_
      rotate_left
      · intro w'
        go_simp
        with_reducible rfl
      rotate_left
      · simp only [Act.put, List.setIfInBounds_toArray, List.set_cons_zero, List.set_cons_succ, i64_w, i32_w]
        rfl
      refine pure_ (i := 8) (N := some 53) (v := ?_) (a' := ?_) #[true, true, false, true, false, true, true, false, true, false, false, false] rfl rfl (by kernel_rfl) (fun _ _ _ h => h) (Or.inl ⟨by rfl, ?_⟩) ?_ ?_
      rotate_left
      · intro w'
        go_simp
        with_reducible rfl
      rotate_left
      · simp only [Act.put, List.setIfInBounds_toArray, List.set_cons_zero, List.set_cons_succ, i64_w, i32_w]
        rfl
      refine take_ (i := 2) (N := some 47) (v := ?_) (a' := ?_) #[true, true, true, true, false, true, true, false, true, false, false, false] rfl rfl (by kernel_rfl) (fun _ _ _ h => h) (Or.inl ⟨by rfl, ?_⟩) hHeld ?_ ?_
      rotate_left
      · rintro w' ⟨s0, s1⟩
        go_simp
        with_reducible rfl
      rotate_left
      · simp only [Act.put, List.setIfInBounds_toArray, List.set_cons_zero, List.set_cons_succ, i64_w, i32_w]
        rfl
      refine take_ (i := 7) (N := some 52) (v := ?_) (a' := ?_) #[true, true, true, true, false, true, true, true, true, false, false, false] rfl rfl (by kernel_rfl) (fun _ _ _ h => h) (Or.inl ⟨by rfl, ?_⟩) hHeld ?_ ?_
      rotate_left
      · rintro w' ⟨s0, s1⟩
        go_simp
        with_reducible rfl
      rotate_left
      · simp only [Act.put, List.setIfInBounds_toArray, List.set_cons_zero, List.set_cons_succ, i64_w, i32_w]
        rfl
      refine one_ (i := 4) (N := some 49) #[true, true, true, true, true, true, true, true, true, false, false, false] rfl rfl (by kernel_rfl) (by decide) (fun K hK => ?_)
      refine goes_ Try.func37 (by kernel_rfl) rfl #[.pointer (some ⟨gb, 0, none⟩), .int .i64 xh, .int .i64 c, .bool false] (by rfl) rfl rfl (by simp only [List.map_toArray, List.map_cons, List.map_nil] <;> rfl) ?_
      refine (Mul_calls (some ⟨gb, 0, none⟩) xh c false _ _ ha_b hxx0 hxx1 hc0 hc1).mono ?_
      rintro e wn ⟨rfl, hbn⟩
      refine ⟨_, rfl, ?_⟩
      rw [hML.out]
      replace hk_x := blk_acc hbn hk_x p_b_x
      replace hk_y := blk_acc hbn hk_y p_b_y
      replace hk_p := blk_acc hbn hk_p p_b_p
      replace hk_t := blk_acc hbn hk_t p_b_t
      replace ha_b := AccAt.or ha_b hbn
      replace hbw := bl_own hbw hl_b hbn
      clear hbn
      clear hHeld
      refine hK.out _ _ ⟨(blk_cell hk_x 0 (by rfl)), (blk_cell hk_x 1 (by rfl))⟩ (fun hHeld => ?_)
      clear hK K
      refine norm_ (a' := ?_) ?_ ?_
      rotate_left
      · show Act.put _ (some 49) _ = _
        simp only [Act.put, List.setIfInBounds_toArray, List.set_cons_zero, List.set_cons_succ, i64_w, i32_w]
        rfl
      refine one_ (i := 9) (N := some 54) #[true, true, true, true, true, true, true, true, true, true, false, false] rfl rfl (by kernel_rfl) (by decide) (fun K hK => ?_)
      refine goes_ Try.func37 (by kernel_rfl) rfl #[.pointer (some ⟨gb, 0, none⟩), .int .i64 xl, .int .i64 c, .bool true] (by rfl) rfl rfl (by simp only [List.map_toArray, List.map_cons, List.map_nil] <;> rfl) ?_
      refine (Mul_calls (some ⟨gb, 0, none⟩) xl c true _ _ ha_b hx0 hx1 hc0 hc1).mono ?_
      rintro e wn ⟨rfl, hbn⟩
      refine ⟨_, rfl, ?_⟩
      rw [hMH.out]
      replace hk_x := blk_acc hbn hk_x p_b_x
      replace hk_y := blk_acc hbn hk_y p_b_y
      replace hk_p := blk_acc hbn hk_p p_b_p
      replace hk_t := blk_acc hbn hk_t p_b_t
      replace ha_b := AccAt.or ha_b hbn
      replace hbw := bl_own hbw hl_b hbn
      clear hbn
      clear hHeld
      refine hK.out _ _ ⟨(blk_cell hk_x 0 (by rfl)), (blk_cell hk_x 1 (by rfl))⟩ (fun hHeld => ?_)
      clear hK K
      refine norm_ (a' := ?_) ?_ ?_
      rotate_left
      · show Act.put _ (some 54) _ = _
        simp only [Act.put, List.setIfInBounds_toArray, List.set_cons_zero, List.set_cons_succ, i64_w, i32_w]
        rfl
      refine pure_ (i := 10) (N := some 11) (v := ?_) (a' := ?_) #[true, true, true, true, true, true, true, true, true, true, true, false] rfl rfl (by kernel_rfl) (fun _ _ _ h => h) (Or.inl ⟨by rfl, ?_⟩) ?_ ?_
      rotate_left
      · intro w'
        go_simp
        with_reducible rfl
      rotate_left
      · simp only [Act.put, List.setIfInBounds_toArray, List.set_cons_zero, List.set_cons_succ, i64_w, i32_w]
        rfl
      refine pure_ (i := 11) (N := some 12) (v := ?_) (a' := ?_) #[true, true, true, true, true, true, true, true, true, true, true, true] rfl rfl (by kernel_rfl) (fun _ _ _ h => h) (Or.inl ⟨by rfl, ?_⟩) ?_ ?_
      rotate_left
      · intro w'
        go_simp
        with_reducible rfl
      rotate_left
      · simp only [Act.put, List.setIfInBounds_toArray, List.set_cons_zero, List.set_cons_succ, i64_w, i32_w]
        rfl
      refine done_ (by kernel_rfl) ?_
      go_upto_region 8 with fail
      replace hk_x := blk_drew hk_x
      replace hk_y := blk_drew hk_y
      replace hk_p := blk_drew hk_p
      replace hk_t := blk_drew hk_t
      replace ha_b := AccAt.below ha_b (bl_drew (Below.refl _ _))
      replace hbw := bl_drew hbw
      refine start_ (n := 38) (S := fun w' => w'.cell? ⟨gx, 0, none⟩ = some (.int .i64 xl) ∧ w'.cell? ⟨gx, 1, none⟩ = some (.int .i64 xh) ∧ w'.cell? ⟨gy, 0, none⟩ = some (.int .i64 yl) ∧ w'.cell? ⟨gy, 1, none⟩ = some (.int .i64 yh) ∧ w'.cell? ⟨gp, 0, none⟩ = some (.int .i64 PL) ∧ w'.cell? ⟨gp, 1, none⟩ = some (.int .i64 PH) ∧ w'.cell? ⟨gt, 0, none⟩ = some (.int .i64 TL) ∧ w'.cell? ⟨gt, 1, none⟩ = some (.int .i64 TH)) (ds := []) #[false, false, false, false, false, false, false, false, false, false, false, false, false, false, false, false, false, false, false, false, false, false, false, false, false, false, false, false, false, false, false, false, false, false, false, false, false, false] (by kernel_rfl) rfl rfl ⟨(blk_cell hk_x 0 (by rfl)), (blk_cell hk_x 1 (by rfl)), (blk_cell hk_y 0 (by rfl)), (blk_cell hk_y 1 (by rfl)), (blk_cell hk_p 0 (by rfl)), (blk_cell hk_p 1 (by rfl)), (blk_cell hk_t 0 (by rfl)), (blk_cell hk_t 1 (by rfl))⟩ (fun hHeld => ?_)
      generalize wn.drew = wn at *
      refine one_ (i := 0) (N := some 55) #[true, false, false, false, false, false, false, false, false, false, false, false, false, false, false, false, false, false, false, false, false, false, false, false, false, false, false, false, false, false, false, false, false, false, false, false, false, false] rfl rfl (by kernel_rfl) (by decide) (fun K hK => ?_)
      refine goes_ Try.func15 (by kernel_rfl) rfl #[] (by rfl) rfl rfl (by simp only [List.map_toArray, List.map_cons, List.map_nil] <;> rfl) ?_
      refine (alive_calls _).mono ?_
      rintro e wn ⟨rfl, hbn⟩
      refine ⟨_, rfl, ?_⟩
      replace hk_x := bl_block hbn hk_x
      replace hk_y := bl_block hbn hk_y
      replace hk_p := bl_block hbn hk_p
      replace hk_t := bl_block hbn hk_t
      replace ha_b := AccAt.below ha_b hbn
      replace hbw := bl_step hbw hbn
      clear hbn
      clear hHeld
      refine hK.out _ _ ⟨(blk_cell hk_x 0 (by rfl)), (blk_cell hk_x 1 (by rfl)), (blk_cell hk_y 0 (by rfl)), (blk_cell hk_y 1 (by rfl)), (blk_cell hk_p 0 (by rfl)), (blk_cell hk_p 1 (by rfl)), (blk_cell hk_t 0 (by rfl)), (blk_cell hk_t 1 (by rfl))⟩ (fun hHeld => ?_)
      clear hK K
      refine norm_ (a' := ?_) ?_ ?_
      rotate_left
      · show Act.put _ (some 55) _ = _
        simp only [Act.put, List.setIfInBounds_toArray, List.set_cons_zero, List.set_cons_succ, i64_w, i32_w]
        rfl
      refine pure_ (i := 1) (N := some 56) (v := ?_) (a' := ?_) #[true, true, false, false, false, false, false, false, false, false, false, false, false, false, false, false, false, false, false, false, false, false, false, false, false, false, false, false, false, false, false, false, false, false, false, false, false, false] rfl rfl (by kernel_rfl) (fun _ _ _ h => h) (Or.inl ⟨by rfl, ?_⟩) ?_ ?_
      rotate_left
      · intro w'
        go_simp
        with_reducible rfl
      rotate_left
      · simp only [Act.put, List.setIfInBounds_toArray, List.set_cons_zero, List.set_cons_succ, i64_w, i32_w]
        rfl
      refine pure_ (i := 2) (N := some 57) (v := ?_) (a' := ?_) #[true, true, true, false, false, false, false, false, false, false, false, false, false, false, false, false, false, false, false, false, false, false, false, false, false, false, false, false, false, false, false, false, false, false, false, false, false, false] rfl rfl (by kernel_rfl) (fun _ _ _ h => h) (Or.inl ⟨by rfl, ?_⟩) ?_ ?_
      rotate_left
      · intro w'
        go_simp
        with_reducible rfl
      rotate_left
      · simp only [Act.put, List.setIfInBounds_toArray, List.set_cons_zero, List.set_cons_succ, i64_w, i32_w]
        rfl
      refine pure_ (i := 4) (N := some 59) (v := ?_) (a' := ?_) #[true, true, true, false, true, false, false, false, false, false, false, false, false, false, false, false, false, false, false, false, false, false, false, false, false, false, false, false, false, false, false, false, false, false, false, false, false, false] rfl rfl (by kernel_rfl) (fun _ _ _ h => h) (Or.inl ⟨by rfl, ?_⟩) ?_ ?_
      rotate_left
      · intro w'
        go_simp
        with_reducible rfl
      rotate_left
      · simp only [Act.put, List.setIfInBounds_toArray, List.set_cons_zero, List.set_cons_succ, i64_w, i32_w]
        rfl
      refine pure_ (i := 5) (N := some 60) (v := ?_) (a' := ?_) #[true, true, true, false, true, true, false, false, false, false, false, false, false, false, false, false, false, false, false, false, false, false, false, false, false, false, false, false, false, false, false, false, false, false, false, false, false, false] rfl rfl (by kernel_rfl) (fun _ _ _ h => h) (Or.inl ⟨by rfl, ?_⟩) ?_ ?_
      rotate_left
      · intro w'
        go_simp
        with_reducible rfl
      rotate_left
      · simp only [Act.put, List.setIfInBounds_toArray, List.set_cons_zero, List.set_cons_succ, i64_w, i32_w]
        rfl
      refine pure_ (i := 7) (N := some 62) (v := ?_) (a' := ?_) #[true, true, true, false, true, true, false, true, false, false, false, false, false, false, false, false, false, false, false, false, false, false, false, false, false, false, false, false, false, false, false, false, false, false, false, false, false, false] rfl rfl (by kernel_rfl) (fun _ _ _ h => h) (Or.inl ⟨by rfl, ?_⟩) ?_ ?_
      rotate_left
      · intro w'
        go_simp
        with_reducible rfl
      rotate_left
      · simp only [Act.put, List.setIfInBounds_toArray, List.set_cons_zero, List.set_cons_succ, i64_w, i32_w]
        rfl
      refine take_ (i := 3) (N := some 58) (v := ?_) (a' := ?_) #[true, true, true, true, true, true, false, true, false, false, false, false, false, false, false, false, false, false, false, false, false, false, false, false, false, false, false, false, false, false, false, false, false, false, false, false, false, false] rfl rfl (by kernel_rfl) (fun _ _ _ h => h) (Or.inl ⟨by rfl, ?_⟩) hHeld ?_ ?_
      rotate_left
      · rintro w' ⟨s0, s1, s2, s3, s4, s5, s6, s7⟩
        go_simp
        with_reducible rfl
      rotate_left
      · simp only [Act.put, List.setIfInBounds_toArray, List.set_cons_zero, List.set_cons_succ, i64_w, i32_w]
        rfl
      refine take_ (i := 6) (N := some 61) (v := ?_) (a' := ?_) #[true, true, true, true, true, true, true, true, false, false, false, false, false, false, false, false, false, false, false, false, false, false, false, false, false, false, false, false, false, false, false, false, false, false, false, false, false, false] rfl rfl (by kernel_rfl) (fun _ _ _ h => h) (Or.inl ⟨by rfl, ?_⟩) hHeld ?_ ?_
      rotate_left
      · rintro w' ⟨s0, s1, s2, s3, s4, s5, s6, s7⟩
        go_simp
        with_reducible rfl
      rotate_left
      · simp only [Act.put, List.setIfInBounds_toArray, List.set_cons_zero, List.set_cons_succ, i64_w, i32_w]
        rfl
      refine take_ (i := 8) (N := some 63) (v := ?_) (a' := ?_) #[true, true, true, true, true, true, true, true, true, false, false, false, false, false, false, false, false, false, false, false, false, false, false, false, false, false, false, false, false, false, false, false, false, false, false, false, false, false] rfl rfl (by kernel_rfl) (fun _ _ _ h => h) (Or.inl ⟨by rfl, ?_⟩) hHeld ?_ ?_
      rotate_left
      · rintro w' ⟨s0, s1, s2, s3, s4, s5, s6, s7⟩
        go_simp
        with_reducible rfl
      rotate_left
      · simp only [Act.put, List.setIfInBounds_toArray, List.set_cons_zero, List.set_cons_succ, i64_w, i32_w]
        rfl
      refine one_ (i := 9) (N := some 64) #[true, true, true, true, true, true, true, true, true, true, false, false, false, false, false, false, false, false, false, false, false, false, false, false, false, false, false, false, false, false, false, false, false, false, false, false, false, false] rfl rfl (by kernel_rfl) (by decide) (fun K hK => ?_)
      refine value_ (w1 := wn.alloc (.cells #[.int .i64 xl, .int .i64 yl] 3)) (v := .slice (some ⟨wn.heap.size, 0, none⟩) 2 2) (by rfl) rfl ?_ ?_
      · go_simp
        try rfl
      have hk_9 : (wn.alloc (.cells #[.int .i64 xl, .int .i64 yl] 3)).heap[wn.heap.size]? = some (.cells #[.int .i64 xl, .int .i64 yl] 3 (0, 0)) := blk_new wn _
      have hle_9 : w.heap.size ≤ wn.heap.size := hbw.size
      have p_b_9 : PNe (some ⟨gb, 0, none⟩) wn.heap.size := AccAt.ne ha_b (Nat.le_refl _)
      replace hk_x := blk_alloc hk_x (.cells #[.int .i64 xl, .int .i64 yl] 3)
      replace hk_y := blk_alloc hk_y (.cells #[.int .i64 xl, .int .i64 yl] 3)
      replace hk_p := blk_alloc hk_p (.cells #[.int .i64 xl, .int .i64 yl] 3)
      replace hk_t := blk_alloc hk_t (.cells #[.int .i64 xl, .int .i64 yl] 3)
      replace ha_b := AccAt.below ha_b (bl_alloc (Below.refl _ _) (.cells #[.int .i64 xl, .int .i64 yl] 3))
      replace hbw := bl_alloc hbw (.cells #[.int .i64 xl, .int .i64 yl] 3)
      generalize wn.heap.size = g9 at *
      generalize wn.alloc (.cells #[.int .i64 xl, .int .i64 yl] 3) = wn at *
      clear hHeld
      refine hK.out _ _ ⟨(blk_cell hk_x 0 (by rfl)), (blk_cell hk_x 1 (by rfl)), (blk_cell hk_y 0 (by rfl)), (blk_cell hk_y 1 (by rfl)), (blk_cell hk_p 0 (by rfl)), (blk_cell hk_p 1 (by rfl)), (blk_cell hk_t 0 (by rfl)), (blk_cell hk_t 1 (by rfl))⟩ (fun hHeld => ?_)
      clear hK K
      refine norm_ (a' := ?_) ?_ ?_
      rotate_left
      · show Act.put _ (some 64) _ = _
        simp only [Act.put, List.setIfInBounds_toArray, List.set_cons_zero, List.set_cons_succ, i64_w, i32_w]
        rfl
      refine one_ (i := 10) (N := some 65) #[true, true, true, true, true, true, true, true, true, true, true, false, false, false, false, false, false, false, false, false, false, false, false, false, false, false, false, false, false, false, false, false, false, false, false, false, false, false] rfl rfl (by kernel_rfl) (by decide) (fun K hK => ?_)
      refine goes_ Try.func17 (by kernel_rfl) rfl #[.pointer (some ⟨gb, 0, none⟩), .slice (some ⟨g9, 0, none⟩) 2 2] (by rfl) rfl rfl (by simp only [List.map_toArray, List.map_cons, List.map_nil] <;> rfl) ?_
      refine (Add_calls (some ⟨gb, 0, none⟩) (some ⟨g9, 0, none⟩) [xl, yl] 2 _ _ ha_b (RdI.of_blk (l := [xl, yl]) hk_9 (by simp)) hinL).mono ?_
      rintro e wn ⟨rfl, hbn⟩
      refine ⟨_, rfl, ?_⟩
      rw [hSL.out]
      replace hk_x := blk_acc hbn hk_x p_b_x
      replace hk_y := blk_acc hbn hk_y p_b_y
      replace hk_p := blk_acc hbn hk_p p_b_p
      replace hk_t := blk_acc hbn hk_t p_b_t
      replace hk_9 := blk_acc hbn hk_9 p_b_9
      replace ha_b := AccAt.or ha_b hbn
      replace hbw := bl_own hbw hl_b hbn
      clear hbn
      clear hHeld
      refine hK.out _ _ ⟨(blk_cell hk_x 0 (by rfl)), (blk_cell hk_x 1 (by rfl)), (blk_cell hk_y 0 (by rfl)), (blk_cell hk_y 1 (by rfl)), (blk_cell hk_p 0 (by rfl)), (blk_cell hk_p 1 (by rfl)), (blk_cell hk_t 0 (by rfl)), (blk_cell hk_t 1 (by rfl))⟩ (fun hHeld => ?_)
      clear hK K
      refine norm_ (a' := ?_) ?_ ?_
      rotate_left
      · show Act.put _ (some 65) _ = _
        simp only [Act.put, List.setIfInBounds_toArray, List.set_cons_zero, List.set_cons_succ, i64_w, i32_w]
        rfl
      refine pure_ (i := 11) (N := some 66) (v := ?_) (a' := ?_) #[true, true, true, true, true, true, true, true, true, true, true, true, false, false, false, false, false, false, false, false, false, false, false, false, false, false, false, false, false, false, false, false, false, false, false, false, false, false] rfl rfl (by kernel_rfl) (fun _ _ _ h => h) (Or.inl ⟨by rfl, ?_⟩) ?_ ?_
      rotate_left
      · intro w'
        go_simp
        with_reducible rfl
      rotate_left
      · simp only [Act.put, List.setIfInBounds_toArray, List.set_cons_zero, List.set_cons_succ, i64_w, i32_w]
        rfl
      refine pure_ (i := 12) (N := some 67) (v := ?_) (a' := ?_) #[true, true, true, true, true, true, true, true, true, true, true, true, true, false, false, false, false, false, false, false, false, false, false, false, false, false, false, false, false, false, false, false, false, false, false, false, false, false] rfl rfl (by kernel_rfl) (fun _ _ _ h => h) (Or.inl ⟨by rfl, ?_⟩) ?_ ?_
      rotate_left
      · intro w'
        go_simp
        with_reducible rfl
      rotate_left
      · simp only [Act.put, List.setIfInBounds_toArray, List.set_cons_zero, List.set_cons_succ, i64_w, i32_w]
        rfl
      refine pure_ (i := 13) (N := some 68) (v := ?_) (a' := ?_) #[true, true, true, true, true, true, true, true, true, true, true, true, true, true, false, false, false, false, false, false, false, false, false, false, false, false, false, false, false, false, false, false, false, false, false, false, false, false] rfl rfl (by kernel_rfl) (fun _ _ _ h => h) (Or.inl ⟨by rfl, ?_⟩) ?_ ?_
      rotate_left
      · intro w'
        go_simp
        with_reducible rfl
      rotate_left
      · simp only [Act.put, List.setIfInBounds_toArray, List.set_cons_zero, List.set_cons_succ, i64_w, i32_w]
        rfl
      refine pure_ (i := 14) (N := some 69) (v := ?_) (a' := ?_) #[true, true, true, true, true, true, true, true, true, true, true, true, true, true, true, false, false, false, false, false, false, false, false, false, false, false, false, false, false, false, false, false, false, false, false, false, false, false] rfl rfl (by kernel_rfl) (fun _ _ _ h => h) (Or.inl ⟨by rfl, ?_⟩) ?_ ?_
      rotate_left
      · intro w'
        go_simp
        with_reducible rfl
      rotate_left
      · simp only [Act.put, List.setIfInBounds_toArray, List.set_cons_zero, List.set_cons_succ, i64_w, i32_w]
        rfl
      refine pure_ (i := 16) (N := some 71) (v := ?_) (a' := ?_) #[true, true, true, true, true, true, true, true, true, true, true, true, true, true, true, false, true, false, false, false, false, false, false, false, false, false, false, false, false, false, false, false, false, false, false, false, false, false] rfl rfl (by kernel_rfl) (fun _ _ _ h => h) (Or.inl ⟨by rfl, ?_⟩) ?_ ?_
      rotate_left
      · intro w'
        go_simp
        with_reducible rfl
      rotate_left
      · simp only [Act.put, List.setIfInBounds_toArray, List.set_cons_zero, List.set_cons_succ, i64_w, i32_w]
        rfl
      refine pure_ (i := 17) (N := some 72) (v := ?_) (a' := ?_) #[true, true, true, true, true, true, true, true, true, true, true, true, true, true, true, false, true, true, false, false, false, false, false, false, false, false, false, false, false, false, false, false, false, false, false, false, false, false] rfl rfl (by kernel_rfl) (fun _ _ _ h => h) (Or.inl ⟨by rfl, ?_⟩) ?_ ?_
      rotate_left
      · intro w'
        go_simp
        with_reducible rfl
      rotate_left
      · simp only [Act.put, List.setIfInBounds_toArray, List.set_cons_zero, List.set_cons_succ, i64_w, i32_w]
        rfl
      refine pure_ (i := 19) (N := some 74) (v := ?_) (a' := ?_) #[true, true, true, true, true, true, true, true, true, true, true, true, true, true, true, false, true, true, false, true, false, false, false, false, false, false, false, false, false, false, false, false, false, false, false, false, false, false] rfl rfl (by kernel_rfl) (fun _ _ _ h => h) (Or.inl ⟨by rfl, ?_⟩) ?_ ?_
      rotate_left
      · intro w'
        go_simp
        with_reducible rfl
      rotate_left
      · simp only [Act.put, List.setIfInBounds_toArray, List.set_cons_zero, List.set_cons_succ, i64_w, i32_w]
        rfl
      refine take_ (i := 15) (N := some 70) (v := ?_) (a' := ?_) #[true, true, true, true, true, true, true, true, true, true, true, true, true, true, true, true, true, true, false, true, false, false, false, false, false, false, false, false, false, false, false, false, false, false, false, false, false, false] rfl rfl (by kernel_rfl) (fun _ _ _ h => h) (Or.inl ⟨by rfl, ?_⟩) hHeld ?_ ?_
      rotate_left
      · rintro w' ⟨s0, s1, s2, s3, s4, s5, s6, s7⟩
        go_simp
        with_reducible rfl
      rotate_left
      · simp only [Act.put, List.setIfInBounds_toArray, List.set_cons_zero, List.set_cons_succ, i64_w, i32_w]
        rfl
      refine take_ (i := 18) (N := some 73) (v := ?_) (a' := ?_) #[true, true, true, true, true, true, true, true, true, true, true, true, true, true, true, true, true, true, true, true, false, false, false, false, false, false, false, false, false, false, false, false, false, false, false, false, false, false] rfl rfl (by kernel_rfl) (fun _ _ _ h => h) (Or.inl ⟨by rfl, ?_⟩) hHeld ?_ ?_
      rotate_left
      · rintro w' ⟨s0, s1, s2, s3, s4, s5, s6, s7⟩
        go_simp
        with_reducible rfl
      rotate_left
      · simp only [Act.put, List.setIfInBounds_toArray, List.set_cons_zero, List.set_cons_succ, i64_w, i32_w]
        rfl
      refine take_ (i := 20) (N := some 75) (v := ?_) (a' := ?_) #[true, true, true, true, true, true, true, true, true, true, true, true, true, true, true, true, true, true, true, true, true, false, false, false, false, false, false, false, false, false, false, false, false, false, false, false, false, false] rfl rfl (by kernel_rfl) (fun _ _ _ h => h) (Or.inl ⟨by rfl, ?_⟩) hHeld ?_ ?_
      rotate_left
      · rintro w' ⟨s0, s1, s2, s3, s4, s5, s6, s7⟩
        go_simp
        with_reducible rfl
      rotate_left
      · simp only [Act.put, List.setIfInBounds_toArray, List.set_cons_zero, List.set_cons_succ, i64_w, i32_w]
        rfl
      refine one_ (i := 21) (N := some 76) #[true, true, true, true, true, true, true, true, true, true, true, true, true, true, true, true, true, true, true, true, true, true, false, false, false, false, false, false, false, false, false, false, false, false, false, false, false, false] rfl rfl (by kernel_rfl) (by decide) (fun K hK => ?_)
      refine value_ (w1 := wn.alloc (.cells #[.int .i64 xh, .int .i64 yh] 3)) (v := .slice (some ⟨wn.heap.size, 0, none⟩) 2 2) (by rfl) rfl ?_ ?_
      · go_simp
        try rfl
      have hk_21 : (wn.alloc (.cells #[.int .i64 xh, .int .i64 yh] 3)).heap[wn.heap.size]? = some (.cells #[.int .i64 xh, .int .i64 yh] 3 (0, 0)) := blk_new wn _
      have hle_21 : w.heap.size ≤ wn.heap.size := hbw.size
      have p_b_21 : PNe (some ⟨gb, 0, none⟩) wn.heap.size := AccAt.ne ha_b (Nat.le_refl _)
      replace hk_x := blk_alloc hk_x (.cells #[.int .i64 xh, .int .i64 yh] 3)
      replace hk_y := blk_alloc hk_y (.cells #[.int .i64 xh, .int .i64 yh] 3)
      replace hk_p := blk_alloc hk_p (.cells #[.int .i64 xh, .int .i64 yh] 3)
      replace hk_t := blk_alloc hk_t (.cells #[.int .i64 xh, .int .i64 yh] 3)
      replace hk_9 := blk_alloc hk_9 (.cells #[.int .i64 xh, .int .i64 yh] 3)
      replace ha_b := AccAt.below ha_b (bl_alloc (Below.refl _ _) (.cells #[.int .i64 xh, .int .i64 yh] 3))
      replace hbw := bl_alloc hbw (.cells #[.int .i64 xh, .int .i64 yh] 3)
      generalize wn.heap.size = g21 at *
      generalize wn.alloc (.cells #[.int .i64 xh, .int .i64 yh] 3) = wn at *
      clear hHeld
      refine hK.out _ _ ⟨(blk_cell hk_x 0 (by rfl)), (blk_cell hk_x 1 (by rfl)), (blk_cell hk_y 0 (by rfl)), (blk_cell hk_y 1 (by rfl)), (blk_cell hk_p 0 (by rfl)), (blk_cell hk_p 1 (by rfl)), (blk_cell hk_t 0 (by rfl)), (blk_cell hk_t 1 (by rfl))⟩ (fun hHeld => ?_)
      clear hK K
      refine norm_ (a' := ?_) ?_ ?_
      rotate_left
      · show Act.put _ (some 76) _ = _
        simp only [Act.put, List.setIfInBounds_toArray, List.set_cons_zero, List.set_cons_succ, i64_w, i32_w]
        rfl
      refine one_ (i := 22) (N := some 77) #[true, true, true, true, true, true, true, true, true, true, true, true, true, true, true, true, true, true, true, true, true, true, true, false, false, false, false, false, false, false, false, false, false, false, false, false, false, false] rfl rfl (by kernel_rfl) (by decide) (fun K hK => ?_)
      refine goes_ Try.func17 (by kernel_rfl) rfl #[.pointer (some ⟨gb, 0, none⟩), .slice (some ⟨g21, 0, none⟩) 2 2] (by rfl) rfl rfl (by simp only [List.map_toArray, List.map_cons, List.map_nil] <;> rfl) ?_
      refine (Add_calls (some ⟨gb, 0, none⟩) (some ⟨g21, 0, none⟩) [xh, yh] 2 _ _ ha_b (RdI.of_blk (l := [xh, yh]) hk_21 (by simp)) hinH).mono ?_
      rintro e wn ⟨rfl, hbn⟩
      refine ⟨_, rfl, ?_⟩
      rw [hSH.out]
      replace hk_x := blk_acc hbn hk_x p_b_x
      replace hk_y := blk_acc hbn hk_y p_b_y
      replace hk_p := blk_acc hbn hk_p p_b_p
      replace hk_t := blk_acc hbn hk_t p_b_t
      replace hk_9 := blk_acc hbn hk_9 p_b_9
      replace hk_21 := blk_acc hbn hk_21 p_b_21
      replace ha_b := AccAt.or ha_b hbn
      replace hbw := bl_own hbw hl_b hbn
      clear hbn
      clear hHeld
      refine hK.out _ _ ⟨(blk_cell hk_x 0 (by rfl)), (blk_cell hk_x 1 (by rfl)), (blk_cell hk_y 0 (by rfl)), (blk_cell hk_y 1 (by rfl)), (blk_cell hk_p 0 (by rfl)), (blk_cell hk_p 1 (by rfl)), (blk_cell hk_t 0 (by rfl)), (blk_cell hk_t 1 (by rfl))⟩ (fun hHeld => ?_)
      clear hK K
      refine norm_ (a' := ?_) ?_ ?_
      rotate_left
      · show Act.put _ (some 77) _ = _
        simp only [Act.put, List.setIfInBounds_toArray, List.set_cons_zero, List.set_cons_succ, i64_w, i32_w]
        rfl
      refine pure_ (i := 23) (N := some 78) (v := ?_) (a' := ?_) #[true, true, true, true, true, true, true, true, true, true, true, true, true, true, true, true, true, true, true, true, true, true, true, true, false, false, false, false, false, false, false, false, false, false, false, false, false, false] rfl rfl (by kernel_rfl) (fun _ _ _ h => h) (Or.inl ⟨by rfl, ?_⟩) ?_ ?_
      rotate_left
      · intro w'
        go_simp
        with_reducible rfl
      rotate_left
      · simp only [Act.put, List.setIfInBounds_toArray, List.set_cons_zero, List.set_cons_succ, i64_w, i32_w]
        rfl
      refine pure_ (i := 24) (N := some 79) (v := ?_) (a' := ?_) #[true, true, true, true, true, true, true, true, true, true, true, true, true, true, true, true, true, true, true, true, true, true, true, true, true, false, false, false, false, false, false, false, false, false, false, false, false, false] rfl rfl (by kernel_rfl) (fun _ _ _ h => h) (Or.inl ⟨by rfl, ?_⟩) ?_ ?_
      rotate_left
      · intro w'
        go_simp
        with_reducible rfl
      rotate_left
      · simp only [Act.put, List.setIfInBounds_toArray, List.set_cons_zero, List.set_cons_succ, i64_w, i32_w]
        rfl
      refine pure_ (i := 25) (N := some 80) (v := ?_) (a' := ?_) #[true, true, true, true, true, true, true, true, true, true, true, true, true, true, true, true, true, true, true, true, true, true, true, true, true, true, false, false, false, false, false, false, false, false, false, false, false, false] rfl rfl (by kernel_rfl) (fun _ _ _ h => h) (Or.inl ⟨by rfl, ?_⟩) ?_ ?_
      rotate_left
      · intro w'
        go_simp
        with_reducible rfl
      rotate_left
      · simp only [Act.put, List.setIfInBounds_toArray, List.set_cons_zero, List.set_cons_succ, i64_w, i32_w]
        rfl
      refine pure_ (i := 26) (N := some 81) (v := ?_) (a' := ?_) #[true, true, true, true, true, true, true, true, true, true, true, true, true, true, true, true, true, true, true, true, true, true, true, true, true, true, true, false, false, false, false, false, false, false, false, false, false, false] rfl rfl (by kernel_rfl) (fun _ _ _ h => h) (Or.inl ⟨by rfl, ?_⟩) ?_ ?_
      rotate_left
      · intro w'
        go_simp
        with_reducible rfl
      rotate_left
      · simp only [Act.put, List.setIfInBounds_toArray, List.set_cons_zero, List.set_cons_succ, i64_w, i32_w]
        rfl
      refine pure_ (i := 28) (N := some 83) (v := ?_) (a' := ?_) #[true, true, true, true, true, true, true, true, true, true, true, true, true, true, true, true, true, true, true, true, true, true, true, true, true, true, true, false, true, false, false, false, false, false, false, false, false, false] rfl rfl (by kernel_rfl) (fun _ _ _ h => h) (Or.inl ⟨by rfl, ?_⟩) ?_ ?_
      rotate_left
      · intro w'
        go_simp
        with_reducible rfl
      rotate_left
      · simp only [Act.put, List.setIfInBounds_toArray, List.set_cons_zero, List.set_cons_succ, i64_w, i32_w]
        rfl
      refine take_ (i := 27) (N := some 82) (v := ?_) (a' := ?_) #[true, true, true, true, true, true, true, true, true, true, true, true, true, true, true, true, true, true, true, true, true, true, true, true, true, true, true, true, true, false, false, false, false, false, false, false, false, false] rfl rfl (by kernel_rfl) (fun _ _ _ h => h) (Or.inl ⟨by rfl, ?_⟩) hHeld ?_ ?_
      rotate_left
      · rintro w' ⟨s0, s1, s2, s3, s4, s5, s6, s7⟩
        go_simp
        with_reducible rfl
      rotate_left
      · simp only [Act.put, List.setIfInBounds_toArray, List.set_cons_zero, List.set_cons_succ, i64_w, i32_w]
        rfl
      refine pure_ (i := 29) (N := some 84) (v := ?_) (a' := ?_) #[true, true, true, true, true, true, true, true, true, true, true, true, true, true, true, true, true, true, true, true, true, true, true, true, true, true, true, true, true, true, false, false, false, false, false, false, false, false] rfl rfl (by kernel_rfl) (fun _ _ _ h => h) (Or.inl ⟨by rfl, ?_⟩) ?_ ?_
      rotate_left
      · intro w'
        go_simp
        with_reducible rfl
      rotate_left
      · simp only [Act.put, List.setIfInBounds_toArray, List.set_cons_zero, List.set_cons_succ, i64_w, i32_w]
        rfl
      refine pure_ (i := 30) (N := some 85) (v := ?_) (a' := ?_) #[true, true, true, true, true, true, true, true, true, true, true, true, true, true, true, true, true, true, true, true, true, true, true, true, true, true, true, true, true, true, true, false, false, false, false, false, false, false] rfl rfl (by kernel_rfl) (fun _ _ _ h => h) (Or.inl ⟨by rfl, ?_⟩) ?_ ?_
      rotate_left
      · intro w'
        go_simp
        with_reducible rfl
      rotate_left
      · simp only [Act.put, List.setIfInBounds_toArray, List.set_cons_zero, List.set_cons_succ, i64_w, i32_w]
        rfl
      refine pure_ (i := 31) (N := some 86) (v := ?_) (a' := ?_) #[true, true, true, true, true, true, true, true, true, true, true, true, true, true, true, true, true, true, true, true, true, true, true, true, true, true, true, true, true, true, true, true, false, false, false, false, false, false] rfl rfl (by kernel_rfl) (fun _ _ _ h => h) (Or.inl ⟨by rfl, ?_⟩) ?_ ?_
      rotate_left
      · intro w'
        go_simp
        with_reducible rfl
      rotate_left
      · simp only [Act.put, List.setIfInBounds_toArray, List.set_cons_zero, List.set_cons_succ, i64_w, i32_w]
        rfl
      refine pure_ (i := 32) (N := some 87) (v := ?_) (a' := ?_) #[true, true, true, true, true, true, true, true, true, true, true, true, true, true, true, true, true, true, true, true, true, true, true, true, true, true, true, true, true, true, true, true, true, false, false, false, false, false] rfl rfl (by kernel_rfl) (fun _ _ _ h => h) (Or.inl ⟨by rfl, ?_⟩) ?_ ?_
      rotate_left
      · intro w'
        go_simp
        with_reducible rfl
      rotate_left
      · simp only [Act.put, List.setIfInBounds_toArray, List.set_cons_zero, List.set_cons_succ, i64_w, i32_w]
        rfl
      refine pure_ (i := 34) (N := some 89) (v := ?_) (a' := ?_) #[true, true, true, true, true, true, true, true, true, true, true, true, true, true, true, true, true, true, true, true, true, true, true, true, true, true, true, true, true, true, true, true, true, false, true, false, false, false] rfl rfl (by kernel_rfl) (fun _ _ _ h => h) (Or.inl ⟨by rfl, ?_⟩) ?_ ?_
      rotate_left
      · intro w'
        go_simp
        with_reducible rfl
      rotate_left
      · simp only [Act.put, List.setIfInBounds_toArray, List.set_cons_zero, List.set_cons_succ, i64_w, i32_w]
        rfl
      refine take_ (i := 33) (N := some 88) (v := ?_) (a' := ?_) #[true, true, true, true, true, true, true, true, true, true, true, true, true, true, true, true, true, true, true, true, true, true, true, true, true, true, true, true, true, true, true, true, true, true, true, false, false, false] rfl rfl (by kernel_rfl) (fun _ _ _ h => h) (Or.inl ⟨by rfl, ?_⟩) hHeld ?_ ?_
      rotate_left
      · rintro w' ⟨s0, s1, s2, s3, s4, s5, s6, s7⟩
        go_simp
        with_reducible rfl
      rotate_left
      · simp only [Act.put, List.setIfInBounds_toArray, List.set_cons_zero, List.set_cons_succ, i64_w, i32_w]
        rfl
      refine pure_ (i := 35) (N := some 90) (v := ?_) (a' := ?_) #[true, true, true, true, true, true, true, true, true, true, true, true, true, true, true, true, true, true, true, true, true, true, true, true, true, true, true, true, true, true, true, true, true, true, true, true, false, false] rfl rfl (by kernel_rfl) (fun _ _ _ h => h) (Or.inl ⟨by rfl, ?_⟩) ?_ ?_
      rotate_left
      · intro w'
        go_simp
        with_reducible rfl
      rotate_left
      · simp only [Act.put, List.setIfInBounds_toArray, List.set_cons_zero, List.set_cons_succ, i64_w, i32_w]
        rfl
      refine pure_ (i := 36) (N := some 91) (v := ?_) (a' := ?_) #[true, true, true, true, true, true, true, true, true, true, true, true, true, true, true, true, true, true, true, true, true, true, true, true, true, true, true, true, true, true, true, true, true, true, true, true, true, false] rfl rfl (by kernel_rfl) (fun _ _ _ h => h) (Or.inl ⟨by rfl, ?_⟩) ?_ ?_
      rotate_left
      · intro w'
        go_simp
        with_reducible rfl
      rotate_left
      · simp only [Act.put, List.setIfInBounds_toArray, List.set_cons_zero, List.set_cons_succ, i64_w, i32_w]
        rfl
      refine pure_ (i := 37) (N := some 6) (v := ?_) (a' := ?_) #[true, true, true, true, true, true, true, true, true, true, true, true, true, true, true, true, true, true, true, true, true, true, true, true, true, true, true, true, true, true, true, true, true, true, true, true, true, true] rfl rfl (by kernel_rfl) (fun _ _ _ h => h) (Or.inl ⟨by rfl, ?_⟩) ?_ ?_
      rotate_left
      · intro w'
        go_simp
        with_reducible rfl
      rotate_left
      · simp only [Act.put, List.setIfInBounds_toArray, List.set_cons_zero, List.set_cons_succ, i64_w, i32_w]
        rfl
      refine done_ (by kernel_rfl) ?_
      go_wp2
      go_ret
      exact ⟨rfl, hbw⟩
    · have hML : Hid (clampI (fmul xl c false) = TL) := by rw [← hTL.out]; exact hidI (times_lo hex (by omega)).symm
      have hMH : Hid (clampI (fmul xh c true) = TH) := by rw [← hTH.out]; exact hidI (times_hi hex (by omega)).symm
      clear hTL hTH
      as_aux_lemma =>
      have hxx0 := hx2
      have hxx1 := hx3
      replace hk_x := blk_drew hk_x
      replace hk_y := blk_drew hk_y
      replace hk_p := blk_drew hk_p
      replace hk_t := blk_drew hk_t
      replace ha_b := AccAt.below ha_b (bl_drew (Below.refl _ _))
      replace hbw := bl_drew hbw
      refine start_ (n := 12) (S := fun w' => w'.cell? ⟨gx, 0, none⟩ = some (.int .i64 xl) ∧ w'.cell? ⟨gx, 1, none⟩ = some (.int .i64 xh)) (ds := []) #[false, false, false, false, false, false, false, false, false, false, false, false] (by kernel_rfl) rfl rfl ⟨(blk_cell hk_x 0 (by rfl)), (blk_cell hk_x 1 (by rfl))⟩ (fun hHeld => ?_)
      generalize wc.drew = wn at *
      refine pure_ (i := 0) (N := some 33) (v := ?_) (a' := ?_) #[true, false, false, false, false, false, false, false, false, false, false, false] rfl rfl (by kernel_rfl) (fun _ _ _ h => h) (Or.inl ⟨by rfl, ?_⟩) ?_ ?_
      rotate_left
      · intro w'
        go_simp
        with_reducible rfl
      rotate_left
      · simp only [Act.put, List.setIfInBounds_toArray, List.set_cons_zero, List.set_cons_succ, i64_w, i32_w]
        rfl
      refine pure_ (i := 1) (N := some 34) (v := ?_) (a' := ?_) #[true, true, false, false, false, false, false, false, false, false, false, false] rfl rfl (by kernel_rfl) (fun _ _ _ h => h) (Or.inl ⟨by rfl, ?_⟩) ?_ ?_
      rotate_left
      · intro w'
        go_simp
        with_reducible rfl
      rotate_left
      · simp only [Act.put, List.setIfInBounds_toArray, List.set_cons_zero, List.set_cons_succ, i64_w, i32_w]
        rfl
      refine pure_ (i := 3) (N := some 36) (v := ?_) (a' := ?_) #[true, true, false, true, false, false, false, false, false, false, false, false] rfl rfl (by kernel_rfl) (fun _ _ _ h => h) (Or.inl ⟨by rfl, ?_⟩) ?_ ?_
      rotate_left
      · intro w'
        go_simp
        with_reducible rfl
      rotate_left
      · simp only [Act.put, List.setIfInBounds_toArray, List.set_cons_zero, List.set_cons_succ, i64_w, i32_w]
        rfl
      refine pure_ (i := 5) (N := some 38) (v := ?_) (a' := ?_) #[true, true, false, true, false, true, false, false, false, false, false, false] rfl rfl (by kernel_rfl) (fun _ _ _ h => h) (Or.inl ⟨by rfl, ?_⟩) ?_ ?_
      rotate_left
      · intro w'
        go_simp
        with_reducible rfl
      rotate_left
      · simp only [Act.put, List.setIfInBounds_toArray, List.set_cons_zero, List.set_cons_succ, i64_w, i32_w]
        rfl
      refine pure_ (i := 6) (N := some 39) (v := ?_) (a' := ?_) #[true, true, false, true, false, true, true, false, false, false, false, false] rfl rfl (by kernel_rfl) (fun _ _ _ h => h) (Or.inl ⟨by rfl, ?_⟩) ?_ ?_
      rotate_left
      · intro w'
        go_simp
        with_reducible rfl
      rotate_left
      · simp only [Act.put, List.setIfInBounds_toArray, List.set_cons_zero, List.set_cons_succ, i64_w, i32_w]
        rfl
      refine pure_ (i := 8) (N := some 41) (v := ?_) (a' := ?_) #[true, true, false, true, false, true, true, false, true, false, false, false] rfl rfl (by kernel_rfl) (fun _ _ _ h => h) (Or.inl ⟨by rfl, ?_⟩) ?_ ?_
      rotate_left
      · intro w'
        go_simp
        with_reducible rfl
      rotate_left
      · simp only [Act.put, List.setIfInBounds_toArray, List.set_cons_zero, List.set_cons_succ, i64_w, i32_w]
        rfl
      refine take_ (i := 2) (N := some 35) (v := ?_) (a' := ?_) #[true, true, true, true, false, true, true, false, true, false, false, false] rfl rfl (by kernel_rfl) (fun _ _ _ h => h) (Or.inl ⟨by rfl, ?_⟩) hHeld ?_ ?_
      rotate_left
      · rintro w' ⟨s0, s1⟩
        go_simp
        with_reducible rfl
      rotate_left
      · simp only [Act.put, List.setIfInBounds_toArray, List.set_cons_zero, List.set_cons_succ, i64_w, i32_w]
        rfl
      refine take_ (i := 7) (N := some 40) (v := ?_) (a' := ?_) #[true, true, true, true, false, true, true, true, true, false, false, false] rfl rfl (by kernel_rfl) (fun _ _ _ h => h) (Or.inl ⟨by rfl, ?_⟩) hHeld ?_ ?_
      rotate_left
      · rintro w' ⟨s0, s1⟩
        go_simp
        with_reducible rfl
      rotate_left
      · simp only [Act.put, List.setIfInBounds_toArray, List.set_cons_zero, List.set_cons_succ, i64_w, i32_w]
        rfl
      refine one_ (i := 4) (N := some 37) #[true, true, true, true, true, true, true, true, true, false, false, false] rfl rfl (by kernel_rfl) (by decide) (fun K hK => ?_)
      refine goes_ Try.func37 (by kernel_rfl) rfl #[.pointer (some ⟨gb, 0, none⟩), .int .i64 xl, .int .i64 c, .bool false] (by rfl) rfl rfl (by simp only [List.map_toArray, List.map_cons, List.map_nil] <;> rfl) ?_
      refine (Mul_calls (some ⟨gb, 0, none⟩) xl c false _ _ ha_b hx0 hx1 hc0 hc1).mono ?_
      rintro e wn ⟨rfl, hbn⟩
      refine ⟨_, rfl, ?_⟩
      rw [hML.out]
      replace hk_x := blk_acc hbn hk_x p_b_x
      replace hk_y := blk_acc hbn hk_y p_b_y
      replace hk_p := blk_acc hbn hk_p p_b_p
      replace hk_t := blk_acc hbn hk_t p_b_t
      replace ha_b := AccAt.or ha_b hbn
      replace hbw := bl_own hbw hl_b hbn
      clear hbn
      clear hHeld
      refine hK.out _ _ ⟨(blk_cell hk_x 0 (by rfl)), (blk_cell hk_x 1 (by rfl))⟩ (fun hHeld => ?_)
      clear hK K
      refine norm_ (a' := ?_) ?_ ?_
      rotate_left
      · show Act.put _ (some 37) _ = _
        simp only [Act.put, List.setIfInBounds_toArray, List.set_cons_zero, List.set_cons_succ, i64_w, i32_w]
        rfl
      refine one_ (i := 9) (N := some 42) #[true, true, true, true, true, true, true, true, true, true, false, false] rfl rfl (by kernel_rfl) (by decide) (fun K hK => ?_)
      refine goes_ Try.func37 (by kernel_rfl) rfl #[.pointer (some ⟨gb, 0, none⟩), .int .i64 xh, .int .i64 c, .bool true] (by rfl) rfl rfl (by simp only [List.map_toArray, List.map_cons, List.map_nil] <;> rfl) ?_
      refine (Mul_calls (some ⟨gb, 0, none⟩) xh c true _ _ ha_b hxx0 hxx1 hc0 hc1).mono ?_
      rintro e wn ⟨rfl, hbn⟩
      refine ⟨_, rfl, ?_⟩
      rw [hMH.out]
      replace hk_x := blk_acc hbn hk_x p_b_x
      replace hk_y := blk_acc hbn hk_y p_b_y
      replace hk_p := blk_acc hbn hk_p p_b_p
      replace hk_t := blk_acc hbn hk_t p_b_t
      replace ha_b := AccAt.or ha_b hbn
      replace hbw := bl_own hbw hl_b hbn
      clear hbn
      clear hHeld
      refine hK.out _ _ ⟨(blk_cell hk_x 0 (by rfl)), (blk_cell hk_x 1 (by rfl))⟩ (fun hHeld => ?_)
      clear hK K
      refine norm_ (a' := ?_) ?_ ?_
      rotate_left
      · show Act.put _ (some 42) _ = _
        simp only [Act.put, List.setIfInBounds_toArray, List.set_cons_zero, List.set_cons_succ, i64_w, i32_w]
        rfl
      refine pure_ (i := 10) (N := some 11) (v := ?_) (a' := ?_) #[true, true, true, true, true, true, true, true, true, true, true, false] rfl rfl (by kernel_rfl) (fun _ _ _ h => h) (Or.inl ⟨by rfl, ?_⟩) ?_ ?_
      rotate_left
      · intro w'
        go_simp
        with_reducible rfl
      rotate_left
      · simp only [Act.put, List.setIfInBounds_toArray, List.set_cons_zero, List.set_cons_succ, i64_w, i32_w]
        rfl
      refine pure_ (i := 11) (N := some 12) (v := ?_) (a' := ?_) #[true, true, true, true, true, true, true, true, true, true, true, true] rfl rfl (by kernel_rfl) (fun _ _ _ h => h) (Or.inl ⟨by rfl, ?_⟩) ?_ ?_
      rotate_left
      · intro w'
        go_simp
        with_reducible rfl
      rotate_left
      · simp only [Act.put, List.setIfInBounds_toArray, List.set_cons_zero, List.set_cons_succ, i64_w, i32_w]
        rfl
      refine done_ (by kernel_rfl) ?_
      go_upto_region 8 with fail
      replace hk_x := blk_drew hk_x
      replace hk_y := blk_drew hk_y
      replace hk_p := blk_drew hk_p
      replace hk_t := blk_drew hk_t
      replace ha_b := AccAt.below ha_b (bl_drew (Below.refl _ _))
      replace hbw := bl_drew hbw
      refine start_ (n := 38) (S := fun w' => w'.cell? ⟨gx, 0, none⟩ = some (.int .i64 xl) ∧ w'.cell? ⟨gx, 1, none⟩ = some (.int .i64 xh) ∧ w'.cell? ⟨gy, 0, none⟩ = some (.int .i64 yl) ∧ w'.cell? ⟨gy, 1, none⟩ = some (.int .i64 yh) ∧ w'.cell? ⟨gp, 0, none⟩ = some (.int .i64 PL) ∧ w'.cell? ⟨gp, 1, none⟩ = some (.int .i64 PH) ∧ w'.cell? ⟨gt, 0, none⟩ = some (.int .i64 TL) ∧ w'.cell? ⟨gt, 1, none⟩ = some (.int .i64 TH)) (ds := []) #[false, false, false, false, false, false, false, false, false, false, false, false, false, false, false, false, false, false, false, false, false, false, false, false, false, false, false, false, false, false, false, false, false, false, false, false, false, false] (by kernel_rfl) rfl rfl ⟨(blk_cell hk_x 0 (by rfl)), (blk_cell hk_x 1 (by rfl)), (blk_cell hk_y 0 (by rfl)), (blk_cell hk_y 1 (by rfl)), (blk_cell hk_p 0 (by rfl)), (blk_cell hk_p 1 (by rfl)), (blk_cell hk_t 0 (by rfl)), (blk_cell hk_t 1 (by rfl))⟩ (fun hHeld => ?_)
      generalize wn.drew = wn at *
      refine one_ (i := 0) (N := some 55) #[true, false, false, false, false, false, false, false, false, false, false, false, false, false, false, false, false, false, false, false, false, false, false, false, false, false, false, false, false, false, false, false, false, false, false, false, false, false] rfl rfl (by kernel_rfl) (by decide) (fun K hK => ?_)
      refine goes_ Try.func15 (by kernel_rfl) rfl #[] (by rfl) rfl rfl (by simp only [List.map_toArray, List.map_cons, List.map_nil] <;> rfl) ?_
      refine (alive_calls _).mono ?_
      rintro e wn ⟨rfl, hbn⟩
      refine ⟨_, rfl, ?_⟩
      replace hk_x := bl_block hbn hk_x
      replace hk_y := bl_block hbn hk_y
      replace hk_p := bl_block hbn hk_p
      replace hk_t := bl_block hbn hk_t
      replace ha_b := AccAt.below ha_b hbn
      replace hbw := bl_step hbw hbn
      clear hbn
      clear hHeld
      refine hK.out _ _ ⟨(blk_cell hk_x 0 (by rfl)), (blk_cell hk_x 1 (by rfl)), (blk_cell hk_y 0 (by rfl)), (blk_cell hk_y 1 (by rfl)), (blk_cell hk_p 0 (by rfl)), (blk_cell hk_p 1 (by rfl)), (blk_cell hk_t 0 (by rfl)), (blk_cell hk_t 1 (by rfl))⟩ (fun hHeld => ?_)
      clear hK K
      refine norm_ (a' := ?_) ?_ ?_
      rotate_left
      · show Act.put _ (some 55) _ = _
        simp only [Act.put, List.setIfInBounds_toArray, List.set_cons_zero, List.set_cons_succ, i64_w, i32_w]
        rfl
      refine pure_ (i := 1) (N := some 56) (v := ?_) (a' := ?_) #[true, true, false, false, false, false, false, false, false, false, false, false, false, false, false, false, false, false, false, false, false, false, false, false, false, false, false, false, false, false, false, false, false, false, false, false, false, false] rfl rfl (by kernel_rfl) (fun _ _ _ h => h) (Or.inl ⟨by rfl, ?_⟩) ?_ ?_
      rotate_left
      · intro w'
        go_simp
        with_reducible rfl
      rotate_left
      · simp only [Act.put, List.setIfInBounds_toArray, List.set_cons_zero, List.set_cons_succ, i64_w, i32_w]
        rfl
      refine pure_ (i := 2) (N := some 57) (v := ?_) (a' := ?_) #[true, true, true, false, false, false, false, false, false, false, false, false, false, false, false, false, false, false, false, false, false, false, false, false, false, false, false, false, false, false, false, false, false, false, false, false, false, false] rfl rfl (by kernel_rfl) (fun _ _ _ h => h) (Or.inl ⟨by rfl, ?_⟩) ?_ ?_
      rotate_left
      · intro w'
        go_simp
        with_reducible rfl
      rotate_left
      · simp only [Act.put, List.setIfInBounds_toArray, List.set_cons_zero, List.set_cons_succ, i64_w, i32_w]
        rfl
      refine pure_ (i := 4) (N := some 59) (v := ?_) (a' := ?_) #[true, true, true, false, true, false, false, false, false, false, false, false, false, false, false, false, false, false, false, false, false, false, false, false, false, false, false, false, false, false, false, false, false, false, false, false, false, false] rfl rfl (by kernel_rfl) (fun _ _ _ h => h) (Or.inl ⟨by rfl, ?_⟩) ?_ ?_
      rotate_left
      · intro w'
        go_simp
        with_reducible rfl
      rotate_left
      · simp only [Act.put, List.setIfInBounds_toArray, List.set_cons_zero, List.set_cons_succ, i64_w, i32_w]
        rfl
      refine pure_ (i := 5) (N := some 60) (v := ?_) (a' := ?_) #[true, true, true, false, true, true, false, false, false, false, false, false, false, false, false, false, false, false, false, false, false, false, false, false, false, false, false, false, false, false, false, false, false, false, false, false, false, false] rfl rfl (by kernel_rfl) (fun _ _ _ h => h) (Or.inl ⟨by rfl, ?_⟩) ?_ ?_
      rotate_left
      · intro w'
        go_simp
        with_reducible rfl
      rotate_left
      · simp only [Act.put, List.setIfInBounds_toArray, List.set_cons_zero, List.set_cons_succ, i64_w, i32_w]
        rfl
      refine pure_ (i := 7) (N := some 62) (v := ?_) (a' := ?_) #[true, true, true, false, true, true, false, true, false, false, false, false, false, false, false, false, false, false, false, false, false, false, false, false, false, false, false, false, false, false, false, false, false, false, false, false, false, false] rfl rfl (by kernel_rfl) (fun _ _ _ h => h) (Or.inl ⟨by rfl, ?_⟩) ?_ ?_
      rotate_left
      · intro w'
        go_simp
        with_reducible rfl
      rotate_left
      · simp only [Act.put, List.setIfInBounds_toArray, List.set_cons_zero, List.set_cons_succ, i64_w, i32_w]
        rfl
      refine take_ (i := 3) (N := some 58) (v := ?_) (a' := ?_) #[true, true, true, true, true, true, false, true, false, false, false, false, false, false, false, false, false, false, false, false, false, false, false, false, false, false, false, false, false, false, false, false, false, false, false, false, false, false] rfl rfl (by kernel_rfl) (fun _ _ _ h => h) (Or.inl ⟨by rfl, ?_⟩) hHeld ?_ ?_
      rotate_left
      · rintro w' ⟨s0, s1, s2, s3, s4, s5, s6, s7⟩
        go_simp
        with_reducible rfl
      rotate_left
      · simp only [Act.put, List.setIfInBounds_toArray, List.set_cons_zero, List.set_cons_succ, i64_w, i32_w]
        rfl
      refine take_ (i := 6) (N := some 61) (v := ?_) (a' := ?_) #[true, true, true, true, true, true, true, true, false, false, false, false, false, false, false, false, false, false, false, false, false, false, false, false, false, false, false, false, false, false, false, false, false, false, false, false, false, false] rfl rfl (by kernel_rfl) (fun _ _ _ h => h) (Or.inl ⟨by rfl, ?_⟩) hHeld ?_ ?_
      rotate_left
      · rintro w' ⟨s0, s1, s2, s3, s4, s5, s6, s7⟩
        go_simp
        with_reducible rfl
      rotate_left
      · simp only [Act.put, List.setIfInBounds_toArray, List.set_cons_zero, List.set_cons_succ, i64_w, i32_w]
        rfl
      refine take_ (i := 8) (N := some 63) (v := ?_) (a' := ?_) #[true, true, true, true, true, true, true, true, true, false, false, false, false, false, false, false, false, false, false, false, false, false, false, false, false, false, false, false, false, false, false, false, false, false, false, false, false, false] rfl rfl (by kernel_rfl) (fun _ _ _ h => h) (Or.inl ⟨by rfl, ?_⟩) hHeld ?_ ?_
      rotate_left
      · rintro w' ⟨s0, s1, s2, s3, s4, s5, s6, s7⟩
        go_simp
        with_reducible rfl
      rotate_left
      · simp only [Act.put, List.setIfInBounds_toArray, List.set_cons_zero, List.set_cons_succ, i64_w, i32_w]
        rfl
      refine one_ (i := 9) (N := some 64) #[true, true, true, true, true, true, true, true, true, true, false, false, false, false, false, false, false, false, false, false, false, false, false, false, false, false, false, false, false, false, false, false, false, false, false, false, false, false] rfl rfl (by kernel_rfl) (by decide) (fun K hK => ?_)
      refine value_ (w1 := wn.alloc (.cells #[.int .i64 xl, .int .i64 yl] 3)) (v := .slice (some ⟨wn.heap.size, 0, none⟩) 2 2) (by rfl) rfl ?_ ?_
      · go_simp
        try rfl
      have hk_9 : (wn.alloc (.cells #[.int .i64 xl, .int .i64 yl] 3)).heap[wn.heap.size]? = some (.cells #[.int .i64 xl, .int .i64 yl] 3 (0, 0)) := blk_new wn _
      have hle_9 : w.heap.size ≤ wn.heap.size := hbw.size
      have p_b_9 : PNe (some ⟨gb, 0, none⟩) wn.heap.size := AccAt.ne ha_b (Nat.le_refl _)
      replace hk_x := blk_alloc hk_x (.cells #[.int .i64 xl, .int .i64 yl] 3)
      replace hk_y := blk_alloc hk_y (.cells #[.int .i64 xl, .int .i64 yl] 3)
      replace hk_p := blk_alloc hk_p (.cells #[.int .i64 xl, .int .i64 yl] 3)
      replace hk_t := blk_alloc hk_t (.cells #[.int .i64 xl, .int .i64 yl] 3)
      replace ha_b := AccAt.below ha_b (bl_alloc (Below.refl _ _) (.cells #[.int .i64 xl, .int .i64 yl] 3))
      replace hbw := bl_alloc hbw (.cells #[.int .i64 xl, .int .i64 yl] 3)
      generalize wn.heap.size = g9 at *
      generalize wn.alloc (.cells #[.int .i64 xl, .int .i64 yl] 3) = wn at *
      clear hHeld
      refine hK.out _ _ ⟨(blk_cell hk_x 0 (by rfl)), (blk_cell hk_x 1 (by rfl)), (blk_cell hk_y 0 (by rfl)), (blk_cell hk_y 1 (by rfl)), (blk_cell hk_p 0 (by rfl)), (blk_cell hk_p 1 (by rfl)), (blk_cell hk_t 0 (by rfl)), (blk_cell hk_t 1 (by rfl))⟩ (fun hHeld => ?_)
      clear hK K
      refine norm_ (a' := ?_) ?_ ?_
      rotate_left
      · show Act.put _ (some 64) _ = _
        simp only [Act.put, List.setIfInBounds_toArray, List.set_cons_zero, List.set_cons_succ, i64_w, i32_w]
        rfl
      refine one_ (i := 10) (N := some 65) #[true, true, true, true, true, true, true, true, true, true, true, false, false, false, false, false, false, false, false, false, false, false, false, false, false, false, false, false, false, false, false, false, false, false, false, false, false, false] rfl rfl (by kernel_rfl) (by decide) (fun K hK => ?_)
      refine goes_ Try.func17 (by kernel_rfl) rfl #[.pointer (some ⟨gb, 0, none⟩), .slice (some ⟨g9, 0, none⟩) 2 2] (by rfl) rfl rfl (by simp only [List.map_toArray, List.map_cons, List.map_nil] <;> rfl) ?_
      refine (Add_calls (some ⟨gb, 0, none⟩) (some ⟨g9, 0, none⟩) [xl, yl] 2 _ _ ha_b (RdI.of_blk (l := [xl, yl]) hk_9 (by simp)) hinL).mono ?_
      rintro e wn ⟨rfl, hbn⟩
      refine ⟨_, rfl, ?_⟩
      rw [hSL.out]
      replace hk_x := blk_acc hbn hk_x p_b_x
      replace hk_y := blk_acc hbn hk_y p_b_y
      replace hk_p := blk_acc hbn hk_p p_b_p
      replace hk_t := blk_acc hbn hk_t p_b_t
      replace hk_9 := blk_acc hbn hk_9 p_b_9
      replace ha_b := AccAt.or ha_b hbn
      replace hbw := bl_own hbw hl_b hbn
      clear hbn
      clear hHeld
      refine hK.out _ _ ⟨(blk_cell hk_x 0 (by rfl)), (blk_cell hk_x 1 (by rfl)), (blk_cell hk_y 0 (by rfl)), (blk_cell hk_y 1 (by rfl)), (blk_cell hk_p 0 (by rfl)), (blk_cell hk_p 1 (by rfl)), (blk_cell hk_t 0 (by rfl)), (blk_cell hk_t 1 (by rfl))⟩ (fun hHeld => ?_)
      clear hK K
      refine norm_ (a' := ?_) ?_ ?_
      rotate_left
      · show Act.put _ (some 65) _ = _
        simp only [Act.put, List.setIfInBounds_toArray, List.set_cons_zero, List.set_cons_succ, i64_w, i32_w]
        rfl
      refine pure_ (i := 11) (N := some 66) (v := ?_) (a' := ?_) #[true, true, true, true, true, true, true, true, true, true, true, true, false, false, false, false, false, false, false, false, false, false, false, false, false, false, false, false, false, false, false, false, false, false, false, false, false, false] rfl rfl (by kernel_rfl) (fun _ _ _ h => h) (Or.inl ⟨by rfl, ?_⟩) ?_ ?_
      rotate_left
      · intro w'
        go_simp
        with_reducible rfl
      rotate_left
      · simp only [Act.put, List.setIfInBounds_toArray, List.set_cons_zero, List.set_cons_succ, i64_w, i32_w]
        rfl
      refine pure_ (i := 12) (N := some 67) (v := ?_) (a' := ?_) #[true, true, true, true, true, true, true, true, true, true, true, true, true, false, false, false, false, false, false, false, false, false, false, false, false, false, false, false, false, false, false, false, false, false, false, false, false, false] rfl rfl (by kernel_rfl) (fun _ _ _ h => h) (Or.inl ⟨by rfl, ?_⟩) ?_ ?_
      rotate_left
      · intro w'
        go_simp
        with_reducible rfl
      rotate_left
      · simp only [Act.put, List.setIfInBounds_toArray, List.set_cons_zero, List.set_cons_succ, i64_w, i32_w]
        rfl
      refine pure_ (i := 13) (N := some 68) (v := ?_) (a' := ?_) #[true, true, true, true, true, true, true, true, true, true, true, true, true, true, false, false, false, false, false, false, false, false, false, false, false, false, false, false, false, false, false, false, false, false, false, false, false, false] rfl rfl (by kernel_rfl) (fun _ _ _ h => h) (Or.inl ⟨by rfl, ?_⟩) ?_ ?_
      rotate_left
      · intro w'
        go_simp
        with_reducible rfl
      rotate_left
      · simp only [Act.put, List.setIfInBounds_toArray, List.set_cons_zero, List.set_cons_succ, i64_w, i32_w]
        rfl
      refine pure_ (i := 14) (N := some 69) (v := ?_) (a' := ?_) #[true, true, true, true, true, true, true, true, true, true, true, true, true, true, true, false, false, false, false, false, false, false, false, false, false, false, false, false, false, false, false, false, false, false, false, false, false, false] rfl rfl (by kernel_rfl) (fun _ _ _ h => h) (Or.inl ⟨by rfl, ?_⟩) ?_ ?_
      rotate_left
      · intro w'
        go_simp
        with_reducible rfl
      rotate_left
      · simp only [Act.put, List.setIfInBounds_toArray, List.set_cons_zero, List.set_cons_succ, i64_w, i32_w]
        rfl
      refine pure_ (i := 16) (N := some 71) (v := ?_) (a' := ?_) #[true, true, true, true, true, true, true, true, true, true, true, true, true, true, true, false, true, false, false, false, false, false, false, false, false, false, false, false, false, false, false, false, false, false, false, false, false, false] rfl rfl (by kernel_rfl) (fun _ _ _ h => h) (Or.inl ⟨by rfl, ?_⟩) ?_ ?_
      rotate_left
      · intro w'
        go_simp
        with_reducible rfl
      rotate_left
      · simp only [Act.put, List.setIfInBounds_toArray, List.set_cons_zero, List.set_cons_succ, i64_w, i32_w]
        rfl
      refine pure_ (i := 17) (N := some 72) (v := ?_) (a' := ?_) #[true, true, true, true, true, true, true, true, true, true, true, true, true, true, true, false, true, true, false, false, false, false, false, false, false, false, false, false, false, false, false, false, false, false, false, false, false, false] rfl rfl (by kernel_rfl) (fun _ _ _ h => h) (Or.inl ⟨by rfl, ?_⟩) ?_ ?_
      rotate_left
      · intro w'
        go_simp
        with_reducible rfl
      rotate_left
      · simp only [Act.put, List.setIfInBounds_toArray, List.set_cons_zero, List.set_cons_succ, i64_w, i32_w]
        rfl
      refine pure_ (i := 19) (N := some 74) (v := ?_) (a' := ?_) #[true, true, true, true, true, true, true, true, true, true, true, true, true, true, true, false, true, true, false, true, false, false, false, false, false, false, false, false, false, false, false, false, false, false, false, false, false, false] rfl rfl (by kernel_rfl) (fun _ _ _ h => h) (Or.inl ⟨by rfl, ?_⟩) ?_ ?_
      rotate_left
      · intro w'
        go_simp
        with_reducible rfl
      rotate_left
      · simp only [Act.put, List.setIfInBounds_toArray, List.set_cons_zero, List.set_cons_succ, i64_w, i32_w]
        rfl
      refine take_ (i := 15) (N := some 70) (v := ?_) (a' := ?_) #[true, true, true, true, true, true, true, true, true, true, true, true, true, true, true, true, true, true, false, true, false, false, false, false, false, false, false, false, false, false, false, false, false, false, false, false, false, false] rfl rfl (by kernel_rfl) (fun _ _ _ h => h) (Or.inl ⟨by rfl, ?_⟩) hHeld ?_ ?_
      rotate_left
      · rintro w' ⟨s0, s1, s2, s3, s4, s5, s6, s7⟩
        go_simp
        with_reducible rfl
      rotate_left
      · simp only [Act.put, List.setIfInBounds_toArray, List.set_cons_zero, List.set_cons_succ, i64_w, i32_w]
        rfl
      refine take_ (i := 18) (N := some 73) (v := ?_) (a' := ?_) #[true, true, true, true, true, true, true, true, true, true, true, true, true, true, true, true, true, true, true, true, false, false, false, false, false, false, false, false, false, false, false, false, false, false, false, false, false, false] rfl rfl (by kernel_rfl) (fun _ _ _ h => h) (Or.inl ⟨by rfl, ?_⟩) hHeld ?_ ?_
      rotate_left
      · rintro w' ⟨s0, s1, s2, s3, s4, s5, s6, s7⟩
        go_simp
        with_reducible rfl
      rotate_left
      · simp only [Act.put, List.setIfInBounds_toArray, List.set_cons_zero, List.set_cons_succ, i64_w, i32_w]
        rfl
      refine take_ (i := 20) (N := some 75) (v := ?_) (a' := ?_) #[true, true, true, true, true, true, true, true, true, true, true, true, true, true, true, true, true, true, true, true, true, false, false, false, false, false, false, false, false, false, false, false, false, false, false, false, false, false] rfl rfl (by kernel_rfl) (fun _ _ _ h => h) (Or.inl ⟨by rfl, ?_⟩) hHeld ?_ ?_
      rotate_left
      · rintro w' ⟨s0, s1, s2, s3, s4, s5, s6, s7⟩
        go_simp
        with_reducible rfl
      rotate_left
      · simp only [Act.put, List.setIfInBounds_toArray, List.set_cons_zero, List.set_cons_succ, i64_w, i32_w]
        rfl
      refine one_ (i := 21) (N := some 76) #[true, true, true, true, true, true, true, true, true, true, true, true, true, true, true, true, true, true, true, true, true, true, false, false, false, false, false, false, false, false, false, false, false, false, false, false, false, false] rfl rfl (by kernel_rfl) (by decide) (fun K hK => ?_)
      refine value_ (w1 := wn.alloc (.cells #[.int .i64 xh, .int .i64 yh] 3)) (v := .slice (some ⟨wn.heap.size, 0, none⟩) 2 2) (by rfl) rfl ?_ ?_
      · go_simp
        try rfl
      have hk_21 : (wn.alloc (.cells #[.int .i64 xh, .int .i64 yh] 3)).heap[wn.heap.size]? = some (.cells #[.int .i64 xh, .int .i64 yh] 3 (0, 0)) := blk_new wn _
      have hle_21 : w.heap.size ≤ wn.heap.size := hbw.size
      have p_b_21 : PNe (some ⟨gb, 0, none⟩) wn.heap.size := AccAt.ne ha_b (Nat.le_refl _)
      replace hk_x := blk_alloc hk_x (.cells #[.int .i64 xh, .int .i64 yh] 3)
      replace hk_y := blk_alloc hk_y (.cells #[.int .i64 xh, .int .i64 yh] 3)
      replace hk_p := blk_alloc hk_p (.cells #[.int .i64 xh, .int .i64 yh] 3)
      replace hk_t := blk_alloc hk_t (.cells #[.int .i64 xh, .int .i64 yh] 3)
      replace hk_9 := blk_alloc hk_9 (.cells #[.int .i64 xh, .int .i64 yh] 3)
      replace ha_b := AccAt.below ha_b (bl_alloc (Below.refl _ _) (.cells #[.int .i64 xh, .int .i64 yh] 3))
      replace hbw := bl_alloc hbw (.cells #[.int .i64 xh, .int .i64 yh] 3)
      generalize wn.heap.size = g21 at *
      generalize wn.alloc (.cells #[.int .i64 xh, .int .i64 yh] 3) = wn at *
      clear hHeld
      refine hK.out _ _ ⟨(blk_cell hk_x 0 (by rfl)), (blk_cell hk_x 1 (by rfl)), (blk_cell hk_y 0 (by rfl)), (blk_cell hk_y 1 (by rfl)), (blk_cell hk_p 0 (by rfl)), (blk_cell hk_p 1 (by rfl)), (blk_cell hk_t 0 (by rfl)), (blk_cell hk_t 1 (by rfl))⟩ (fun hHeld => ?_)
      clear hK K
      refine norm_ (a' := ?_) ?_ ?_
      rotate_left
      · show Act.put _ (some 76) _ = _
        simp only [Act.put, List.setIfInBounds_toArray, List.set_cons_zero, List.set_cons_succ, i64_w, i32_w]
        rfl
      refine one_ (i := 22) (N := some 77) #[true, true, true, true, true, true, true, true, true, true, true, true, true, true, true, true, true, true, true, true, true, true, true, false, false, false, false, false, false, false, false, false, false, false, false, false, false, false] rfl rfl (by kernel_rfl) (by decide) (fun K hK => ?_)
      refine goes_ Try.func17 (by kernel_rfl) rfl #[.pointer (some ⟨gb, 0, none⟩), .slice (some ⟨g21, 0, none⟩) 2 2] (by rfl) rfl rfl (by simp only [List.map_toArray, List.map_cons, List.map_nil] <;> rfl) ?_
      refine (Add_calls (some ⟨gb, 0, none⟩) (some ⟨g21, 0, none⟩) [xh, yh] 2 _ _ ha_b (RdI.of_blk (l := [xh, yh]) hk_21 (by simp)) hinH).mono ?_
      rintro e wn ⟨rfl, hbn⟩
      refine ⟨_, rfl, ?_⟩
      rw [hSH.out]
      replace hk_x := blk_acc hbn hk_x p_b_x
      replace hk_y := blk_acc hbn hk_y p_b_y
      replace hk_p := blk_acc hbn hk_p p_b_p
      replace hk_t := blk_acc hbn hk_t p_b_t
      replace hk_9 := blk_acc hbn hk_9 p_b_9
      replace hk_21 := blk_acc hbn hk_21 p_b_21
      replace ha_b := AccAt.or ha_b hbn
      replace hbw := bl_own hbw hl_b hbn
      clear hbn
      clear hHeld
      refine hK.out _ _ ⟨(blk_cell hk_x 0 (by rfl)), (blk_cell hk_x 1 (by rfl)), (blk_cell hk_y 0 (by rfl)), (blk_cell hk_y 1 (by rfl)), (blk_cell hk_p 0 (by rfl)), (blk_cell hk_p 1 (by rfl)), (blk_cell hk_t 0 (by rfl)), (blk_cell hk_t 1 (by rfl))⟩ (fun hHeld => ?_)
      clear hK K
      refine norm_ (a' := ?_) ?_ ?_
      rotate_left
      · show Act.put _ (some 77) _ = _
        simp only [Act.put, List.setIfInBounds_toArray, List.set_cons_zero, List.set_cons_succ, i64_w, i32_w]
        rfl
      refine pure_ (i := 23) (N := some 78) (v := ?_) (a' := ?_) #[true, true, true, true, true, true, true, true, true, true, true, true, true, true, true, true, true, true, true, true, true, true, true, true, false, false, false, false, false, false, false, false, false, false, false, false, false, false] rfl rfl (by kernel_rfl) (fun _ _ _ h => h) (Or.inl ⟨by rfl, ?_⟩) ?_ ?_
      rotate_left
      · intro w'
        go_simp
        with_reducible rfl
      rotate_left
      · simp only [Act.put, List.setIfInBounds_toArray, List.set_cons_zero, List.set_cons_succ, i64_w, i32_w]
        rfl
      refine pure_ (i := 24) (N := some 79) (v := ?_) (a' := ?_) #[true, true, true, true, true, true, true, true, true, true, true, true, true, true, true, true, true, true, true, true, true, true, true, true, true, false, false, false, false, false, false, false, false, false, false, false, false, false] rfl rfl (by kernel_rfl) (fun _ _ _ h => h) (Or.inl ⟨by rfl, ?_⟩) ?_ ?_
      rotate_left
      · intro w'
        go_simp
        with_reducible rfl
      rotate_left
      · simp only [Act.put, List.setIfInBounds_toArray, List.set_cons_zero, List.set_cons_succ, i64_w, i32_w]
        rfl
      refine pure_ (i := 25) (N := some 80) (v := ?_) (a' := ?_) #[true, true, true, true, true, true, true, true, true, true, true, true, true, true, true, true, true, true, true, true, true, true, true, true, true, true, false, false, false, false, false, false, false, false, false, false, false, false] rfl rfl (by kernel_rfl) (fun _ _ _ h => h) (Or.inl ⟨by rfl, ?_⟩) ?_ ?_
      rotate_left
      · intro w'
        go_simp
        with_reducible rfl
      rotate_left
      · simp only [Act.put, List.setIfInBounds_toArray, List.set_cons_zero, List.set_cons_succ, i64_w, i32_w]
        rfl
      refine pure_ (i := 26) (N := some 81) (v := ?_) (a' := ?_) #[true, true, true, true, true, true, true, true, true, true, true, true, true, true, true, true, true, true, true, true, true, true, true, true, true, true, true, false, false, false, false, false, false, false, false, false, false, false] rfl rfl (by kernel_rfl) (fun _ _ _ h => h) (Or.inl ⟨by rfl, ?_⟩) ?_ ?_
      rotate_left
      · intro w'
        go_simp
        with_reducible rfl
      rotate_left
      · simp only [Act.put, List.setIfInBounds_toArray, List.set_cons_zero, List.set_cons_succ, i64_w, i32_w]
        rfl
      refine pure_ (i := 28) (N := some 83) (v := ?_) (a' := ?_) #[true, true, true, true, true, true, true, true, true, true, true, true, true, true, true, true, true, true, true, true, true, true, true, true, true, true, true, false, true, false, false, false, false, false, false, false, false, false] rfl rfl (by kernel_rfl) (fun _ _ _ h => h) (Or.inl ⟨by rfl, ?_⟩) ?_ ?_
      rotate_left
      · intro w'
        go_simp
        with_reducible rfl
      rotate_left
      · simp only [Act.put, List.setIfInBounds_toArray, List.set_cons_zero, List.set_cons_succ, i64_w, i32_w]
        rfl
      refine take_ (i := 27) (N := some 82) (v := ?_) (a' := ?_) #[true, true, true, true, true, true, true, true, true, true, true, true, true, true, true, true, true, true, true, true, true, true, true, true, true, true, true, true, true, false, false, false, false, false, false, false, false, false] rfl rfl (by kernel_rfl) (fun _ _ _ h => h) (Or.inl ⟨by rfl, ?_⟩) hHeld ?_ ?_
      rotate_left
      · rintro w' ⟨s0, s1, s2, s3, s4, s5, s6, s7⟩
        go_simp
        with_reducible rfl
      rotate_left
      · simp only [Act.put, List.setIfInBounds_toArray, List.set_cons_zero, List.set_cons_succ, i64_w, i32_w]
        rfl
      refine pure_ (i := 29) (N := some 84) (v := ?_) (a' := ?_) #[true, true, true, true, true, true, true, true, true, true, true, true, true, true, true, true, true, true, true, true, true, true, true, true, true, true, true, true, true, true, false, false, false, false, false, false, false, false] rfl rfl (by kernel_rfl) (fun _ _ _ h => h) (Or.inl ⟨by rfl, ?_⟩) ?_ ?_
      rotate_left
      · intro w'
        go_simp
        with_reducible rfl
      rotate_left
      · simp only [Act.put, List.setIfInBounds_toArray, List.set_cons_zero, List.set_cons_succ, i64_w, i32_w]
        rfl
      refine pure_ (i := 30) (N := some 85) (v := ?_) (a' := ?_) #[true, true, true, true, true, true, true, true, true, true, true, true, true, true, true, true, true, true, true, true, true, true, true, true, true, true, true, true, true, true, true, false, false, false, false, false, false, false] rfl rfl (by kernel_rfl) (fun _ _ _ h => h) (Or.inl ⟨by rfl, ?_⟩) ?_ ?_
      rotate_left
      · intro w'
        go_simp
        with_reducible rfl
      rotate_left
      · simp only [Act.put, List.setIfInBounds_toArray, List.set_cons_zero, List.set_cons_succ, i64_w, i32_w]
        rfl
      refine pure_ (i := 31) (N := some 86) (v := ?_) (a' := ?_) #[true, true, true, true, true, true, true, true, true, true, true, true, true, true, true, true, true, true, true, true, true, true, true, true, true, true, true, true, true, true, true, true, false, false, false, false, false, false] rfl rfl (by kernel_rfl) (fun _ _ _ h => h) (Or.inl ⟨by rfl, ?_⟩) ?_ ?_
      rotate_left
      · intro w'
        go_simp
        with_reducible rfl
      rotate_left
      · simp only [Act.put, List.setIfInBounds_toArray, List.set_cons_zero, List.set_cons_succ, i64_w, i32_w]
        rfl
      refine pure_ (i := 32) (N := some 87) (v := ?_) (a' := ?_) #[true, true, true, true, true, true, true, true, true, true, true, true, true, true, true, true, true, true, true, true, true, true, true, true, true, true, true, true, true, true, true, true, true, false, false, false, false, false] rfl rfl (by kernel_rfl) (fun _ _ _ h => h) (Or.inl ⟨by rfl, ?_⟩) ?_ ?_
      rotate_left
      · intro w'
        go_simp
        with_reducible rfl
      rotate_left
      · simp only [Act.put, List.setIfInBounds_toArray, List.set_cons_zero, List.set_cons_succ, i64_w, i32_w]
        rfl
      refine pure_ (i := 34) (N := some 89) (v := ?_) (a' := ?_) #[true, true, true, true, true, true, true, true, true, true, true, true, true, true, true, true, true, true, true, true, true, true, true, true, true, true, true, true, true, true, true, true, true, false, true, false, false, false] rfl rfl (by kernel_rfl) (fun _ _ _ h => h) (Or.inl ⟨by rfl, ?_⟩) ?_ ?_
      rotate_left
      · intro w'
        go_simp
        with_reducible rfl
      rotate_left
      · simp only [Act.put, List.setIfInBounds_toArray, List.set_cons_zero, List.set_cons_succ, i64_w, i32_w]
        rfl
      refine take_ (i := 33) (N := some 88) (v := ?_) (a' := ?_) #[true, true, true, true, true, true, true, true, true, true, true, true, true, true, true, true, true, true, true, true, true, true, true, true, true, true, true, true, true, true, true, true, true, true, true, false, false, false] rfl rfl (by kernel_rfl) (fun _ _ _ h => h) (Or.inl ⟨by rfl, ?_⟩) hHeld ?_ ?_
      rotate_left
      · rintro w' ⟨s0, s1, s2, s3, s4, s5, s6, s7⟩
        go_simp
        with_reducible rfl
      rotate_left
      · simp only [Act.put, List.setIfInBounds_toArray, List.set_cons_zero, List.set_cons_succ, i64_w, i32_w]
        rfl
      refine pure_ (i := 35) (N := some 90) (v := ?_) (a' := ?_) #[true, true, true, true, true, true, true, true, true, true, true, true, true, true, true, true, true, true, true, true, true, true, true, true, true, true, true, true, true, true, true, true, true, true, true, true, false, false] rfl rfl (by kernel_rfl) (fun _ _ _ h => h) (Or.inl ⟨by rfl, ?_⟩) ?_ ?_
      rotate_left
      · intro w'
        go_simp
        with_reducible rfl
      rotate_left
      · simp only [Act.put, List.setIfInBounds_toArray, List.set_cons_zero, List.set_cons_succ, i64_w, i32_w]
        rfl
      refine pure_ (i := 36) (N := some 91) (v := ?_) (a' := ?_) #[true, true, true, true, true, true, true, true, true, true, true, true, true, true, true, true, true, true, true, true, true, true, true, true, true, true, true, true, true, true, true, true, true, true, true, true, true, false] rfl rfl (by kernel_rfl) (fun _ _ _ h => h) (Or.inl ⟨by rfl, ?_⟩) ?_ ?_
      rotate_left
      · intro w'
        go_simp
        with_reducible rfl
      rotate_left
      · simp only [Act.put, List.setIfInBounds_toArray, List.set_cons_zero, List.set_cons_succ, i64_w, i32_w]
        rfl
      refine pure_ (i := 37) (N := some 6) (v := ?_) (a' := ?_) #[true, true, true, true, true, true, true, true, true, true, true, true, true, true, true, true, true, true, true, true, true, true, true, true, true, true, true, true, true, true, true, true, true, true, true, true, true, true] rfl rfl (by kernel_rfl) (fun _ _ _ h => h) (Or.inl ⟨by rfl, ?_⟩) ?_ ?_
      rotate_left
      · intro w'
        go_simp
        with_reducible rfl
      rotate_left
      · simp only [Act.put, List.setIfInBounds_toArray, List.set_cons_zero, List.set_cons_succ, i64_w, i32_w]
        rfl
      refine done_ (by kernel_rfl) ?_
      go_wp2
      go_ret
      exact ⟨rfl, hbw⟩
end Go.Proofs.Ytljkhfookegmaaa
