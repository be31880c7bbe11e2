/- Proved here: lemmas and contracts (what a function of the program computes) that the proofs of the laws of this seat lean on. Conditions: as each theorem states. -/
import Derived.Test.YtljkhfookegmaaaSpan9
import Derived.Test.YtljkhfookegmaaaLaw2a
import Derived.Test.YtljkhfookegmaaaM2
import Derived.Test.YtljkhfookegmaaaA3
import Derived.Test.YtljkhfookegmaaaWFour
set_option linter.unusedVariables false
set_option linter.unusedSimpArgs false
namespace Go.Proofs.Ytljkhfookegmaaa
open Go.RowKit Go.Pk Go.Proofs.YtljkhfookegmaaaW.PrintLast
theorem gw_mono {a b c : Int} (h : a ≤ b) (hc : 0 ≤ c) (up : Bool) : fmul a c up ≤ fmul b c up := by
  have k : a * c ≤ b * c := Int.mul_le_mul_of_nonneg_right h hc
  unfold fmul
  split
  · have : -(b * c) / 4294967296 ≤ -(a * c) / 4294967296 := Int.ediv_le_ediv (by omega) (by omega)
    omega
  · exact Int.ediv_le_ediv (by omega) k
theorem gw_anti {a b c : Int} (h : a ≤ b) (hc : c ≤ 0) (up : Bool) : fmul b c up ≤ fmul a c up := by
  have k : b * c ≤ a * c := Int.mul_le_mul_of_nonpos_right h hc
  unfold fmul
  split
  · have : -(a * c) / 4294967296 ≤ -(b * c) / 4294967296 := Int.ediv_le_ediv (by omega) (by omega)
    omega
  · exact Int.ediv_le_ediv (by omega) k
theorem gw_clamp {a b : Int} (h : a ≤ b) : clampI a ≤ clampI b := by unfold clampI; (repeat' split) <;> omega
theorem gw_lo {a u b : Int} (h : a ≤ u) (k : u ≤ b) (v : Int) (up : Bool) : min (clampI (fmul a v up)) (clampI (fmul b v up)) ≤ clampI (fmul u v up) := by
  by_cases hv : 0 ≤ v
  · have := gw_clamp (gw_mono h hv up); omega
  · have := gw_clamp (gw_anti k (show v ≤ 0 by omega) up); omega
theorem gw_hi {a u b : Int} (h : a ≤ u) (k : u ≤ b) (v : Int) (up : Bool) : clampI (fmul u v up) ≤ max (clampI (fmul a v up)) (clampI (fmul b v up)) := by
  by_cases hv : 0 ≤ v
  · have := gw_clamp (gw_mono k hv up); omega
  · have := gw_clamp (gw_anti h (show v ≤ 0 by omega) up); omega
theorem gw_comm (a b : Int) (up : Bool) : fmul a b up = fmul b a up := by unfold fmul; rw [Int.mul_comm]
theorem pr21_lo (a b c : Int) : minL (prodL [a, b] [c] false) = min (clampI (fmul a c false)) (clampI (fmul b c false)) := by
  show minL [clampI (fmul a c false), clampI (fmul b c false)] = _
  rw [minL2, minL1]
theorem pr21_hi (a b c : Int) : maxL (prodL [a, b] [c] true) = max (clampI (fmul a c true)) (clampI (fmul b c true)) := by
  show maxL [clampI (fmul a c true), clampI (fmul b c true)] = _
  rw [maxL2, maxL1]
theorem pr22_lo (a b c d : Int) : minL (prodL [a, b] [c, d] false) = min (min (min (clampI (fmul a c false)) (clampI (fmul a d false))) (clampI (fmul b c false))) (clampI (fmul b d false)) := by
  show minL [clampI (fmul a c false), clampI (fmul a d false), clampI (fmul b c false), clampI (fmul b d false)] = _
  rw [minL2, minL2, minL2, minL1]
theorem pr22_hi (a b c d : Int) : maxL (prodL [a, b] [c, d] true) = max (max (max (clampI (fmul a c true)) (clampI (fmul a d true))) (clampI (fmul b c true))) (clampI (fmul b d true)) := by
  show maxL [clampI (fmul a c true), clampI (fmul a d true), clampI (fmul b c true), clampI (fmul b d true)] = _
  rw [maxL2, maxL2, maxL2, maxL1]
theorem gr_times {xl xh vl vh : Int} (h : vl ≤ xl) (m : xl ≤ xh) (k : xh ≤ vh) (c : Int) : inS ⟨minL (prodL [xl, xh] [c] false), maxL (prodL [xl, xh] [c] true)⟩ ⟨minL (prodL [vl, vh] [c] false), maxL (prodL [vl, vh] [c] true)⟩ = true := by
  rw [in_iff]
  right
  simp only [pr21_lo, pr21_hi]
  have a1 := gw_lo (show vl ≤ xl by omega) (show xl ≤ vh by omega) c false
  have a2 := gw_lo (show vl ≤ xh by omega) (show xh ≤ vh by omega) c false
  have a3 := gw_hi (show vl ≤ xl by omega) (show xl ≤ vh by omega) c true
  have a4 := gw_hi (show vl ≤ xh by omega) (show xh ≤ vh by omega) c true
  omega
theorem gr_cross {xl xh vl vh : Int} (h : vl ≤ xl) (m : xl ≤ xh) (k : xh ≤ vh) (c d : Int) : inS ⟨minL (prodL [xl, xh] [c, d] false), maxL (prodL [xl, xh] [c, d] true)⟩ ⟨minL (prodL [vl, vh] [c, d] false), maxL (prodL [vl, vh] [c, d] true)⟩ = true := by
  rw [in_iff]
  right
  simp only [pr22_lo, pr22_hi]
  have a1 := gw_lo (show vl ≤ xl by omega) (show xl ≤ vh by omega) c false
  have a2 := gw_lo (show vl ≤ xh by omega) (show xh ≤ vh by omega) c false
  have a3 := gw_hi (show vl ≤ xl by omega) (show xl ≤ vh by omega) c true
  have a4 := gw_hi (show vl ≤ xh by omega) (show xh ≤ vh by omega) c true
  have b1 := gw_lo (show vl ≤ xl by omega) (show xl ≤ vh by omega) d false
  have b2 := gw_lo (show vl ≤ xh by omega) (show xh ≤ vh by omega) d false
  have b3 := gw_hi (show vl ≤ xl by omega) (show xl ≤ vh by omega) d true
  have b4 := gw_hi (show vl ≤ xh by omega) (show xh ≤ vh by omega) d true
  omega
theorem gr_two {a b c d : Int} (h : c ≤ a) (k : b ≤ d) : inS ⟨clampI a, clampI b⟩ ⟨clampI c, clampI d⟩ = true := by
  rw [in_iff]; right; exact ⟨gw_clamp h, gw_clamp k⟩
theorem gr_wide (s : Sp) (d : Int) (h0 : -9223372036854775808 ≤ s.lo) (h1 : s.lo ≤ 9223372036854775807) (h2 : -9223372036854775808 ≤ s.hi) (h3 : s.hi ≤ 9223372036854775807) (h : ¬ s.hi < s.lo) : (wideS s d).lo ≤ s.lo ∧ s.hi ≤ (wideS s d).hi ∧ -9223372036854775808 ≤ (wideS s d).lo ∧ (wideS s d).hi ≤ 9223372036854775807 := by
  unfold wideS
  rw [if_neg h]
  have hm : 0 ≤ mxI d 0 := by unfold mxI; split <;> omega
  generalize mxI d 0 = m at *
  unfold clampI
  simp only []
  (repeat' split) <;> omega
set_option maxHeartbeats 100000000 in
set_option maxRecDepth 100000 in
theorem SpanGrows_walk (xl xh yl yh d c : Int) (w : World) (hx0 : -9223372036854775808 ≤ xl) (hx1 : xl ≤ 9223372036854775807) (hx2 : -9223372036854775808 ≤ xh) (hx3 : xh ≤ 9223372036854775807) (hy0 : -9223372036854775808 ≤ yl) (hy1 : yl ≤ 9223372036854775807) (hy2 : -9223372036854775808 ≤ yh) (hy3 : yh ≤ 9223372036854775807) (hd0 : -9223372036854775808 ≤ d) (hd1 : d ≤ 9223372036854775807) (hc0 : -9223372036854775808 ≤ c) (hc1 : c ≤ 9223372036854775807) :
    Calls Try.prog 9 #[.agg #[.int .i64 (xl), .int .i64 (xh)], .agg #[.int .i64 (yl), .int .i64 (yh)], .int .i64 d, .int .i64 c] w fun e w' => e = .returned (.bool true) ∧ Below w.heap.size w w' := by
  by_cases hex : xh < xl
  · have hx : decide (xh < xl) = true := decide_eq_true hex
    have hy : True := trivial
    go_enter Try.func9, Try.ntmps9
    go_upto_region 1 with fail
    have hk_x : ((w.alloc (.cells #[.int .i64 xl, .int .i64 xh] 23)).alloc (.cells #[.int .i64 yl, .int .i64 yh] 23)).heap[w.heap.size]? = some (.cells #[.int .i64 xl, .int .i64 xh] 23 (0, 0)) := (by (repeat (first | with_reducible assumption | with_reducible exact blk_new _ _ | with_reducible apply blk_drew | (with_reducible refine blk_newE ?_; (first | done | (simp; done))) | with_reducible apply blk_put2 | (with_reducible refine blk_far ?_ (by first | omega | (simp; done) | (simp; omega)) _) | with_reducible apply blk_alloc | (with_reducible refine bl_block (by assumption) ?_) | (with_reducible refine blk_grown ?_ (by assumption) (by assumption)) | (with_reducible refine blk_acc (by assumption) ?_ (by assumption)))))
    have hk_y : ((w.alloc (.cells #[.int .i64 xl, .int .i64 xh] 23)).alloc (.cells #[.int .i64 yl, .int .i64 yh] 23)).heap[w.heap.size + 1]? = some (.cells #[.int .i64 yl, .int .i64 yh] 23 (0, 0)) := (by (repeat (first | with_reducible assumption | with_reducible exact blk_new _ _ | with_reducible apply blk_drew | (with_reducible refine blk_newE ?_; (first | done | (simp; done))) | with_reducible apply blk_put2 | (with_reducible refine blk_far ?_ (by first | omega | (simp; done) | (simp; omega)) _) | with_reducible apply blk_alloc | (with_reducible refine bl_block (by assumption) ?_) | (with_reducible refine blk_grown ?_ (by assumption) (by assumption)) | (with_reducible refine blk_acc (by assumption) ?_ (by assumption)))))
    have hbw : Below w.heap.size w ((w.alloc (.cells #[.int .i64 xl, .int .i64 xh] 23)).alloc (.cells #[.int .i64 yl, .int .i64 yh] 23)) := (by (repeat (first | with_reducible exact Below.refl _ _ | with_reducible assumption | with_reducible apply bl_alloc | with_reducible apply bl_drew | with_reducible apply bl_drewN | (with_reducible refine bl_set ?_ (by first | omega | (simp; done) | (simp; omega)) _) | (with_reducible refine bl_step ?_ (by assumption)) | (with_reducible refine bl_grown ?_ (by assumption) (by assumption)) | (with_reducible refine bl_own ?_ (by assumption) (by assumption)))))
    generalize (w.alloc (.cells #[.int .i64 xl, .int .i64 xh] 23)).alloc (.cells #[.int .i64 yl, .int .i64 yh] 23) = W at *
    have m0 := blk_two hk_x
    have m1 := blk_two hk_y
    go_wp2_with (first | (go_at_call 13; refine (Empty_calls _ _ _).mono ?_; rintro e wn ⟨rfl, hbn⟩; (first | rw [hx] | rw [hy]); replace hk_x : wn.heap[w.heap.size]? = some (.cells #[.int .i64 xl, .int .i64 xh] 23 (0, 0)) := bl_block hbn hk_x; replace hk_y : wn.heap[w.heap.size + 1]? = some (.cells #[.int .i64 yl, .int .i64 yh] 23 (0, 0)) := bl_block hbn hk_y; replace hbw : Below w.heap.size w wn := bl_step hbw hbn; clear hbn m0 m1; have m0 := blk_two hk_x; have m1 := blk_two hk_y) | fail)
    refine (alive_calls _).mono ?_
    rintro e w9 ⟨rfl, hb9⟩
    go_wp2
    go_ret
    exact ⟨rfl, bl_step hbw hb9⟩
  have hx : decide (xh < xl) = false := decide_eq_false hex
  by_cases hey : yh < yl
  · have hy : decide (yh < yl) = true := decide_eq_true hey
    go_enter Try.func9, Try.ntmps9
    go_upto_region 1 with fail
    have hk_x : ((w.alloc (.cells #[.int .i64 xl, .int .i64 xh] 23)).alloc (.cells #[.int .i64 yl, .int .i64 yh] 23)).heap[w.heap.size]? = some (.cells #[.int .i64 xl, .int .i64 xh] 23 (0, 0)) := (by (repeat (first | with_reducible assumption | with_reducible exact blk_new _ _ | with_reducible apply blk_drew | (with_reducible refine blk_newE ?_; (first | done | (simp; done))) | with_reducible apply blk_put2 | (with_reducible refine blk_far ?_ (by first | omega | (simp; done) | (simp; omega)) _) | with_reducible apply blk_alloc | (with_reducible refine bl_block (by assumption) ?_) | (with_reducible refine blk_grown ?_ (by assumption) (by assumption)) | (with_reducible refine blk_acc (by assumption) ?_ (by assumption)))))
    have hk_y : ((w.alloc (.cells #[.int .i64 xl, .int .i64 xh] 23)).alloc (.cells #[.int .i64 yl, .int .i64 yh] 23)).heap[w.heap.size + 1]? = some (.cells #[.int .i64 yl, .int .i64 yh] 23 (0, 0)) := (by (repeat (first | with_reducible assumption | with_reducible exact blk_new _ _ | with_reducible apply blk_drew | (with_reducible refine blk_newE ?_; (first | done | (simp; done))) | with_reducible apply blk_put2 | (with_reducible refine blk_far ?_ (by first | omega | (simp; done) | (simp; omega)) _) | with_reducible apply blk_alloc | (with_reducible refine bl_block (by assumption) ?_) | (with_reducible refine blk_grown ?_ (by assumption) (by assumption)) | (with_reducible refine blk_acc (by assumption) ?_ (by assumption)))))
    have hbw : Below w.heap.size w ((w.alloc (.cells #[.int .i64 xl, .int .i64 xh] 23)).alloc (.cells #[.int .i64 yl, .int .i64 yh] 23)) := (by (repeat (first | with_reducible exact Below.refl _ _ | with_reducible assumption | with_reducible apply bl_alloc | with_reducible apply bl_drew | with_reducible apply bl_drewN | (with_reducible refine bl_set ?_ (by first | omega | (simp; done) | (simp; omega)) _) | (with_reducible refine bl_step ?_ (by assumption)) | (with_reducible refine bl_grown ?_ (by assumption) (by assumption)) | (with_reducible refine bl_own ?_ (by assumption) (by assumption)))))
    generalize (w.alloc (.cells #[.int .i64 xl, .int .i64 xh] 23)).alloc (.cells #[.int .i64 yl, .int .i64 yh] 23) = W at *
    have m0 := blk_two hk_x
    have m1 := blk_two hk_y
    go_wp2_with (first | (go_at_call 13; refine (Empty_calls _ _ _).mono ?_; rintro e wn ⟨rfl, hbn⟩; (first | rw [hx] | rw [hy]); replace hk_x : wn.heap[w.heap.size]? = some (.cells #[.int .i64 xl, .int .i64 xh] 23 (0, 0)) := bl_block hbn hk_x; replace hk_y : wn.heap[w.heap.size + 1]? = some (.cells #[.int .i64 yl, .int .i64 yh] 23 (0, 0)) := bl_block hbn hk_y; replace hbw : Below w.heap.size w wn := bl_step hbw hbn; clear hbn m0 m1; have m0 := blk_two hk_x; have m1 := blk_two hk_y) | fail)
    refine (alive_calls _).mono ?_
    rintro e w9 ⟨rfl, hb9⟩
    go_wp2
    go_ret
    exact ⟨rfl, bl_step hbw hb9⟩
  have hy : decide (yh < yl) = false := decide_eq_false hey
  obtain ⟨v1, v2, v3, v4⟩ := gr_wide ⟨xl, xh⟩ d hx0 hx1 hx2 hx3 hex
  generalize hV : wideS ⟨xl, xh⟩ d = V at *
  obtain ⟨vl, vh⟩ := V
  replace hV := hidI hV
  simp only [] at v1 v2 v3 v4
  have vl1 : vl ≤ 9223372036854775807 := by omega
  have vh0 : -9223372036854775808 ≤ vh := by omega
  have hvn : ¬ vh < vl := by omega
  have i1 : inS ⟨clampI (plusLo [⟨xl, xh⟩, ⟨yl, yh⟩]), clampI (plusHi [⟨xl, xh⟩, ⟨yl, yh⟩])⟩ ⟨clampI (plusLo [⟨vl, vh⟩, ⟨yl, yh⟩]), clampI (plusHi [⟨vl, vh⟩, ⟨yl, yh⟩])⟩ = true := by
    refine gr_two ?_ ?_
    · show 0 + vl + yl ≤ 0 + xl + yl; omega
    · show 0 + xh + yh ≤ 0 + vh + yh; omega
  have i2 : inS ⟨clampI (xl - yh), clampI (xh - yl)⟩ ⟨clampI (vl - yh), clampI (vh - yl)⟩ = true := gr_two (by omega) (by omega)
  have i3 : inS ⟨clampI (yl - xh), clampI (yh - xl)⟩ ⟨clampI (yl - vh), clampI (yh - vl)⟩ = true := gr_two (by omega) (by omega)
  have i4 := gr_times v1 (show xl ≤ xh by omega) v2 c
  have i5 := gr_cross v1 (show xl ≤ xh by omega) v2 yl yh
  obtain ⟨n1a, h1a⟩ : ∃ z, Hid (clampI (plusLo [⟨xl, xh⟩, ⟨yl, yh⟩]) = z) := ⟨clampI (plusLo [⟨xl, xh⟩, ⟨yl, yh⟩]), rfl⟩
  obtain ⟨n1b, h1b⟩ : ∃ z, Hid (clampI (plusHi [⟨xl, xh⟩, ⟨yl, yh⟩]) = z) := ⟨clampI (plusHi [⟨xl, xh⟩, ⟨yl, yh⟩]), rfl⟩
  obtain ⟨n1c, h1c⟩ : ∃ z, Hid (clampI (plusLo [⟨vl, vh⟩, ⟨yl, yh⟩]) = z) := ⟨clampI (plusLo [⟨vl, vh⟩, ⟨yl, yh⟩]), rfl⟩
  obtain ⟨n1d, h1d⟩ : ∃ z, Hid (clampI (plusHi [⟨vl, vh⟩, ⟨yl, yh⟩]) = z) := ⟨clampI (plusHi [⟨vl, vh⟩, ⟨yl, yh⟩]), rfl⟩
  rw [h1a.out, h1b.out, h1c.out, h1d.out] at i1
  obtain ⟨n2a, h2a⟩ : ∃ z, Hid (clampI (xl - yh) = z) := ⟨clampI (xl - yh), rfl⟩
  obtain ⟨n2b, h2b⟩ : ∃ z, Hid (clampI (xh - yl) = z) := ⟨clampI (xh - yl), rfl⟩
  obtain ⟨n2c, h2c⟩ : ∃ z, Hid (clampI (vl - yh) = z) := ⟨clampI (vl - yh), rfl⟩
  obtain ⟨n2d, h2d⟩ : ∃ z, Hid (clampI (vh - yl) = z) := ⟨clampI (vh - yl), rfl⟩
  rw [h2a.out, h2b.out, h2c.out, h2d.out] at i2
  obtain ⟨n3a, h3a⟩ : ∃ z, Hid (clampI (yl - xh) = z) := ⟨clampI (yl - xh), rfl⟩
  obtain ⟨n3b, h3b⟩ : ∃ z, Hid (clampI (yh - xl) = z) := ⟨clampI (yh - xl), rfl⟩
  obtain ⟨n3c, h3c⟩ : ∃ z, Hid (clampI (yl - vh) = z) := ⟨clampI (yl - vh), rfl⟩
  obtain ⟨n3d, h3d⟩ : ∃ z, Hid (clampI (yh - vl) = z) := ⟨clampI (yh - vl), rfl⟩
  rw [h3a.out, h3b.out, h3c.out, h3d.out] at i3
  obtain ⟨n4a, h4a⟩ : ∃ z, Hid (minL (prodL [xl, xh] [c] false) = z) := ⟨minL (prodL [xl, xh] [c] false), rfl⟩
  obtain ⟨n4b, h4b⟩ : ∃ z, Hid (maxL (prodL [xl, xh] [c] true) = z) := ⟨maxL (prodL [xl, xh] [c] true), rfl⟩
  obtain ⟨n4c, h4c⟩ : ∃ z, Hid (minL (prodL [vl, vh] [c] false) = z) := ⟨minL (prodL [vl, vh] [c] false), rfl⟩
  obtain ⟨n4d, h4d⟩ : ∃ z, Hid (maxL (prodL [vl, vh] [c] true) = z) := ⟨maxL (prodL [vl, vh] [c] true), rfl⟩
  rw [h4a.out, h4b.out, h4c.out, h4d.out] at i4
  obtain ⟨n5a, h5a⟩ : ∃ z, Hid (minL (prodL [xl, xh] [yl, yh] false) = z) := ⟨minL (prodL [xl, xh] [yl, yh] false), rfl⟩
  obtain ⟨n5b, h5b⟩ : ∃ z, Hid (maxL (prodL [xl, xh] [yl, yh] true) = z) := ⟨maxL (prodL [xl, xh] [yl, yh] true), rfl⟩
  obtain ⟨n5c, h5c⟩ : ∃ z, Hid (minL (prodL [vl, vh] [yl, yh] false) = z) := ⟨minL (prodL [vl, vh] [yl, yh] false), rfl⟩
  obtain ⟨n5d, h5d⟩ : ∃ z, Hid (maxL (prodL [vl, vh] [yl, yh] true) = z) := ⟨maxL (prodL [vl, vh] [yl, yh] true), rfl⟩
  rw [h5a.out, h5b.out, h5c.out, h5d.out] at i5
  have hsxy : someB [⟨xl, xh⟩, ⟨yl, yh⟩] = true := by rw [someB_cons, someB_cons, someB_nil]; simp only [hx, hy]; rfl
  have hsyx : someB [⟨yl, yh⟩, ⟨xl, xh⟩] = true := by rw [someB_cons, someB_cons, someB_nil]; simp only [hx, hy]; rfl
  have hv : decide (vh < vl) = false := decide_eq_false hvn
  have hsvy : someB [⟨vl, vh⟩, ⟨yl, yh⟩] = true := by rw [someB_cons, someB_cons, someB_nil]; simp only [hv, hy]; rfl
  have hsyv : someB [⟨yl, yh⟩, ⟨vl, vh⟩] = true := by rw [someB_cons, someB_cons, someB_nil]; simp only [hv, hy]; rfl
  have hixy : InS [⟨xl, xh⟩, ⟨yl, yh⟩] := by intro s hs; simp only [List.mem_cons, List.not_mem_nil, or_false] at hs; rcases hs with rfl | rfl <;> simp only [] <;> omega
  have hiyx : InS [⟨yl, yh⟩, ⟨xl, xh⟩] := by intro s hs; simp only [List.mem_cons, List.not_mem_nil, or_false] at hs; rcases hs with rfl | rfl <;> simp only [] <;> omega
  have hivy : InS [⟨vl, vh⟩, ⟨yl, yh⟩] := by intro s hs; simp only [List.mem_cons, List.not_mem_nil, or_false] at hs; rcases hs with rfl | rfl <;> simp only [] <;> omega
  have hiyv : InS [⟨yl, yh⟩, ⟨vl, vh⟩] := by intro s hs; simp only [List.mem_cons, List.not_mem_nil, or_false] at hs; rcases hs with rfl | rfl <;> simp only [] <;> omega
  clear hv v1 v2
  go_enter Try.func9, Try.ntmps9
  go_upto_region 1 with fail
  have hk_x : ((w.alloc (.cells #[.int .i64 xl, .int .i64 xh] 23)).alloc (.cells #[.int .i64 yl, .int .i64 yh] 23)).heap[w.heap.size]? = some (.cells #[.int .i64 xl, .int .i64 xh] 23 (0, 0)) := (by (repeat (first | with_reducible assumption | with_reducible exact blk_new _ _ | with_reducible apply blk_drew | (with_reducible refine blk_newE ?_; (first | done | (simp; done))) | with_reducible apply blk_put2 | (with_reducible refine blk_far ?_ (by first | omega | (simp; done) | (simp; omega)) _) | with_reducible apply blk_alloc | (with_reducible refine bl_block (by assumption) ?_) | (with_reducible refine blk_grown ?_ (by assumption) (by assumption)) | (with_reducible refine blk_acc (by assumption) ?_ (by assumption)))))
  have hk_y : ((w.alloc (.cells #[.int .i64 xl, .int .i64 xh] 23)).alloc (.cells #[.int .i64 yl, .int .i64 yh] 23)).heap[w.heap.size + 1]? = some (.cells #[.int .i64 yl, .int .i64 yh] 23 (0, 0)) := (by (repeat (first | with_reducible assumption | with_reducible exact blk_new _ _ | with_reducible apply blk_drew | (with_reducible refine blk_newE ?_; (first | done | (simp; done))) | with_reducible apply blk_put2 | (with_reducible refine blk_far ?_ (by first | omega | (simp; done) | (simp; omega)) _) | with_reducible apply blk_alloc | (with_reducible refine bl_block (by assumption) ?_) | (with_reducible refine blk_grown ?_ (by assumption) (by assumption)) | (with_reducible refine blk_acc (by assumption) ?_ (by assumption)))))
  have hbw : Below w.heap.size w ((w.alloc (.cells #[.int .i64 xl, .int .i64 xh] 23)).alloc (.cells #[.int .i64 yl, .int .i64 yh] 23)) := (by (repeat (first | with_reducible exact Below.refl _ _ | with_reducible assumption | with_reducible apply bl_alloc | with_reducible apply bl_drew | with_reducible apply bl_drewN | (with_reducible refine bl_set ?_ (by first | omega | (simp; done) | (simp; omega)) _) | (with_reducible refine bl_step ?_ (by assumption)) | (with_reducible refine bl_grown ?_ (by assumption) (by assumption)) | (with_reducible refine bl_own ?_ (by assumption) (by assumption)))))
  generalize (w.alloc (.cells #[.int .i64 xl, .int .i64 xh] 23)).alloc (.cells #[.int .i64 yl, .int .i64 yh] 23) = W at *
  have m0 := blk_two hk_x
  have m1 := blk_two hk_y
  go_upto_region 4 with (first | (go_at_call 13; refine (Empty_calls _ _ _).mono ?_; rintro e wn ⟨rfl, hbn⟩; (first | rw [hx] | rw [hy]); replace hk_x : wn.heap[w.heap.size]? = some (.cells #[.int .i64 xl, .int .i64 xh] 23 (0, 0)) := bl_block hbn hk_x; replace hk_y : wn.heap[w.heap.size + 1]? = some (.cells #[.int .i64 yl, .int .i64 yh] 23 (0, 0)) := bl_block hbn hk_y; replace hbw : Below w.heap.size w wn := bl_step hbw hbn; clear hbn m0 m1; have m0 := blk_two hk_x; have m1 := blk_two hk_y) | fail)
  have hka := blk_new wn (.cells #[.bool false] 50)
  have ha_a := AccAt.blk hka
  have p_a_x : PNe (some ⟨wn.heap.size, 0, none⟩) w.heap.size := PNe.of (Nat.ne_of_gt (blk_lt hk_x))
  have p_a_y : PNe (some ⟨wn.heap.size, 0, none⟩) (w.heap.size + 1) := PNe.of (Nat.ne_of_gt (blk_lt hk_y))
  have hl_a : w.heap.size ≤ (⟨wn.heap.size, 0, none⟩ : Addr).block := hbw.size
  replace hk_x := blk_alloc hk_x (.cells #[.bool false] 50)
  replace hk_y := blk_alloc hk_y (.cells #[.bool false] 50)
  replace hbw := bl_alloc hbw (.cells #[.bool false] 50)
  clear hka m0 m1
  generalize wn.alloc (.cells #[.bool false] 50) = W1 at *
  generalize wn.heap.size = ga at *
  generalize w.heap.size + 1 = gy at *
  obtain ⟨gx, hgx⟩ : ∃ g, g = w.heap.size := ⟨_, rfl⟩
  rw [← hgx] at hk_x p_a_x ⊢
  clear hgx
  have m0 := blk_two hk_x
  have m1 := blk_two hk_y
  go_wp2_with fail
  refine (Wide_calls xl xh d _ hx0 hx1 hx2 hx3 hd0 hd1).mono ?_
  rintro e w2 ⟨rfl, hb2⟩
  rw [hV.out]
  replace hk_x := bl_block hb2 hk_x
  replace hk_y := bl_block hb2 hk_y
  replace ha_a := AccAt.below ha_a hb2
  replace hbw := bl_step hbw hb2
  clear hb2 m0 m1 hV
  have p_a_v : PNe (some ⟨ga, 0, none⟩) w2.heap.size := AccAt.ne ha_a (Nat.le_refl _)
  go_upto_region 5 with fail
  have hk_v : (w2.alloc (.cells #[.int .i64 vl, .int .i64 vh] 23)).heap[w2.heap.size]? = some (.cells #[.int .i64 vl, .int .i64 vh] 23 (0, 0)) := blk_new _ _
  replace ha_a := AccAt.below ha_a (bl_alloc (Below.refl _ _) (.cells #[.int .i64 vl, .int .i64 vh] 23))
  replace hk_x := blk_alloc hk_x (.cells #[.int .i64 vl, .int .i64 vh] 23)
  replace hk_y := blk_alloc hk_y (.cells #[.int .i64 vl, .int .i64 vh] 23)
  replace hbw := bl_alloc hbw (.cells #[.int .i64 vl, .int .i64 vh] 23)
  generalize w2.alloc (.cells #[.int .i64 vl, .int .i64 vh] 23) = W2 at *
  generalize w2.heap.size = gv at *
  clear W1
  as_aux_lemma =>
  replace hex : ¬ xh < xl := of_decide_eq_false hx
  replace hvn : ¬ vh < vl := fun h => absurd h (by omega)
  apply cutB
  intro hJ0
  apply cutB
  intro hJ1
  · skip
    replace hk_x := blk_drew hk_x
    replace hk_y := blk_drew hk_y
    replace hk_v := blk_drew hk_v
    replace ha_a := AccAt.below ha_a (bl_drew (Below.refl _ _))
    replace hbw := bl_drew hbw
    refine start_ (n := 59) (S := fun w' => w'.cell? ⟨gx, 0, none⟩ = some (.int .i64 xl) ∧ w'.cell? ⟨gx, 1, none⟩ = some (.int .i64 xh) ∧ w'.cell? ⟨gy, 0, none⟩ = some (.int .i64 yl) ∧ w'.cell? ⟨gy, 1, none⟩ = some (.int .i64 yh) ∧ w'.cell? ⟨gv, 0, none⟩ = some (.int .i64 vl) ∧ w'.cell? ⟨gv, 1, none⟩ = some (.int .i64 vh)) (ds := []) #[false, false, false, false, false, false, false, false, false, false, false, false, false, false, false, false, false, false, false, false, false, false, false, false, false, false, false, false, false, false, false, false, false, false, false, false, false, false, false, false, false, false, false, false, false, false, false, false, false, false, false, false, false, false, false, false, false, false, false] (by kernel_rfl) rfl rfl ⟨(blk_cell hk_x 0 (by rfl)), (blk_cell hk_x 1 (by rfl)), (blk_cell hk_y 0 (by rfl)), (blk_cell hk_y 1 (by rfl)), (blk_cell hk_v 0 (by rfl)), (blk_cell hk_v 1 (by rfl))⟩ (fun hHeld => ?_)
    generalize W2.drew = wn at *
    refine one_ (i := 0) (N := some 23) #[true, false, false, false, false, false, false, false, false, false, false, false, false, false, false, false, false, false, false, false, false, false, false, false, false, false, false, false, false, false, false, false, false, false, false, false, false, false, false, false, false, false, false, false, false, false, false, false, false, false, false, false, false, false, false, false, false, false, false] rfl rfl (by kernel_rfl) (by decide) (fun K hK => ?_)
    refine goes_ Try.func15 (by kernel_rfl) rfl #[] (by rfl) rfl rfl (by simp only [List.map_toArray, List.map_cons, List.map_nil] <;> rfl) ?_
    refine (alive_calls _).mono ?_
    rintro e wn ⟨rfl, hbn⟩
    refine ⟨_, rfl, ?_⟩
    replace hk_x := bl_block hbn hk_x
    replace hk_y := bl_block hbn hk_y
    replace hk_v := bl_block hbn hk_v
    replace ha_a := AccAt.below ha_a hbn
    replace hbw := bl_step hbw hbn
    clear hbn
    clear hHeld
    refine hK.out _ _ ⟨(blk_cell hk_x 0 (by rfl)), (blk_cell hk_x 1 (by rfl)), (blk_cell hk_y 0 (by rfl)), (blk_cell hk_y 1 (by rfl)), (blk_cell hk_v 0 (by rfl)), (blk_cell hk_v 1 (by rfl))⟩ (fun hHeld => ?_)
    clear hK K
    refine norm_ (a' := ?_) ?_ ?_
    rotate_left
    · show Act.put _ (some 23) _ = _
      simp only [Act.put, List.setIfInBounds_toArray, List.set_cons_zero, List.set_cons_succ, i64_w, i32_w]
      rfl
    refine pure_ (i := 1) (N := some 24) (v := ?_) (a' := ?_) #[true, true, false, false, false, false, false, false, false, false, false, false, false, false, false, false, false, false, false, false, false, false, false, false, false, false, false, false, false, false, false, false, false, false, false, false, false, false, false, false, false, false, false, false, false, false, false, false, false, false, false, false, false, false, false, false, false, false, false] rfl rfl (by kernel_rfl) (fun _ _ _ h => h) (Or.inl ⟨by rfl, ?_⟩) ?_ ?_
    rotate_left
    · intro w'
      go_simp
      with_reducible rfl
    rotate_left
    · simp only [Act.put, List.setIfInBounds_toArray, List.set_cons_zero, List.set_cons_succ, i64_w, i32_w]
      rfl
    refine pure_ (i := 2) (N := some 25) (v := ?_) (a' := ?_) #[true, true, true, false, false, false, false, false, false, false, false, false, false, false, false, false, false, false, false, false, false, false, false, false, false, false, false, false, false, false, false, false, false, false, false, false, false, false, false, false, false, false, false, false, false, false, false, false, false, false, false, false, false, false, false, false, false, false, false] rfl rfl (by kernel_rfl) (fun _ _ _ h => h) (Or.inl ⟨by rfl, ?_⟩) ?_ ?_
    rotate_left
    · intro w'
      go_simp
      with_reducible rfl
    rotate_left
    · simp only [Act.put, List.setIfInBounds_toArray, List.set_cons_zero, List.set_cons_succ, i64_w, i32_w]
      rfl
    refine pure_ (i := 7) (N := some 30) (v := ?_) (a' := ?_) #[true, true, true, false, false, false, false, true, false, false, false, false, false, false, false, false, false, false, false, false, false, false, false, false, false, false, false, false, false, false, false, false, false, false, false, false, false, false, false, false, false, false, false, false, false, false, false, false, false, false, false, false, false, false, false, false, false, false, false] rfl rfl (by kernel_rfl) (fun _ _ _ h => h) (Or.inl ⟨by rfl, ?_⟩) ?_ ?_
    rotate_left
    · intro w'
      go_simp
      with_reducible rfl
    rotate_left
    · simp only [Act.put, List.setIfInBounds_toArray, List.set_cons_zero, List.set_cons_succ, i64_w, i32_w]
      rfl
    refine take_ (i := 3) (N := some 26) (v := ?_) (a' := ?_) #[true, true, true, true, false, false, false, true, false, false, false, false, false, false, false, false, false, false, false, false, false, false, false, false, false, false, false, false, false, false, false, false, false, false, false, false, false, false, false, false, false, false, false, false, false, false, false, false, false, false, false, false, false, false, false, false, false, false, false] rfl rfl (by kernel_rfl) (fun _ _ _ h => h) (Or.inl ⟨by rfl, ?_⟩) hHeld ?_ ?_
    rotate_left
    · rintro w' ⟨s0, s1, s2, s3, s4, s5⟩
      go_simp
      with_reducible rfl
    rotate_left
    · simp only [Act.put, List.setIfInBounds_toArray, List.set_cons_zero, List.set_cons_succ, i64_w, i32_w]
      rfl
    refine take_ (i := 4) (N := some 27) (v := ?_) (a' := ?_) #[true, true, true, true, true, false, false, true, false, false, false, false, false, false, false, false, false, false, false, false, false, false, false, false, false, false, false, false, false, false, false, false, false, false, false, false, false, false, false, false, false, false, false, false, false, false, false, false, false, false, false, false, false, false, false, false, false, false, false] rfl rfl (by kernel_rfl) (fun _ _ _ h => h) (Or.inl ⟨by rfl, ?_⟩) hHeld ?_ ?_
    rotate_left
    · rintro w' ⟨s0, s1, s2, s3, s4, s5⟩
      go_simp
      with_reducible rfl
    rotate_left
    · simp only [Act.put, List.setIfInBounds_toArray, List.set_cons_zero, List.set_cons_succ, i64_w, i32_w]
      rfl
    refine take_ (i := 8) (N := some 31) (v := ?_) (a' := ?_) #[true, true, true, true, true, false, false, true, true, false, false, false, false, false, false, false, false, false, false, false, false, false, false, false, false, false, false, false, false, false, false, false, false, false, false, false, false, false, false, false, false, false, false, false, false, false, false, false, false, false, false, false, false, false, false, false, false, false, false] rfl rfl (by kernel_rfl) (fun _ _ _ h => h) (Or.inl ⟨by rfl, ?_⟩) hHeld ?_ ?_
    rotate_left
    · rintro w' ⟨s0, s1, s2, s3, s4, s5⟩
      go_simp
      with_reducible rfl
    rotate_left
    · simp only [Act.put, List.setIfInBounds_toArray, List.set_cons_zero, List.set_cons_succ, i64_w, i32_w]
      rfl
    refine take_ (i := 9) (N := some 32) (v := ?_) (a' := ?_) #[true, true, true, true, true, false, false, true, true, true, false, false, false, false, false, false, false, false, false, false, false, false, false, false, false, false, false, false, false, false, false, false, false, false, false, false, false, false, false, false, false, false, false, false, false, false, false, false, false, false, false, false, false, false, false, false, false, false, false] rfl rfl (by kernel_rfl) (fun _ _ _ h => h) (Or.inl ⟨by rfl, ?_⟩) hHeld ?_ ?_
    rotate_left
    · rintro w' ⟨s0, s1, s2, s3, s4, s5⟩
      go_simp
      with_reducible rfl
    rotate_left
    · simp only [Act.put, List.setIfInBounds_toArray, List.set_cons_zero, List.set_cons_succ, i64_w, i32_w]
      rfl
    refine two_ (i := 5) (j := 10) (Ni := some 28) (Nj := some 33) #[true, true, true, true, true, true, false, true, true, true, false, false, false, false, false, false, false, false, false, false, false, false, false, false, false, false, false, false, false, false, false, false, false, false, false, false, false, false, false, false, false, false, false, false, false, false, false, false, false, false, false, false, false, false, false, false, false, false, false] #[true, true, true, true, true, false, false, true, true, true, true, false, false, false, false, false, false, false, false, false, false, false, false, false, false, false, false, false, false, false, false, false, false, false, false, false, false, false, false, false, false, false, false, false, false, false, false, false, false, false, false, false, false, false, false, false, false, false, false] rfl rfl rfl rfl (by kernel_rfl) (by decide) (by decide) (fun K hK => ?_) (fun K hK => ?_)
    · skip
      refine value_ (w1 := wn.alloc (.cells #[.int .i64 xl, .int .i64 xh, .int .i64 yl, .int .i64 yh] 23)) (v := .slice (some ⟨wn.heap.size, 0, none⟩) 2 2) (by rfl) rfl ?_ ?_
      · go_simp
        try rfl
      have hk_5 : (wn.alloc (.cells #[.int .i64 xl, .int .i64 xh, .int .i64 yl, .int .i64 yh] 23)).heap[wn.heap.size]? = some (.cells #[.int .i64 xl, .int .i64 xh, .int .i64 yl, .int .i64 yh] 23 (0, 0)) := blk_new wn _
      have hle_5 : w.heap.size ≤ wn.heap.size := hbw.size
      have p_a_5 : PNe (some ⟨ga, 0, none⟩) wn.heap.size := AccAt.ne ha_a (Nat.le_refl _)
      replace hk_x := blk_alloc hk_x (.cells #[.int .i64 xl, .int .i64 xh, .int .i64 yl, .int .i64 yh] 23)
      replace hk_y := blk_alloc hk_y (.cells #[.int .i64 xl, .int .i64 xh, .int .i64 yl, .int .i64 yh] 23)
      replace hk_v := blk_alloc hk_v (.cells #[.int .i64 xl, .int .i64 xh, .int .i64 yl, .int .i64 yh] 23)
      replace ha_a := AccAt.below ha_a (bl_alloc (Below.refl _ _) (.cells #[.int .i64 xl, .int .i64 xh, .int .i64 yl, .int .i64 yh] 23))
      replace hbw := bl_alloc hbw (.cells #[.int .i64 xl, .int .i64 xh, .int .i64 yl, .int .i64 yh] 23)
      generalize wn.heap.size = g5 at *
      generalize wn.alloc (.cells #[.int .i64 xl, .int .i64 xh, .int .i64 yl, .int .i64 yh] 23) = wn at *
      clear hHeld
      refine hK.out _ _ ⟨(blk_cell hk_x 0 (by rfl)), (blk_cell hk_x 1 (by rfl)), (blk_cell hk_y 0 (by rfl)), (blk_cell hk_y 1 (by rfl)), (blk_cell hk_v 0 (by rfl)), (blk_cell hk_v 1 (by rfl))⟩ (fun hHeld => ?_)
      clear hK K
      refine norm_ (a' := ?_) ?_ ?_
      rotate_left
      · show Act.put _ (some 28) _ = _
        simp only [Act.put, List.setIfInBounds_toArray, List.set_cons_zero, List.set_cons_succ, i64_w, i32_w]
        rfl
      refine two_ (i := 6) (j := 10) (Ni := some 29) (Nj := some 33) #[true, true, true, true, true, true, true, true, true, true, false, false, false, false, false, false, false, false, false, false, false, false, false, false, false, false, false, false, false, false, false, false, false, false, false, false, false, false, false, false, false, false, false, false, false, false, false, false, false, false, false, false, false, false, false, false, false, false, false] #[true, true, true, true, true, true, false, true, true, true, true, false, false, false, false, false, false, false, false, false, false, false, false, false, false, false, false, false, false, false, false, false, false, false, false, false, false, false, false, false, false, false, false, false, false, false, false, false, false, false, false, false, false, false, false, false, false, false, false] rfl rfl rfl rfl (by kernel_rfl) (by decide) (by decide) (fun K hK => ?_) (fun K hK => ?_)
      · skip
        refine goes_ Try.func35 (by kernel_rfl) rfl #[.pointer (some ⟨ga, 0, none⟩), .slice (some ⟨g5, 0, none⟩) 2 2] (by rfl) rfl rfl (by simp only [List.map_toArray, List.map_cons, List.map_nil] <;> rfl) ?_
        refine (Plus_some (some ⟨ga, 0, none⟩) _ (some ⟨g5, 0, none⟩) [⟨xl, xh⟩, ⟨yl, yh⟩] 2 _ ha_a (RdS.of_blk (l := [⟨xl, xh⟩, ⟨yl, yh⟩]) hk_5 (by simp)) hixy (by simp) hsxy).mono ?_
        rintro e wn ⟨rfl, hbn⟩
        refine ⟨_, rfl, ?_⟩
        rw [h1a.out, h1b.out]
        replace hk_x := blk_acc hbn hk_x p_a_x
        replace hk_y := blk_acc hbn hk_y p_a_y
        replace hk_v := blk_acc hbn hk_v p_a_v
        replace hk_5 := blk_acc hbn hk_5 p_a_5
        replace ha_a := AccAt.or ha_a hbn
        replace hbw := bl_own hbw hl_a hbn
        clear hbn
        clear hHeld
        refine hK.out _ _ ⟨(blk_cell hk_x 0 (by rfl)), (blk_cell hk_x 1 (by rfl)), (blk_cell hk_y 0 (by rfl)), (blk_cell hk_y 1 (by rfl)), (blk_cell hk_v 0 (by rfl)), (blk_cell hk_v 1 (by rfl))⟩ (fun hHeld => ?_)
        clear hK K
        refine norm_ (a' := ?_) ?_ ?_
        rotate_left
        · show Act.put _ (some 29) _ = _
          simp only [Act.put, List.setIfInBounds_toArray, List.set_cons_zero, List.set_cons_succ, i64_w, i32_w]
          rfl
        refine one_ (i := 10) (N := some 33) #[true, true, true, true, true, true, true, true, true, true, true, false, false, false, false, false, false, false, false, false, false, false, false, false, false, false, false, false, false, false, false, false, false, false, false, false, false, false, false, false, false, false, false, false, false, false, false, false, false, false, false, false, false, false, false, false, false, false, false] rfl rfl (by kernel_rfl) (by decide) (fun K hK => ?_)
        refine value_ (w1 := wn.alloc (.cells #[.int .i64 vl, .int .i64 vh, .int .i64 yl, .int .i64 yh] 23)) (v := .slice (some ⟨wn.heap.size, 0, none⟩) 2 2) (by rfl) rfl ?_ ?_
        · go_simp
          try rfl
        have hk_10 : (wn.alloc (.cells #[.int .i64 vl, .int .i64 vh, .int .i64 yl, .int .i64 yh] 23)).heap[wn.heap.size]? = some (.cells #[.int .i64 vl, .int .i64 vh, .int .i64 yl, .int .i64 yh] 23 (0, 0)) := blk_new wn _
        have hle_10 : w.heap.size ≤ wn.heap.size := hbw.size
        have p_a_10 : PNe (some ⟨ga, 0, none⟩) wn.heap.size := AccAt.ne ha_a (Nat.le_refl _)
        replace hk_x := blk_alloc hk_x (.cells #[.int .i64 vl, .int .i64 vh, .int .i64 yl, .int .i64 yh] 23)
        replace hk_y := blk_alloc hk_y (.cells #[.int .i64 vl, .int .i64 vh, .int .i64 yl, .int .i64 yh] 23)
        replace hk_v := blk_alloc hk_v (.cells #[.int .i64 vl, .int .i64 vh, .int .i64 yl, .int .i64 yh] 23)
        replace hk_5 := blk_alloc hk_5 (.cells #[.int .i64 vl, .int .i64 vh, .int .i64 yl, .int .i64 yh] 23)
        replace ha_a := AccAt.below ha_a (bl_alloc (Below.refl _ _) (.cells #[.int .i64 vl, .int .i64 vh, .int .i64 yl, .int .i64 yh] 23))
        replace hbw := bl_alloc hbw (.cells #[.int .i64 vl, .int .i64 vh, .int .i64 yl, .int .i64 yh] 23)
        generalize wn.heap.size = g10 at *
        generalize wn.alloc (.cells #[.int .i64 vl, .int .i64 vh, .int .i64 yl, .int .i64 yh] 23) = wn at *
        clear hHeld
        refine hK.out _ _ ⟨(blk_cell hk_x 0 (by rfl)), (blk_cell hk_x 1 (by rfl)), (blk_cell hk_y 0 (by rfl)), (blk_cell hk_y 1 (by rfl)), (blk_cell hk_v 0 (by rfl)), (blk_cell hk_v 1 (by rfl))⟩ (fun hHeld => ?_)
        clear hK K
        refine norm_ (a' := ?_) ?_ ?_
        rotate_left
        · show Act.put _ (some 33) _ = _
          simp only [Act.put, List.setIfInBounds_toArray, List.set_cons_zero, List.set_cons_succ, i64_w, i32_w]
          rfl
        revert hHeld
        revert p_a_10
        revert hle_10
        revert p_a_5
        revert hle_5
        revert ha_a
        revert hk_10
        revert hk_5
        revert hk_v
        revert hk_y
        revert hk_x
        revert hbw
        revert g10
        revert g5
        revert wn
        exact Bx.out hJ0
      · skip
        refine value_ (w1 := wn.alloc (.cells #[.int .i64 vl, .int .i64 vh, .int .i64 yl, .int .i64 yh] 23)) (v := .slice (some ⟨wn.heap.size, 0, none⟩) 2 2) (by rfl) rfl ?_ ?_
        · go_simp
          try rfl
        have hk_10 : (wn.alloc (.cells #[.int .i64 vl, .int .i64 vh, .int .i64 yl, .int .i64 yh] 23)).heap[wn.heap.size]? = some (.cells #[.int .i64 vl, .int .i64 vh, .int .i64 yl, .int .i64 yh] 23 (0, 0)) := blk_new wn _
        have hle_10 : w.heap.size ≤ wn.heap.size := hbw.size
        have p_a_10 : PNe (some ⟨ga, 0, none⟩) wn.heap.size := AccAt.ne ha_a (Nat.le_refl _)
        replace hk_x := blk_alloc hk_x (.cells #[.int .i64 vl, .int .i64 vh, .int .i64 yl, .int .i64 yh] 23)
        replace hk_y := blk_alloc hk_y (.cells #[.int .i64 vl, .int .i64 vh, .int .i64 yl, .int .i64 yh] 23)
        replace hk_v := blk_alloc hk_v (.cells #[.int .i64 vl, .int .i64 vh, .int .i64 yl, .int .i64 yh] 23)
        replace hk_5 := blk_alloc hk_5 (.cells #[.int .i64 vl, .int .i64 vh, .int .i64 yl, .int .i64 yh] 23)
        replace ha_a := AccAt.below ha_a (bl_alloc (Below.refl _ _) (.cells #[.int .i64 vl, .int .i64 vh, .int .i64 yl, .int .i64 yh] 23))
        replace hbw := bl_alloc hbw (.cells #[.int .i64 vl, .int .i64 vh, .int .i64 yl, .int .i64 yh] 23)
        generalize wn.heap.size = g10 at *
        generalize wn.alloc (.cells #[.int .i64 vl, .int .i64 vh, .int .i64 yl, .int .i64 yh] 23) = wn at *
        clear hHeld
        refine hK.out _ _ ⟨(blk_cell hk_x 0 (by rfl)), (blk_cell hk_x 1 (by rfl)), (blk_cell hk_y 0 (by rfl)), (blk_cell hk_y 1 (by rfl)), (blk_cell hk_v 0 (by rfl)), (blk_cell hk_v 1 (by rfl))⟩ (fun hHeld => ?_)
        clear hK K
        refine norm_ (a' := ?_) ?_ ?_
        rotate_left
        · show Act.put _ (some 33) _ = _
          simp only [Act.put, List.setIfInBounds_toArray, List.set_cons_zero, List.set_cons_succ, i64_w, i32_w]
          rfl
        revert hHeld
        revert p_a_10
        revert hle_10
        revert p_a_5
        revert hle_5
        revert ha_a
        revert hk_10
        revert hk_5
        revert hk_v
        revert hk_y
        revert hk_x
        revert hbw
        revert g10
        revert g5
        revert wn
        exact Bx.out hJ1
    · skip
      refine value_ (w1 := wn.alloc (.cells #[.int .i64 vl, .int .i64 vh, .int .i64 yl, .int .i64 yh] 23)) (v := .slice (some ⟨wn.heap.size, 0, none⟩) 2 2) (by rfl) rfl ?_ ?_
      · go_simp
        try rfl
      have hk_10 : (wn.alloc (.cells #[.int .i64 vl, .int .i64 vh, .int .i64 yl, .int .i64 yh] 23)).heap[wn.heap.size]? = some (.cells #[.int .i64 vl, .int .i64 vh, .int .i64 yl, .int .i64 yh] 23 (0, 0)) := blk_new wn _
      have hle_10 : w.heap.size ≤ wn.heap.size := hbw.size
      have p_a_10 : PNe (some ⟨ga, 0, none⟩) wn.heap.size := AccAt.ne ha_a (Nat.le_refl _)
      replace hk_x := blk_alloc hk_x (.cells #[.int .i64 vl, .int .i64 vh, .int .i64 yl, .int .i64 yh] 23)
      replace hk_y := blk_alloc hk_y (.cells #[.int .i64 vl, .int .i64 vh, .int .i64 yl, .int .i64 yh] 23)
      replace hk_v := blk_alloc hk_v (.cells #[.int .i64 vl, .int .i64 vh, .int .i64 yl, .int .i64 yh] 23)
      replace ha_a := AccAt.below ha_a (bl_alloc (Below.refl _ _) (.cells #[.int .i64 vl, .int .i64 vh, .int .i64 yl, .int .i64 yh] 23))
      replace hbw := bl_alloc hbw (.cells #[.int .i64 vl, .int .i64 vh, .int .i64 yl, .int .i64 yh] 23)
      generalize wn.heap.size = g10 at *
      generalize wn.alloc (.cells #[.int .i64 vl, .int .i64 vh, .int .i64 yl, .int .i64 yh] 23) = wn at *
      clear hHeld
      refine hK.out _ _ ⟨(blk_cell hk_x 0 (by rfl)), (blk_cell hk_x 1 (by rfl)), (blk_cell hk_y 0 (by rfl)), (blk_cell hk_y 1 (by rfl)), (blk_cell hk_v 0 (by rfl)), (blk_cell hk_v 1 (by rfl))⟩ (fun hHeld => ?_)
      clear hK K
      refine norm_ (a' := ?_) ?_ ?_
      rotate_left
      · show Act.put _ (some 33) _ = _
        simp only [Act.put, List.setIfInBounds_toArray, List.set_cons_zero, List.set_cons_succ, i64_w, i32_w]
        rfl
      refine one_ (i := 5) (N := some 28) #[true, true, true, true, true, true, false, true, true, true, true, false, false, false, false, false, false, false, false, false, false, false, false, false, false, false, false, false, false, false, false, false, false, false, false, false, false, false, false, false, false, false, false, false, false, false, false, false, false, false, false, false, false, false, false, false, false, false, false] rfl rfl (by kernel_rfl) (by decide) (fun K hK => ?_)
      refine value_ (w1 := wn.alloc (.cells #[.int .i64 xl, .int .i64 xh, .int .i64 yl, .int .i64 yh] 23)) (v := .slice (some ⟨wn.heap.size, 0, none⟩) 2 2) (by rfl) rfl ?_ ?_
      · go_simp
        try rfl
      have hk_5 : (wn.alloc (.cells #[.int .i64 xl, .int .i64 xh, .int .i64 yl, .int .i64 yh] 23)).heap[wn.heap.size]? = some (.cells #[.int .i64 xl, .int .i64 xh, .int .i64 yl, .int .i64 yh] 23 (0, 0)) := blk_new wn _
      have hle_5 : w.heap.size ≤ wn.heap.size := hbw.size
      have p_a_5 : PNe (some ⟨ga, 0, none⟩) wn.heap.size := AccAt.ne ha_a (Nat.le_refl _)
      replace hk_x := blk_alloc hk_x (.cells #[.int .i64 xl, .int .i64 xh, .int .i64 yl, .int .i64 yh] 23)
      replace hk_y := blk_alloc hk_y (.cells #[.int .i64 xl, .int .i64 xh, .int .i64 yl, .int .i64 yh] 23)
      replace hk_v := blk_alloc hk_v (.cells #[.int .i64 xl, .int .i64 xh, .int .i64 yl, .int .i64 yh] 23)
      replace hk_10 := blk_alloc hk_10 (.cells #[.int .i64 xl, .int .i64 xh, .int .i64 yl, .int .i64 yh] 23)
      replace ha_a := AccAt.below ha_a (bl_alloc (Below.refl _ _) (.cells #[.int .i64 xl, .int .i64 xh, .int .i64 yl, .int .i64 yh] 23))
      replace hbw := bl_alloc hbw (.cells #[.int .i64 xl, .int .i64 xh, .int .i64 yl, .int .i64 yh] 23)
      generalize wn.heap.size = g5 at *
      generalize wn.alloc (.cells #[.int .i64 xl, .int .i64 xh, .int .i64 yl, .int .i64 yh] 23) = wn at *
      clear hHeld
      refine hK.out _ _ ⟨(blk_cell hk_x 0 (by rfl)), (blk_cell hk_x 1 (by rfl)), (blk_cell hk_y 0 (by rfl)), (blk_cell hk_y 1 (by rfl)), (blk_cell hk_v 0 (by rfl)), (blk_cell hk_v 1 (by rfl))⟩ (fun hHeld => ?_)
      clear hK K
      refine norm_ (a' := ?_) ?_ ?_
      rotate_left
      · show Act.put _ (some 28) _ = _
        simp only [Act.put, List.setIfInBounds_toArray, List.set_cons_zero, List.set_cons_succ, i64_w, i32_w]
        rfl
      revert hHeld
      revert p_a_10
      revert hle_10
      revert p_a_5
      revert hle_5
      revert ha_a
      revert hk_10
      revert hk_5
      revert hk_v
      revert hk_y
      revert hk_x
      revert hbw
      revert g10
      revert g5
      revert wn
      exact Bx.out hJ1
  · intro wn g5 g10 hbw hk_x hk_y hk_v hk_5 hk_10 ha_a hle_5 p_a_5 hle_10 p_a_10 hHeld
    refine one_ (i := 6) (N := some 29) #[true, true, true, true, true, true, true, true, true, true, true, false, false, false, false, false, false, false, false, false, false, false, false, false, false, false, false, false, false, false, false, false, false, false, false, false, false, false, false, false, false, false, false, false, false, false, false, false, false, false, false, false, false, false, false, false, false, false, false] rfl rfl (by kernel_rfl) (by decide) (fun K hK => ?_)
    refine goes_ Try.func35 (by kernel_rfl) rfl #[.pointer (some ⟨ga, 0, none⟩), .slice (some ⟨g5, 0, none⟩) 2 2] (by rfl) rfl rfl (by simp only [List.map_toArray, List.map_cons, List.map_nil] <;> rfl) ?_
    refine (Plus_some (some ⟨ga, 0, none⟩) _ (some ⟨g5, 0, none⟩) [⟨xl, xh⟩, ⟨yl, yh⟩] 2 _ ha_a (RdS.of_blk (l := [⟨xl, xh⟩, ⟨yl, yh⟩]) hk_5 (by simp)) hixy (by simp) hsxy).mono ?_
    rintro e wn ⟨rfl, hbn⟩
    refine ⟨_, rfl, ?_⟩
    rw [h1a.out, h1b.out]
    replace hk_x := blk_acc hbn hk_x p_a_x
    replace hk_y := blk_acc hbn hk_y p_a_y
    replace hk_v := blk_acc hbn hk_v p_a_v
    replace hk_5 := blk_acc hbn hk_5 p_a_5
    replace hk_10 := blk_acc hbn hk_10 p_a_10
    replace ha_a := AccAt.or ha_a hbn
    replace hbw := bl_own hbw hl_a hbn
    clear hbn
    clear hHeld
    refine hK.out _ _ ⟨(blk_cell hk_x 0 (by rfl)), (blk_cell hk_x 1 (by rfl)), (blk_cell hk_y 0 (by rfl)), (blk_cell hk_y 1 (by rfl)), (blk_cell hk_v 0 (by rfl)), (blk_cell hk_v 1 (by rfl))⟩ (fun hHeld => ?_)
    clear hK K
    refine norm_ (a' := ?_) ?_ ?_
    rotate_left
    · show Act.put _ (some 29) _ = _
      simp only [Act.put, List.setIfInBounds_toArray, List.set_cons_zero, List.set_cons_succ, i64_w, i32_w]
      rfl
    revert hHeld
    revert p_a_10
    revert hle_10
    revert p_a_5
    revert hle_5
    revert ha_a
    revert hk_10
    revert hk_5
    revert hk_v
    revert hk_y
    revert hk_x
    revert hbw
    revert g10
    revert g5
    revert wn
    exact Bx.out hJ0
  · intro wn g5 g10 hbw hk_x hk_y hk_v hk_5 hk_10 ha_a hle_5 p_a_5 hle_10 p_a_10 hHeld
    refine one_ (i := 11) (N := some 34) #[true, true, true, true, true, true, true, true, true, true, true, true, false, false, false, false, false, false, false, false, false, false, false, false, false, false, false, false, false, false, false, false, false, false, false, false, false, false, false, false, false, false, false, false, false, false, false, false, false, false, false, false, false, false, false, false, false, false, false] rfl rfl (by kernel_rfl) (by decide) (fun K hK => ?_)
    refine goes_ Try.func35 (by kernel_rfl) rfl #[.pointer (some ⟨ga, 0, none⟩), .slice (some ⟨g10, 0, none⟩) 2 2] (by rfl) rfl rfl (by simp only [List.map_toArray, List.map_cons, List.map_nil] <;> rfl) ?_
    refine (Plus_some (some ⟨ga, 0, none⟩) _ (some ⟨g10, 0, none⟩) [⟨vl, vh⟩, ⟨yl, yh⟩] 2 _ ha_a (RdS.of_blk (l := [⟨vl, vh⟩, ⟨yl, yh⟩]) hk_10 (by simp)) hivy (by simp) hsvy).mono ?_
    rintro e wn ⟨rfl, hbn⟩
    refine ⟨_, rfl, ?_⟩
    rw [h1c.out, h1d.out]
    replace hk_x := blk_acc hbn hk_x p_a_x
    replace hk_y := blk_acc hbn hk_y p_a_y
    replace hk_v := blk_acc hbn hk_v p_a_v
    replace hk_5 := blk_acc hbn hk_5 p_a_5
    replace hk_10 := blk_acc hbn hk_10 p_a_10
    replace ha_a := AccAt.or ha_a hbn
    replace hbw := bl_own hbw hl_a hbn
    clear hbn
    clear hHeld
    refine hK.out _ _ ⟨(blk_cell hk_x 0 (by rfl)), (blk_cell hk_x 1 (by rfl)), (blk_cell hk_y 0 (by rfl)), (blk_cell hk_y 1 (by rfl)), (blk_cell hk_v 0 (by rfl)), (blk_cell hk_v 1 (by rfl))⟩ (fun hHeld => ?_)
    clear hK K
    refine norm_ (a' := ?_) ?_ ?_
    rotate_left
    · show Act.put _ (some 34) _ = _
      simp only [Act.put, List.setIfInBounds_toArray, List.set_cons_zero, List.set_cons_succ, i64_w, i32_w]
      rfl
    refine one_ (i := 12) (N := some 35) #[true, true, true, true, true, true, true, true, true, true, true, true, true, false, false, false, false, false, false, false, false, false, false, false, false, false, false, false, false, false, false, false, false, false, false, false, false, false, false, false, false, false, false, false, false, false, false, false, false, false, false, false, false, false, false, false, false, false, false] rfl rfl (by kernel_rfl) (by decide) (fun K hK => ?_)
    refine goes_ Try.func16 (by kernel_rfl) rfl #[.agg #[.int .i64 n1a, .int .i64 n1b], .agg #[.int .i64 n1c, .int .i64 n1d]] (by rfl) rfl rfl (by simp only [List.map_toArray, List.map_cons, List.map_nil] <;> rfl) ?_
    refine (In_calls n1a n1b n1c n1d _).mono ?_
    rintro e wn ⟨rfl, hbn⟩
    refine ⟨_, rfl, ?_⟩
    rw [i1]
    replace hk_x := bl_block hbn hk_x
    replace hk_y := bl_block hbn hk_y
    replace hk_v := bl_block hbn hk_v
    replace hk_5 := bl_block hbn hk_5
    replace hk_10 := bl_block hbn hk_10
    replace ha_a := AccAt.below ha_a hbn
    replace hbw := bl_step hbw hbn
    clear hbn
    clear hHeld
    refine hK.out _ _ ⟨(blk_cell hk_x 0 (by rfl)), (blk_cell hk_x 1 (by rfl)), (blk_cell hk_y 0 (by rfl)), (blk_cell hk_y 1 (by rfl)), (blk_cell hk_v 0 (by rfl)), (blk_cell hk_v 1 (by rfl))⟩ (fun hHeld => ?_)
    clear hK K
    refine norm_ (a' := ?_) ?_ ?_
    rotate_left
    · show Act.put _ (some 35) _ = _
      simp only [Act.put, List.setIfInBounds_toArray, List.set_cons_zero, List.set_cons_succ, i64_w, i32_w]
      rfl
    refine pure_ (i := 13) (N := some 36) (v := ?_) (a' := ?_) #[true, true, true, true, true, true, true, true, true, true, true, true, true, true, false, false, false, false, false, false, false, false, false, false, false, false, false, false, false, false, false, false, false, false, false, false, false, false, false, false, false, false, false, false, false, false, false, false, false, false, false, false, false, false, false, false, false, false, false] rfl rfl (by kernel_rfl) (fun _ _ _ h => h) (Or.inl ⟨by rfl, ?_⟩) ?_ ?_
    rotate_left
    · intro w'
      go_simp
      with_reducible rfl
    rotate_left
    · simp only [Act.put, List.setIfInBounds_toArray, List.set_cons_zero, List.set_cons_succ, i64_w, i32_w]
      rfl
    refine pure_ (i := 14) (N := some 37) (v := ?_) (a' := ?_) #[true, true, true, true, true, true, true, true, true, true, true, true, true, true, true, false, false, false, false, false, false, false, false, false, false, false, false, false, false, false, false, false, false, false, false, false, false, false, false, false, false, false, false, false, false, false, false, false, false, false, false, false, false, false, false, false, false, false, false] rfl rfl (by kernel_rfl) (fun _ _ _ h => h) (Or.inl ⟨by rfl, ?_⟩) ?_ ?_
    rotate_left
    · intro w'
      go_simp
      with_reducible rfl
    rotate_left
    · simp only [Act.put, List.setIfInBounds_toArray, List.set_cons_zero, List.set_cons_succ, i64_w, i32_w]
      rfl
    refine pure_ (i := 15) (N := some 38) (v := ?_) (a' := ?_) #[true, true, true, true, true, true, true, true, true, true, true, true, true, true, true, true, false, false, false, false, false, false, false, false, false, false, false, false, false, false, false, false, false, false, false, false, false, false, false, false, false, false, false, false, false, false, false, false, false, false, false, false, false, false, false, false, false, false, false] rfl rfl (by kernel_rfl) (fun _ _ _ h => h) (Or.inl ⟨by rfl, ?_⟩) ?_ ?_
    rotate_left
    · intro w'
      go_simp
      with_reducible rfl
    rotate_left
    · simp only [Act.put, List.setIfInBounds_toArray, List.set_cons_zero, List.set_cons_succ, i64_w, i32_w]
      rfl
    refine pure_ (i := 19) (N := some 42) (v := ?_) (a' := ?_) #[true, true, true, true, true, true, true, true, true, true, true, true, true, true, true, true, false, false, false, true, false, false, false, false, false, false, false, false, false, false, false, false, false, false, false, false, false, false, false, false, false, false, false, false, false, false, false, false, false, false, false, false, false, false, false, false, false, false, false] rfl rfl (by kernel_rfl) (fun _ _ _ h => h) (Or.inl ⟨by rfl, ?_⟩) ?_ ?_
    rotate_left
    · intro w'
      go_simp
      with_reducible rfl
    rotate_left
    · simp only [Act.put, List.setIfInBounds_toArray, List.set_cons_zero, List.set_cons_succ, i64_w, i32_w]
      rfl
    refine take_ (i := 16) (N := some 39) (v := ?_) (a' := ?_) #[true, true, true, true, true, true, true, true, true, true, true, true, true, true, true, true, true, false, false, true, false, false, false, false, false, false, false, false, false, false, false, false, false, false, false, false, false, false, false, false, false, false, false, false, false, false, false, false, false, false, false, false, false, false, false, false, false, false, false] rfl rfl (by kernel_rfl) (fun _ _ _ h => h) (Or.inl ⟨by rfl, ?_⟩) hHeld ?_ ?_
    rotate_left
    · rintro w' ⟨s0, s1, s2, s3, s4, s5⟩
      go_simp
      with_reducible rfl
    rotate_left
    · simp only [Act.put, List.setIfInBounds_toArray, List.set_cons_zero, List.set_cons_succ, i64_w, i32_w]
      rfl
    refine take_ (i := 17) (N := some 40) (v := ?_) (a' := ?_) #[true, true, true, true, true, true, true, true, true, true, true, true, true, true, true, true, true, true, false, true, false, false, false, false, false, false, false, false, false, false, false, false, false, false, false, false, false, false, false, false, false, false, false, false, false, false, false, false, false, false, false, false, false, false, false, false, false, false, false] rfl rfl (by kernel_rfl) (fun _ _ _ h => h) (Or.inl ⟨by rfl, ?_⟩) hHeld ?_ ?_
    rotate_left
    · rintro w' ⟨s0, s1, s2, s3, s4, s5⟩
      go_simp
      with_reducible rfl
    rotate_left
    · simp only [Act.put, List.setIfInBounds_toArray, List.set_cons_zero, List.set_cons_succ, i64_w, i32_w]
      rfl
    refine take_ (i := 20) (N := some 43) (v := ?_) (a' := ?_) #[true, true, true, true, true, true, true, true, true, true, true, true, true, true, true, true, true, true, false, true, true, false, false, false, false, false, false, false, false, false, false, false, false, false, false, false, false, false, false, false, false, false, false, false, false, false, false, false, false, false, false, false, false, false, false, false, false, false, false] rfl rfl (by kernel_rfl) (fun _ _ _ h => h) (Or.inl ⟨by rfl, ?_⟩) hHeld ?_ ?_
    rotate_left
    · rintro w' ⟨s0, s1, s2, s3, s4, s5⟩
      go_simp
      with_reducible rfl
    rotate_left
    · simp only [Act.put, List.setIfInBounds_toArray, List.set_cons_zero, List.set_cons_succ, i64_w, i32_w]
      rfl
    refine take_ (i := 21) (N := some 44) (v := ?_) (a' := ?_) #[true, true, true, true, true, true, true, true, true, true, true, true, true, true, true, true, true, true, false, true, true, true, false, false, false, false, false, false, false, false, false, false, false, false, false, false, false, false, false, false, false, false, false, false, false, false, false, false, false, false, false, false, false, false, false, false, false, false, false] rfl rfl (by kernel_rfl) (fun _ _ _ h => h) (Or.inl ⟨by rfl, ?_⟩) hHeld ?_ ?_
    rotate_left
    · rintro w' ⟨s0, s1, s2, s3, s4, s5⟩
      go_simp
      with_reducible rfl
    rotate_left
    · simp only [Act.put, List.setIfInBounds_toArray, List.set_cons_zero, List.set_cons_succ, i64_w, i32_w]
      rfl
    refine one_ (i := 18) (N := some 41) #[true, true, true, true, true, true, true, true, true, true, true, true, true, true, true, true, true, true, true, true, true, true, false, false, false, false, false, false, false, false, false, false, false, false, false, false, false, false, false, false, false, false, false, false, false, false, false, false, false, false, false, false, false, false, false, false, false, false, false] rfl rfl (by kernel_rfl) (by decide) (fun K hK => ?_)
    refine goes_ Try.func38 (by kernel_rfl) rfl #[.pointer (some ⟨ga, 0, none⟩), .agg #[.int .i64 xl, .int .i64 xh], .agg #[.int .i64 yl, .int .i64 yh]] (by rfl) rfl rfl (by simp only [List.map_toArray, List.map_cons, List.map_nil] <;> rfl) ?_
    refine (Minus_some (some ⟨ga, 0, none⟩) _ xl xh yl yh _ ha_a hsxy hixy).mono ?_
    rintro e wn ⟨rfl, hbn⟩
    refine ⟨_, rfl, ?_⟩
    rw [h2a.out, h2b.out]
    replace hk_x := blk_acc hbn hk_x p_a_x
    replace hk_y := blk_acc hbn hk_y p_a_y
    replace hk_v := blk_acc hbn hk_v p_a_v
    replace hk_5 := blk_acc hbn hk_5 p_a_5
    replace hk_10 := blk_acc hbn hk_10 p_a_10
    replace ha_a := AccAt.or ha_a hbn
    replace hbw := bl_own hbw hl_a hbn
    clear hbn
    clear hHeld
    refine hK.out _ _ ⟨(blk_cell hk_x 0 (by rfl)), (blk_cell hk_x 1 (by rfl)), (blk_cell hk_y 0 (by rfl)), (blk_cell hk_y 1 (by rfl)), (blk_cell hk_v 0 (by rfl)), (blk_cell hk_v 1 (by rfl))⟩ (fun hHeld => ?_)
    clear hK K
    refine norm_ (a' := ?_) ?_ ?_
    rotate_left
    · show Act.put _ (some 41) _ = _
      simp only [Act.put, List.setIfInBounds_toArray, List.set_cons_zero, List.set_cons_succ, i64_w, i32_w]
      rfl
    refine one_ (i := 22) (N := some 45) #[true, true, true, true, true, true, true, true, true, true, true, true, true, true, true, true, true, true, true, true, true, true, true, false, false, false, false, false, false, false, false, false, false, false, false, false, false, false, false, false, false, false, false, false, false, false, false, false, false, false, false, false, false, false, false, false, false, false, false] rfl rfl (by kernel_rfl) (by decide) (fun K hK => ?_)
    refine goes_ Try.func38 (by kernel_rfl) rfl #[.pointer (some ⟨ga, 0, none⟩), .agg #[.int .i64 vl, .int .i64 vh], .agg #[.int .i64 yl, .int .i64 yh]] (by rfl) rfl rfl (by simp only [List.map_toArray, List.map_cons, List.map_nil] <;> rfl) ?_
    refine (Minus_some (some ⟨ga, 0, none⟩) _ vl vh yl yh _ ha_a hsvy hivy).mono ?_
    rintro e wn ⟨rfl, hbn⟩
    refine ⟨_, rfl, ?_⟩
    rw [h2c.out, h2d.out]
    replace hk_x := blk_acc hbn hk_x p_a_x
    replace hk_y := blk_acc hbn hk_y p_a_y
    replace hk_v := blk_acc hbn hk_v p_a_v
    replace hk_5 := blk_acc hbn hk_5 p_a_5
    replace hk_10 := blk_acc hbn hk_10 p_a_10
    replace ha_a := AccAt.or ha_a hbn
    replace hbw := bl_own hbw hl_a hbn
    clear hbn
    clear hHeld
    refine hK.out _ _ ⟨(blk_cell hk_x 0 (by rfl)), (blk_cell hk_x 1 (by rfl)), (blk_cell hk_y 0 (by rfl)), (blk_cell hk_y 1 (by rfl)), (blk_cell hk_v 0 (by rfl)), (blk_cell hk_v 1 (by rfl))⟩ (fun hHeld => ?_)
    clear hK K
    refine norm_ (a' := ?_) ?_ ?_
    rotate_left
    · show Act.put _ (some 45) _ = _
      simp only [Act.put, List.setIfInBounds_toArray, List.set_cons_zero, List.set_cons_succ, i64_w, i32_w]
      rfl
    refine one_ (i := 23) (N := some 46) #[true, true, true, true, true, true, true, true, true, true, true, true, true, true, true, true, true, true, true, true, true, true, true, true, false, false, false, false, false, false, false, false, false, false, false, false, false, false, false, false, false, false, false, false, false, false, false, false, false, false, false, false, false, false, false, false, false, false, false] rfl rfl (by kernel_rfl) (by decide) (fun K hK => ?_)
    refine goes_ Try.func16 (by kernel_rfl) rfl #[.agg #[.int .i64 n2a, .int .i64 n2b], .agg #[.int .i64 n2c, .int .i64 n2d]] (by rfl) rfl rfl (by simp only [List.map_toArray, List.map_cons, List.map_nil] <;> rfl) ?_
    refine (In_calls n2a n2b n2c n2d _).mono ?_
    rintro e wn ⟨rfl, hbn⟩
    refine ⟨_, rfl, ?_⟩
    rw [i2]
    replace hk_x := bl_block hbn hk_x
    replace hk_y := bl_block hbn hk_y
    replace hk_v := bl_block hbn hk_v
    replace hk_5 := bl_block hbn hk_5
    replace hk_10 := bl_block hbn hk_10
    replace ha_a := AccAt.below ha_a hbn
    replace hbw := bl_step hbw hbn
    clear hbn
    clear hHeld
    refine hK.out _ _ ⟨(blk_cell hk_x 0 (by rfl)), (blk_cell hk_x 1 (by rfl)), (blk_cell hk_y 0 (by rfl)), (blk_cell hk_y 1 (by rfl)), (blk_cell hk_v 0 (by rfl)), (blk_cell hk_v 1 (by rfl))⟩ (fun hHeld => ?_)
    clear hK K
    refine norm_ (a' := ?_) ?_ ?_
    rotate_left
    · show Act.put _ (some 46) _ = _
      simp only [Act.put, List.setIfInBounds_toArray, List.set_cons_zero, List.set_cons_succ, i64_w, i32_w]
      rfl
    refine pure_ (i := 24) (N := some 47) (v := ?_) (a' := ?_) #[true, true, true, true, true, true, true, true, true, true, true, true, true, true, true, true, true, true, true, true, true, true, true, true, true, false, false, false, false, false, false, false, false, false, false, false, false, false, false, false, false, false, false, false, false, false, false, false, false, false, false, false, false, false, false, false, false, false, false] rfl rfl (by kernel_rfl) (fun _ _ _ h => h) (Or.inl ⟨by rfl, ?_⟩) ?_ ?_
    rotate_left
    · intro w'
      go_simp
      with_reducible rfl
    rotate_left
    · simp only [Act.put, List.setIfInBounds_toArray, List.set_cons_zero, List.set_cons_succ, i64_w, i32_w]
      rfl
    refine pure_ (i := 25) (N := some 48) (v := ?_) (a' := ?_) #[true, true, true, true, true, true, true, true, true, true, true, true, true, true, true, true, true, true, true, true, true, true, true, true, true, true, false, false, false, false, false, false, false, false, false, false, false, false, false, false, false, false, false, false, false, false, false, false, false, false, false, false, false, false, false, false, false, false, false] rfl rfl (by kernel_rfl) (fun _ _ _ h => h) (Or.inl ⟨by rfl, ?_⟩) ?_ ?_
    rotate_left
    · intro w'
      go_simp
      with_reducible rfl
    rotate_left
    · simp only [Act.put, List.setIfInBounds_toArray, List.set_cons_zero, List.set_cons_succ, i64_w, i32_w]
      rfl
    refine pure_ (i := 26) (N := some 49) (v := ?_) (a' := ?_) #[true, true, true, true, true, true, true, true, true, true, true, true, true, true, true, true, true, true, true, true, true, true, true, true, true, true, true, false, false, false, false, false, false, false, false, false, false, false, false, false, false, false, false, false, false, false, false, false, false, false, false, false, false, false, false, false, false, false, false] rfl rfl (by kernel_rfl) (fun _ _ _ h => h) (Or.inl ⟨by rfl, ?_⟩) ?_ ?_
    rotate_left
    · intro w'
      go_simp
      with_reducible rfl
    rotate_left
    · simp only [Act.put, List.setIfInBounds_toArray, List.set_cons_zero, List.set_cons_succ, i64_w, i32_w]
      rfl
    refine pure_ (i := 30) (N := some 53) (v := ?_) (a' := ?_) #[true, true, true, true, true, true, true, true, true, true, true, true, true, true, true, true, true, true, true, true, true, true, true, true, true, true, true, false, false, false, true, false, false, false, false, false, false, false, false, false, false, false, false, false, false, false, false, false, false, false, false, false, false, false, false, false, false, false, false] rfl rfl (by kernel_rfl) (fun _ _ _ h => h) (Or.inl ⟨by rfl, ?_⟩) ?_ ?_
    rotate_left
    · intro w'
      go_simp
      with_reducible rfl
    rotate_left
    · simp only [Act.put, List.setIfInBounds_toArray, List.set_cons_zero, List.set_cons_succ, i64_w, i32_w]
      rfl
    refine take_ (i := 27) (N := some 50) (v := ?_) (a' := ?_) #[true, true, true, true, true, true, true, true, true, true, true, true, true, true, true, true, true, true, true, true, true, true, true, true, true, true, true, true, false, false, true, false, false, false, false, false, false, false, false, false, false, false, false, false, false, false, false, false, false, false, false, false, false, false, false, false, false, false, false] rfl rfl (by kernel_rfl) (fun _ _ _ h => h) (Or.inl ⟨by rfl, ?_⟩) hHeld ?_ ?_
    rotate_left
    · rintro w' ⟨s0, s1, s2, s3, s4, s5⟩
      go_simp
      with_reducible rfl
    rotate_left
    · simp only [Act.put, List.setIfInBounds_toArray, List.set_cons_zero, List.set_cons_succ, i64_w, i32_w]
      rfl
    refine take_ (i := 28) (N := some 51) (v := ?_) (a' := ?_) #[true, true, true, true, true, true, true, true, true, true, true, true, true, true, true, true, true, true, true, true, true, true, true, true, true, true, true, true, true, false, true, false, false, false, false, false, false, false, false, false, false, false, false, false, false, false, false, false, false, false, false, false, false, false, false, false, false, false, false] rfl rfl (by kernel_rfl) (fun _ _ _ h => h) (Or.inl ⟨by rfl, ?_⟩) hHeld ?_ ?_
    rotate_left
    · rintro w' ⟨s0, s1, s2, s3, s4, s5⟩
      go_simp
      with_reducible rfl
    rotate_left
    · simp only [Act.put, List.setIfInBounds_toArray, List.set_cons_zero, List.set_cons_succ, i64_w, i32_w]
      rfl
    refine take_ (i := 31) (N := some 54) (v := ?_) (a' := ?_) #[true, true, true, true, true, true, true, true, true, true, true, true, true, true, true, true, true, true, true, true, true, true, true, true, true, true, true, true, true, false, true, true, false, false, false, false, false, false, false, false, false, false, false, false, false, false, false, false, false, false, false, false, false, false, false, false, false, false, false] rfl rfl (by kernel_rfl) (fun _ _ _ h => h) (Or.inl ⟨by rfl, ?_⟩) hHeld ?_ ?_
    rotate_left
    · rintro w' ⟨s0, s1, s2, s3, s4, s5⟩
      go_simp
      with_reducible rfl
    rotate_left
    · simp only [Act.put, List.setIfInBounds_toArray, List.set_cons_zero, List.set_cons_succ, i64_w, i32_w]
      rfl
    refine take_ (i := 32) (N := some 55) (v := ?_) (a' := ?_) #[true, true, true, true, true, true, true, true, true, true, true, true, true, true, true, true, true, true, true, true, true, true, true, true, true, true, true, true, true, false, true, true, true, false, false, false, false, false, false, false, false, false, false, false, false, false, false, false, false, false, false, false, false, false, false, false, false, false, false] rfl rfl (by kernel_rfl) (fun _ _ _ h => h) (Or.inl ⟨by rfl, ?_⟩) hHeld ?_ ?_
    rotate_left
    · rintro w' ⟨s0, s1, s2, s3, s4, s5⟩
      go_simp
      with_reducible rfl
    rotate_left
    · simp only [Act.put, List.setIfInBounds_toArray, List.set_cons_zero, List.set_cons_succ, i64_w, i32_w]
      rfl
    refine one_ (i := 29) (N := some 52) #[true, true, true, true, true, true, true, true, true, true, true, true, true, true, true, true, true, true, true, true, true, true, true, true, true, true, true, true, true, true, true, true, true, false, false, false, false, false, false, false, false, false, false, false, false, false, false, false, false, false, false, false, false, false, false, false, false, false, false] rfl rfl (by kernel_rfl) (by decide) (fun K hK => ?_)
    refine goes_ Try.func38 (by kernel_rfl) rfl #[.pointer (some ⟨ga, 0, none⟩), .agg #[.int .i64 yl, .int .i64 yh], .agg #[.int .i64 xl, .int .i64 xh]] (by rfl) rfl rfl (by simp only [List.map_toArray, List.map_cons, List.map_nil] <;> rfl) ?_
    refine (Minus_some (some ⟨ga, 0, none⟩) _ yl yh xl xh _ ha_a hsyx hiyx).mono ?_
    rintro e wn ⟨rfl, hbn⟩
    refine ⟨_, rfl, ?_⟩
    rw [h3a.out, h3b.out]
    replace hk_x := blk_acc hbn hk_x p_a_x
    replace hk_y := blk_acc hbn hk_y p_a_y
    replace hk_v := blk_acc hbn hk_v p_a_v
    replace hk_5 := blk_acc hbn hk_5 p_a_5
    replace hk_10 := blk_acc hbn hk_10 p_a_10
    replace ha_a := AccAt.or ha_a hbn
    replace hbw := bl_own hbw hl_a hbn
    clear hbn
    clear hHeld
    refine hK.out _ _ ⟨(blk_cell hk_x 0 (by rfl)), (blk_cell hk_x 1 (by rfl)), (blk_cell hk_y 0 (by rfl)), (blk_cell hk_y 1 (by rfl)), (blk_cell hk_v 0 (by rfl)), (blk_cell hk_v 1 (by rfl))⟩ (fun hHeld => ?_)
    clear hK K
    refine norm_ (a' := ?_) ?_ ?_
    rotate_left
    · show Act.put _ (some 52) _ = _
      simp only [Act.put, List.setIfInBounds_toArray, List.set_cons_zero, List.set_cons_succ, i64_w, i32_w]
      rfl
    refine one_ (i := 33) (N := some 56) #[true, true, true, true, true, true, true, true, true, true, true, true, true, true, true, true, true, true, true, true, true, true, true, true, true, true, true, true, true, true, true, true, true, true, false, false, false, false, false, false, false, false, false, false, false, false, false, false, false, false, false, false, false, false, false, false, false, false, false] rfl rfl (by kernel_rfl) (by decide) (fun K hK => ?_)
    refine goes_ Try.func38 (by kernel_rfl) rfl #[.pointer (some ⟨ga, 0, none⟩), .agg #[.int .i64 yl, .int .i64 yh], .agg #[.int .i64 vl, .int .i64 vh]] (by rfl) rfl rfl (by simp only [List.map_toArray, List.map_cons, List.map_nil] <;> rfl) ?_
    refine (Minus_some (some ⟨ga, 0, none⟩) _ yl yh vl vh _ ha_a hsyv hiyv).mono ?_
    rintro e wn ⟨rfl, hbn⟩
    refine ⟨_, rfl, ?_⟩
    rw [h3c.out, h3d.out]
    replace hk_x := blk_acc hbn hk_x p_a_x
    replace hk_y := blk_acc hbn hk_y p_a_y
    replace hk_v := blk_acc hbn hk_v p_a_v
    replace hk_5 := blk_acc hbn hk_5 p_a_5
    replace hk_10 := blk_acc hbn hk_10 p_a_10
    replace ha_a := AccAt.or ha_a hbn
    replace hbw := bl_own hbw hl_a hbn
    clear hbn
    clear hHeld
    refine hK.out _ _ ⟨(blk_cell hk_x 0 (by rfl)), (blk_cell hk_x 1 (by rfl)), (blk_cell hk_y 0 (by rfl)), (blk_cell hk_y 1 (by rfl)), (blk_cell hk_v 0 (by rfl)), (blk_cell hk_v 1 (by rfl))⟩ (fun hHeld => ?_)
    clear hK K
    refine norm_ (a' := ?_) ?_ ?_
    rotate_left
    · show Act.put _ (some 56) _ = _
      simp only [Act.put, List.setIfInBounds_toArray, List.set_cons_zero, List.set_cons_succ, i64_w, i32_w]
      rfl
    refine one_ (i := 34) (N := some 57) #[true, true, true, true, true, true, true, true, true, true, true, true, true, true, true, true, true, true, true, true, true, true, true, true, true, true, true, true, true, true, true, true, true, true, true, false, false, false, false, false, false, false, false, false, false, false, false, false, false, false, false, false, false, false, false, false, false, false, false] rfl rfl (by kernel_rfl) (by decide) (fun K hK => ?_)
    refine goes_ Try.func16 (by kernel_rfl) rfl #[.agg #[.int .i64 n3a, .int .i64 n3b], .agg #[.int .i64 n3c, .int .i64 n3d]] (by rfl) rfl rfl (by simp only [List.map_toArray, List.map_cons, List.map_nil] <;> rfl) ?_
    refine (In_calls n3a n3b n3c n3d _).mono ?_
    rintro e wn ⟨rfl, hbn⟩
    refine ⟨_, rfl, ?_⟩
    rw [i3]
    replace hk_x := bl_block hbn hk_x
    replace hk_y := bl_block hbn hk_y
    replace hk_v := bl_block hbn hk_v
    replace hk_5 := bl_block hbn hk_5
    replace hk_10 := bl_block hbn hk_10
    replace ha_a := AccAt.below ha_a hbn
    replace hbw := bl_step hbw hbn
    clear hbn
    clear hHeld
    refine hK.out _ _ ⟨(blk_cell hk_x 0 (by rfl)), (blk_cell hk_x 1 (by rfl)), (blk_cell hk_y 0 (by rfl)), (blk_cell hk_y 1 (by rfl)), (blk_cell hk_v 0 (by rfl)), (blk_cell hk_v 1 (by rfl))⟩ (fun hHeld => ?_)
    clear hK K
    refine norm_ (a' := ?_) ?_ ?_
    rotate_left
    · show Act.put _ (some 57) _ = _
      simp only [Act.put, List.setIfInBounds_toArray, List.set_cons_zero, List.set_cons_succ, i64_w, i32_w]
      rfl
    refine pure_ (i := 35) (N := some 58) (v := ?_) (a' := ?_) #[true, true, true, true, true, true, true, true, true, true, true, true, true, true, true, true, true, true, true, true, true, true, true, true, true, true, true, true, true, true, true, true, true, true, true, true, false, false, false, false, false, false, false, false, false, false, false, false, false, false, false, false, false, false, false, false, false, false, false] rfl rfl (by kernel_rfl) (fun _ _ _ h => h) (Or.inl ⟨by rfl, ?_⟩) ?_ ?_
    rotate_left
    · intro w'
      go_simp
      with_reducible rfl
    rotate_left
    · simp only [Act.put, List.setIfInBounds_toArray, List.set_cons_zero, List.set_cons_succ, i64_w, i32_w]
      rfl
    refine pure_ (i := 36) (N := some 59) (v := ?_) (a' := ?_) #[true, true, true, true, true, true, true, true, true, true, true, true, true, true, true, true, true, true, true, true, true, true, true, true, true, true, true, true, true, true, true, true, true, true, true, true, true, false, false, false, false, false, false, false, false, false, false, false, false, false, false, false, false, false, false, false, false, false, false] rfl rfl (by kernel_rfl) (fun _ _ _ h => h) (Or.inl ⟨by rfl, ?_⟩) ?_ ?_
    rotate_left
    · intro w'
      go_simp
      with_reducible rfl
    rotate_left
    · simp only [Act.put, List.setIfInBounds_toArray, List.set_cons_zero, List.set_cons_succ, i64_w, i32_w]
      rfl
    refine pure_ (i := 37) (N := some 60) (v := ?_) (a' := ?_) #[true, true, true, true, true, true, true, true, true, true, true, true, true, true, true, true, true, true, true, true, true, true, true, true, true, true, true, true, true, true, true, true, true, true, true, true, true, true, false, false, false, false, false, false, false, false, false, false, false, false, false, false, false, false, false, false, false, false, false] rfl rfl (by kernel_rfl) (fun _ _ _ h => h) (Or.inl ⟨by rfl, ?_⟩) ?_ ?_
    rotate_left
    · intro w'
      go_simp
      with_reducible rfl
    rotate_left
    · simp only [Act.put, List.setIfInBounds_toArray, List.set_cons_zero, List.set_cons_succ, i64_w, i32_w]
      rfl
    refine pure_ (i := 39) (N := some 62) (v := ?_) (a' := ?_) #[true, true, true, true, true, true, true, true, true, true, true, true, true, true, true, true, true, true, true, true, true, true, true, true, true, true, true, true, true, true, true, true, true, true, true, true, true, true, false, true, false, false, false, false, false, false, false, false, false, false, false, false, false, false, false, false, false, false, false] rfl rfl (by kernel_rfl) (fun _ _ _ h => h) (Or.inl ⟨by rfl, ?_⟩) ?_ ?_
    rotate_left
    · intro w'
      go_simp
      with_reducible rfl
    rotate_left
    · simp only [Act.put, List.setIfInBounds_toArray, List.set_cons_zero, List.set_cons_succ, i64_w, i32_w]
      rfl
    refine pure_ (i := 41) (N := some 64) (v := ?_) (a' := ?_) #[true, true, true, true, true, true, true, true, true, true, true, true, true, true, true, true, true, true, true, true, true, true, true, true, true, true, true, true, true, true, true, true, true, true, true, true, true, true, false, true, false, true, false, false, false, false, false, false, false, false, false, false, false, false, false, false, false, false, false] rfl rfl (by kernel_rfl) (fun _ _ _ h => h) (Or.inl ⟨by rfl, ?_⟩) ?_ ?_
    rotate_left
    · intro w'
      go_simp
      with_reducible rfl
    rotate_left
    · simp only [Act.put, List.setIfInBounds_toArray, List.set_cons_zero, List.set_cons_succ, i64_w, i32_w]
      rfl
    refine pure_ (i := 43) (N := some 66) (v := ?_) (a' := ?_) #[true, true, true, true, true, true, true, true, true, true, true, true, true, true, true, true, true, true, true, true, true, true, true, true, true, true, true, true, true, true, true, true, true, true, true, true, true, true, false, true, false, true, false, true, false, false, false, false, false, false, false, false, false, false, false, false, false, false, false] rfl rfl (by kernel_rfl) (fun _ _ _ h => h) (Or.inl ⟨by rfl, ?_⟩) ?_ ?_
    rotate_left
    · intro w'
      go_simp
      with_reducible rfl
    rotate_left
    · simp only [Act.put, List.setIfInBounds_toArray, List.set_cons_zero, List.set_cons_succ, i64_w, i32_w]
      rfl
    refine take_ (i := 38) (N := some 61) (v := ?_) (a' := ?_) #[true, true, true, true, true, true, true, true, true, true, true, true, true, true, true, true, true, true, true, true, true, true, true, true, true, true, true, true, true, true, true, true, true, true, true, true, true, true, true, true, false, true, false, true, false, false, false, false, false, false, false, false, false, false, false, false, false, false, false] rfl rfl (by kernel_rfl) (fun _ _ _ h => h) (Or.inl ⟨by rfl, ?_⟩) hHeld ?_ ?_
    rotate_left
    · rintro w' ⟨s0, s1, s2, s3, s4, s5⟩
      go_simp
      with_reducible rfl
    rotate_left
    · simp only [Act.put, List.setIfInBounds_toArray, List.set_cons_zero, List.set_cons_succ, i64_w, i32_w]
      rfl
    refine take_ (i := 42) (N := some 65) (v := ?_) (a' := ?_) #[true, true, true, true, true, true, true, true, true, true, true, true, true, true, true, true, true, true, true, true, true, true, true, true, true, true, true, true, true, true, true, true, true, true, true, true, true, true, true, true, false, true, true, true, false, false, false, false, false, false, false, false, false, false, false, false, false, false, false] rfl rfl (by kernel_rfl) (fun _ _ _ h => h) (Or.inl ⟨by rfl, ?_⟩) hHeld ?_ ?_
    rotate_left
    · rintro w' ⟨s0, s1, s2, s3, s4, s5⟩
      go_simp
      with_reducible rfl
    rotate_left
    · simp only [Act.put, List.setIfInBounds_toArray, List.set_cons_zero, List.set_cons_succ, i64_w, i32_w]
      rfl
    refine one_ (i := 40) (N := some 63) #[true, true, true, true, true, true, true, true, true, true, true, true, true, true, true, true, true, true, true, true, true, true, true, true, true, true, true, true, true, true, true, true, true, true, true, true, true, true, true, true, true, true, true, true, false, false, false, false, false, false, false, false, false, false, false, false, false, false, false] rfl rfl (by kernel_rfl) (by decide) (fun K hK => ?_)
    refine goes_ Try.func36 (by kernel_rfl) rfl #[.pointer (some ⟨ga, 0, none⟩), .agg #[.int .i64 xl, .int .i64 xh], .int .i64 c] (by rfl) rfl rfl (by simp only [List.map_toArray, List.map_cons, List.map_nil] <;> rfl) ?_
    refine (Times_some (some ⟨ga, 0, none⟩) _ xl xh c _ ha_a hex hx0 hx1 hx2 hx3 hc0 hc1).mono ?_
    rintro e wn ⟨rfl, hbn⟩
    refine ⟨_, rfl, ?_⟩
    rw [h4a.out, h4b.out]
    replace hk_x := blk_acc hbn hk_x p_a_x
    replace hk_y := blk_acc hbn hk_y p_a_y
    replace hk_v := blk_acc hbn hk_v p_a_v
    replace hk_5 := blk_acc hbn hk_5 p_a_5
    replace hk_10 := blk_acc hbn hk_10 p_a_10
    replace ha_a := AccAt.or ha_a hbn
    replace hbw := bl_own hbw hl_a hbn
    clear hbn
    clear hHeld
    refine hK.out _ _ ⟨(blk_cell hk_x 0 (by rfl)), (blk_cell hk_x 1 (by rfl)), (blk_cell hk_y 0 (by rfl)), (blk_cell hk_y 1 (by rfl)), (blk_cell hk_v 0 (by rfl)), (blk_cell hk_v 1 (by rfl))⟩ (fun hHeld => ?_)
    clear hK K
    refine norm_ (a' := ?_) ?_ ?_
    rotate_left
    · show Act.put _ (some 63) _ = _
      simp only [Act.put, List.setIfInBounds_toArray, List.set_cons_zero, List.set_cons_succ, i64_w, i32_w]
      rfl
    refine one_ (i := 44) (N := some 67) #[true, true, true, true, true, true, true, true, true, true, true, true, true, true, true, true, true, true, true, true, true, true, true, true, true, true, true, true, true, true, true, true, true, true, true, true, true, true, true, true, true, true, true, true, true, false, false, false, false, false, false, false, false, false, false, false, false, false, false] rfl rfl (by kernel_rfl) (by decide) (fun K hK => ?_)
    refine goes_ Try.func36 (by kernel_rfl) rfl #[.pointer (some ⟨ga, 0, none⟩), .agg #[.int .i64 vl, .int .i64 vh], .int .i64 c] (by rfl) rfl rfl (by simp only [List.map_toArray, List.map_cons, List.map_nil] <;> rfl) ?_
    refine (Times_some (some ⟨ga, 0, none⟩) _ vl vh c _ ha_a hvn v3 vl1 vh0 v4 hc0 hc1).mono ?_
    rintro e wn ⟨rfl, hbn⟩
    refine ⟨_, rfl, ?_⟩
    rw [h4c.out, h4d.out]
    replace hk_x := blk_acc hbn hk_x p_a_x
    replace hk_y := blk_acc hbn hk_y p_a_y
    replace hk_v := blk_acc hbn hk_v p_a_v
    replace hk_5 := blk_acc hbn hk_5 p_a_5
    replace hk_10 := blk_acc hbn hk_10 p_a_10
    replace ha_a := AccAt.or ha_a hbn
    replace hbw := bl_own hbw hl_a hbn
    clear hbn
    clear hHeld
    refine hK.out _ _ ⟨(blk_cell hk_x 0 (by rfl)), (blk_cell hk_x 1 (by rfl)), (blk_cell hk_y 0 (by rfl)), (blk_cell hk_y 1 (by rfl)), (blk_cell hk_v 0 (by rfl)), (blk_cell hk_v 1 (by rfl))⟩ (fun hHeld => ?_)
    clear hK K
    refine norm_ (a' := ?_) ?_ ?_
    rotate_left
    · show Act.put _ (some 67) _ = _
      simp only [Act.put, List.setIfInBounds_toArray, List.set_cons_zero, List.set_cons_succ, i64_w, i32_w]
      rfl
    refine one_ (i := 45) (N := some 68) #[true, true, true, true, true, true, true, true, true, true, true, true, true, true, true, true, true, true, true, true, true, true, true, true, true, true, true, true, true, true, true, true, true, true, true, true, true, true, true, true, true, true, true, true, true, true, false, false, false, false, false, false, false, false, false, false, false, false, false] rfl rfl (by kernel_rfl) (by decide) (fun K hK => ?_)
    refine goes_ Try.func16 (by kernel_rfl) rfl #[.agg #[.int .i64 n4a, .int .i64 n4b], .agg #[.int .i64 n4c, .int .i64 n4d]] (by rfl) rfl rfl (by simp only [List.map_toArray, List.map_cons, List.map_nil] <;> rfl) ?_
    refine (In_calls n4a n4b n4c n4d _).mono ?_
    rintro e wn ⟨rfl, hbn⟩
    refine ⟨_, rfl, ?_⟩
    rw [i4]
    replace hk_x := bl_block hbn hk_x
    replace hk_y := bl_block hbn hk_y
    replace hk_v := bl_block hbn hk_v
    replace hk_5 := bl_block hbn hk_5
    replace hk_10 := bl_block hbn hk_10
    replace ha_a := AccAt.below ha_a hbn
    replace hbw := bl_step hbw hbn
    clear hbn
    clear hHeld
    refine hK.out _ _ ⟨(blk_cell hk_x 0 (by rfl)), (blk_cell hk_x 1 (by rfl)), (blk_cell hk_y 0 (by rfl)), (blk_cell hk_y 1 (by rfl)), (blk_cell hk_v 0 (by rfl)), (blk_cell hk_v 1 (by rfl))⟩ (fun hHeld => ?_)
    clear hK K
    refine norm_ (a' := ?_) ?_ ?_
    rotate_left
    · show Act.put _ (some 68) _ = _
      simp only [Act.put, List.setIfInBounds_toArray, List.set_cons_zero, List.set_cons_succ, i64_w, i32_w]
      rfl
    refine pure_ (i := 46) (N := some 69) (v := ?_) (a' := ?_) #[true, true, true, true, true, true, true, true, true, true, true, true, true, true, true, true, true, true, true, true, true, true, true, true, true, true, true, true, true, true, true, true, true, true, true, true, true, true, true, true, true, true, true, true, true, true, true, false, false, false, false, false, false, false, false, false, false, false, false] rfl rfl (by kernel_rfl) (fun _ _ _ h => h) (Or.inl ⟨by rfl, ?_⟩) ?_ ?_
    rotate_left
    · intro w'
      go_simp
      with_reducible rfl
    rotate_left
    · simp only [Act.put, List.setIfInBounds_toArray, List.set_cons_zero, List.set_cons_succ, i64_w, i32_w]
      rfl
    refine pure_ (i := 47) (N := some 70) (v := ?_) (a' := ?_) #[true, true, true, true, true, true, true, true, true, true, true, true, true, true, true, true, true, true, true, true, true, true, true, true, true, true, true, true, true, true, true, true, true, true, true, true, true, true, true, true, true, true, true, true, true, true, true, true, false, false, false, false, false, false, false, false, false, false, false] rfl rfl (by kernel_rfl) (fun _ _ _ h => h) (Or.inl ⟨by rfl, ?_⟩) ?_ ?_
    rotate_left
    · intro w'
      go_simp
      with_reducible rfl
    rotate_left
    · simp only [Act.put, List.setIfInBounds_toArray, List.set_cons_zero, List.set_cons_succ, i64_w, i32_w]
      rfl
    refine pure_ (i := 48) (N := some 71) (v := ?_) (a' := ?_) #[true, true, true, true, true, true, true, true, true, true, true, true, true, true, true, true, true, true, true, true, true, true, true, true, true, true, true, true, true, true, true, true, true, true, true, true, true, true, true, true, true, true, true, true, true, true, true, true, true, false, false, false, false, false, false, false, false, false, false] rfl rfl (by kernel_rfl) (fun _ _ _ h => h) (Or.inl ⟨by rfl, ?_⟩) ?_ ?_
    rotate_left
    · intro w'
      go_simp
      with_reducible rfl
    rotate_left
    · simp only [Act.put, List.setIfInBounds_toArray, List.set_cons_zero, List.set_cons_succ, i64_w, i32_w]
      rfl
    refine pure_ (i := 52) (N := some 75) (v := ?_) (a' := ?_) #[true, true, true, true, true, true, true, true, true, true, true, true, true, true, true, true, true, true, true, true, true, true, true, true, true, true, true, true, true, true, true, true, true, true, true, true, true, true, true, true, true, true, true, true, true, true, true, true, true, false, false, false, true, false, false, false, false, false, false] rfl rfl (by kernel_rfl) (fun _ _ _ h => h) (Or.inl ⟨by rfl, ?_⟩) ?_ ?_
    rotate_left
    · intro w'
      go_simp
      with_reducible rfl
    rotate_left
    · simp only [Act.put, List.setIfInBounds_toArray, List.set_cons_zero, List.set_cons_succ, i64_w, i32_w]
      rfl
    refine take_ (i := 49) (N := some 72) (v := ?_) (a' := ?_) #[true, true, true, true, true, true, true, true, true, true, true, true, true, true, true, true, true, true, true, true, true, true, true, true, true, true, true, true, true, true, true, true, true, true, true, true, true, true, true, true, true, true, true, true, true, true, true, true, true, true, false, false, true, false, false, false, false, false, false] rfl rfl (by kernel_rfl) (fun _ _ _ h => h) (Or.inl ⟨by rfl, ?_⟩) hHeld ?_ ?_
    rotate_left
    · rintro w' ⟨s0, s1, s2, s3, s4, s5⟩
      go_simp
      with_reducible rfl
    rotate_left
    · simp only [Act.put, List.setIfInBounds_toArray, List.set_cons_zero, List.set_cons_succ, i64_w, i32_w]
      rfl
    refine take_ (i := 50) (N := some 73) (v := ?_) (a' := ?_) #[true, true, true, true, true, true, true, true, true, true, true, true, true, true, true, true, true, true, true, true, true, true, true, true, true, true, true, true, true, true, true, true, true, true, true, true, true, true, true, true, true, true, true, true, true, true, true, true, true, true, true, false, true, false, false, false, false, false, false] rfl rfl (by kernel_rfl) (fun _ _ _ h => h) (Or.inl ⟨by rfl, ?_⟩) hHeld ?_ ?_
    rotate_left
    · rintro w' ⟨s0, s1, s2, s3, s4, s5⟩
      go_simp
      with_reducible rfl
    rotate_left
    · simp only [Act.put, List.setIfInBounds_toArray, List.set_cons_zero, List.set_cons_succ, i64_w, i32_w]
      rfl
    refine take_ (i := 53) (N := some 76) (v := ?_) (a' := ?_) #[true, true, true, true, true, true, true, true, true, true, true, true, true, true, true, true, true, true, true, true, true, true, true, true, true, true, true, true, true, true, true, true, true, true, true, true, true, true, true, true, true, true, true, true, true, true, true, true, true, true, true, false, true, true, false, false, false, false, false] rfl rfl (by kernel_rfl) (fun _ _ _ h => h) (Or.inl ⟨by rfl, ?_⟩) hHeld ?_ ?_
    rotate_left
    · rintro w' ⟨s0, s1, s2, s3, s4, s5⟩
      go_simp
      with_reducible rfl
    rotate_left
    · simp only [Act.put, List.setIfInBounds_toArray, List.set_cons_zero, List.set_cons_succ, i64_w, i32_w]
      rfl
    refine take_ (i := 54) (N := some 77) (v := ?_) (a' := ?_) #[true, true, true, true, true, true, true, true, true, true, true, true, true, true, true, true, true, true, true, true, true, true, true, true, true, true, true, true, true, true, true, true, true, true, true, true, true, true, true, true, true, true, true, true, true, true, true, true, true, true, true, false, true, true, true, false, false, false, false] rfl rfl (by kernel_rfl) (fun _ _ _ h => h) (Or.inl ⟨by rfl, ?_⟩) hHeld ?_ ?_
    rotate_left
    · rintro w' ⟨s0, s1, s2, s3, s4, s5⟩
      go_simp
      with_reducible rfl
    rotate_left
    · simp only [Act.put, List.setIfInBounds_toArray, List.set_cons_zero, List.set_cons_succ, i64_w, i32_w]
      rfl
    refine one_ (i := 51) (N := some 74) #[true, true, true, true, true, true, true, true, true, true, true, true, true, true, true, true, true, true, true, true, true, true, true, true, true, true, true, true, true, true, true, true, true, true, true, true, true, true, true, true, true, true, true, true, true, true, true, true, true, true, true, true, true, true, true, false, false, false, false] rfl rfl (by kernel_rfl) (by decide) (fun K hK => ?_)
    refine goes_ Try.func42 (by kernel_rfl) rfl #[.pointer (some ⟨ga, 0, none⟩), .agg #[.int .i64 xl, .int .i64 xh], .agg #[.int .i64 yl, .int .i64 yh]] (by rfl) rfl rfl (by simp only [List.map_toArray, List.map_cons, List.map_nil] <;> rfl) ?_
    refine (Cross_some (some ⟨ga, 0, none⟩) _ xl xh yl yh _ ha_a hsxy hx0 hx1 hx2 hx3 hy0 hy1 hy2 hy3).mono ?_
    rintro e wn ⟨rfl, hbn⟩
    refine ⟨_, rfl, ?_⟩
    rw [h5a.out, h5b.out]
    replace hk_x := blk_acc hbn hk_x p_a_x
    replace hk_y := blk_acc hbn hk_y p_a_y
    replace hk_v := blk_acc hbn hk_v p_a_v
    replace hk_5 := blk_acc hbn hk_5 p_a_5
    replace hk_10 := blk_acc hbn hk_10 p_a_10
    replace ha_a := AccAt.or ha_a hbn
    replace hbw := bl_own hbw hl_a hbn
    clear hbn
    clear hHeld
    refine hK.out _ _ ⟨(blk_cell hk_x 0 (by rfl)), (blk_cell hk_x 1 (by rfl)), (blk_cell hk_y 0 (by rfl)), (blk_cell hk_y 1 (by rfl)), (blk_cell hk_v 0 (by rfl)), (blk_cell hk_v 1 (by rfl))⟩ (fun hHeld => ?_)
    clear hK K
    refine norm_ (a' := ?_) ?_ ?_
    rotate_left
    · show Act.put _ (some 74) _ = _
      simp only [Act.put, List.setIfInBounds_toArray, List.set_cons_zero, List.set_cons_succ, i64_w, i32_w]
      rfl
    refine one_ (i := 55) (N := some 78) #[true, true, true, true, true, true, true, true, true, true, true, true, true, true, true, true, true, true, true, true, true, true, true, true, true, true, true, true, true, true, true, true, true, true, true, true, true, true, true, true, true, true, true, true, true, true, true, true, true, true, true, true, true, true, true, true, false, false, false] rfl rfl (by kernel_rfl) (by decide) (fun K hK => ?_)
    refine goes_ Try.func42 (by kernel_rfl) rfl #[.pointer (some ⟨ga, 0, none⟩), .agg #[.int .i64 vl, .int .i64 vh], .agg #[.int .i64 yl, .int .i64 yh]] (by rfl) rfl rfl (by simp only [List.map_toArray, List.map_cons, List.map_nil] <;> rfl) ?_
    refine (Cross_some (some ⟨ga, 0, none⟩) _ vl vh yl yh _ ha_a hsvy v3 vl1 vh0 v4 hy0 hy1 hy2 hy3).mono ?_
    rintro e wn ⟨rfl, hbn⟩
    refine ⟨_, rfl, ?_⟩
    rw [h5c.out, h5d.out]
    replace hk_x := blk_acc hbn hk_x p_a_x
    replace hk_y := blk_acc hbn hk_y p_a_y
    replace hk_v := blk_acc hbn hk_v p_a_v
    replace hk_5 := blk_acc hbn hk_5 p_a_5
    replace hk_10 := blk_acc hbn hk_10 p_a_10
    replace ha_a := AccAt.or ha_a hbn
    replace hbw := bl_own hbw hl_a hbn
    clear hbn
    clear hHeld
    refine hK.out _ _ ⟨(blk_cell hk_x 0 (by rfl)), (blk_cell hk_x 1 (by rfl)), (blk_cell hk_y 0 (by rfl)), (blk_cell hk_y 1 (by rfl)), (blk_cell hk_v 0 (by rfl)), (blk_cell hk_v 1 (by rfl))⟩ (fun hHeld => ?_)
    clear hK K
    refine norm_ (a' := ?_) ?_ ?_
    rotate_left
    · show Act.put _ (some 78) _ = _
      simp only [Act.put, List.setIfInBounds_toArray, List.set_cons_zero, List.set_cons_succ, i64_w, i32_w]
      rfl
    refine one_ (i := 56) (N := some 79) #[true, true, true, true, true, true, true, true, true, true, true, true, true, true, true, true, true, true, true, true, true, true, true, true, true, true, true, true, true, true, true, true, true, true, true, true, true, true, true, true, true, true, true, true, true, true, true, true, true, true, true, true, true, true, true, true, true, false, false] rfl rfl (by kernel_rfl) (by decide) (fun K hK => ?_)
    refine goes_ Try.func16 (by kernel_rfl) rfl #[.agg #[.int .i64 n5a, .int .i64 n5b], .agg #[.int .i64 n5c, .int .i64 n5d]] (by rfl) rfl rfl (by simp only [List.map_toArray, List.map_cons, List.map_nil] <;> rfl) ?_
    refine (In_calls n5a n5b n5c n5d _).mono ?_
    rintro e wn ⟨rfl, hbn⟩
    refine ⟨_, rfl, ?_⟩
    rw [i5]
    replace hk_x := bl_block hbn hk_x
    replace hk_y := bl_block hbn hk_y
    replace hk_v := bl_block hbn hk_v
    replace hk_5 := bl_block hbn hk_5
    replace hk_10 := bl_block hbn hk_10
    replace ha_a := AccAt.below ha_a hbn
    replace hbw := bl_step hbw hbn
    clear hbn
    clear hHeld
    refine hK.out _ _ ⟨(blk_cell hk_x 0 (by rfl)), (blk_cell hk_x 1 (by rfl)), (blk_cell hk_y 0 (by rfl)), (blk_cell hk_y 1 (by rfl)), (blk_cell hk_v 0 (by rfl)), (blk_cell hk_v 1 (by rfl))⟩ (fun hHeld => ?_)
    clear hK K
    refine norm_ (a' := ?_) ?_ ?_
    rotate_left
    · show Act.put _ (some 79) _ = _
      simp only [Act.put, List.setIfInBounds_toArray, List.set_cons_zero, List.set_cons_succ, i64_w, i32_w]
      rfl
    refine pure_ (i := 57) (N := some 80) (v := ?_) (a' := ?_) #[true, true, true, true, true, true, true, true, true, true, true, true, true, true, true, true, true, true, true, true, true, true, true, true, true, true, true, true, true, true, true, true, true, true, true, true, true, true, true, true, true, true, true, true, true, true, true, true, true, true, true, true, true, true, true, true, true, true, false] rfl rfl (by kernel_rfl) (fun _ _ _ h => h) (Or.inl ⟨by rfl, ?_⟩) ?_ ?_
    rotate_left
    · intro w'
      go_simp
      with_reducible rfl
    rotate_left
    · simp only [Act.put, List.setIfInBounds_toArray, List.set_cons_zero, List.set_cons_succ, i64_w, i32_w]
      rfl
    refine pure_ (i := 58) (N := some 8) (v := ?_) (a' := ?_) #[true, true, true, true, true, true, true, true, true, true, true, true, true, true, true, true, true, true, true, true, true, true, true, true, true, true, true, true, true, true, true, true, true, true, true, true, true, true, true, true, true, true, true, true, true, true, true, true, true, true, true, true, true, true, true, true, true, true, true] rfl rfl (by kernel_rfl) (fun _ _ _ h => h) (Or.inl ⟨by rfl, ?_⟩) ?_ ?_
    rotate_left
    · intro w'
      go_simp
      with_reducible rfl
    rotate_left
    · simp only [Act.put, List.setIfInBounds_toArray, List.set_cons_zero, List.set_cons_succ, i64_w, i32_w]
      rfl
    refine done_ (by kernel_rfl) ?_
    go_wp2
    go_ret
    exact ⟨rfl, hbw⟩
end Go.Proofs.Ytljkhfookegmaaa
