/- Proved here: lemmas and contracts (what a function of the program computes) that the proofs of the laws of this seat lean on. Conditions: as each theorem states. -/
import Derived.Test.YtljkhfookegmaaaLaw2h
set_option linter.unusedVariables false
set_option linter.unusedSimpArgs false
namespace Go.Proofs.Ytljkhfookegmaaa
open Go.RowKit Go.Pk
set_option maxHeartbeats 100000000 in
set_option maxRecDepth 100000 in
theorem SpanHolds_empty (xl xh yl yh c i j : Int) (w : World) (hs : someB [⟨xl, xh⟩, ⟨yl, yh⟩] = false) (hyy : xh < xl ∨ yh < yl) :
    Calls Try.prog 10 #[.agg #[.int .i64 (xl), .int .i64 (xh)], .agg #[.int .i64 (yl), .int .i64 (yh)], .int .i64 c, .int .i64 i, .int .i64 j] w fun e w' => e = .returned (.bool true) ∧ Below w.heap.size w w' := by
  have hs' := hidI hs
  clear hs
  by_cases hex : xh < xl
  · have hx : decide (xh < xl) = true := decide_eq_true hex
    have hy : True := trivial
    go_enter Try.func10, Try.ntmps10
    go_upto_region 1 with fail
    have hk_x : ((w.alloc (.cells #[.int .i64 xl, .int .i64 xh] 23)).alloc (.cells #[.int .i64 yl, .int .i64 yh] 23)).heap[w.heap.size]? = some (.cells #[.int .i64 xl, .int .i64 xh] 23 (0, 0)) := (by (repeat (first | with_reducible assumption | with_reducible exact blk_new _ _ | with_reducible apply blk_drew | (with_reducible refine blk_newE ?_; (first | done | (simp; done))) | with_reducible apply blk_put2 | (with_reducible refine blk_far ?_ (by first | omega | (simp; done) | (simp; omega)) _) | with_reducible apply blk_alloc | (with_reducible refine bl_block (by assumption) ?_) | (with_reducible refine blk_grown ?_ (by assumption) (by assumption)) | (with_reducible refine blk_acc (by assumption) ?_ (by assumption)))))
    have hk_y : ((w.alloc (.cells #[.int .i64 xl, .int .i64 xh] 23)).alloc (.cells #[.int .i64 yl, .int .i64 yh] 23)).heap[w.heap.size + 1]? = some (.cells #[.int .i64 yl, .int .i64 yh] 23 (0, 0)) := (by (repeat (first | with_reducible assumption | with_reducible exact blk_new _ _ | with_reducible apply blk_drew | (with_reducible refine blk_newE ?_; (first | done | (simp; done))) | with_reducible apply blk_put2 | (with_reducible refine blk_far ?_ (by first | omega | (simp; done) | (simp; omega)) _) | with_reducible apply blk_alloc | (with_reducible refine bl_block (by assumption) ?_) | (with_reducible refine blk_grown ?_ (by assumption) (by assumption)) | (with_reducible refine blk_acc (by assumption) ?_ (by assumption)))))
    have hbw : Below w.heap.size w ((w.alloc (.cells #[.int .i64 xl, .int .i64 xh] 23)).alloc (.cells #[.int .i64 yl, .int .i64 yh] 23)) := (by (repeat (first | with_reducible exact Below.refl _ _ | with_reducible assumption | with_reducible apply bl_alloc | with_reducible apply bl_drew | with_reducible apply bl_drewN | (with_reducible refine bl_set ?_ (by first | omega | (simp; done) | (simp; omega)) _) | (with_reducible refine bl_step ?_ (by assumption)) | (with_reducible refine bl_grown ?_ (by assumption) (by assumption)) | (with_reducible refine bl_own ?_ (by assumption) (by assumption)))))
    generalize (w.alloc (.cells #[.int .i64 xl, .int .i64 xh] 23)).alloc (.cells #[.int .i64 yl, .int .i64 yh] 23) = W at *
    have m0 := blk_two hk_x
    have m1 := blk_two hk_y
    go_upto_region 4 with (first | (go_at_call 13; refine (Empty_calls _ _ _).mono ?_; rintro e wn ⟨rfl, hbn⟩; (first | rw [hx] | rw [hy]); replace hk_x : wn.heap[w.heap.size]? = some (.cells #[.int .i64 xl, .int .i64 xh] 23 (0, 0)) := bl_block hbn hk_x; replace hk_y : wn.heap[w.heap.size + 1]? = some (.cells #[.int .i64 yl, .int .i64 yh] 23 (0, 0)) := bl_block hbn hk_y; replace hbw : Below w.heap.size w wn := bl_step hbw hbn; clear hbn m0 m1; have m0 := blk_two hk_x; have m1 := blk_two hk_y) | fail)
    clear m0 m1
    have hk_ga : ((wn.alloc (.cells #[.bool false] 50)).alloc (.cells #[.int .i64 0, .int .i64 (-1)] 23)).heap[wn.heap.size]? = some (.cells #[.bool false] 50 (0, 0)) := blk_alloc (blk_new wn (.cells #[.bool false] 50)) (.cells #[.int .i64 0, .int .i64 (-1)] 23)
    have hk_gn : ((wn.alloc (.cells #[.bool false] 50)).alloc (.cells #[.int .i64 0, .int .i64 (-1)] 23)).heap[wn.heap.size + 1]? = some (.cells #[.int .i64 0, .int .i64 (-1)] 23 (0, 0)) := by have h_ := blk_new (wn.alloc (.cells #[.bool false] 50)) (.cells #[.int .i64 0, .int .i64 (-1)] 23); simpa using h_
    replace hk_x := blk_alloc (blk_alloc hk_x (.cells #[.bool false] 50)) (.cells #[.int .i64 0, .int .i64 (-1)] 23)
    replace hk_y := blk_alloc (blk_alloc hk_y (.cells #[.bool false] 50)) (.cells #[.int .i64 0, .int .i64 (-1)] 23)
    replace hbw := bl_alloc (bl_alloc hbw (.cells #[.bool false] 50)) (.cells #[.int .i64 0, .int .i64 (-1)] 23)
    generalize ((wn.alloc (.cells #[.bool false] 50)).alloc (.cells #[.int .i64 0, .int .i64 (-1)] 23)) = W2 at *
    generalize wn.heap.size + 1 = gn at *
    generalize wn.heap.size = ga at *
    generalize w.heap.size + 1 = gy at *
    obtain ⟨w0, hw0⟩ : ∃ z : World, z = w := ⟨_, rfl⟩
    rw [← hw0] at hbw hk_x ⊢
    obtain ⟨gx, hgx⟩ : ∃ g, g = w0.heap.size := ⟨_, rfl⟩
    rw [← hgx] at hk_x ⊢
    clear hgx
    have hk_gx := hk_x
    have hk_gy := hk_y
    clear hk_x hk_y
    obtain ⟨B0, hB0⟩ : ∃ B, B = W2.heap.size := ⟨_, rfl⟩
    have c0_hsz : B0 ≤ W2.heap.size := Nat.le_of_eq hB0
    have hw0B0 : w0.heap.size ≤ B0 := by rw [hB0]; exact hbw.size
    have c0_hk_gx := blk_drew hk_gx
    have c0_lt_gx : gx < B0 := by rw [hB0]; exact blk_lt hk_gx
    have c0_hk_gy := blk_drew hk_gy
    have c0_lt_gy : gy < B0 := by rw [hB0]; exact blk_lt hk_gy
    have c0_hk_ga := blk_drew hk_ga
    have c0_lt_ga : ga < B0 := by rw [hB0]; exact blk_lt hk_ga
    have c0_hk_gn := blk_drew hk_gn
    have c0_lt_gn : gn < B0 := by rw [hB0]; exact blk_lt hk_gn
    have c0_hbw := bl_drew hbw
    clear hB0 hbw hk_gx hk_gy hk_ga hk_gn
    refine region_lin (n := 27) (st := ?st1) { R := [0, 1, 3, 3, 3, 27, 63, 3, 255, 511, 1023, 2047, 2047, 2047, 16383, 2047, 65535, 131071, 262143, 524287, 524287, 524287, 4194303, 524287, 16777215, 33554431, 67108863], kill := [[], [], [], [], [], [], [], [], [], [], [], [], [], [], [], [], [], [], [], [], [], [], [], [], [], [], []], cls := [0, 0, 0, 0, 0, 0, 0, 0, 0, 0, 0, 0, 0, 0, 0, 0, 0, 0, 0, 0, 0, 0, 0, 0, 0, 0, 0], dst := [some 30, some 31, some 32, some 33, some 34, some 35, some 36, some 37, some 38, some 39, some 40, some 41, some 42, some 43, some 44, some 45, some 46, some 47, some 48, some 49, some 50, some 51, some 52, some 53, some 54, some 55, some 10], pre := [[], [0], [1], [1], [1], [1, 3, 4], [1, 2, 5], [1], [1, 6, 7], [1, 8], [9], [10], [10], [10], [10, 11, 12, 13], [10], [10, 14, 15], [10, 16], [17], [18], [18], [18], [18, 19, 20, 21], [18], [18, 22, 23], [18, 24], [25]], cov := [(0, 5)], fin := [26], locs := [(5, 35)], tgt := [none], abt := [none, none, none, none, none, some 35, none, none, none, none, none, none, none, none, none, none, none, none, none, none, none, none, none, none, none, none, none] }
      [.v [30] (fun vs => (vs.getD 0 undef) = .bool true),
       .v [31] (fun vs => (vs.getD 0 undef) = .bool true),
       .v [32] (fun vs => (vs.getD 0 undef) = .pointer (some ⟨ga, 0, none⟩)),
       .v [33] (fun vs => (vs.getD 0 undef) = .agg #[.int .i64 xl, .int .i64 xh]),
       .v [34] (fun vs => (vs.getD 0 undef) = .agg #[.int .i64 yl, .int .i64 yh]),
       .w [35] (fun vs w => ∃ g5 : Nat, (vs.getD 0 undef) = .slice (some ⟨g5, 0, none⟩) 2 2 ∧ B0 ≤ g5 ∧ w.heap[g5]? = some (.cells #[.int .i64 xl, .int .i64 xh, .int .i64 yl, .int .i64 yh] 23 (0, 0))),
       .v [36] (fun vs => (vs.getD 0 undef) = .agg #[.int .i64 0, .int .i64 (-1)]),
       .v [37] (fun vs => (vs.getD 0 undef) = .agg #[.int .i64 0, .int .i64 (-1)]),
       .v [38] (fun vs => (vs.getD 0 undef) = .bool true),
       .v [39] (fun vs => (vs.getD 0 undef) = .bool true),
       .v [40] (fun vs => (vs.getD 0 undef) = .bool true),
       .v [41] (fun vs => (vs.getD 0 undef) = .pointer (some ⟨ga, 0, none⟩)),
       .v [42] (fun vs => (vs.getD 0 undef) = .agg #[.int .i64 xl, .int .i64 xh]),
       .v [43] (fun vs => (vs.getD 0 undef) = .agg #[.int .i64 yl, .int .i64 yh]),
       .v [44] (fun vs => (vs.getD 0 undef) = .agg #[.int .i64 0, .int .i64 (-1)]),
       .v [45] (fun vs => (vs.getD 0 undef) = .agg #[.int .i64 0, .int .i64 (-1)]),
       .v [46] (fun vs => (vs.getD 0 undef) = .bool true),
       .v [47] (fun vs => (vs.getD 0 undef) = .bool true),
       .v [48] (fun vs => (vs.getD 0 undef) = .bool true),
       .v [49] (fun vs => (vs.getD 0 undef) = .pointer (some ⟨ga, 0, none⟩)),
       .v [50] (fun vs => (vs.getD 0 undef) = .agg #[.int .i64 xl, .int .i64 xh]),
       .v [51] (fun vs => (vs.getD 0 undef) = .agg #[.int .i64 yl, .int .i64 yh]),
       .v [52] (fun vs => (vs.getD 0 undef) = .agg #[.int .i64 0, .int .i64 (-1)]),
       .v [53] (fun vs => (vs.getD 0 undef) = .agg #[.int .i64 0, .int .i64 (-1)]),
       .v [54] (fun vs => (vs.getD 0 undef) = .bool true),
       .v [55] (fun vs => (vs.getD 0 undef) = .bool true),
       .v [10] (fun vs => (vs.getD 0 undef) = .bool true)]
      (fun w => B0 ≤ w.heap.size ∧ w.heap[gx]? = some (.cells #[.int .i64 xl, .int .i64 xh] 23 (0, 0)) ∧ gx < B0 ∧ w.heap[gy]? = some (.cells #[.int .i64 yl, .int .i64 yh] 23 (0, 0)) ∧ gy < B0 ∧ w.heap[ga]? = some (.cells #[.bool false] 50 (0, 0)) ∧ ga < B0 ∧ w.heap[gn]? = some (.cells #[.int .i64 0, .int .i64 (-1)] 23 (0, 0)) ∧ gn < B0 ∧ Below w0.heap.size w0 w)
      (fun c => ([fun s w w' => Below w.heap.size w w'] : List ((Nat → Value) → World → World → Prop)).getD c (fun s w w' => w' = w))
      [10, 30, 31, 32, 33, 34, 35, 36, 37, 38, 39, 40, 41, 42, 43, 44, 45, 46, 47, 48, 49, 50, 51, 52, 53, 54, 55] (by kernel_rfl) ⟨by kernel_rfl, by kernel_rfl, by kernel_rfl, by kernel_rfl, by kernel_rfl, by kernel_rfl, by kernel_rfl, by kernel_rfl⟩ (fun s => ?_) ?_ ?_ ?_ ?_ ?_ (fun s w hC hA => ?_)
    rotate_left
    · simp only [fillS, List.foldl, List.setIfInBounds_toArray, List.set_cons_zero, List.set_cons_succ]; rfl
    · exact ⟨c0_hsz, c0_hk_gx, c0_lt_gx, c0_hk_gy, c0_lt_gy, c0_hk_ga, c0_lt_ga, c0_hk_gn, c0_lt_gn, c0_hbw⟩
    · intro c s w w' hE
      match c, hE with
      | 0, hE => exact Below.size hE
      | c + 1, hE => cases hE; exact Nat.le_refl _
    · rintro c s w w' ⟨hsz, hk_gx, lt_gx, hk_gy, lt_gy, hk_ga, lt_ga, hk_gn, lt_gn, hbw⟩ hE
      match c, hE with
      | 0, hE => replace hE : Below w.heap.size w w' := hE; exact ⟨Nat.le_trans hsz hE.size, bl_block hE hk_gx, lt_gx, bl_block hE hk_gy, lt_gy, bl_block hE hk_ga, lt_ga, bl_block hE hk_gn, lt_gn, bl_step hbw hE⟩
      | c + 1, hE => cases hE; exact ⟨hsz, hk_gx, lt_gx, hk_gy, lt_gy, hk_ga, lt_ga, hk_gn, lt_gn, hbw⟩
    · refine ⟨?_, trivial⟩
      · intro s w w' hD hC hE hF
        replace hF : ∃ g5 : Nat, (s 35) = .slice (some ⟨g5, 0, none⟩) 2 2 ∧ B0 ≤ g5 ∧ w.heap[g5]? = some (.cells #[.int .i64 xl, .int .i64 xh, .int .i64 yl, .int .i64 yh] 23 (0, 0)) := hF
        show ∃ g5 : Nat, (s 35) = .slice (some ⟨g5, 0, none⟩) 2 2 ∧ B0 ≤ g5 ∧ w'.heap[g5]? = some (.cells #[.int .i64 xl, .int .i64 xh, .int .i64 yl, .int .i64 yh] 23 (0, 0))
        replace hE : Below w.heap.size w w' := hE
        obtain ⟨g5, h1, h2, h3⟩ := hF
        exact ⟨g5, h1, h2, bl_block hE h3⟩
    · skip
      refine StepsP.cons ?_ ?_
      · intro Q s w hC hA K hK
        obtain ⟨hsz, hk_gx, lt_gx, hk_gy, lt_gy, hk_ga, lt_ga, hk_gn, lt_gn, hbw⟩ := hC
        clear hA
        refine guard_none (by rfl) ?_
        refine wp_call (N := some 30) (by rfl) Try.func15 (by kernel_rfl) #[] rfl (by rfl) ?_ ?_
        · show [] = []
          first | rfl | simp only []
        refine (alive_calls _).mono ?_
        rintro e w1 ⟨rfl, hb⟩
        refine ⟨_, rfl, ?_⟩
        exact hK.out _ _ hb rfl (fun h => by cases h)
      refine StepsP.cons ?_ ?_
      · intro Q s w hC hA K hK
        clear hC
        obtain ⟨f0, -⟩ := hA
        replace f0 : (s 30) = .bool true := f0
        refine guard_none (by rfl) ?_
        refine wp_value (v := .bool true) (w1 := w) ?_ (hK.out _ w (Below.refl _ _) rfl (fun h => by cases h))
        try simp only [f0]
        go_simp
        try (first | done | rfl | (simp; done))
      refine StepsP.cons ?_ ?_
      · intro Q s w hC hA K hK
        clear hC
        obtain ⟨f1, -⟩ := hA
        replace f1 : (s 31) = .bool true := f1
        refine guard_on (d := 31) (want := true) (by rfl) (by rfl) ?_ ?_
        · exact f1
        refine wp_value (v := .pointer (some ⟨ga, 0, none⟩)) (w1 := w) ?_ (hK.out _ w (Below.refl _ _) rfl (fun h => by cases h))
        try simp only [f1]
        go_simp
        try (first | done | rfl | (simp; done))
      refine StepsP.cons ?_ ?_
      · intro Q s w hC hA K hK
        obtain ⟨hsz, hk_gx, lt_gx, hk_gy, lt_gy, hk_ga, lt_ga, hk_gn, lt_gn, hbw⟩ := hC
        obtain ⟨f1, -⟩ := hA
        replace f1 : (s 31) = .bool true := f1
        refine guard_on (d := 31) (want := true) (by rfl) (by rfl) ?_ ?_
        · exact f1
        have m0_gx : w.cell? ⟨gx, 0, none⟩ = some (.int .i64 xl) := blk_cell hk_gx 0 (by rfl)
        have m1_gx : w.cell? ⟨gx, 1, none⟩ = some (.int .i64 xh) := blk_cell hk_gx 1 (by rfl)
        refine wp_value (v := .agg #[.int .i64 xl, .int .i64 xh]) (w1 := w) ?_ (hK.out _ w (Below.refl _ _) rfl (fun h => by cases h))
        try simp only [f1]
        go_simp
        try (first | done | rfl | (simp; done))
      refine StepsP.cons ?_ ?_
      · intro Q s w hC hA K hK
        obtain ⟨hsz, hk_gx, lt_gx, hk_gy, lt_gy, hk_ga, lt_ga, hk_gn, lt_gn, hbw⟩ := hC
        obtain ⟨f1, -⟩ := hA
        replace f1 : (s 31) = .bool true := f1
        refine guard_on (d := 31) (want := true) (by rfl) (by rfl) ?_ ?_
        · exact f1
        have m0_gy : w.cell? ⟨gy, 0, none⟩ = some (.int .i64 yl) := blk_cell hk_gy 0 (by rfl)
        have m1_gy : w.cell? ⟨gy, 1, none⟩ = some (.int .i64 yh) := blk_cell hk_gy 1 (by rfl)
        refine wp_value (v := .agg #[.int .i64 yl, .int .i64 yh]) (w1 := w) ?_ (hK.out _ w (Below.refl _ _) rfl (fun h => by cases h))
        try simp only [f1]
        go_simp
        try (first | done | rfl | (simp; done))
      refine StepsP.cons ?_ ?_
      · intro Q s w hC hA K hK
        obtain ⟨hsz, hk_gx, lt_gx, hk_gy, lt_gy, hk_ga, lt_ga, hk_gn, lt_gn, hbw⟩ := hC
        obtain ⟨f1, f3, f4, -⟩ := hA
        replace f1 : (s 31) = .bool true := f1
        replace f3 : (s 33) = .agg #[.int .i64 xl, .int .i64 xh] := f3
        replace f4 : (s 34) = .agg #[.int .i64 yl, .int .i64 yh] := f4
        refine guard_on (d := 31) (want := true) (by rfl) (by rfl) ?_ ?_
        · exact f1
        refine wp_value (v := .slice (some ⟨w.heap.size, 0, none⟩) 2 2) (w1 := w.alloc (.cells #[.int .i64 xl, .int .i64 xh, .int .i64 yl, .int .i64 yh] 23)) ?_ (hK.out _ _ (bl_alloc (Below.refl _ _) _) ⟨w.heap.size, rfl, hsz, blk_new _ _⟩ (fun _ g h => fresh_alloc (by simpa [blkV] using h)))
        try simp only [f1, f3, f4]
        go_simp
        try rfl
      refine StepsP.cons ?_ ?_
      · intro Q s w hC hA K hK
        obtain ⟨hsz, hk_gx, lt_gx, hk_gy, lt_gy, hk_ga, lt_ga, hk_gn, lt_gn, hbw⟩ := hC
        obtain ⟨f1, f2, f5, -⟩ := hA
        replace f1 : (s 31) = .bool true := f1
        replace f2 : (s 32) = .pointer (some ⟨ga, 0, none⟩) := f2
        replace f5 : ∃ g5 : Nat, (s 35) = .slice (some ⟨g5, 0, none⟩) 2 2 ∧ B0 ≤ g5 ∧ w.heap[g5]? = some (.cells #[.int .i64 xl, .int .i64 xh, .int .i64 yl, .int .i64 yh] 23 (0, 0)) := f5
        refine guard_on (d := 31) (want := true) (by rfl) (by rfl) ?_ ?_
        · exact f1
        obtain ⟨g5, a_g5, c_g5, hk_g5⟩ := f5
        refine wp_call (N := some 36) (by rfl) Try.func35 (by kernel_rfl) #[.pointer (some ⟨ga, 0, none⟩), .slice (some ⟨g5, 0, none⟩) 2 2] rfl (by rfl) ?_ ?_
        · show [s 32, s 35] = [.pointer (some ⟨ga, 0, none⟩), .slice (some ⟨g5, 0, none⟩) 2 2]
          first | rfl | simp only [f1, f2, a_g5]
        refine (Plus_none (some ⟨ga, 0, none⟩) (some ⟨g5, 0, none⟩) [⟨xl, xh⟩, ⟨yl, yh⟩] 2 _ (RdS.of_blk (l := [⟨xl, xh⟩, ⟨yl, yh⟩]) hk_g5 (by simp)) hs'.out).mono ?_
        rintro e w1 ⟨rfl, hb⟩
        refine ⟨_, rfl, ?_⟩
        exact hK.out _ _ hb rfl (fun h => by cases h)
      refine StepsP.cons ?_ ?_
      · intro Q s w hC hA K hK
        obtain ⟨hsz, hk_gx, lt_gx, hk_gy, lt_gy, hk_ga, lt_ga, hk_gn, lt_gn, hbw⟩ := hC
        obtain ⟨f1, -⟩ := hA
        replace f1 : (s 31) = .bool true := f1
        refine guard_on (d := 31) (want := true) (by rfl) (by rfl) ?_ ?_
        · exact f1
        have m0_gn : w.cell? ⟨gn, 0, none⟩ = some (.int .i64 0) := blk_cell hk_gn 0 (by rfl)
        have m1_gn : w.cell? ⟨gn, 1, none⟩ = some (.int .i64 (-1)) := blk_cell hk_gn 1 (by rfl)
        refine wp_value (v := .agg #[.int .i64 0, .int .i64 (-1)]) (w1 := w) ?_ (hK.out _ w (Below.refl _ _) rfl (fun h => by cases h))
        try simp only [f1]
        go_simp
        try (first | done | rfl | (simp; done))
      refine StepsP.cons ?_ ?_
      · intro Q s w hC hA K hK
        clear hC
        obtain ⟨f1, f6, f7, -⟩ := hA
        replace f1 : (s 31) = .bool true := f1
        replace f6 : (s 36) = .agg #[.int .i64 0, .int .i64 (-1)] := f6
        replace f7 : (s 37) = .agg #[.int .i64 0, .int .i64 (-1)] := f7
        refine guard_on (d := 31) (want := true) (by rfl) (by rfl) ?_ ?_
        · exact f1
        refine wp_value (v := .bool true) (w1 := w) ?_ (hK.out _ w (Below.refl _ _) rfl (fun h => by cases h))
        try simp only [f1, f6, f7]
        go_simp
        try (first | done | rfl | (simp; done))
      refine StepsP.cons ?_ ?_
      · intro Q s w hC hA K hK
        clear hC
        obtain ⟨f1, f8, -⟩ := hA
        replace f1 : (s 31) = .bool true := f1
        replace f8 : (s 38) = .bool true := f8
        refine guard_none (by rfl) ?_
        refine wp_value (v := .bool true) (w1 := w) ?_ (hK.out _ w (Below.refl _ _) rfl (fun h => by cases h))
        try simp only [f1, f8]
        go_simp
        try (first | done | rfl | (simp; done))
      refine StepsP.cons ?_ ?_
      · intro Q s w hC hA K hK
        clear hC
        obtain ⟨f9, -⟩ := hA
        replace f9 : (s 39) = .bool true := f9
        refine guard_none (by rfl) ?_
        refine wp_value (v := .bool true) (w1 := w) ?_ (hK.out _ w (Below.refl _ _) rfl (fun h => by cases h))
        try simp only [f9]
        go_simp
        try (first | done | rfl | (simp; done))
      refine StepsP.cons ?_ ?_
      · intro Q s w hC hA K hK
        clear hC
        obtain ⟨f10, -⟩ := hA
        replace f10 : (s 40) = .bool true := f10
        refine guard_on (d := 40) (want := true) (by rfl) (by rfl) ?_ ?_
        · exact f10
        refine wp_value (v := .pointer (some ⟨ga, 0, none⟩)) (w1 := w) ?_ (hK.out _ w (Below.refl _ _) rfl (fun h => by cases h))
        try simp only [f10]
        go_simp
        try (first | done | rfl | (simp; done))
      refine StepsP.cons ?_ ?_
      · intro Q s w hC hA K hK
        obtain ⟨hsz, hk_gx, lt_gx, hk_gy, lt_gy, hk_ga, lt_ga, hk_gn, lt_gn, hbw⟩ := hC
        obtain ⟨f10, -⟩ := hA
        replace f10 : (s 40) = .bool true := f10
        refine guard_on (d := 40) (want := true) (by rfl) (by rfl) ?_ ?_
        · exact f10
        have m0_gx : w.cell? ⟨gx, 0, none⟩ = some (.int .i64 xl) := blk_cell hk_gx 0 (by rfl)
        have m1_gx : w.cell? ⟨gx, 1, none⟩ = some (.int .i64 xh) := blk_cell hk_gx 1 (by rfl)
        refine wp_value (v := .agg #[.int .i64 xl, .int .i64 xh]) (w1 := w) ?_ (hK.out _ w (Below.refl _ _) rfl (fun h => by cases h))
        try simp only [f10]
        go_simp
        try (first | done | rfl | (simp; done))
      refine StepsP.cons ?_ ?_
      · intro Q s w hC hA K hK
        obtain ⟨hsz, hk_gx, lt_gx, hk_gy, lt_gy, hk_ga, lt_ga, hk_gn, lt_gn, hbw⟩ := hC
        obtain ⟨f10, -⟩ := hA
        replace f10 : (s 40) = .bool true := f10
        refine guard_on (d := 40) (want := true) (by rfl) (by rfl) ?_ ?_
        · exact f10
        have m0_gy : w.cell? ⟨gy, 0, none⟩ = some (.int .i64 yl) := blk_cell hk_gy 0 (by rfl)
        have m1_gy : w.cell? ⟨gy, 1, none⟩ = some (.int .i64 yh) := blk_cell hk_gy 1 (by rfl)
        refine wp_value (v := .agg #[.int .i64 yl, .int .i64 yh]) (w1 := w) ?_ (hK.out _ w (Below.refl _ _) rfl (fun h => by cases h))
        try simp only [f10]
        go_simp
        try (first | done | rfl | (simp; done))
      refine StepsP.cons ?_ ?_
      · intro Q s w hC hA K hK
        obtain ⟨hsz, hk_gx, lt_gx, hk_gy, lt_gy, hk_ga, lt_ga, hk_gn, lt_gn, hbw⟩ := hC
        obtain ⟨f10, f11, f12, f13, -⟩ := hA
        replace f10 : (s 40) = .bool true := f10
        replace f11 : (s 41) = .pointer (some ⟨ga, 0, none⟩) := f11
        replace f12 : (s 42) = .agg #[.int .i64 xl, .int .i64 xh] := f12
        replace f13 : (s 43) = .agg #[.int .i64 yl, .int .i64 yh] := f13
        refine guard_on (d := 40) (want := true) (by rfl) (by rfl) ?_ ?_
        · exact f10
        refine wp_call (N := some 44) (by rfl) Try.func38 (by kernel_rfl) #[.pointer (some ⟨ga, 0, none⟩), .agg #[.int .i64 xl, .int .i64 xh], .agg #[.int .i64 yl, .int .i64 yh]] rfl (by rfl) ?_ ?_
        · show [s 41, s 42, s 43] = [.pointer (some ⟨ga, 0, none⟩), .agg #[.int .i64 xl, .int .i64 xh], .agg #[.int .i64 yl, .int .i64 yh]]
          first | rfl | simp only [f10, f11, f12, f13]
        refine (Minus_none (some ⟨ga, 0, none⟩) _ _ _ _ _ hs'.out).mono ?_
        rintro e w1 ⟨rfl, hb⟩
        refine ⟨_, rfl, ?_⟩
        exact hK.out _ _ hb rfl (fun h => by cases h)
      refine StepsP.cons ?_ ?_
      · intro Q s w hC hA K hK
        obtain ⟨hsz, hk_gx, lt_gx, hk_gy, lt_gy, hk_ga, lt_ga, hk_gn, lt_gn, hbw⟩ := hC
        obtain ⟨f10, -⟩ := hA
        replace f10 : (s 40) = .bool true := f10
        refine guard_on (d := 40) (want := true) (by rfl) (by rfl) ?_ ?_
        · exact f10
        have m0_gn : w.cell? ⟨gn, 0, none⟩ = some (.int .i64 0) := blk_cell hk_gn 0 (by rfl)
        have m1_gn : w.cell? ⟨gn, 1, none⟩ = some (.int .i64 (-1)) := blk_cell hk_gn 1 (by rfl)
        refine wp_value (v := .agg #[.int .i64 0, .int .i64 (-1)]) (w1 := w) ?_ (hK.out _ w (Below.refl _ _) rfl (fun h => by cases h))
        try simp only [f10]
        go_simp
        try (first | done | rfl | (simp; done))
      refine StepsP.cons ?_ ?_
      · intro Q s w hC hA K hK
        clear hC
        obtain ⟨f10, f14, f15, -⟩ := hA
        replace f10 : (s 40) = .bool true := f10
        replace f14 : (s 44) = .agg #[.int .i64 0, .int .i64 (-1)] := f14
        replace f15 : (s 45) = .agg #[.int .i64 0, .int .i64 (-1)] := f15
        refine guard_on (d := 40) (want := true) (by rfl) (by rfl) ?_ ?_
        · exact f10
        refine wp_value (v := .bool true) (w1 := w) ?_ (hK.out _ w (Below.refl _ _) rfl (fun h => by cases h))
        try simp only [f10, f14, f15]
        go_simp
        try (first | done | rfl | (simp; done))
      refine StepsP.cons ?_ ?_
      · intro Q s w hC hA K hK
        clear hC
        obtain ⟨f10, f16, -⟩ := hA
        replace f10 : (s 40) = .bool true := f10
        replace f16 : (s 46) = .bool true := f16
        refine guard_none (by rfl) ?_
        refine wp_value (v := .bool true) (w1 := w) ?_ (hK.out _ w (Below.refl _ _) rfl (fun h => by cases h))
        try simp only [f10, f16]
        go_simp
        try (first | done | rfl | (simp; done))
      refine StepsP.cons ?_ ?_
      · intro Q s w hC hA K hK
        clear hC
        obtain ⟨f17, -⟩ := hA
        replace f17 : (s 47) = .bool true := f17
        refine guard_none (by rfl) ?_
        refine wp_value (v := .bool true) (w1 := w) ?_ (hK.out _ w (Below.refl _ _) rfl (fun h => by cases h))
        try simp only [f17]
        go_simp
        try (first | done | rfl | (simp; done))
      refine StepsP.cons ?_ ?_
      · intro Q s w hC hA K hK
        clear hC
        obtain ⟨f18, -⟩ := hA
        replace f18 : (s 48) = .bool true := f18
        refine guard_on (d := 48) (want := true) (by rfl) (by rfl) ?_ ?_
        · exact f18
        refine wp_value (v := .pointer (some ⟨ga, 0, none⟩)) (w1 := w) ?_ (hK.out _ w (Below.refl _ _) rfl (fun h => by cases h))
        try simp only [f18]
        go_simp
        try (first | done | rfl | (simp; done))
      refine StepsP.cons ?_ ?_
      · intro Q s w hC hA K hK
        obtain ⟨hsz, hk_gx, lt_gx, hk_gy, lt_gy, hk_ga, lt_ga, hk_gn, lt_gn, hbw⟩ := hC
        obtain ⟨f18, -⟩ := hA
        replace f18 : (s 48) = .bool true := f18
        refine guard_on (d := 48) (want := true) (by rfl) (by rfl) ?_ ?_
        · exact f18
        have m0_gx : w.cell? ⟨gx, 0, none⟩ = some (.int .i64 xl) := blk_cell hk_gx 0 (by rfl)
        have m1_gx : w.cell? ⟨gx, 1, none⟩ = some (.int .i64 xh) := blk_cell hk_gx 1 (by rfl)
        refine wp_value (v := .agg #[.int .i64 xl, .int .i64 xh]) (w1 := w) ?_ (hK.out _ w (Below.refl _ _) rfl (fun h => by cases h))
        try simp only [f18]
        go_simp
        try (first | done | rfl | (simp; done))
      refine StepsP.cons ?_ ?_
      · intro Q s w hC hA K hK
        obtain ⟨hsz, hk_gx, lt_gx, hk_gy, lt_gy, hk_ga, lt_ga, hk_gn, lt_gn, hbw⟩ := hC
        obtain ⟨f18, -⟩ := hA
        replace f18 : (s 48) = .bool true := f18
        refine guard_on (d := 48) (want := true) (by rfl) (by rfl) ?_ ?_
        · exact f18
        have m0_gy : w.cell? ⟨gy, 0, none⟩ = some (.int .i64 yl) := blk_cell hk_gy 0 (by rfl)
        have m1_gy : w.cell? ⟨gy, 1, none⟩ = some (.int .i64 yh) := blk_cell hk_gy 1 (by rfl)
        refine wp_value (v := .agg #[.int .i64 yl, .int .i64 yh]) (w1 := w) ?_ (hK.out _ w (Below.refl _ _) rfl (fun h => by cases h))
        try simp only [f18]
        go_simp
        try (first | done | rfl | (simp; done))
      refine StepsP.cons ?_ ?_
      · intro Q s w hC hA K hK
        obtain ⟨hsz, hk_gx, lt_gx, hk_gy, lt_gy, hk_ga, lt_ga, hk_gn, lt_gn, hbw⟩ := hC
        obtain ⟨f18, f19, f20, f21, -⟩ := hA
        replace f18 : (s 48) = .bool true := f18
        replace f19 : (s 49) = .pointer (some ⟨ga, 0, none⟩) := f19
        replace f20 : (s 50) = .agg #[.int .i64 xl, .int .i64 xh] := f20
        replace f21 : (s 51) = .agg #[.int .i64 yl, .int .i64 yh] := f21
        refine guard_on (d := 48) (want := true) (by rfl) (by rfl) ?_ ?_
        · exact f18
        refine wp_call (N := some 52) (by rfl) Try.func42 (by kernel_rfl) #[.pointer (some ⟨ga, 0, none⟩), .agg #[.int .i64 xl, .int .i64 xh], .agg #[.int .i64 yl, .int .i64 yh]] rfl (by rfl) ?_ ?_
        · show [s 49, s 50, s 51] = [.pointer (some ⟨ga, 0, none⟩), .agg #[.int .i64 xl, .int .i64 xh], .agg #[.int .i64 yl, .int .i64 yh]]
          first | rfl | simp only [f18, f19, f20, f21]
        refine (Cross_none (some ⟨ga, 0, none⟩) _ _ _ _ _ hs'.out).mono ?_
        rintro e w1 ⟨rfl, hb⟩
        refine ⟨_, rfl, ?_⟩
        exact hK.out _ _ hb rfl (fun h => by cases h)
      refine StepsP.cons ?_ ?_
      · intro Q s w hC hA K hK
        obtain ⟨hsz, hk_gx, lt_gx, hk_gy, lt_gy, hk_ga, lt_ga, hk_gn, lt_gn, hbw⟩ := hC
        obtain ⟨f18, -⟩ := hA
        replace f18 : (s 48) = .bool true := f18
        refine guard_on (d := 48) (want := true) (by rfl) (by rfl) ?_ ?_
        · exact f18
        have m0_gn : w.cell? ⟨gn, 0, none⟩ = some (.int .i64 0) := blk_cell hk_gn 0 (by rfl)
        have m1_gn : w.cell? ⟨gn, 1, none⟩ = some (.int .i64 (-1)) := blk_cell hk_gn 1 (by rfl)
        refine wp_value (v := .agg #[.int .i64 0, .int .i64 (-1)]) (w1 := w) ?_ (hK.out _ w (Below.refl _ _) rfl (fun h => by cases h))
        try simp only [f18]
        go_simp
        try (first | done | rfl | (simp; done))
      refine StepsP.cons ?_ ?_
      · intro Q s w hC hA K hK
        clear hC
        obtain ⟨f18, f22, f23, -⟩ := hA
        replace f18 : (s 48) = .bool true := f18
        replace f22 : (s 52) = .agg #[.int .i64 0, .int .i64 (-1)] := f22
        replace f23 : (s 53) = .agg #[.int .i64 0, .int .i64 (-1)] := f23
        refine guard_on (d := 48) (want := true) (by rfl) (by rfl) ?_ ?_
        · exact f18
        refine wp_value (v := .bool true) (w1 := w) ?_ (hK.out _ w (Below.refl _ _) rfl (fun h => by cases h))
        try simp only [f18, f22, f23]
        go_simp
        try (first | done | rfl | (simp; done))
      refine StepsP.cons ?_ ?_
      · intro Q s w hC hA K hK
        clear hC
        obtain ⟨f18, f24, -⟩ := hA
        replace f18 : (s 48) = .bool true := f18
        replace f24 : (s 54) = .bool true := f24
        refine guard_none (by rfl) ?_
        refine wp_value (v := .bool true) (w1 := w) ?_ (hK.out _ w (Below.refl _ _) rfl (fun h => by cases h))
        try simp only [f18, f24]
        go_simp
        try (first | done | rfl | (simp; done))
      refine StepsP.cons ?_ ?_
      · intro Q s w hC hA K hK
        clear hC
        obtain ⟨f25, -⟩ := hA
        replace f25 : (s 55) = .bool true := f25
        refine guard_none (by rfl) ?_
        refine wp_value (v := .bool true) (w1 := w) ?_ (hK.out _ w (Below.refl _ _) rfl (fun h => by cases h))
        try simp only [f25]
        go_simp
        try (first | done | rfl | (simp; done))
      exact StepsP.nil
    obtain ⟨hsz, hk_gx, lt_gx, hk_gy, lt_gy, hk_ga, lt_ga, hk_gn, lt_gn, hbw⟩ := hC
    obtain ⟨f26, -⟩ := hA
    replace f26 : (s 10) = .bool true := f26
    refine act_eq (b' := ?b1) ?h1 ?q1
    case h1 => simp only [f26]; rfl
    go_wp2
    go_ret
    subst hw0
    exact ⟨rfl, hbw⟩
  · have hx : decide (xh < xl) = false := decide_eq_false hex
    have hy : decide (yh < yl) = true := decide_eq_true (hyy.resolve_left hex)
    go_enter Try.func10, Try.ntmps10
    go_upto_region 1 with fail
    have hk_x : ((w.alloc (.cells #[.int .i64 xl, .int .i64 xh] 23)).alloc (.cells #[.int .i64 yl, .int .i64 yh] 23)).heap[w.heap.size]? = some (.cells #[.int .i64 xl, .int .i64 xh] 23 (0, 0)) := (by (repeat (first | with_reducible assumption | with_reducible exact blk_new _ _ | with_reducible apply blk_drew | (with_reducible refine blk_newE ?_; (first | done | (simp; done))) | with_reducible apply blk_put2 | (with_reducible refine blk_far ?_ (by first | omega | (simp; done) | (simp; omega)) _) | with_reducible apply blk_alloc | (with_reducible refine bl_block (by assumption) ?_) | (with_reducible refine blk_grown ?_ (by assumption) (by assumption)) | (with_reducible refine blk_acc (by assumption) ?_ (by assumption)))))
    have hk_y : ((w.alloc (.cells #[.int .i64 xl, .int .i64 xh] 23)).alloc (.cells #[.int .i64 yl, .int .i64 yh] 23)).heap[w.heap.size + 1]? = some (.cells #[.int .i64 yl, .int .i64 yh] 23 (0, 0)) := (by (repeat (first | with_reducible assumption | with_reducible exact blk_new _ _ | with_reducible apply blk_drew | (with_reducible refine blk_newE ?_; (first | done | (simp; done))) | with_reducible apply blk_put2 | (with_reducible refine blk_far ?_ (by first | omega | (simp; done) | (simp; omega)) _) | with_reducible apply blk_alloc | (with_reducible refine bl_block (by assumption) ?_) | (with_reducible refine blk_grown ?_ (by assumption) (by assumption)) | (with_reducible refine blk_acc (by assumption) ?_ (by assumption)))))
    have hbw : Below w.heap.size w ((w.alloc (.cells #[.int .i64 xl, .int .i64 xh] 23)).alloc (.cells #[.int .i64 yl, .int .i64 yh] 23)) := (by (repeat (first | with_reducible exact Below.refl _ _ | with_reducible assumption | with_reducible apply bl_alloc | with_reducible apply bl_drew | with_reducible apply bl_drewN | (with_reducible refine bl_set ?_ (by first | omega | (simp; done) | (simp; omega)) _) | (with_reducible refine bl_step ?_ (by assumption)) | (with_reducible refine bl_grown ?_ (by assumption) (by assumption)) | (with_reducible refine bl_own ?_ (by assumption) (by assumption)))))
    generalize (w.alloc (.cells #[.int .i64 xl, .int .i64 xh] 23)).alloc (.cells #[.int .i64 yl, .int .i64 yh] 23) = W at *
    have m0 := blk_two hk_x
    have m1 := blk_two hk_y
    go_upto_region 4 with (first | (go_at_call 13; refine (Empty_calls _ _ _).mono ?_; rintro e wn ⟨rfl, hbn⟩; (first | rw [hx] | rw [hy]); replace hk_x : wn.heap[w.heap.size]? = some (.cells #[.int .i64 xl, .int .i64 xh] 23 (0, 0)) := bl_block hbn hk_x; replace hk_y : wn.heap[w.heap.size + 1]? = some (.cells #[.int .i64 yl, .int .i64 yh] 23 (0, 0)) := bl_block hbn hk_y; replace hbw : Below w.heap.size w wn := bl_step hbw hbn; clear hbn m0 m1; have m0 := blk_two hk_x; have m1 := blk_two hk_y) | fail)
    clear m0 m1
    have hk_ga : ((wn.alloc (.cells #[.bool false] 50)).alloc (.cells #[.int .i64 0, .int .i64 (-1)] 23)).heap[wn.heap.size]? = some (.cells #[.bool false] 50 (0, 0)) := blk_alloc (blk_new wn (.cells #[.bool false] 50)) (.cells #[.int .i64 0, .int .i64 (-1)] 23)
    have hk_gn : ((wn.alloc (.cells #[.bool false] 50)).alloc (.cells #[.int .i64 0, .int .i64 (-1)] 23)).heap[wn.heap.size + 1]? = some (.cells #[.int .i64 0, .int .i64 (-1)] 23 (0, 0)) := by have h_ := blk_new (wn.alloc (.cells #[.bool false] 50)) (.cells #[.int .i64 0, .int .i64 (-1)] 23); simpa using h_
    replace hk_x := blk_alloc (blk_alloc hk_x (.cells #[.bool false] 50)) (.cells #[.int .i64 0, .int .i64 (-1)] 23)
    replace hk_y := blk_alloc (blk_alloc hk_y (.cells #[.bool false] 50)) (.cells #[.int .i64 0, .int .i64 (-1)] 23)
    replace hbw := bl_alloc (bl_alloc hbw (.cells #[.bool false] 50)) (.cells #[.int .i64 0, .int .i64 (-1)] 23)
    generalize ((wn.alloc (.cells #[.bool false] 50)).alloc (.cells #[.int .i64 0, .int .i64 (-1)] 23)) = W2 at *
    generalize wn.heap.size + 1 = gn at *
    generalize wn.heap.size = ga at *
    generalize w.heap.size + 1 = gy at *
    obtain ⟨w0, hw0⟩ : ∃ z : World, z = w := ⟨_, rfl⟩
    rw [← hw0] at hbw hk_x ⊢
    obtain ⟨gx, hgx⟩ : ∃ g, g = w0.heap.size := ⟨_, rfl⟩
    rw [← hgx] at hk_x ⊢
    clear hgx
    have hk_gx := hk_x
    have hk_gy := hk_y
    clear hk_x hk_y
    obtain ⟨B0, hB0⟩ : ∃ B, B = W2.heap.size := ⟨_, rfl⟩
    have c0_hsz : B0 ≤ W2.heap.size := Nat.le_of_eq hB0
    have hw0B0 : w0.heap.size ≤ B0 := by rw [hB0]; exact hbw.size
    have c0_hk_gx := blk_drew hk_gx
    have c0_lt_gx : gx < B0 := by rw [hB0]; exact blk_lt hk_gx
    have c0_hk_gy := blk_drew hk_gy
    have c0_lt_gy : gy < B0 := by rw [hB0]; exact blk_lt hk_gy
    have c0_hk_ga := blk_drew hk_ga
    have c0_lt_ga : ga < B0 := by rw [hB0]; exact blk_lt hk_ga
    have c0_hk_gn := blk_drew hk_gn
    have c0_lt_gn : gn < B0 := by rw [hB0]; exact blk_lt hk_gn
    have c0_hbw := bl_drew hbw
    clear hB0 hbw hk_gx hk_gy hk_ga hk_gn
    refine region_lin (n := 27) (st := ?st2) { R := [0, 1, 3, 3, 3, 27, 63, 3, 255, 511, 1023, 2047, 2047, 2047, 16383, 2047, 65535, 131071, 262143, 524287, 524287, 524287, 4194303, 524287, 16777215, 33554431, 67108863], kill := [[], [], [], [], [], [], [], [], [], [], [], [], [], [], [], [], [], [], [], [], [], [], [], [], [], [], []], cls := [0, 0, 0, 0, 0, 0, 0, 0, 0, 0, 0, 0, 0, 0, 0, 0, 0, 0, 0, 0, 0, 0, 0, 0, 0, 0, 0], dst := [some 30, some 31, some 32, some 33, some 34, some 35, some 36, some 37, some 38, some 39, some 40, some 41, some 42, some 43, some 44, some 45, some 46, some 47, some 48, some 49, some 50, some 51, some 52, some 53, some 54, some 55, some 10], pre := [[], [0], [1], [1], [1], [1, 3, 4], [1, 2, 5], [1], [1, 6, 7], [1, 8], [9], [10], [10], [10], [10, 11, 12, 13], [10], [10, 14, 15], [10, 16], [17], [18], [18], [18], [18, 19, 20, 21], [18], [18, 22, 23], [18, 24], [25]], cov := [(0, 5)], fin := [26], locs := [(5, 35)], tgt := [none], abt := [none, none, none, none, none, some 35, none, none, none, none, none, none, none, none, none, none, none, none, none, none, none, none, none, none, none, none, none] }
      [.v [30] (fun vs => (vs.getD 0 undef) = .bool true),
       .v [31] (fun vs => (vs.getD 0 undef) = .bool true),
       .v [32] (fun vs => (vs.getD 0 undef) = .pointer (some ⟨ga, 0, none⟩)),
       .v [33] (fun vs => (vs.getD 0 undef) = .agg #[.int .i64 xl, .int .i64 xh]),
       .v [34] (fun vs => (vs.getD 0 undef) = .agg #[.int .i64 yl, .int .i64 yh]),
       .w [35] (fun vs w => ∃ g5 : Nat, (vs.getD 0 undef) = .slice (some ⟨g5, 0, none⟩) 2 2 ∧ B0 ≤ g5 ∧ w.heap[g5]? = some (.cells #[.int .i64 xl, .int .i64 xh, .int .i64 yl, .int .i64 yh] 23 (0, 0))),
       .v [36] (fun vs => (vs.getD 0 undef) = .agg #[.int .i64 0, .int .i64 (-1)]),
       .v [37] (fun vs => (vs.getD 0 undef) = .agg #[.int .i64 0, .int .i64 (-1)]),
       .v [38] (fun vs => (vs.getD 0 undef) = .bool true),
       .v [39] (fun vs => (vs.getD 0 undef) = .bool true),
       .v [40] (fun vs => (vs.getD 0 undef) = .bool true),
       .v [41] (fun vs => (vs.getD 0 undef) = .pointer (some ⟨ga, 0, none⟩)),
       .v [42] (fun vs => (vs.getD 0 undef) = .agg #[.int .i64 xl, .int .i64 xh]),
       .v [43] (fun vs => (vs.getD 0 undef) = .agg #[.int .i64 yl, .int .i64 yh]),
       .v [44] (fun vs => (vs.getD 0 undef) = .agg #[.int .i64 0, .int .i64 (-1)]),
       .v [45] (fun vs => (vs.getD 0 undef) = .agg #[.int .i64 0, .int .i64 (-1)]),
       .v [46] (fun vs => (vs.getD 0 undef) = .bool true),
       .v [47] (fun vs => (vs.getD 0 undef) = .bool true),
       .v [48] (fun vs => (vs.getD 0 undef) = .bool true),
       .v [49] (fun vs => (vs.getD 0 undef) = .pointer (some ⟨ga, 0, none⟩)),
       .v [50] (fun vs => (vs.getD 0 undef) = .agg #[.int .i64 xl, .int .i64 xh]),
       .v [51] (fun vs => (vs.getD 0 undef) = .agg #[.int .i64 yl, .int .i64 yh]),
       .v [52] (fun vs => (vs.getD 0 undef) = .agg #[.int .i64 0, .int .i64 (-1)]),
       .v [53] (fun vs => (vs.getD 0 undef) = .agg #[.int .i64 0, .int .i64 (-1)]),
       .v [54] (fun vs => (vs.getD 0 undef) = .bool true),
       .v [55] (fun vs => (vs.getD 0 undef) = .bool true),
       .v [10] (fun vs => (vs.getD 0 undef) = .bool true)]
      (fun w => B0 ≤ w.heap.size ∧ w.heap[gx]? = some (.cells #[.int .i64 xl, .int .i64 xh] 23 (0, 0)) ∧ gx < B0 ∧ w.heap[gy]? = some (.cells #[.int .i64 yl, .int .i64 yh] 23 (0, 0)) ∧ gy < B0 ∧ w.heap[ga]? = some (.cells #[.bool false] 50 (0, 0)) ∧ ga < B0 ∧ w.heap[gn]? = some (.cells #[.int .i64 0, .int .i64 (-1)] 23 (0, 0)) ∧ gn < B0 ∧ Below w0.heap.size w0 w)
      (fun c => ([fun s w w' => Below w.heap.size w w'] : List ((Nat → Value) → World → World → Prop)).getD c (fun s w w' => w' = w))
      [10, 30, 31, 32, 33, 34, 35, 36, 37, 38, 39, 40, 41, 42, 43, 44, 45, 46, 47, 48, 49, 50, 51, 52, 53, 54, 55] (by kernel_rfl) ⟨by kernel_rfl, by kernel_rfl, by kernel_rfl, by kernel_rfl, by kernel_rfl, by kernel_rfl, by kernel_rfl, by kernel_rfl⟩ (fun s => ?_) ?_ ?_ ?_ ?_ ?_ (fun s w hC hA => ?_)
    rotate_left
    · simp only [fillS, List.foldl, List.setIfInBounds_toArray, List.set_cons_zero, List.set_cons_succ]; rfl
    · exact ⟨c0_hsz, c0_hk_gx, c0_lt_gx, c0_hk_gy, c0_lt_gy, c0_hk_ga, c0_lt_ga, c0_hk_gn, c0_lt_gn, c0_hbw⟩
    · intro c s w w' hE
      match c, hE with
      | 0, hE => exact Below.size hE
      | c + 1, hE => cases hE; exact Nat.le_refl _
    · rintro c s w w' ⟨hsz, hk_gx, lt_gx, hk_gy, lt_gy, hk_ga, lt_ga, hk_gn, lt_gn, hbw⟩ hE
      match c, hE with
      | 0, hE => replace hE : Below w.heap.size w w' := hE; exact ⟨Nat.le_trans hsz hE.size, bl_block hE hk_gx, lt_gx, bl_block hE hk_gy, lt_gy, bl_block hE hk_ga, lt_ga, bl_block hE hk_gn, lt_gn, bl_step hbw hE⟩
      | c + 1, hE => cases hE; exact ⟨hsz, hk_gx, lt_gx, hk_gy, lt_gy, hk_ga, lt_ga, hk_gn, lt_gn, hbw⟩
    · refine ⟨?_, trivial⟩
      · intro s w w' hD hC hE hF
        replace hF : ∃ g5 : Nat, (s 35) = .slice (some ⟨g5, 0, none⟩) 2 2 ∧ B0 ≤ g5 ∧ w.heap[g5]? = some (.cells #[.int .i64 xl, .int .i64 xh, .int .i64 yl, .int .i64 yh] 23 (0, 0)) := hF
        show ∃ g5 : Nat, (s 35) = .slice (some ⟨g5, 0, none⟩) 2 2 ∧ B0 ≤ g5 ∧ w'.heap[g5]? = some (.cells #[.int .i64 xl, .int .i64 xh, .int .i64 yl, .int .i64 yh] 23 (0, 0))
        replace hE : Below w.heap.size w w' := hE
        obtain ⟨g5, h1, h2, h3⟩ := hF
        exact ⟨g5, h1, h2, bl_block hE h3⟩
    · skip
      refine StepsP.cons ?_ ?_
      · intro Q s w hC hA K hK
        obtain ⟨hsz, hk_gx, lt_gx, hk_gy, lt_gy, hk_ga, lt_ga, hk_gn, lt_gn, hbw⟩ := hC
        clear hA
        refine guard_none (by rfl) ?_
        refine wp_call (N := some 30) (by rfl) Try.func15 (by kernel_rfl) #[] rfl (by rfl) ?_ ?_
        · show [] = []
          first | rfl | simp only []
        refine (alive_calls _).mono ?_
        rintro e w1 ⟨rfl, hb⟩
        refine ⟨_, rfl, ?_⟩
        exact hK.out _ _ hb rfl (fun h => by cases h)
      refine StepsP.cons ?_ ?_
      · intro Q s w hC hA K hK
        clear hC
        obtain ⟨f0, -⟩ := hA
        replace f0 : (s 30) = .bool true := f0
        refine guard_none (by rfl) ?_
        refine wp_value (v := .bool true) (w1 := w) ?_ (hK.out _ w (Below.refl _ _) rfl (fun h => by cases h))
        try simp only [f0]
        go_simp
        try (first | done | rfl | (simp; done))
      refine StepsP.cons ?_ ?_
      · intro Q s w hC hA K hK
        clear hC
        obtain ⟨f1, -⟩ := hA
        replace f1 : (s 31) = .bool true := f1
        refine guard_on (d := 31) (want := true) (by rfl) (by rfl) ?_ ?_
        · exact f1
        refine wp_value (v := .pointer (some ⟨ga, 0, none⟩)) (w1 := w) ?_ (hK.out _ w (Below.refl _ _) rfl (fun h => by cases h))
        try simp only [f1]
        go_simp
        try (first | done | rfl | (simp; done))
      refine StepsP.cons ?_ ?_
      · intro Q s w hC hA K hK
        obtain ⟨hsz, hk_gx, lt_gx, hk_gy, lt_gy, hk_ga, lt_ga, hk_gn, lt_gn, hbw⟩ := hC
        obtain ⟨f1, -⟩ := hA
        replace f1 : (s 31) = .bool true := f1
        refine guard_on (d := 31) (want := true) (by rfl) (by rfl) ?_ ?_
        · exact f1
        have m0_gx : w.cell? ⟨gx, 0, none⟩ = some (.int .i64 xl) := blk_cell hk_gx 0 (by rfl)
        have m1_gx : w.cell? ⟨gx, 1, none⟩ = some (.int .i64 xh) := blk_cell hk_gx 1 (by rfl)
        refine wp_value (v := .agg #[.int .i64 xl, .int .i64 xh]) (w1 := w) ?_ (hK.out _ w (Below.refl _ _) rfl (fun h => by cases h))
        try simp only [f1]
        go_simp
        try (first | done | rfl | (simp; done))
      refine StepsP.cons ?_ ?_
      · intro Q s w hC hA K hK
        obtain ⟨hsz, hk_gx, lt_gx, hk_gy, lt_gy, hk_ga, lt_ga, hk_gn, lt_gn, hbw⟩ := hC
        obtain ⟨f1, -⟩ := hA
        replace f1 : (s 31) = .bool true := f1
        refine guard_on (d := 31) (want := true) (by rfl) (by rfl) ?_ ?_
        · exact f1
        have m0_gy : w.cell? ⟨gy, 0, none⟩ = some (.int .i64 yl) := blk_cell hk_gy 0 (by rfl)
        have m1_gy : w.cell? ⟨gy, 1, none⟩ = some (.int .i64 yh) := blk_cell hk_gy 1 (by rfl)
        refine wp_value (v := .agg #[.int .i64 yl, .int .i64 yh]) (w1 := w) ?_ (hK.out _ w (Below.refl _ _) rfl (fun h => by cases h))
        try simp only [f1]
        go_simp
        try (first | done | rfl | (simp; done))
      refine StepsP.cons ?_ ?_
      · intro Q s w hC hA K hK
        obtain ⟨hsz, hk_gx, lt_gx, hk_gy, lt_gy, hk_ga, lt_ga, hk_gn, lt_gn, hbw⟩ := hC
        obtain ⟨f1, f3, f4, -⟩ := hA
        replace f1 : (s 31) = .bool true := f1
        replace f3 : (s 33) = .agg #[.int .i64 xl, .int .i64 xh] := f3
        replace f4 : (s 34) = .agg #[.int .i64 yl, .int .i64 yh] := f4
        refine guard_on (d := 31) (want := true) (by rfl) (by rfl) ?_ ?_
        · exact f1
        refine wp_value (v := .slice (some ⟨w.heap.size, 0, none⟩) 2 2) (w1 := w.alloc (.cells #[.int .i64 xl, .int .i64 xh, .int .i64 yl, .int .i64 yh] 23)) ?_ (hK.out _ _ (bl_alloc (Below.refl _ _) _) ⟨w.heap.size, rfl, hsz, blk_new _ _⟩ (fun _ g h => fresh_alloc (by simpa [blkV] using h)))
        try simp only [f1, f3, f4]
        go_simp
        try rfl
      refine StepsP.cons ?_ ?_
      · intro Q s w hC hA K hK
        obtain ⟨hsz, hk_gx, lt_gx, hk_gy, lt_gy, hk_ga, lt_ga, hk_gn, lt_gn, hbw⟩ := hC
        obtain ⟨f1, f2, f5, -⟩ := hA
        replace f1 : (s 31) = .bool true := f1
        replace f2 : (s 32) = .pointer (some ⟨ga, 0, none⟩) := f2
        replace f5 : ∃ g5 : Nat, (s 35) = .slice (some ⟨g5, 0, none⟩) 2 2 ∧ B0 ≤ g5 ∧ w.heap[g5]? = some (.cells #[.int .i64 xl, .int .i64 xh, .int .i64 yl, .int .i64 yh] 23 (0, 0)) := f5
        refine guard_on (d := 31) (want := true) (by rfl) (by rfl) ?_ ?_
        · exact f1
        obtain ⟨g5, a_g5, c_g5, hk_g5⟩ := f5
        refine wp_call (N := some 36) (by rfl) Try.func35 (by kernel_rfl) #[.pointer (some ⟨ga, 0, none⟩), .slice (some ⟨g5, 0, none⟩) 2 2] rfl (by rfl) ?_ ?_
        · show [s 32, s 35] = [.pointer (some ⟨ga, 0, none⟩), .slice (some ⟨g5, 0, none⟩) 2 2]
          first | rfl | simp only [f1, f2, a_g5]
        refine (Plus_none (some ⟨ga, 0, none⟩) (some ⟨g5, 0, none⟩) [⟨xl, xh⟩, ⟨yl, yh⟩] 2 _ (RdS.of_blk (l := [⟨xl, xh⟩, ⟨yl, yh⟩]) hk_g5 (by simp)) hs'.out).mono ?_
        rintro e w1 ⟨rfl, hb⟩
        refine ⟨_, rfl, ?_⟩
        exact hK.out _ _ hb rfl (fun h => by cases h)
      refine StepsP.cons ?_ ?_
      · intro Q s w hC hA K hK
        obtain ⟨hsz, hk_gx, lt_gx, hk_gy, lt_gy, hk_ga, lt_ga, hk_gn, lt_gn, hbw⟩ := hC
        obtain ⟨f1, -⟩ := hA
        replace f1 : (s 31) = .bool true := f1
        refine guard_on (d := 31) (want := true) (by rfl) (by rfl) ?_ ?_
        · exact f1
        have m0_gn : w.cell? ⟨gn, 0, none⟩ = some (.int .i64 0) := blk_cell hk_gn 0 (by rfl)
        have m1_gn : w.cell? ⟨gn, 1, none⟩ = some (.int .i64 (-1)) := blk_cell hk_gn 1 (by rfl)
        refine wp_value (v := .agg #[.int .i64 0, .int .i64 (-1)]) (w1 := w) ?_ (hK.out _ w (Below.refl _ _) rfl (fun h => by cases h))
        try simp only [f1]
        go_simp
        try (first | done | rfl | (simp; done))
      refine StepsP.cons ?_ ?_
      · intro Q s w hC hA K hK
        clear hC
        obtain ⟨f1, f6, f7, -⟩ := hA
        replace f1 : (s 31) = .bool true := f1
        replace f6 : (s 36) = .agg #[.int .i64 0, .int .i64 (-1)] := f6
        replace f7 : (s 37) = .agg #[.int .i64 0, .int .i64 (-1)] := f7
        refine guard_on (d := 31) (want := true) (by rfl) (by rfl) ?_ ?_
        · exact f1
        refine wp_value (v := .bool true) (w1 := w) ?_ (hK.out _ w (Below.refl _ _) rfl (fun h => by cases h))
        try simp only [f1, f6, f7]
        go_simp
        try (first | done | rfl | (simp; done))
      refine StepsP.cons ?_ ?_
      · intro Q s w hC hA K hK
        clear hC
        obtain ⟨f1, f8, -⟩ := hA
        replace f1 : (s 31) = .bool true := f1
        replace f8 : (s 38) = .bool true := f8
        refine guard_none (by rfl) ?_
        refine wp_value (v := .bool true) (w1 := w) ?_ (hK.out _ w (Below.refl _ _) rfl (fun h => by cases h))
        try simp only [f1, f8]
        go_simp
        try (first | done | rfl | (simp; done))
      refine StepsP.cons ?_ ?_
      · intro Q s w hC hA K hK
        clear hC
        obtain ⟨f9, -⟩ := hA
        replace f9 : (s 39) = .bool true := f9
        refine guard_none (by rfl) ?_
        refine wp_value (v := .bool true) (w1 := w) ?_ (hK.out _ w (Below.refl _ _) rfl (fun h => by cases h))
        try simp only [f9]
        go_simp
        try (first | done | rfl | (simp; done))
      refine StepsP.cons ?_ ?_
      · intro Q s w hC hA K hK
        clear hC
        obtain ⟨f10, -⟩ := hA
        replace f10 : (s 40) = .bool true := f10
        refine guard_on (d := 40) (want := true) (by rfl) (by rfl) ?_ ?_
        · exact f10
        refine wp_value (v := .pointer (some ⟨ga, 0, none⟩)) (w1 := w) ?_ (hK.out _ w (Below.refl _ _) rfl (fun h => by cases h))
        try simp only [f10]
        go_simp
        try (first | done | rfl | (simp; done))
      refine StepsP.cons ?_ ?_
      · intro Q s w hC hA K hK
        obtain ⟨hsz, hk_gx, lt_gx, hk_gy, lt_gy, hk_ga, lt_ga, hk_gn, lt_gn, hbw⟩ := hC
        obtain ⟨f10, -⟩ := hA
        replace f10 : (s 40) = .bool true := f10
        refine guard_on (d := 40) (want := true) (by rfl) (by rfl) ?_ ?_
        · exact f10
        have m0_gx : w.cell? ⟨gx, 0, none⟩ = some (.int .i64 xl) := blk_cell hk_gx 0 (by rfl)
        have m1_gx : w.cell? ⟨gx, 1, none⟩ = some (.int .i64 xh) := blk_cell hk_gx 1 (by rfl)
        refine wp_value (v := .agg #[.int .i64 xl, .int .i64 xh]) (w1 := w) ?_ (hK.out _ w (Below.refl _ _) rfl (fun h => by cases h))
        try simp only [f10]
        go_simp
        try (first | done | rfl | (simp; done))
      refine StepsP.cons ?_ ?_
      · intro Q s w hC hA K hK
        obtain ⟨hsz, hk_gx, lt_gx, hk_gy, lt_gy, hk_ga, lt_ga, hk_gn, lt_gn, hbw⟩ := hC
        obtain ⟨f10, -⟩ := hA
        replace f10 : (s 40) = .bool true := f10
        refine guard_on (d := 40) (want := true) (by rfl) (by rfl) ?_ ?_
        · exact f10
        have m0_gy : w.cell? ⟨gy, 0, none⟩ = some (.int .i64 yl) := blk_cell hk_gy 0 (by rfl)
        have m1_gy : w.cell? ⟨gy, 1, none⟩ = some (.int .i64 yh) := blk_cell hk_gy 1 (by rfl)
        refine wp_value (v := .agg #[.int .i64 yl, .int .i64 yh]) (w1 := w) ?_ (hK.out _ w (Below.refl _ _) rfl (fun h => by cases h))
        try simp only [f10]
        go_simp
        try (first | done | rfl | (simp; done))
      refine StepsP.cons ?_ ?_
      · intro Q s w hC hA K hK
        obtain ⟨hsz, hk_gx, lt_gx, hk_gy, lt_gy, hk_ga, lt_ga, hk_gn, lt_gn, hbw⟩ := hC
        obtain ⟨f10, f11, f12, f13, -⟩ := hA
        replace f10 : (s 40) = .bool true := f10
        replace f11 : (s 41) = .pointer (some ⟨ga, 0, none⟩) := f11
        replace f12 : (s 42) = .agg #[.int .i64 xl, .int .i64 xh] := f12
        replace f13 : (s 43) = .agg #[.int .i64 yl, .int .i64 yh] := f13
        refine guard_on (d := 40) (want := true) (by rfl) (by rfl) ?_ ?_
        · exact f10
        refine wp_call (N := some 44) (by rfl) Try.func38 (by kernel_rfl) #[.pointer (some ⟨ga, 0, none⟩), .agg #[.int .i64 xl, .int .i64 xh], .agg #[.int .i64 yl, .int .i64 yh]] rfl (by rfl) ?_ ?_
        · show [s 41, s 42, s 43] = [.pointer (some ⟨ga, 0, none⟩), .agg #[.int .i64 xl, .int .i64 xh], .agg #[.int .i64 yl, .int .i64 yh]]
          first | rfl | simp only [f10, f11, f12, f13]
        refine (Minus_none (some ⟨ga, 0, none⟩) _ _ _ _ _ hs'.out).mono ?_
        rintro e w1 ⟨rfl, hb⟩
        refine ⟨_, rfl, ?_⟩
        exact hK.out _ _ hb rfl (fun h => by cases h)
      refine StepsP.cons ?_ ?_
      · intro Q s w hC hA K hK
        obtain ⟨hsz, hk_gx, lt_gx, hk_gy, lt_gy, hk_ga, lt_ga, hk_gn, lt_gn, hbw⟩ := hC
        obtain ⟨f10, -⟩ := hA
        replace f10 : (s 40) = .bool true := f10
        refine guard_on (d := 40) (want := true) (by rfl) (by rfl) ?_ ?_
        · exact f10
        have m0_gn : w.cell? ⟨gn, 0, none⟩ = some (.int .i64 0) := blk_cell hk_gn 0 (by rfl)
        have m1_gn : w.cell? ⟨gn, 1, none⟩ = some (.int .i64 (-1)) := blk_cell hk_gn 1 (by rfl)
        refine wp_value (v := .agg #[.int .i64 0, .int .i64 (-1)]) (w1 := w) ?_ (hK.out _ w (Below.refl _ _) rfl (fun h => by cases h))
        try simp only [f10]
        go_simp
        try (first | done | rfl | (simp; done))
      refine StepsP.cons ?_ ?_
      · intro Q s w hC hA K hK
        clear hC
        obtain ⟨f10, f14, f15, -⟩ := hA
        replace f10 : (s 40) = .bool true := f10
        replace f14 : (s 44) = .agg #[.int .i64 0, .int .i64 (-1)] := f14
        replace f15 : (s 45) = .agg #[.int .i64 0, .int .i64 (-1)] := f15
        refine guard_on (d := 40) (want := true) (by rfl) (by rfl) ?_ ?_
        · exact f10
        refine wp_value (v := .bool true) (w1 := w) ?_ (hK.out _ w (Below.refl _ _) rfl (fun h => by cases h))
        try simp only [f10, f14, f15]
        go_simp
        try (first | done | rfl | (simp; done))
      refine StepsP.cons ?_ ?_
      · intro Q s w hC hA K hK
        clear hC
        obtain ⟨f10, f16, -⟩ := hA
        replace f10 : (s 40) = .bool true := f10
        replace f16 : (s 46) = .bool true := f16
        refine guard_none (by rfl) ?_
        refine wp_value (v := .bool true) (w1 := w) ?_ (hK.out _ w (Below.refl _ _) rfl (fun h => by cases h))
        try simp only [f10, f16]
        go_simp
        try (first | done | rfl | (simp; done))
      refine StepsP.cons ?_ ?_
      · intro Q s w hC hA K hK
        clear hC
        obtain ⟨f17, -⟩ := hA
        replace f17 : (s 47) = .bool true := f17
        refine guard_none (by rfl) ?_
        refine wp_value (v := .bool true) (w1 := w) ?_ (hK.out _ w (Below.refl _ _) rfl (fun h => by cases h))
        try simp only [f17]
        go_simp
        try (first | done | rfl | (simp; done))
      refine StepsP.cons ?_ ?_
      · intro Q s w hC hA K hK
        clear hC
        obtain ⟨f18, -⟩ := hA
        replace f18 : (s 48) = .bool true := f18
        refine guard_on (d := 48) (want := true) (by rfl) (by rfl) ?_ ?_
        · exact f18
        refine wp_value (v := .pointer (some ⟨ga, 0, none⟩)) (w1 := w) ?_ (hK.out _ w (Below.refl _ _) rfl (fun h => by cases h))
        try simp only [f18]
        go_simp
        try (first | done | rfl | (simp; done))
      refine StepsP.cons ?_ ?_
      · intro Q s w hC hA K hK
        obtain ⟨hsz, hk_gx, lt_gx, hk_gy, lt_gy, hk_ga, lt_ga, hk_gn, lt_gn, hbw⟩ := hC
        obtain ⟨f18, -⟩ := hA
        replace f18 : (s 48) = .bool true := f18
        refine guard_on (d := 48) (want := true) (by rfl) (by rfl) ?_ ?_
        · exact f18
        have m0_gx : w.cell? ⟨gx, 0, none⟩ = some (.int .i64 xl) := blk_cell hk_gx 0 (by rfl)
        have m1_gx : w.cell? ⟨gx, 1, none⟩ = some (.int .i64 xh) := blk_cell hk_gx 1 (by rfl)
        refine wp_value (v := .agg #[.int .i64 xl, .int .i64 xh]) (w1 := w) ?_ (hK.out _ w (Below.refl _ _) rfl (fun h => by cases h))
        try simp only [f18]
        go_simp
        try (first | done | rfl | (simp; done))
      refine StepsP.cons ?_ ?_
      · intro Q s w hC hA K hK
        obtain ⟨hsz, hk_gx, lt_gx, hk_gy, lt_gy, hk_ga, lt_ga, hk_gn, lt_gn, hbw⟩ := hC
        obtain ⟨f18, -⟩ := hA
        replace f18 : (s 48) = .bool true := f18
        refine guard_on (d := 48) (want := true) (by rfl) (by rfl) ?_ ?_
        · exact f18
        have m0_gy : w.cell? ⟨gy, 0, none⟩ = some (.int .i64 yl) := blk_cell hk_gy 0 (by rfl)
        have m1_gy : w.cell? ⟨gy, 1, none⟩ = some (.int .i64 yh) := blk_cell hk_gy 1 (by rfl)
        refine wp_value (v := .agg #[.int .i64 yl, .int .i64 yh]) (w1 := w) ?_ (hK.out _ w (Below.refl _ _) rfl (fun h => by cases h))
        try simp only [f18]
        go_simp
        try (first | done | rfl | (simp; done))
      refine StepsP.cons ?_ ?_
      · intro Q s w hC hA K hK
        obtain ⟨hsz, hk_gx, lt_gx, hk_gy, lt_gy, hk_ga, lt_ga, hk_gn, lt_gn, hbw⟩ := hC
        obtain ⟨f18, f19, f20, f21, -⟩ := hA
        replace f18 : (s 48) = .bool true := f18
        replace f19 : (s 49) = .pointer (some ⟨ga, 0, none⟩) := f19
        replace f20 : (s 50) = .agg #[.int .i64 xl, .int .i64 xh] := f20
        replace f21 : (s 51) = .agg #[.int .i64 yl, .int .i64 yh] := f21
        refine guard_on (d := 48) (want := true) (by rfl) (by rfl) ?_ ?_
        · exact f18
        refine wp_call (N := some 52) (by rfl) Try.func42 (by kernel_rfl) #[.pointer (some ⟨ga, 0, none⟩), .agg #[.int .i64 xl, .int .i64 xh], .agg #[.int .i64 yl, .int .i64 yh]] rfl (by rfl) ?_ ?_
        · show [s 49, s 50, s 51] = [.pointer (some ⟨ga, 0, none⟩), .agg #[.int .i64 xl, .int .i64 xh], .agg #[.int .i64 yl, .int .i64 yh]]
          first | rfl | simp only [f18, f19, f20, f21]
        refine (Cross_none (some ⟨ga, 0, none⟩) _ _ _ _ _ hs'.out).mono ?_
        rintro e w1 ⟨rfl, hb⟩
        refine ⟨_, rfl, ?_⟩
        exact hK.out _ _ hb rfl (fun h => by cases h)
      refine StepsP.cons ?_ ?_
      · intro Q s w hC hA K hK
        obtain ⟨hsz, hk_gx, lt_gx, hk_gy, lt_gy, hk_ga, lt_ga, hk_gn, lt_gn, hbw⟩ := hC
        obtain ⟨f18, -⟩ := hA
        replace f18 : (s 48) = .bool true := f18
        refine guard_on (d := 48) (want := true) (by rfl) (by rfl) ?_ ?_
        · exact f18
        have m0_gn : w.cell? ⟨gn, 0, none⟩ = some (.int .i64 0) := blk_cell hk_gn 0 (by rfl)
        have m1_gn : w.cell? ⟨gn, 1, none⟩ = some (.int .i64 (-1)) := blk_cell hk_gn 1 (by rfl)
        refine wp_value (v := .agg #[.int .i64 0, .int .i64 (-1)]) (w1 := w) ?_ (hK.out _ w (Below.refl _ _) rfl (fun h => by cases h))
        try simp only [f18]
        go_simp
        try (first | done | rfl | (simp; done))
      refine StepsP.cons ?_ ?_
      · intro Q s w hC hA K hK
        clear hC
        obtain ⟨f18, f22, f23, -⟩ := hA
        replace f18 : (s 48) = .bool true := f18
        replace f22 : (s 52) = .agg #[.int .i64 0, .int .i64 (-1)] := f22
        replace f23 : (s 53) = .agg #[.int .i64 0, .int .i64 (-1)] := f23
        refine guard_on (d := 48) (want := true) (by rfl) (by rfl) ?_ ?_
        · exact f18
        refine wp_value (v := .bool true) (w1 := w) ?_ (hK.out _ w (Below.refl _ _) rfl (fun h => by cases h))
        try simp only [f18, f22, f23]
        go_simp
        try (first | done | rfl | (simp; done))
      refine StepsP.cons ?_ ?_
      · intro Q s w hC hA K hK
        clear hC
        obtain ⟨f18, f24, -⟩ := hA
        replace f18 : (s 48) = .bool true := f18
        replace f24 : (s 54) = .bool true := f24
        refine guard_none (by rfl) ?_
        refine wp_value (v := .bool true) (w1 := w) ?_ (hK.out _ w (Below.refl _ _) rfl (fun h => by cases h))
        try simp only [f18, f24]
        go_simp
        try (first | done | rfl | (simp; done))
      refine StepsP.cons ?_ ?_
      · intro Q s w hC hA K hK
        clear hC
        obtain ⟨f25, -⟩ := hA
        replace f25 : (s 55) = .bool true := f25
        refine guard_none (by rfl) ?_
        refine wp_value (v := .bool true) (w1 := w) ?_ (hK.out _ w (Below.refl _ _) rfl (fun h => by cases h))
        try simp only [f25]
        go_simp
        try (first | done | rfl | (simp; done))
      exact StepsP.nil
    obtain ⟨hsz, hk_gx, lt_gx, hk_gy, lt_gy, hk_ga, lt_ga, hk_gn, lt_gn, hbw⟩ := hC
    obtain ⟨f26, -⟩ := hA
    replace f26 : (s 10) = .bool true := f26
    refine act_eq (b' := ?b2) ?h2 ?q2
    case h2 => simp only [f26]; rfl
    go_wp2
    go_ret
    subst hw0
    exact ⟨rfl, hbw⟩
set_option maxHeartbeats 100000000 in
set_option maxRecDepth 100000 in
theorem SpanHolds_full (xl xh yl yh c i j : Int) (w : World) (hex : ¬ xh < xl) (hey : ¬ yh < yl) (hx0 : -9223372036854775808 ≤ xl) (hx1 : xl ≤ 9223372036854775807) (hx2 : -9223372036854775808 ≤ xh) (hx3 : xh ≤ 9223372036854775807) (hy0 : -9223372036854775808 ≤ yl) (hy1 : yl ≤ 9223372036854775807) (hy2 : -9223372036854775808 ≤ yh) (hy3 : yh ≤ 9223372036854775807) (hc0 : -9223372036854775808 ≤ c) (hc1 : c ≤ 9223372036854775807) :
    Calls Try.prog 10 #[.agg #[.int .i64 (xl), .int .i64 (xh)], .agg #[.int .i64 (yl), .int .i64 (yh)], .int .i64 c, .int .i64 i, .int .i64 j] w fun e w' => e = .returned (.bool true) ∧ Below w.heap.size w w' := by
  have hx : decide (xh < xl) = false := decide_eq_false hex
  have hy : decide (yh < yl) = false := decide_eq_false hey
  obtain ⟨u, hu⟩ : ∃ z, Hid (clampTo i xl xh = z) := ⟨_, rfl⟩
  obtain ⟨v, hv⟩ : ∃ z, Hid (clampTo j yl yh = z) := ⟨_, rfl⟩
  obtain ⟨u0, u1⟩ := clampTo_in i hex
  obtain ⟨v0, v1⟩ := clampTo_in j hey
  rw [hu.out] at u0 u1
  rw [hv.out] at v0 v1
  have hP := fun ho => hold_plus u0 u1 v0 v1 ho
  have hM := fun ho => hold_minus u0 u1 v0 v1 ho
  have hT := fun ho => hold_times (c := c) u0 u1 ho
  have hC := fun ho => hold_cross u0 u1 v0 v1 ho
  have hs : someB [⟨xl, xh⟩, ⟨yl, yh⟩] = true := by rw [someB_cons, someB_cons, someB_nil]; simp only [hx, hy]; rfl
  have hi : InS [⟨xl, xh⟩, ⟨yl, yh⟩] := by intro s hs; simp only [List.mem_cons, List.not_mem_nil, or_false] at hs; rcases hs with rfl | rfl <;> simp only [] <;> omega
  have hiu : InI [u, v] := by intro s hs; simp only [List.mem_cons, List.not_mem_nil, or_false] at hs; rcases hs with rfl | rfl <;> omega
  have hu0 : -9223372036854775808 ≤ u := by omega
  have hu1 : u ≤ 9223372036854775807 := by omega
  have hv0 : -9223372036854775808 ≤ v := by omega
  have hv1 : v ≤ 9223372036854775807 := by omega
  obtain ⟨p1, hp1⟩ : ∃ z, Hid (clampI (plusLo [⟨xl, xh⟩, ⟨yl, yh⟩]) = z) := ⟨_, rfl⟩
  obtain ⟨p2, hp2⟩ : ∃ z, Hid (clampI (plusHi [⟨xl, xh⟩, ⟨yl, yh⟩]) = z) := ⟨_, rfl⟩
  obtain ⟨p3, hp3⟩ : ∃ z, Hid ((ovI (plusLo [⟨xl, xh⟩, ⟨yl, yh⟩]) || ovI (plusHi [⟨xl, xh⟩, ⟨yl, yh⟩])) = z) := ⟨_, rfl⟩
  obtain ⟨p4, hp4⟩ : ∃ z, Hid (clampI (sumI [u, v]) = z) := ⟨_, rfl⟩
  obtain ⟨p5, hp5⟩ : ∃ z, Hid (ovI (sumI [u, v]) = z) := ⟨_, rfl⟩
  obtain ⟨m1, hm1⟩ : ∃ z, Hid (clampI (xl - yh) = z) := ⟨_, rfl⟩
  obtain ⟨m2, hm2⟩ : ∃ z, Hid (clampI (xh - yl) = z) := ⟨_, rfl⟩
  obtain ⟨m3, hm3⟩ : ∃ z, Hid ((ovI (xl - yh) || ovI (xh - yl)) = z) := ⟨_, rfl⟩
  obtain ⟨m4, hm4⟩ : ∃ z, Hid (clampI (u - v) = z) := ⟨_, rfl⟩
  obtain ⟨m5, hm5⟩ : ∃ z, Hid (ovI (u - v) = z) := ⟨_, rfl⟩
  obtain ⟨t1, ht1⟩ : ∃ z, Hid (minL (prodL [xl, xh] [c] false) = z) := ⟨_, rfl⟩
  obtain ⟨t2, ht2⟩ : ∃ z, Hid (maxL (prodL [xl, xh] [c] true) = z) := ⟨_, rfl⟩
  obtain ⟨t3, ht3⟩ : ∃ z, Hid (ovP [xl, xh] [c] = z) := ⟨_, rfl⟩
  obtain ⟨t4, ht4⟩ : ∃ z, Hid (clampI (fmul u c false) = z) := ⟨_, rfl⟩
  obtain ⟨t5, ht5⟩ : ∃ z, Hid (ovI (fmul u c false) = z) := ⟨_, rfl⟩
  obtain ⟨t6, ht6⟩ : ∃ z, Hid (clampI (fmul u c true) = z) := ⟨_, rfl⟩
  obtain ⟨t7, ht7⟩ : ∃ z, Hid (ovI (fmul u c true) = z) := ⟨_, rfl⟩
  obtain ⟨q1, hq1⟩ : ∃ z, Hid (minL (prodL [xl, xh] [yl, yh] false) = z) := ⟨_, rfl⟩
  obtain ⟨q2, hq2⟩ : ∃ z, Hid (maxL (prodL [xl, xh] [yl, yh] true) = z) := ⟨_, rfl⟩
  obtain ⟨q3, hq3⟩ : ∃ z, Hid (ovP [xl, xh] [yl, yh] = z) := ⟨_, rfl⟩
  obtain ⟨q4, hq4⟩ : ∃ z, Hid (clampI (fmul u v false) = z) := ⟨_, rfl⟩
  obtain ⟨q5, hq5⟩ : ∃ z, Hid (ovI (fmul u v false) = z) := ⟨_, rfl⟩
  obtain ⟨q6, hq6⟩ : ∃ z, Hid (clampI (fmul u v true) = z) := ⟨_, rfl⟩
  obtain ⟨q7, hq7⟩ : ∃ z, Hid (ovI (fmul u v true) = z) := ⟨_, rfl⟩
  rw [hp1.out, hp2.out, hp3.out, hp4.out, hp5.out] at hP
  rw [hm1.out, hm2.out, hm3.out, hm4.out, hm5.out] at hM
  have hTf := fun ho => hT ho false
  have hTt := fun ho => hT ho true
  clear hT
  rw [ht1.out, ht2.out, ht3.out, ht4.out, ht5.out] at hTf
  rw [ht1.out, ht2.out, ht3.out, ht6.out, ht7.out] at hTt
  have hCf := fun ho => hC ho false
  have hCt := fun ho => hC ho true
  clear hC
  rw [hq1.out, hq2.out, hq3.out, hq4.out, hq5.out] at hCf
  rw [hq1.out, hq2.out, hq3.out, hq6.out, hq7.out] at hCt
  go_enter Try.func10, Try.ntmps10
  go_upto_region 1 with fail
  have hk_x : ((w.alloc (.cells #[.int .i64 xl, .int .i64 xh] 23)).alloc (.cells #[.int .i64 yl, .int .i64 yh] 23)).heap[w.heap.size]? = some (.cells #[.int .i64 xl, .int .i64 xh] 23 (0, 0)) := (by (repeat (first | with_reducible assumption | with_reducible exact blk_new _ _ | with_reducible apply blk_drew | (with_reducible refine blk_newE ?_; (first | done | (simp; done))) | with_reducible apply blk_put2 | (with_reducible refine blk_far ?_ (by first | omega | (simp; done) | (simp; omega)) _) | with_reducible apply blk_alloc | (with_reducible refine bl_block (by assumption) ?_) | (with_reducible refine blk_grown ?_ (by assumption) (by assumption)) | (with_reducible refine blk_acc (by assumption) ?_ (by assumption)))))
  have hk_y : ((w.alloc (.cells #[.int .i64 xl, .int .i64 xh] 23)).alloc (.cells #[.int .i64 yl, .int .i64 yh] 23)).heap[w.heap.size + 1]? = some (.cells #[.int .i64 yl, .int .i64 yh] 23 (0, 0)) := (by (repeat (first | with_reducible assumption | with_reducible exact blk_new _ _ | with_reducible apply blk_drew | (with_reducible refine blk_newE ?_; (first | done | (simp; done))) | with_reducible apply blk_put2 | (with_reducible refine blk_far ?_ (by first | omega | (simp; done) | (simp; omega)) _) | with_reducible apply blk_alloc | (with_reducible refine bl_block (by assumption) ?_) | (with_reducible refine blk_grown ?_ (by assumption) (by assumption)) | (with_reducible refine blk_acc (by assumption) ?_ (by assumption)))))
  have hbw : Below w.heap.size w ((w.alloc (.cells #[.int .i64 xl, .int .i64 xh] 23)).alloc (.cells #[.int .i64 yl, .int .i64 yh] 23)) := (by (repeat (first | with_reducible exact Below.refl _ _ | with_reducible assumption | with_reducible apply bl_alloc | with_reducible apply bl_drew | with_reducible apply bl_drewN | (with_reducible refine bl_set ?_ (by first | omega | (simp; done) | (simp; omega)) _) | (with_reducible refine bl_step ?_ (by assumption)) | (with_reducible refine bl_grown ?_ (by assumption) (by assumption)) | (with_reducible refine bl_own ?_ (by assumption) (by assumption)))))
  generalize (w.alloc (.cells #[.int .i64 xl, .int .i64 xh] 23)).alloc (.cells #[.int .i64 yl, .int .i64 yh] 23) = W at *
  have m0 := blk_two hk_x
  have m1 := blk_two hk_y
  go_upto_region 5 with (first | (go_at_call 13; refine (Empty_calls _ _ _).mono ?_; rintro e wn ⟨rfl, hbn⟩; (first | rw [hx] | rw [hy]); replace hk_x : wn.heap[w.heap.size]? = some (.cells #[.int .i64 xl, .int .i64 xh] 23 (0, 0)) := bl_block hbn hk_x; replace hk_y : wn.heap[w.heap.size + 1]? = some (.cells #[.int .i64 yl, .int .i64 yh] 23 (0, 0)) := bl_block hbn hk_y; replace hbw : Below w.heap.size w wn := bl_step hbw hbn; clear hbn m0 m1; have m0 := blk_two hk_x; have m1 := blk_two hk_y) | fail)
  clear m0 m1 W
  have l_yx := blk_lt hk_y
  have l_xx := blk_lt hk_x
  obtain ⟨w0, hw0⟩ : ∃ z : World, z = w := ⟨_, rfl⟩
  obtain ⟨gx, hgx⟩ : ∃ g, g = w0.heap.size := ⟨_, rfl⟩
  obtain ⟨gy, hgy⟩ : ∃ g, g = w0.heap.size + 1 := ⟨_, rfl⟩
  rw [← hw0, ← hgx] at hk_x
  rw [← hw0, ← hgy] at hk_y
  rw [← hw0] at hbw ⊢
  rw [← hgy, ← hgx]
  have hk_gx := hk_x
  have hk_gy := hk_y
  clear hk_x hk_y l_yx l_xx hgx hgy
  obtain ⟨B4, hB4⟩ : ∃ B, B = wn.heap.size := ⟨_, rfl⟩
  have c0_hsz : B4 ≤ wn.heap.size := Nat.le_of_eq hB4
  have hw0B4 : w0.heap.size ≤ B4 := by rw [hB4]; exact hbw.size
  have c0_hk_gx := blk_drew hk_gx
  have c0_lt_gx : gx < B4 := by rw [hB4]; exact blk_lt hk_gx
  have c0_hk_gy := blk_drew hk_gy
  have c0_lt_gy : gy < B4 := by rw [hB4]; exact blk_lt hk_gy
  have c0_hbw := bl_drew hbw
  clear hB4 hbw hk_gx hk_gy
  refine region_lin (n := 14) (st := ?st3) { R := [0, 0, 2, 0, 8, 31, 0, 0, 128, 0, 512, 2047, 4095, 8191], kill := [[], [], [], [], [], [], [], [], [], [], [], [], [], []], cls := [0, 0, 0, 0, 0, 0, 0, 0, 0, 0, 0, 0, 0, 0], dst := [some 56, some 57, some 58, some 59, some 60, some 61, some 62, some 63, some 64, some 65, some 66, some 67, some 13, some 14], pre := [[], [], [1], [], [3], [0, 2, 4], [], [], [7], [], [9], [6, 8, 10], [5], [11]], cov := [], fin := [12, 13], locs := [], tgt := [none], abt := [none, none, none, none, none, none, none, none, none, none, none, none, none, none] }
    [.v [56] (fun vs => (vs.getD 0 undef) = .int .i64 i),
     .v [57] (fun vs => (vs.getD 0 undef) = .pointer (some ⟨gx, 0, none⟩)),
     .v [58] (fun vs => (vs.getD 0 undef) = .int .i64 xl),
     .v [59] (fun vs => (vs.getD 0 undef) = .pointer (some ⟨gx, 1, none⟩)),
     .v [60] (fun vs => (vs.getD 0 undef) = .int .i64 xh),
     .v [61] (fun vs => (vs.getD 0 undef) = .int .i64 u),
     .v [62] (fun vs => (vs.getD 0 undef) = .int .i64 j),
     .v [63] (fun vs => (vs.getD 0 undef) = .pointer (some ⟨gy, 0, none⟩)),
     .v [64] (fun vs => (vs.getD 0 undef) = .int .i64 yl),
     .v [65] (fun vs => (vs.getD 0 undef) = .pointer (some ⟨gy, 1, none⟩)),
     .v [66] (fun vs => (vs.getD 0 undef) = .int .i64 yh),
     .v [67] (fun vs => (vs.getD 0 undef) = .int .i64 v),
     .v [13] (fun vs => (vs.getD 0 undef) = .int .i64 u),
     .v [14] (fun vs => (vs.getD 0 undef) = .int .i64 v)]
    (fun w => B4 ≤ w.heap.size ∧ w.heap[gx]? = some (.cells #[.int .i64 xl, .int .i64 xh] 23 (0, 0)) ∧ gx < B4 ∧ w.heap[gy]? = some (.cells #[.int .i64 yl, .int .i64 yh] 23 (0, 0)) ∧ gy < B4 ∧ Below w0.heap.size w0 w)
    (fun c => ([fun s w w' => Below w.heap.size w w'] : List ((Nat → Value) → World → World → Prop)).getD c (fun s w w' => w' = w))
    [13, 14, 56, 57, 58, 59, 60, 61, 62, 63, 64, 65, 66, 67] (by kernel_rfl) ⟨by kernel_rfl, by kernel_rfl, by kernel_rfl, by kernel_rfl, by kernel_rfl, by kernel_rfl, by kernel_rfl, by kernel_rfl⟩ (fun s => ?_) ?_ ?_ ?_ ?_ ?_ (fun s w hC hA => ?_)
  rotate_left
  · simp only [fillS, List.foldl, List.setIfInBounds_toArray, List.set_cons_zero, List.set_cons_succ]; rfl
  · exact ⟨c0_hsz, c0_hk_gx, c0_lt_gx, c0_hk_gy, c0_lt_gy, c0_hbw⟩
  · intro c s w w' hE
    match c, hE with
    | 0, hE => exact Below.size hE
    | c + 1, hE => cases hE; exact Nat.le_refl _
  · rintro c s w w' ⟨hsz, hk_gx, lt_gx, hk_gy, lt_gy, hbw⟩ hE
    match c, hE with
    | 0, hE => replace hE : Below w.heap.size w w' := hE; exact ⟨Nat.le_trans hsz hE.size, bl_block hE hk_gx, lt_gx, bl_block hE hk_gy, lt_gy, bl_step hbw hE⟩
    | c + 1, hE => cases hE; exact ⟨hsz, hk_gx, lt_gx, hk_gy, lt_gy, hbw⟩
  · exact trivial
  · skip
    refine StepsP.cons ?_ ?_
    · intro Q s w hC hA K hK
      clear hC
      clear hA
      refine guard_none (by rfl) ?_
      refine wp_value (v := .int .i64 i) (w1 := w) ?_ (hK.out _ w (Below.refl _ _) rfl (fun h => by cases h))
      go_simp
      try (first | done | rfl | (simp; done))
    refine StepsP.cons ?_ ?_
    · intro Q s w hC hA K hK
      clear hC
      clear hA
      refine guard_none (by rfl) ?_
      refine wp_value (v := .pointer (some ⟨gx, 0, none⟩)) (w1 := w) ?_ (hK.out _ w (Below.refl _ _) rfl (fun h => by cases h))
      go_simp
      try (first | done | rfl | (simp; done))
    refine StepsP.cons ?_ ?_
    · intro Q s w hC hA K hK
      obtain ⟨hsz, hk_gx, lt_gx, hk_gy, lt_gy, hbw⟩ := hC
      obtain ⟨f1, -⟩ := hA
      replace f1 : (s 57) = .pointer (some ⟨gx, 0, none⟩) := f1
      refine guard_none (by rfl) ?_
      have m0_gx : w.cell? ⟨gx, 0, none⟩ = some (.int .i64 xl) := blk_cell hk_gx 0 (by rfl)
      have m1_gx : w.cell? ⟨gx, 1, none⟩ = some (.int .i64 xh) := blk_cell hk_gx 1 (by rfl)
      refine wp_value (v := .int .i64 xl) (w1 := w) ?_ (hK.out _ w (Below.refl _ _) rfl (fun h => by cases h))
      try simp only [f1]
      go_simp
      try (first | done | rfl | (simp; done))
    refine StepsP.cons ?_ ?_
    · intro Q s w hC hA K hK
      clear hC
      clear hA
      refine guard_none (by rfl) ?_
      refine wp_value (v := .pointer (some ⟨gx, 1, none⟩)) (w1 := w) ?_ (hK.out _ w (Below.refl _ _) rfl (fun h => by cases h))
      go_simp
      try (first | done | rfl | (simp; done))
    refine StepsP.cons ?_ ?_
    · intro Q s w hC hA K hK
      obtain ⟨hsz, hk_gx, lt_gx, hk_gy, lt_gy, hbw⟩ := hC
      obtain ⟨f3, -⟩ := hA
      replace f3 : (s 59) = .pointer (some ⟨gx, 1, none⟩) := f3
      refine guard_none (by rfl) ?_
      have m0_gx : w.cell? ⟨gx, 0, none⟩ = some (.int .i64 xl) := blk_cell hk_gx 0 (by rfl)
      have m1_gx : w.cell? ⟨gx, 1, none⟩ = some (.int .i64 xh) := blk_cell hk_gx 1 (by rfl)
      refine wp_value (v := .int .i64 xh) (w1 := w) ?_ (hK.out _ w (Below.refl _ _) rfl (fun h => by cases h))
      try simp only [f3]
      go_simp
      try (first | done | rfl | (simp; done))
    refine StepsP.cons ?_ ?_
    · intro Q s w hC hA K hK
      obtain ⟨hsz, hk_gx, lt_gx, hk_gy, lt_gy, hbw⟩ := hC
      obtain ⟨f0, f2, f4, -⟩ := hA
      replace f0 : (s 56) = .int .i64 i := f0
      replace f2 : (s 58) = .int .i64 xl := f2
      replace f4 : (s 60) = .int .i64 xh := f4
      refine guard_none (by rfl) ?_
      refine wp_call (N := some 61) (by rfl) Try.func18 (by kernel_rfl) #[.int .i64 i, .int .i64 xl, .int .i64 xh] rfl (by rfl) ?_ ?_
      · show [s 56, s 58, s 60] = [.int .i64 i, .int .i64 xl, .int .i64 xh]
        first | rfl | simp only [f0, f2, f4]
      refine (Clamp_calls _ _ _ _).mono ?_
      rintro e w1 ⟨rfl, rfl⟩
      refine ⟨_, rfl, ?_⟩
      rw [hu.out]
      exact hK.out _ _ (Below.refl _ _) rfl (fun h => by cases h)
    refine StepsP.cons ?_ ?_
    · intro Q s w hC hA K hK
      clear hC
      clear hA
      refine guard_none (by rfl) ?_
      refine wp_value (v := .int .i64 j) (w1 := w) ?_ (hK.out _ w (Below.refl _ _) rfl (fun h => by cases h))
      go_simp
      try (first | done | rfl | (simp; done))
    refine StepsP.cons ?_ ?_
    · intro Q s w hC hA K hK
      clear hC
      clear hA
      refine guard_none (by rfl) ?_
      refine wp_value (v := .pointer (some ⟨gy, 0, none⟩)) (w1 := w) ?_ (hK.out _ w (Below.refl _ _) rfl (fun h => by cases h))
      go_simp
      try (first | done | rfl | (simp; done))
    refine StepsP.cons ?_ ?_
    · intro Q s w hC hA K hK
      obtain ⟨hsz, hk_gx, lt_gx, hk_gy, lt_gy, hbw⟩ := hC
      obtain ⟨f7, -⟩ := hA
      replace f7 : (s 63) = .pointer (some ⟨gy, 0, none⟩) := f7
      refine guard_none (by rfl) ?_
      have m0_gy : w.cell? ⟨gy, 0, none⟩ = some (.int .i64 yl) := blk_cell hk_gy 0 (by rfl)
      have m1_gy : w.cell? ⟨gy, 1, none⟩ = some (.int .i64 yh) := blk_cell hk_gy 1 (by rfl)
      refine wp_value (v := .int .i64 yl) (w1 := w) ?_ (hK.out _ w (Below.refl _ _) rfl (fun h => by cases h))
      try simp only [f7]
      go_simp
      try (first | done | rfl | (simp; done))
    refine StepsP.cons ?_ ?_
    · intro Q s w hC hA K hK
      clear hC
      clear hA
      refine guard_none (by rfl) ?_
      refine wp_value (v := .pointer (some ⟨gy, 1, none⟩)) (w1 := w) ?_ (hK.out _ w (Below.refl _ _) rfl (fun h => by cases h))
      go_simp
      try (first | done | rfl | (simp; done))
    refine StepsP.cons ?_ ?_
    · intro Q s w hC hA K hK
      obtain ⟨hsz, hk_gx, lt_gx, hk_gy, lt_gy, hbw⟩ := hC
      obtain ⟨f9, -⟩ := hA
      replace f9 : (s 65) = .pointer (some ⟨gy, 1, none⟩) := f9
      refine guard_none (by rfl) ?_
      have m0_gy : w.cell? ⟨gy, 0, none⟩ = some (.int .i64 yl) := blk_cell hk_gy 0 (by rfl)
      have m1_gy : w.cell? ⟨gy, 1, none⟩ = some (.int .i64 yh) := blk_cell hk_gy 1 (by rfl)
      refine wp_value (v := .int .i64 yh) (w1 := w) ?_ (hK.out _ w (Below.refl _ _) rfl (fun h => by cases h))
      try simp only [f9]
      go_simp
      try (first | done | rfl | (simp; done))
    refine StepsP.cons ?_ ?_
    · intro Q s w hC hA K hK
      obtain ⟨hsz, hk_gx, lt_gx, hk_gy, lt_gy, hbw⟩ := hC
      obtain ⟨f6, f8, f10, -⟩ := hA
      replace f6 : (s 62) = .int .i64 j := f6
      replace f8 : (s 64) = .int .i64 yl := f8
      replace f10 : (s 66) = .int .i64 yh := f10
      refine guard_none (by rfl) ?_
      refine wp_call (N := some 67) (by rfl) Try.func18 (by kernel_rfl) #[.int .i64 j, .int .i64 yl, .int .i64 yh] rfl (by rfl) ?_ ?_
      · show [s 62, s 64, s 66] = [.int .i64 j, .int .i64 yl, .int .i64 yh]
        first | rfl | simp only [f6, f8, f10]
      refine (Clamp_calls _ _ _ _).mono ?_
      rintro e w1 ⟨rfl, rfl⟩
      refine ⟨_, rfl, ?_⟩
      rw [hv.out]
      exact hK.out _ _ (Below.refl _ _) rfl (fun h => by cases h)
    refine StepsP.cons ?_ ?_
    · intro Q s w hC hA K hK
      clear hC
      obtain ⟨f5, -⟩ := hA
      replace f5 : (s 61) = .int .i64 u := f5
      refine guard_none (by rfl) ?_
      refine wp_value (v := .int .i64 u) (w1 := w) ?_ (hK.out _ w (Below.refl _ _) rfl (fun h => by cases h))
      try simp only [f5]
      go_simp
      try (first | done | rfl | (simp; done))
    refine StepsP.cons ?_ ?_
    · intro Q s w hC hA K hK
      clear hC
      obtain ⟨f11, -⟩ := hA
      replace f11 : (s 67) = .int .i64 v := f11
      refine guard_none (by rfl) ?_
      refine wp_value (v := .int .i64 v) (w1 := w) ?_ (hK.out _ w (Below.refl _ _) rfl (fun h => by cases h))
      try simp only [f11]
      go_simp
      try (first | done | rfl | (simp; done))
    exact StepsP.nil
  obtain ⟨hsz, hk_gx, lt_gx, hk_gy, lt_gy, hbw⟩ := hC
  obtain ⟨f12, f13, -⟩ := hA
  replace f12 : (s 13) = .int .i64 u := f12
  replace f13 : (s 14) = .int .i64 v := f13
  refine act_eq (b' := ?b3) ?h3 ?q3
  case h3 => simp only [f12, f13]; rfl
  clear hsz lt_gx lt_gy
  have m0 := blk_two hk_gx
  have m1 := blk_two hk_gy
  go_upto_region 7 with fail
  clear m0 m1
  have hk_ga : ((w.alloc (.cells #[.bool false] 50)).alloc (.cells #[.bool false] 31)).heap[w.heap.size]? = some (.cells #[.bool false] 50 (0, 0)) := blk_alloc (blk_new w (.cells #[.bool false] 50)) (.cells #[.bool false] 31)
  have hk_gb : ((w.alloc (.cells #[.bool false] 50)).alloc (.cells #[.bool false] 31)).heap[w.heap.size + 1]? = some (.cells #[.bool false] 31 (0, 0)) := by have h_ := blk_new (w.alloc (.cells #[.bool false] 50)) (.cells #[.bool false] 31); simpa using h_
  have ha_a := AccAt.blk hk_ga
  clear hk_ga
  have l_xa := blk_lt hk_gx
  have l_ya := blk_lt hk_gy
  have hl_a : w0.heap.size ≤ (⟨w.heap.size, 0, none⟩ : Addr).block := hbw.size
  replace hk_gx := blk_alloc (blk_alloc hk_gx (.cells #[.bool false] 50)) (.cells #[.bool false] 31)
  replace hk_gy := blk_alloc (blk_alloc hk_gy (.cells #[.bool false] 50)) (.cells #[.bool false] 31)
  replace hbw := bl_alloc (bl_alloc hbw (.cells #[.bool false] 50)) (.cells #[.bool false] 31)
  generalize ((w.alloc (.cells #[.bool false] 50)).alloc (.cells #[.bool false] 31)) = W2 at *
  have p_a_gb : PNe (some ⟨w.heap.size, 0, none⟩) (w.heap.size + 1) := PNe.of (by simp only []; omega)
  have p_a_gx : PNe (some ⟨w.heap.size, 0, none⟩) gx := PNe.of (by simp only []; omega)
  have p_a_gy : PNe (some ⟨w.heap.size, 0, none⟩) gy := PNe.of (by simp only []; omega)
  clear l_xa l_ya
  generalize w.heap.size + 1 = gb at *
  generalize w.heap.size = ga at *
  obtain ⟨B0, hB0⟩ : ∃ B, B = W2.heap.size := ⟨_, rfl⟩
  have c0_hsz : B0 ≤ W2.heap.size := Nat.le_of_eq hB0
  have hw0B0 : w0.heap.size ≤ B0 := by rw [hB0]; exact hbw.size
  have c0_hk_gx := blk_drew hk_gx
  have c0_lt_gx : gx < B0 := by rw [hB0]; exact blk_lt hk_gx
  have c0_hk_gy := blk_drew hk_gy
  have c0_lt_gy : gy < B0 := by rw [hB0]; exact blk_lt hk_gy
  have c0_hk_gb := blk_drew hk_gb
  have c0_lt_gb : gb < B0 := by rw [hB0]; exact blk_lt hk_gb
  have c0_ha_a : ∃ o, AccAt W2.drew (some ⟨ga, 0, none⟩) o := ⟨_, AccAt.below ha_a (bl_drew (Below.refl _ _))⟩
  have lt_acc_a : ga < B0 := by rw [hB0]; exact World.block_lt_of_cell? _ _ ha_a.1
  have c0_hbw := bl_drew hbw
  clear hB0 hbw hk_gx hk_gy hk_gb
  refine region_lin (n := 25) (st := ?st4) { R := [0, 0, 0, 6, 15, 0, 0, 0, 255, 0, 0, 0, 4095, 0, 0, 0, 65535, 0, 0, 0, 0, 2097151, 4194303, 8388607, 16777215], kill := [[], [], [], [], [], [], [], [], [], [], [], [], [], [], [], [], [], [21], [22], [23], [24], [], [], [], []], cls := [0, 0, 0, 0, 1, 0, 0, 0, 1, 0, 0, 0, 1, 0, 0, 0, 1, 0, 0, 0, 0, 2, 3, 4, 5], dst := [some 72, some 73, some 74, some 75, some 76, some 77, some 78, some 79, some 80, some 81, some 82, some 83, some 84, some 85, some 86, some 87, some 88, some 17, some 18, some 19, some 20, none, none, none, none], pre := [[], [], [], [1, 2], [0, 3], [], [], [], [5, 6, 7], [], [], [], [9, 10, 11], [], [], [], [13, 14, 15], [], [], [], [], [17, 4], [18, 8], [19, 12], [20, 16]], cov := [(0, 3), (0, 4), (0, 8), (0, 12), (0, 16), (0, 17), (0, 18), (0, 19), (0, 20), (1, 3), (1, 4), (1, 8), (1, 12), (1, 17), (1, 18), (1, 19), (1, 20), (2, 3), (2, 4), (2, 8), (2, 12), (2, 16), (2, 18), (2, 19), (2, 20), (3, 3), (3, 4), (3, 8), (3, 12), (3, 16), (3, 17), (3, 19), (3, 20), (3, 21), (4, 3), (4, 4), (4, 8), (4, 12), (4, 16), (4, 17), (4, 18), (4, 20), (4, 21), (4, 22), (5, 3), (5, 4), (5, 8), (5, 12), (5, 16), (5, 17), (5, 18), (5, 19), (5, 21), (5, 22), (5, 23)], fin := [4, 8, 12, 16, 21, 22, 23, 24], locs := [(3, 75), (17, 17), (18, 18), (19, 19), (20, 20)], tgt := [none, none, some 17, some 18, some 19, some 20], abt := [none, none, none, some 75, none, none, none, none, none, none, none, none, none, none, none, none, none, some 17, some 18, some 19, some 20, some 17, some 18, some 19, some 20] }
    [.v [72] (fun vs => (vs.getD 0 undef) = .pointer (some ⟨ga, 0, none⟩)),
     .v [73] (fun vs => (vs.getD 0 undef) = .agg #[.int .i64 xl, .int .i64 xh]),
     .v [74] (fun vs => (vs.getD 0 undef) = .agg #[.int .i64 yl, .int .i64 yh]),
     .w [75] (fun vs w => ∃ g3 : Nat, (vs.getD 0 undef) = .slice (some ⟨g3, 0, none⟩) 2 2 ∧ B0 ≤ g3 ∧ w.heap[g3]? = some (.cells #[.int .i64 xl, .int .i64 xh, .int .i64 yl, .int .i64 yh] 23 (0, 0))),
     .w [76] (fun vs w => ((vs.getD 0 undef) = .agg #[.int .i64 p1, .int .i64 p2]) ∧ ∃ o : Bool, AccAt w (some ⟨ga, 0, none⟩) o ∧ (p3 = true → o = true)),
     .v [77] (fun vs => (vs.getD 0 undef) = .pointer (some ⟨ga, 0, none⟩)),
     .v [78] (fun vs => (vs.getD 0 undef) = .agg #[.int .i64 xl, .int .i64 xh]),
     .v [79] (fun vs => (vs.getD 0 undef) = .agg #[.int .i64 yl, .int .i64 yh]),
     .w [80] (fun vs w => ((vs.getD 0 undef) = .agg #[.int .i64 m1, .int .i64 m2]) ∧ ∃ o : Bool, AccAt w (some ⟨ga, 0, none⟩) o ∧ (m3 = true → o = true)),
     .v [81] (fun vs => (vs.getD 0 undef) = .pointer (some ⟨ga, 0, none⟩)),
     .v [82] (fun vs => (vs.getD 0 undef) = .agg #[.int .i64 xl, .int .i64 xh]),
     .v [83] (fun vs => (vs.getD 0 undef) = .int .i64 c),
     .w [84] (fun vs w => ((vs.getD 0 undef) = .agg #[.int .i64 t1, .int .i64 t2]) ∧ ∃ o : Bool, AccAt w (some ⟨ga, 0, none⟩) o ∧ (t3 = true → o = true)),
     .v [85] (fun vs => (vs.getD 0 undef) = .pointer (some ⟨ga, 0, none⟩)),
     .v [86] (fun vs => (vs.getD 0 undef) = .agg #[.int .i64 xl, .int .i64 xh]),
     .v [87] (fun vs => (vs.getD 0 undef) = .agg #[.int .i64 yl, .int .i64 yh]),
     .w [88] (fun vs w => ((vs.getD 0 undef) = .agg #[.int .i64 q1, .int .i64 q2]) ∧ ∃ o : Bool, AccAt w (some ⟨ga, 0, none⟩) o ∧ (q3 = true → o = true)),
     .w [17] (fun vs w => ∃ g17 : Nat, (vs.getD 0 undef) = .pointer (some ⟨g17, 0, none⟩) ∧ B0 ≤ g17 ∧ w.heap[g17]? = some (.cells #[.int .i64 0, .int .i64 0] 23 (0, 0))),
     .w [18] (fun vs w => ∃ g18 : Nat, (vs.getD 0 undef) = .pointer (some ⟨g18, 0, none⟩) ∧ B0 ≤ g18 ∧ w.heap[g18]? = some (.cells #[.int .i64 0, .int .i64 0] 23 (0, 0))),
     .w [19] (fun vs w => ∃ g19 : Nat, (vs.getD 0 undef) = .pointer (some ⟨g19, 0, none⟩) ∧ B0 ≤ g19 ∧ w.heap[g19]? = some (.cells #[.int .i64 0, .int .i64 0] 23 (0, 0))),
     .w [20] (fun vs w => ∃ g20 : Nat, (vs.getD 0 undef) = .pointer (some ⟨g20, 0, none⟩) ∧ B0 ≤ g20 ∧ w.heap[g20]? = some (.cells #[.int .i64 0, .int .i64 0] 23 (0, 0))),
     .w [17] (fun vs w => ∃ g17 : Nat, (vs.getD 0 undef) = .pointer (some ⟨g17, 0, none⟩) ∧ B0 ≤ g17 ∧ w.heap[g17]? = some (.cells #[.int .i64 p1, .int .i64 p2] 23 (0, 0))),
     .w [18] (fun vs w => ∃ g18 : Nat, (vs.getD 0 undef) = .pointer (some ⟨g18, 0, none⟩) ∧ B0 ≤ g18 ∧ w.heap[g18]? = some (.cells #[.int .i64 m1, .int .i64 m2] 23 (0, 0))),
     .w [19] (fun vs w => ∃ g19 : Nat, (vs.getD 0 undef) = .pointer (some ⟨g19, 0, none⟩) ∧ B0 ≤ g19 ∧ w.heap[g19]? = some (.cells #[.int .i64 t1, .int .i64 t2] 23 (0, 0))),
     .w [20] (fun vs w => ∃ g20 : Nat, (vs.getD 0 undef) = .pointer (some ⟨g20, 0, none⟩) ∧ B0 ≤ g20 ∧ w.heap[g20]? = some (.cells #[.int .i64 q1, .int .i64 q2] 23 (0, 0)))]
    (fun w => B0 ≤ w.heap.size ∧ w.heap[gx]? = some (.cells #[.int .i64 xl, .int .i64 xh] 23 (0, 0)) ∧ gx < B0 ∧ w.heap[gy]? = some (.cells #[.int .i64 yl, .int .i64 yh] 23 (0, 0)) ∧ gy < B0 ∧ w.heap[gb]? = some (.cells #[.bool false] 31 (0, 0)) ∧ gb < B0 ∧ (∃ o, AccAt w (some ⟨ga, 0, none⟩) o) ∧ Below w0.heap.size w0 w)
    (fun c => ([fun s w w' => Below w.heap.size w w', fun s w w' => ∃ o, Below w.heap.size (orCell w (some ⟨ga, 0, none⟩) o) w', fun s w w' => w' = w ∨ ∃ g17 : Nat, s 17 = .pointer (some ⟨g17, 0, none⟩) ∧ B0 ≤ g17 ∧ (∀ k o, k ≠ g17 → w.heap[k]? = some o → w'.heap[k]? = some o) ∧ w'.heap.size = w.heap.size ∧ Below g17 w w', fun s w w' => w' = w ∨ ∃ g18 : Nat, s 18 = .pointer (some ⟨g18, 0, none⟩) ∧ B0 ≤ g18 ∧ (∀ k o, k ≠ g18 → w.heap[k]? = some o → w'.heap[k]? = some o) ∧ w'.heap.size = w.heap.size ∧ Below g18 w w', fun s w w' => w' = w ∨ ∃ g19 : Nat, s 19 = .pointer (some ⟨g19, 0, none⟩) ∧ B0 ≤ g19 ∧ (∀ k o, k ≠ g19 → w.heap[k]? = some o → w'.heap[k]? = some o) ∧ w'.heap.size = w.heap.size ∧ Below g19 w w', fun s w w' => w' = w ∨ ∃ g20 : Nat, s 20 = .pointer (some ⟨g20, 0, none⟩) ∧ B0 ≤ g20 ∧ (∀ k o, k ≠ g20 → w.heap[k]? = some o → w'.heap[k]? = some o) ∧ w'.heap.size = w.heap.size ∧ Below g20 w w'] : List ((Nat → Value) → World → World → Prop)).getD c (fun s w w' => w' = w))
    [17, 18, 19, 20, 72, 73, 74, 75, 76, 77, 78, 79, 80, 81, 82, 83, 84, 85, 86, 87, 88] (by kernel_rfl) ⟨by kernel_rfl, by kernel_rfl, by kernel_rfl, by kernel_rfl, by kernel_rfl, by kernel_rfl, by kernel_rfl, by kernel_rfl⟩ (fun s => ?_) ?_ ?_ ?_ ?_ ?_ (fun s w hC hA => ?_)
  rotate_left
  · simp only [fillS, List.foldl, List.setIfInBounds_toArray, List.set_cons_zero, List.set_cons_succ]; rfl
  · exact ⟨c0_hsz, c0_hk_gx, c0_lt_gx, c0_hk_gy, c0_lt_gy, c0_hk_gb, c0_lt_gb, c0_ha_a, c0_hbw⟩
  · intro c s w w' hE
    match c, hE with
    | 0, hE => exact Below.size hE
    | 1, hE => replace hE : ∃ o, Below w.heap.size (orCell w (some ⟨ga, 0, none⟩) o) w' := hE; obtain ⟨o, hE⟩ := hE; have h_ := Below.size hE; rwa [orCell_size] at h_
    | 2, hE => replace hE : w' = w ∨ ∃ g17 : Nat, s 17 = .pointer (some ⟨g17, 0, none⟩) ∧ B0 ≤ g17 ∧ (∀ k o, k ≠ g17 → w.heap[k]? = some o → w'.heap[k]? = some o) ∧ w'.heap.size = w.heap.size ∧ Below g17 w w' := hE; rcases hE with hE | ⟨_, _, _, _, hE, _⟩; exact Nat.le_of_eq (by rw [hE]); exact Nat.le_of_eq hE.symm
    | 3, hE => replace hE : w' = w ∨ ∃ g18 : Nat, s 18 = .pointer (some ⟨g18, 0, none⟩) ∧ B0 ≤ g18 ∧ (∀ k o, k ≠ g18 → w.heap[k]? = some o → w'.heap[k]? = some o) ∧ w'.heap.size = w.heap.size ∧ Below g18 w w' := hE; rcases hE with hE | ⟨_, _, _, _, hE, _⟩; exact Nat.le_of_eq (by rw [hE]); exact Nat.le_of_eq hE.symm
    | 4, hE => replace hE : w' = w ∨ ∃ g19 : Nat, s 19 = .pointer (some ⟨g19, 0, none⟩) ∧ B0 ≤ g19 ∧ (∀ k o, k ≠ g19 → w.heap[k]? = some o → w'.heap[k]? = some o) ∧ w'.heap.size = w.heap.size ∧ Below g19 w w' := hE; rcases hE with hE | ⟨_, _, _, _, hE, _⟩; exact Nat.le_of_eq (by rw [hE]); exact Nat.le_of_eq hE.symm
    | 5, hE => replace hE : w' = w ∨ ∃ g20 : Nat, s 20 = .pointer (some ⟨g20, 0, none⟩) ∧ B0 ≤ g20 ∧ (∀ k o, k ≠ g20 → w.heap[k]? = some o → w'.heap[k]? = some o) ∧ w'.heap.size = w.heap.size ∧ Below g20 w w' := hE; rcases hE with hE | ⟨_, _, _, _, hE, _⟩; exact Nat.le_of_eq (by rw [hE]); exact Nat.le_of_eq hE.symm
    | c + 6, hE => cases hE; exact Nat.le_refl _
  · rintro c s w w' ⟨hsz, hk_gx, lt_gx, hk_gy, lt_gy, hk_gb, lt_gb, ha_a, hbw⟩ hE
    match c, hE with
    | 0, hE => replace hE : Below w.heap.size w w' := hE; exact ⟨Nat.le_trans hsz hE.size, bl_block hE hk_gx, lt_gx, bl_block hE hk_gy, lt_gy, bl_block hE hk_gb, lt_gb, ha_a.imp fun _ h => h.below hE, bl_step hbw hE⟩
    | 1, hE => replace hE : ∃ o, Below w.heap.size (orCell w (some ⟨ga, 0, none⟩) o) w' := hE; obtain ⟨o, hE⟩ := hE; exact ⟨Nat.le_trans hsz (by have h_ := hE.size; rwa [orCell_size] at h_), blk_acc hE hk_gx p_a_gx, lt_gx, blk_acc hE hk_gy p_a_gy, lt_gy, blk_acc hE hk_gb p_a_gb, lt_gb, (by obtain ⟨o2, h2⟩ := ha_a; exact ⟨_, h2.or hE⟩), bl_own hbw hl_a hE⟩
    | 2, hE =>
      replace hE : w' = w ∨ ∃ g17 : Nat, s 17 = .pointer (some ⟨g17, 0, none⟩) ∧ B0 ≤ g17 ∧ (∀ k o, k ≠ g17 → w.heap[k]? = some o → w'.heap[k]? = some o) ∧ w'.heap.size = w.heap.size ∧ Below g17 w w' := hE
      rcases hE with rfl | ⟨g17, hs_, hg_, hkeep, hsz_, hBl⟩
      · exact ⟨hsz, hk_gx, lt_gx, hk_gy, lt_gy, hk_gb, lt_gb, ha_a, hbw⟩
      · exact ⟨by omega, hkeep _ _ (by omega) hk_gx, lt_gx, hkeep _ _ (by omega) hk_gy, lt_gy, hkeep _ _ (by omega) hk_gb, lt_gb, ha_a.imp fun _ h => AccAt.keep h hBl (fun a_ h_ => by cases h_; show ga < g17; omega), hbw.trans (Below.mono hBl (Nat.le_trans hw0B0 hg_))⟩
    | 3, hE =>
      replace hE : w' = w ∨ ∃ g18 : Nat, s 18 = .pointer (some ⟨g18, 0, none⟩) ∧ B0 ≤ g18 ∧ (∀ k o, k ≠ g18 → w.heap[k]? = some o → w'.heap[k]? = some o) ∧ w'.heap.size = w.heap.size ∧ Below g18 w w' := hE
      rcases hE with rfl | ⟨g18, hs_, hg_, hkeep, hsz_, hBl⟩
      · exact ⟨hsz, hk_gx, lt_gx, hk_gy, lt_gy, hk_gb, lt_gb, ha_a, hbw⟩
      · exact ⟨by omega, hkeep _ _ (by omega) hk_gx, lt_gx, hkeep _ _ (by omega) hk_gy, lt_gy, hkeep _ _ (by omega) hk_gb, lt_gb, ha_a.imp fun _ h => AccAt.keep h hBl (fun a_ h_ => by cases h_; show ga < g18; omega), hbw.trans (Below.mono hBl (Nat.le_trans hw0B0 hg_))⟩
    | 4, hE =>
      replace hE : w' = w ∨ ∃ g19 : Nat, s 19 = .pointer (some ⟨g19, 0, none⟩) ∧ B0 ≤ g19 ∧ (∀ k o, k ≠ g19 → w.heap[k]? = some o → w'.heap[k]? = some o) ∧ w'.heap.size = w.heap.size ∧ Below g19 w w' := hE
      rcases hE with rfl | ⟨g19, hs_, hg_, hkeep, hsz_, hBl⟩
      · exact ⟨hsz, hk_gx, lt_gx, hk_gy, lt_gy, hk_gb, lt_gb, ha_a, hbw⟩
      · exact ⟨by omega, hkeep _ _ (by omega) hk_gx, lt_gx, hkeep _ _ (by omega) hk_gy, lt_gy, hkeep _ _ (by omega) hk_gb, lt_gb, ha_a.imp fun _ h => AccAt.keep h hBl (fun a_ h_ => by cases h_; show ga < g19; omega), hbw.trans (Below.mono hBl (Nat.le_trans hw0B0 hg_))⟩
    | 5, hE =>
      replace hE : w' = w ∨ ∃ g20 : Nat, s 20 = .pointer (some ⟨g20, 0, none⟩) ∧ B0 ≤ g20 ∧ (∀ k o, k ≠ g20 → w.heap[k]? = some o → w'.heap[k]? = some o) ∧ w'.heap.size = w.heap.size ∧ Below g20 w w' := hE
      rcases hE with rfl | ⟨g20, hs_, hg_, hkeep, hsz_, hBl⟩
      · exact ⟨hsz, hk_gx, lt_gx, hk_gy, lt_gy, hk_gb, lt_gb, ha_a, hbw⟩
      · exact ⟨by omega, hkeep _ _ (by omega) hk_gx, lt_gx, hkeep _ _ (by omega) hk_gy, lt_gy, hkeep _ _ (by omega) hk_gb, lt_gb, ha_a.imp fun _ h => AccAt.keep h hBl (fun a_ h_ => by cases h_; show ga < g20; omega), hbw.trans (Below.mono hBl (Nat.le_trans hw0B0 hg_))⟩
    | c + 6, hE => cases hE; exact ⟨hsz, hk_gx, lt_gx, hk_gy, lt_gy, hk_gb, lt_gb, ha_a, hbw⟩
  · refine ⟨?_, ?_, ?_, ?_, ?_, ?_, ?_, ?_, ?_, ?_, ?_, ?_, ?_, ?_, ?_, ?_, ?_, ?_, ?_, ?_, ?_, ?_, ?_, ?_, ?_, ?_, ?_, ?_, ?_, ?_, ?_, ?_, ?_, ?_, ?_, ?_, ?_, ?_, ?_, ?_, ?_, ?_, ?_, ?_, ?_, ?_, ?_, ?_, ?_, ?_, ?_, ?_, ?_, ?_, ?_, trivial⟩
    · intro s w w' hD hC hE hF
      replace hF : ∃ g3 : Nat, (s 75) = .slice (some ⟨g3, 0, none⟩) 2 2 ∧ B0 ≤ g3 ∧ w.heap[g3]? = some (.cells #[.int .i64 xl, .int .i64 xh, .int .i64 yl, .int .i64 yh] 23 (0, 0)) := hF
      show ∃ g3 : Nat, (s 75) = .slice (some ⟨g3, 0, none⟩) 2 2 ∧ B0 ≤ g3 ∧ w'.heap[g3]? = some (.cells #[.int .i64 xl, .int .i64 xh, .int .i64 yl, .int .i64 yh] 23 (0, 0))
      replace hE : Below w.heap.size w w' := hE
      obtain ⟨g3, h1, h2, h3⟩ := hF
      exact ⟨g3, h1, h2, bl_block hE h3⟩
    · intro s w w' hD hC hE hF
      replace hF : ((s 76) = .agg #[.int .i64 p1, .int .i64 p2]) ∧ ∃ o : Bool, AccAt w (some ⟨ga, 0, none⟩) o ∧ (p3 = true → o = true) := hF
      show ((s 76) = .agg #[.int .i64 p1, .int .i64 p2]) ∧ ∃ o : Bool, AccAt w' (some ⟨ga, 0, none⟩) o ∧ (p3 = true → o = true)
      replace hE : Below w.heap.size w w' := hE
      obtain ⟨h1, o2, h2, h3⟩ := hF
      exact ⟨h1, o2, h2.below hE, h3⟩
    · intro s w w' hD hC hE hF
      replace hF : ((s 80) = .agg #[.int .i64 m1, .int .i64 m2]) ∧ ∃ o : Bool, AccAt w (some ⟨ga, 0, none⟩) o ∧ (m3 = true → o = true) := hF
      show ((s 80) = .agg #[.int .i64 m1, .int .i64 m2]) ∧ ∃ o : Bool, AccAt w' (some ⟨ga, 0, none⟩) o ∧ (m3 = true → o = true)
      replace hE : Below w.heap.size w w' := hE
      obtain ⟨h1, o2, h2, h3⟩ := hF
      exact ⟨h1, o2, h2.below hE, h3⟩
    · intro s w w' hD hC hE hF
      replace hF : ((s 84) = .agg #[.int .i64 t1, .int .i64 t2]) ∧ ∃ o : Bool, AccAt w (some ⟨ga, 0, none⟩) o ∧ (t3 = true → o = true) := hF
      show ((s 84) = .agg #[.int .i64 t1, .int .i64 t2]) ∧ ∃ o : Bool, AccAt w' (some ⟨ga, 0, none⟩) o ∧ (t3 = true → o = true)
      replace hE : Below w.heap.size w w' := hE
      obtain ⟨h1, o2, h2, h3⟩ := hF
      exact ⟨h1, o2, h2.below hE, h3⟩
    · intro s w w' hD hC hE hF
      replace hF : ((s 88) = .agg #[.int .i64 q1, .int .i64 q2]) ∧ ∃ o : Bool, AccAt w (some ⟨ga, 0, none⟩) o ∧ (q3 = true → o = true) := hF
      show ((s 88) = .agg #[.int .i64 q1, .int .i64 q2]) ∧ ∃ o : Bool, AccAt w' (some ⟨ga, 0, none⟩) o ∧ (q3 = true → o = true)
      replace hE : Below w.heap.size w w' := hE
      obtain ⟨h1, o2, h2, h3⟩ := hF
      exact ⟨h1, o2, h2.below hE, h3⟩
    · intro s w w' hD hC hE hF
      replace hF : ∃ g17 : Nat, (s 17) = .pointer (some ⟨g17, 0, none⟩) ∧ B0 ≤ g17 ∧ w.heap[g17]? = some (.cells #[.int .i64 0, .int .i64 0] 23 (0, 0)) := hF
      show ∃ g17 : Nat, (s 17) = .pointer (some ⟨g17, 0, none⟩) ∧ B0 ≤ g17 ∧ w'.heap[g17]? = some (.cells #[.int .i64 0, .int .i64 0] 23 (0, 0))
      replace hE : Below w.heap.size w w' := hE
      obtain ⟨g17, h1, h2, h3⟩ := hF
      exact ⟨g17, h1, h2, bl_block hE h3⟩
    · intro s w w' hD hC hE hF
      replace hF : ∃ g18 : Nat, (s 18) = .pointer (some ⟨g18, 0, none⟩) ∧ B0 ≤ g18 ∧ w.heap[g18]? = some (.cells #[.int .i64 0, .int .i64 0] 23 (0, 0)) := hF
      show ∃ g18 : Nat, (s 18) = .pointer (some ⟨g18, 0, none⟩) ∧ B0 ≤ g18 ∧ w'.heap[g18]? = some (.cells #[.int .i64 0, .int .i64 0] 23 (0, 0))
      replace hE : Below w.heap.size w w' := hE
      obtain ⟨g18, h1, h2, h3⟩ := hF
      exact ⟨g18, h1, h2, bl_block hE h3⟩
    · intro s w w' hD hC hE hF
      replace hF : ∃ g19 : Nat, (s 19) = .pointer (some ⟨g19, 0, none⟩) ∧ B0 ≤ g19 ∧ w.heap[g19]? = some (.cells #[.int .i64 0, .int .i64 0] 23 (0, 0)) := hF
      show ∃ g19 : Nat, (s 19) = .pointer (some ⟨g19, 0, none⟩) ∧ B0 ≤ g19 ∧ w'.heap[g19]? = some (.cells #[.int .i64 0, .int .i64 0] 23 (0, 0))
      replace hE : Below w.heap.size w w' := hE
      obtain ⟨g19, h1, h2, h3⟩ := hF
      exact ⟨g19, h1, h2, bl_block hE h3⟩
    · intro s w w' hD hC hE hF
      replace hF : ∃ g20 : Nat, (s 20) = .pointer (some ⟨g20, 0, none⟩) ∧ B0 ≤ g20 ∧ w.heap[g20]? = some (.cells #[.int .i64 0, .int .i64 0] 23 (0, 0)) := hF
      show ∃ g20 : Nat, (s 20) = .pointer (some ⟨g20, 0, none⟩) ∧ B0 ≤ g20 ∧ w'.heap[g20]? = some (.cells #[.int .i64 0, .int .i64 0] 23 (0, 0))
      replace hE : Below w.heap.size w w' := hE
      obtain ⟨g20, h1, h2, h3⟩ := hF
      exact ⟨g20, h1, h2, bl_block hE h3⟩
    · intro s w w' hD hC hE hF
      replace hF : ∃ g3 : Nat, (s 75) = .slice (some ⟨g3, 0, none⟩) 2 2 ∧ B0 ≤ g3 ∧ w.heap[g3]? = some (.cells #[.int .i64 xl, .int .i64 xh, .int .i64 yl, .int .i64 yh] 23 (0, 0)) := hF
      show ∃ g3 : Nat, (s 75) = .slice (some ⟨g3, 0, none⟩) 2 2 ∧ B0 ≤ g3 ∧ w'.heap[g3]? = some (.cells #[.int .i64 xl, .int .i64 xh, .int .i64 yl, .int .i64 yh] 23 (0, 0))
      replace hE : ∃ o, Below w.heap.size (orCell w (some ⟨ga, 0, none⟩) o) w' := hE
      obtain ⟨o, hE⟩ := hE
      obtain ⟨hsz, hk_gx, lt_gx, hk_gy, lt_gy, hk_gb, lt_gb, ha_a, hbw⟩ := hC
      obtain ⟨g3, h1, h2, h3⟩ := hF
      exact ⟨g3, h1, h2, blk_acc hE h3 (PNe.of (by have := lt_acc_a; simp only []; omega))⟩
    · intro s w w' hD hC hE hF
      replace hF : ((s 76) = .agg #[.int .i64 p1, .int .i64 p2]) ∧ ∃ o : Bool, AccAt w (some ⟨ga, 0, none⟩) o ∧ (p3 = true → o = true) := hF
      show ((s 76) = .agg #[.int .i64 p1, .int .i64 p2]) ∧ ∃ o : Bool, AccAt w' (some ⟨ga, 0, none⟩) o ∧ (p3 = true → o = true)
      replace hE : ∃ o, Below w.heap.size (orCell w (some ⟨ga, 0, none⟩) o) w' := hE
      obtain ⟨o, hE⟩ := hE
      obtain ⟨hsz, hk_gx, lt_gx, hk_gy, lt_gy, hk_gb, lt_gb, ha_a, hbw⟩ := hC
      obtain ⟨h1, o2, h2, h3⟩ := hF
      exact ⟨h1, o2 || o, h2.or hE, fun h_ => by rw [h3 h_]; rfl⟩
    · intro s w w' hD hC hE hF
      replace hF : ((s 80) = .agg #[.int .i64 m1, .int .i64 m2]) ∧ ∃ o : Bool, AccAt w (some ⟨ga, 0, none⟩) o ∧ (m3 = true → o = true) := hF
      show ((s 80) = .agg #[.int .i64 m1, .int .i64 m2]) ∧ ∃ o : Bool, AccAt w' (some ⟨ga, 0, none⟩) o ∧ (m3 = true → o = true)
      replace hE : ∃ o, Below w.heap.size (orCell w (some ⟨ga, 0, none⟩) o) w' := hE
      obtain ⟨o, hE⟩ := hE
      obtain ⟨hsz, hk_gx, lt_gx, hk_gy, lt_gy, hk_gb, lt_gb, ha_a, hbw⟩ := hC
      obtain ⟨h1, o2, h2, h3⟩ := hF
      exact ⟨h1, o2 || o, h2.or hE, fun h_ => by rw [h3 h_]; rfl⟩
    · intro s w w' hD hC hE hF
      replace hF : ((s 84) = .agg #[.int .i64 t1, .int .i64 t2]) ∧ ∃ o : Bool, AccAt w (some ⟨ga, 0, none⟩) o ∧ (t3 = true → o = true) := hF
      show ((s 84) = .agg #[.int .i64 t1, .int .i64 t2]) ∧ ∃ o : Bool, AccAt w' (some ⟨ga, 0, none⟩) o ∧ (t3 = true → o = true)
      replace hE : ∃ o, Below w.heap.size (orCell w (some ⟨ga, 0, none⟩) o) w' := hE
      obtain ⟨o, hE⟩ := hE
      obtain ⟨hsz, hk_gx, lt_gx, hk_gy, lt_gy, hk_gb, lt_gb, ha_a, hbw⟩ := hC
      obtain ⟨h1, o2, h2, h3⟩ := hF
      exact ⟨h1, o2 || o, h2.or hE, fun h_ => by rw [h3 h_]; rfl⟩
    · intro s w w' hD hC hE hF
      replace hF : ∃ g17 : Nat, (s 17) = .pointer (some ⟨g17, 0, none⟩) ∧ B0 ≤ g17 ∧ w.heap[g17]? = some (.cells #[.int .i64 0, .int .i64 0] 23 (0, 0)) := hF
      show ∃ g17 : Nat, (s 17) = .pointer (some ⟨g17, 0, none⟩) ∧ B0 ≤ g17 ∧ w'.heap[g17]? = some (.cells #[.int .i64 0, .int .i64 0] 23 (0, 0))
      replace hE : ∃ o, Below w.heap.size (orCell w (some ⟨ga, 0, none⟩) o) w' := hE
      obtain ⟨o, hE⟩ := hE
      obtain ⟨hsz, hk_gx, lt_gx, hk_gy, lt_gy, hk_gb, lt_gb, ha_a, hbw⟩ := hC
      obtain ⟨g17, h1, h2, h3⟩ := hF
      exact ⟨g17, h1, h2, blk_acc hE h3 (PNe.of (by have := lt_acc_a; simp only []; omega))⟩
    · intro s w w' hD hC hE hF
      replace hF : ∃ g18 : Nat, (s 18) = .pointer (some ⟨g18, 0, none⟩) ∧ B0 ≤ g18 ∧ w.heap[g18]? = some (.cells #[.int .i64 0, .int .i64 0] 23 (0, 0)) := hF
      show ∃ g18 : Nat, (s 18) = .pointer (some ⟨g18, 0, none⟩) ∧ B0 ≤ g18 ∧ w'.heap[g18]? = some (.cells #[.int .i64 0, .int .i64 0] 23 (0, 0))
      replace hE : ∃ o, Below w.heap.size (orCell w (some ⟨ga, 0, none⟩) o) w' := hE
      obtain ⟨o, hE⟩ := hE
      obtain ⟨hsz, hk_gx, lt_gx, hk_gy, lt_gy, hk_gb, lt_gb, ha_a, hbw⟩ := hC
      obtain ⟨g18, h1, h2, h3⟩ := hF
      exact ⟨g18, h1, h2, blk_acc hE h3 (PNe.of (by have := lt_acc_a; simp only []; omega))⟩
    · intro s w w' hD hC hE hF
      replace hF : ∃ g19 : Nat, (s 19) = .pointer (some ⟨g19, 0, none⟩) ∧ B0 ≤ g19 ∧ w.heap[g19]? = some (.cells #[.int .i64 0, .int .i64 0] 23 (0, 0)) := hF
      show ∃ g19 : Nat, (s 19) = .pointer (some ⟨g19, 0, none⟩) ∧ B0 ≤ g19 ∧ w'.heap[g19]? = some (.cells #[.int .i64 0, .int .i64 0] 23 (0, 0))
      replace hE : ∃ o, Below w.heap.size (orCell w (some ⟨ga, 0, none⟩) o) w' := hE
      obtain ⟨o, hE⟩ := hE
      obtain ⟨hsz, hk_gx, lt_gx, hk_gy, lt_gy, hk_gb, lt_gb, ha_a, hbw⟩ := hC
      obtain ⟨g19, h1, h2, h3⟩ := hF
      exact ⟨g19, h1, h2, blk_acc hE h3 (PNe.of (by have := lt_acc_a; simp only []; omega))⟩
    · intro s w w' hD hC hE hF
      replace hF : ∃ g20 : Nat, (s 20) = .pointer (some ⟨g20, 0, none⟩) ∧ B0 ≤ g20 ∧ w.heap[g20]? = some (.cells #[.int .i64 0, .int .i64 0] 23 (0, 0)) := hF
      show ∃ g20 : Nat, (s 20) = .pointer (some ⟨g20, 0, none⟩) ∧ B0 ≤ g20 ∧ w'.heap[g20]? = some (.cells #[.int .i64 0, .int .i64 0] 23 (0, 0))
      replace hE : ∃ o, Below w.heap.size (orCell w (some ⟨ga, 0, none⟩) o) w' := hE
      obtain ⟨o, hE⟩ := hE
      obtain ⟨hsz, hk_gx, lt_gx, hk_gy, lt_gy, hk_gb, lt_gb, ha_a, hbw⟩ := hC
      obtain ⟨g20, h1, h2, h3⟩ := hF
      exact ⟨g20, h1, h2, blk_acc hE h3 (PNe.of (by have := lt_acc_a; simp only []; omega))⟩
    · intro s w w' hD hC hE hF
      replace hF : ∃ g3 : Nat, (s 75) = .slice (some ⟨g3, 0, none⟩) 2 2 ∧ B0 ≤ g3 ∧ w.heap[g3]? = some (.cells #[.int .i64 xl, .int .i64 xh, .int .i64 yl, .int .i64 yh] 23 (0, 0)) := hF
      show ∃ g3 : Nat, (s 75) = .slice (some ⟨g3, 0, none⟩) 2 2 ∧ B0 ≤ g3 ∧ w'.heap[g3]? = some (.cells #[.int .i64 xl, .int .i64 xh, .int .i64 yl, .int .i64 yh] 23 (0, 0))
      replace hE : w' = w ∨ ∃ g17 : Nat, s 17 = .pointer (some ⟨g17, 0, none⟩) ∧ B0 ≤ g17 ∧ (∀ k o, k ≠ g17 → w.heap[k]? = some o → w'.heap[k]? = some o) ∧ w'.heap.size = w.heap.size ∧ Below g17 w w' := hE
      rcases hE with rfl | ⟨gt, hs_, hg_, hkeep, hsz_, hBl⟩
      · exact hF
      obtain ⟨g3, h1, h2, h3⟩ := hF
      exact ⟨g3, h1, h2, hkeep _ _ (fun e => hD _ _ rfl rfl (by decide) _ (by rw [hs_]; rfl) (by rw [h1, ← e]; rfl)) h3⟩
    · intro s w w' hD hC hE hF
      replace hF : ((s 76) = .agg #[.int .i64 p1, .int .i64 p2]) ∧ ∃ o : Bool, AccAt w (some ⟨ga, 0, none⟩) o ∧ (p3 = true → o = true) := hF
      show ((s 76) = .agg #[.int .i64 p1, .int .i64 p2]) ∧ ∃ o : Bool, AccAt w' (some ⟨ga, 0, none⟩) o ∧ (p3 = true → o = true)
      replace hE : w' = w ∨ ∃ g17 : Nat, s 17 = .pointer (some ⟨g17, 0, none⟩) ∧ B0 ≤ g17 ∧ (∀ k o, k ≠ g17 → w.heap[k]? = some o → w'.heap[k]? = some o) ∧ w'.heap.size = w.heap.size ∧ Below g17 w w' := hE
      rcases hE with rfl | ⟨gt, hs_, hg_, hkeep, hsz_, hBl⟩
      · exact hF
      obtain ⟨h1, o2, h2, h3⟩ := hF
      exact ⟨h1, o2, AccAt.keep h2 hBl (fun a_ h_ => by cases h_; show ga < gt; omega), h3⟩
    · intro s w w' hD hC hE hF
      replace hF : ((s 80) = .agg #[.int .i64 m1, .int .i64 m2]) ∧ ∃ o : Bool, AccAt w (some ⟨ga, 0, none⟩) o ∧ (m3 = true → o = true) := hF
      show ((s 80) = .agg #[.int .i64 m1, .int .i64 m2]) ∧ ∃ o : Bool, AccAt w' (some ⟨ga, 0, none⟩) o ∧ (m3 = true → o = true)
      replace hE : w' = w ∨ ∃ g17 : Nat, s 17 = .pointer (some ⟨g17, 0, none⟩) ∧ B0 ≤ g17 ∧ (∀ k o, k ≠ g17 → w.heap[k]? = some o → w'.heap[k]? = some o) ∧ w'.heap.size = w.heap.size ∧ Below g17 w w' := hE
      rcases hE with rfl | ⟨gt, hs_, hg_, hkeep, hsz_, hBl⟩
      · exact hF
      obtain ⟨h1, o2, h2, h3⟩ := hF
      exact ⟨h1, o2, AccAt.keep h2 hBl (fun a_ h_ => by cases h_; show ga < gt; omega), h3⟩
    · intro s w w' hD hC hE hF
      replace hF : ((s 84) = .agg #[.int .i64 t1, .int .i64 t2]) ∧ ∃ o : Bool, AccAt w (some ⟨ga, 0, none⟩) o ∧ (t3 = true → o = true) := hF
      show ((s 84) = .agg #[.int .i64 t1, .int .i64 t2]) ∧ ∃ o : Bool, AccAt w' (some ⟨ga, 0, none⟩) o ∧ (t3 = true → o = true)
      replace hE : w' = w ∨ ∃ g17 : Nat, s 17 = .pointer (some ⟨g17, 0, none⟩) ∧ B0 ≤ g17 ∧ (∀ k o, k ≠ g17 → w.heap[k]? = some o → w'.heap[k]? = some o) ∧ w'.heap.size = w.heap.size ∧ Below g17 w w' := hE
      rcases hE with rfl | ⟨gt, hs_, hg_, hkeep, hsz_, hBl⟩
      · exact hF
      obtain ⟨h1, o2, h2, h3⟩ := hF
      exact ⟨h1, o2, AccAt.keep h2 hBl (fun a_ h_ => by cases h_; show ga < gt; omega), h3⟩
    · intro s w w' hD hC hE hF
      replace hF : ((s 88) = .agg #[.int .i64 q1, .int .i64 q2]) ∧ ∃ o : Bool, AccAt w (some ⟨ga, 0, none⟩) o ∧ (q3 = true → o = true) := hF
      show ((s 88) = .agg #[.int .i64 q1, .int .i64 q2]) ∧ ∃ o : Bool, AccAt w' (some ⟨ga, 0, none⟩) o ∧ (q3 = true → o = true)
      replace hE : w' = w ∨ ∃ g17 : Nat, s 17 = .pointer (some ⟨g17, 0, none⟩) ∧ B0 ≤ g17 ∧ (∀ k o, k ≠ g17 → w.heap[k]? = some o → w'.heap[k]? = some o) ∧ w'.heap.size = w.heap.size ∧ Below g17 w w' := hE
      rcases hE with rfl | ⟨gt, hs_, hg_, hkeep, hsz_, hBl⟩
      · exact hF
      obtain ⟨h1, o2, h2, h3⟩ := hF
      exact ⟨h1, o2, AccAt.keep h2 hBl (fun a_ h_ => by cases h_; show ga < gt; omega), h3⟩
    · intro s w w' hD hC hE hF
      replace hF : ∃ g18 : Nat, (s 18) = .pointer (some ⟨g18, 0, none⟩) ∧ B0 ≤ g18 ∧ w.heap[g18]? = some (.cells #[.int .i64 0, .int .i64 0] 23 (0, 0)) := hF
      show ∃ g18 : Nat, (s 18) = .pointer (some ⟨g18, 0, none⟩) ∧ B0 ≤ g18 ∧ w'.heap[g18]? = some (.cells #[.int .i64 0, .int .i64 0] 23 (0, 0))
      replace hE : w' = w ∨ ∃ g17 : Nat, s 17 = .pointer (some ⟨g17, 0, none⟩) ∧ B0 ≤ g17 ∧ (∀ k o, k ≠ g17 → w.heap[k]? = some o → w'.heap[k]? = some o) ∧ w'.heap.size = w.heap.size ∧ Below g17 w w' := hE
      rcases hE with rfl | ⟨gt, hs_, hg_, hkeep, hsz_, hBl⟩
      · exact hF
      obtain ⟨g18, h1, h2, h3⟩ := hF
      exact ⟨g18, h1, h2, hkeep _ _ (fun e => hD _ _ rfl rfl (by decide) _ (by rw [hs_]; rfl) (by rw [h1, ← e]; rfl)) h3⟩
    · intro s w w' hD hC hE hF
      replace hF : ∃ g19 : Nat, (s 19) = .pointer (some ⟨g19, 0, none⟩) ∧ B0 ≤ g19 ∧ w.heap[g19]? = some (.cells #[.int .i64 0, .int .i64 0] 23 (0, 0)) := hF
      show ∃ g19 : Nat, (s 19) = .pointer (some ⟨g19, 0, none⟩) ∧ B0 ≤ g19 ∧ w'.heap[g19]? = some (.cells #[.int .i64 0, .int .i64 0] 23 (0, 0))
      replace hE : w' = w ∨ ∃ g17 : Nat, s 17 = .pointer (some ⟨g17, 0, none⟩) ∧ B0 ≤ g17 ∧ (∀ k o, k ≠ g17 → w.heap[k]? = some o → w'.heap[k]? = some o) ∧ w'.heap.size = w.heap.size ∧ Below g17 w w' := hE
      rcases hE with rfl | ⟨gt, hs_, hg_, hkeep, hsz_, hBl⟩
      · exact hF
      obtain ⟨g19, h1, h2, h3⟩ := hF
      exact ⟨g19, h1, h2, hkeep _ _ (fun e => hD _ _ rfl rfl (by decide) _ (by rw [hs_]; rfl) (by rw [h1, ← e]; rfl)) h3⟩
    · intro s w w' hD hC hE hF
      replace hF : ∃ g20 : Nat, (s 20) = .pointer (some ⟨g20, 0, none⟩) ∧ B0 ≤ g20 ∧ w.heap[g20]? = some (.cells #[.int .i64 0, .int .i64 0] 23 (0, 0)) := hF
      show ∃ g20 : Nat, (s 20) = .pointer (some ⟨g20, 0, none⟩) ∧ B0 ≤ g20 ∧ w'.heap[g20]? = some (.cells #[.int .i64 0, .int .i64 0] 23 (0, 0))
      replace hE : w' = w ∨ ∃ g17 : Nat, s 17 = .pointer (some ⟨g17, 0, none⟩) ∧ B0 ≤ g17 ∧ (∀ k o, k ≠ g17 → w.heap[k]? = some o → w'.heap[k]? = some o) ∧ w'.heap.size = w.heap.size ∧ Below g17 w w' := hE
      rcases hE with rfl | ⟨gt, hs_, hg_, hkeep, hsz_, hBl⟩
      · exact hF
      obtain ⟨g20, h1, h2, h3⟩ := hF
      exact ⟨g20, h1, h2, hkeep _ _ (fun e => hD _ _ rfl rfl (by decide) _ (by rw [hs_]; rfl) (by rw [h1, ← e]; rfl)) h3⟩
    · intro s w w' hD hC hE hF
      replace hF : ∃ g3 : Nat, (s 75) = .slice (some ⟨g3, 0, none⟩) 2 2 ∧ B0 ≤ g3 ∧ w.heap[g3]? = some (.cells #[.int .i64 xl, .int .i64 xh, .int .i64 yl, .int .i64 yh] 23 (0, 0)) := hF
      show ∃ g3 : Nat, (s 75) = .slice (some ⟨g3, 0, none⟩) 2 2 ∧ B0 ≤ g3 ∧ w'.heap[g3]? = some (.cells #[.int .i64 xl, .int .i64 xh, .int .i64 yl, .int .i64 yh] 23 (0, 0))
      replace hE : w' = w ∨ ∃ g18 : Nat, s 18 = .pointer (some ⟨g18, 0, none⟩) ∧ B0 ≤ g18 ∧ (∀ k o, k ≠ g18 → w.heap[k]? = some o → w'.heap[k]? = some o) ∧ w'.heap.size = w.heap.size ∧ Below g18 w w' := hE
      rcases hE with rfl | ⟨gt, hs_, hg_, hkeep, hsz_, hBl⟩
      · exact hF
      obtain ⟨g3, h1, h2, h3⟩ := hF
      exact ⟨g3, h1, h2, hkeep _ _ (fun e => hD _ _ rfl rfl (by decide) _ (by rw [hs_]; rfl) (by rw [h1, ← e]; rfl)) h3⟩
    · intro s w w' hD hC hE hF
      replace hF : ((s 76) = .agg #[.int .i64 p1, .int .i64 p2]) ∧ ∃ o : Bool, AccAt w (some ⟨ga, 0, none⟩) o ∧ (p3 = true → o = true) := hF
      show ((s 76) = .agg #[.int .i64 p1, .int .i64 p2]) ∧ ∃ o : Bool, AccAt w' (some ⟨ga, 0, none⟩) o ∧ (p3 = true → o = true)
      replace hE : w' = w ∨ ∃ g18 : Nat, s 18 = .pointer (some ⟨g18, 0, none⟩) ∧ B0 ≤ g18 ∧ (∀ k o, k ≠ g18 → w.heap[k]? = some o → w'.heap[k]? = some o) ∧ w'.heap.size = w.heap.size ∧ Below g18 w w' := hE
      rcases hE with rfl | ⟨gt, hs_, hg_, hkeep, hsz_, hBl⟩
      · exact hF
      obtain ⟨h1, o2, h2, h3⟩ := hF
      exact ⟨h1, o2, AccAt.keep h2 hBl (fun a_ h_ => by cases h_; show ga < gt; omega), h3⟩
    · intro s w w' hD hC hE hF
      replace hF : ((s 80) = .agg #[.int .i64 m1, .int .i64 m2]) ∧ ∃ o : Bool, AccAt w (some ⟨ga, 0, none⟩) o ∧ (m3 = true → o = true) := hF
      show ((s 80) = .agg #[.int .i64 m1, .int .i64 m2]) ∧ ∃ o : Bool, AccAt w' (some ⟨ga, 0, none⟩) o ∧ (m3 = true → o = true)
      replace hE : w' = w ∨ ∃ g18 : Nat, s 18 = .pointer (some ⟨g18, 0, none⟩) ∧ B0 ≤ g18 ∧ (∀ k o, k ≠ g18 → w.heap[k]? = some o → w'.heap[k]? = some o) ∧ w'.heap.size = w.heap.size ∧ Below g18 w w' := hE
      rcases hE with rfl | ⟨gt, hs_, hg_, hkeep, hsz_, hBl⟩
      · exact hF
      obtain ⟨h1, o2, h2, h3⟩ := hF
      exact ⟨h1, o2, AccAt.keep h2 hBl (fun a_ h_ => by cases h_; show ga < gt; omega), h3⟩
    · intro s w w' hD hC hE hF
      replace hF : ((s 84) = .agg #[.int .i64 t1, .int .i64 t2]) ∧ ∃ o : Bool, AccAt w (some ⟨ga, 0, none⟩) o ∧ (t3 = true → o = true) := hF
      show ((s 84) = .agg #[.int .i64 t1, .int .i64 t2]) ∧ ∃ o : Bool, AccAt w' (some ⟨ga, 0, none⟩) o ∧ (t3 = true → o = true)
      replace hE : w' = w ∨ ∃ g18 : Nat, s 18 = .pointer (some ⟨g18, 0, none⟩) ∧ B0 ≤ g18 ∧ (∀ k o, k ≠ g18 → w.heap[k]? = some o → w'.heap[k]? = some o) ∧ w'.heap.size = w.heap.size ∧ Below g18 w w' := hE
      rcases hE with rfl | ⟨gt, hs_, hg_, hkeep, hsz_, hBl⟩
      · exact hF
      obtain ⟨h1, o2, h2, h3⟩ := hF
      exact ⟨h1, o2, AccAt.keep h2 hBl (fun a_ h_ => by cases h_; show ga < gt; omega), h3⟩
    · intro s w w' hD hC hE hF
      replace hF : ((s 88) = .agg #[.int .i64 q1, .int .i64 q2]) ∧ ∃ o : Bool, AccAt w (some ⟨ga, 0, none⟩) o ∧ (q3 = true → o = true) := hF
      show ((s 88) = .agg #[.int .i64 q1, .int .i64 q2]) ∧ ∃ o : Bool, AccAt w' (some ⟨ga, 0, none⟩) o ∧ (q3 = true → o = true)
      replace hE : w' = w ∨ ∃ g18 : Nat, s 18 = .pointer (some ⟨g18, 0, none⟩) ∧ B0 ≤ g18 ∧ (∀ k o, k ≠ g18 → w.heap[k]? = some o → w'.heap[k]? = some o) ∧ w'.heap.size = w.heap.size ∧ Below g18 w w' := hE
      rcases hE with rfl | ⟨gt, hs_, hg_, hkeep, hsz_, hBl⟩
      · exact hF
      obtain ⟨h1, o2, h2, h3⟩ := hF
      exact ⟨h1, o2, AccAt.keep h2 hBl (fun a_ h_ => by cases h_; show ga < gt; omega), h3⟩
    · intro s w w' hD hC hE hF
      replace hF : ∃ g17 : Nat, (s 17) = .pointer (some ⟨g17, 0, none⟩) ∧ B0 ≤ g17 ∧ w.heap[g17]? = some (.cells #[.int .i64 0, .int .i64 0] 23 (0, 0)) := hF
      show ∃ g17 : Nat, (s 17) = .pointer (some ⟨g17, 0, none⟩) ∧ B0 ≤ g17 ∧ w'.heap[g17]? = some (.cells #[.int .i64 0, .int .i64 0] 23 (0, 0))
      replace hE : w' = w ∨ ∃ g18 : Nat, s 18 = .pointer (some ⟨g18, 0, none⟩) ∧ B0 ≤ g18 ∧ (∀ k o, k ≠ g18 → w.heap[k]? = some o → w'.heap[k]? = some o) ∧ w'.heap.size = w.heap.size ∧ Below g18 w w' := hE
      rcases hE with rfl | ⟨gt, hs_, hg_, hkeep, hsz_, hBl⟩
      · exact hF
      obtain ⟨g17, h1, h2, h3⟩ := hF
      exact ⟨g17, h1, h2, hkeep _ _ (fun e => hD _ _ rfl rfl (by decide) _ (by rw [hs_]; rfl) (by rw [h1, ← e]; rfl)) h3⟩
    · intro s w w' hD hC hE hF
      replace hF : ∃ g19 : Nat, (s 19) = .pointer (some ⟨g19, 0, none⟩) ∧ B0 ≤ g19 ∧ w.heap[g19]? = some (.cells #[.int .i64 0, .int .i64 0] 23 (0, 0)) := hF
      show ∃ g19 : Nat, (s 19) = .pointer (some ⟨g19, 0, none⟩) ∧ B0 ≤ g19 ∧ w'.heap[g19]? = some (.cells #[.int .i64 0, .int .i64 0] 23 (0, 0))
      replace hE : w' = w ∨ ∃ g18 : Nat, s 18 = .pointer (some ⟨g18, 0, none⟩) ∧ B0 ≤ g18 ∧ (∀ k o, k ≠ g18 → w.heap[k]? = some o → w'.heap[k]? = some o) ∧ w'.heap.size = w.heap.size ∧ Below g18 w w' := hE
      rcases hE with rfl | ⟨gt, hs_, hg_, hkeep, hsz_, hBl⟩
      · exact hF
      obtain ⟨g19, h1, h2, h3⟩ := hF
      exact ⟨g19, h1, h2, hkeep _ _ (fun e => hD _ _ rfl rfl (by decide) _ (by rw [hs_]; rfl) (by rw [h1, ← e]; rfl)) h3⟩
    · intro s w w' hD hC hE hF
      replace hF : ∃ g20 : Nat, (s 20) = .pointer (some ⟨g20, 0, none⟩) ∧ B0 ≤ g20 ∧ w.heap[g20]? = some (.cells #[.int .i64 0, .int .i64 0] 23 (0, 0)) := hF
      show ∃ g20 : Nat, (s 20) = .pointer (some ⟨g20, 0, none⟩) ∧ B0 ≤ g20 ∧ w'.heap[g20]? = some (.cells #[.int .i64 0, .int .i64 0] 23 (0, 0))
      replace hE : w' = w ∨ ∃ g18 : Nat, s 18 = .pointer (some ⟨g18, 0, none⟩) ∧ B0 ≤ g18 ∧ (∀ k o, k ≠ g18 → w.heap[k]? = some o → w'.heap[k]? = some o) ∧ w'.heap.size = w.heap.size ∧ Below g18 w w' := hE
      rcases hE with rfl | ⟨gt, hs_, hg_, hkeep, hsz_, hBl⟩
      · exact hF
      obtain ⟨g20, h1, h2, h3⟩ := hF
      exact ⟨g20, h1, h2, hkeep _ _ (fun e => hD _ _ rfl rfl (by decide) _ (by rw [hs_]; rfl) (by rw [h1, ← e]; rfl)) h3⟩
    · intro s w w' hD hC hE hF
      replace hF : ∃ g17 : Nat, (s 17) = .pointer (some ⟨g17, 0, none⟩) ∧ B0 ≤ g17 ∧ w.heap[g17]? = some (.cells #[.int .i64 p1, .int .i64 p2] 23 (0, 0)) := hF
      show ∃ g17 : Nat, (s 17) = .pointer (some ⟨g17, 0, none⟩) ∧ B0 ≤ g17 ∧ w'.heap[g17]? = some (.cells #[.int .i64 p1, .int .i64 p2] 23 (0, 0))
      replace hE : w' = w ∨ ∃ g18 : Nat, s 18 = .pointer (some ⟨g18, 0, none⟩) ∧ B0 ≤ g18 ∧ (∀ k o, k ≠ g18 → w.heap[k]? = some o → w'.heap[k]? = some o) ∧ w'.heap.size = w.heap.size ∧ Below g18 w w' := hE
      rcases hE with rfl | ⟨gt, hs_, hg_, hkeep, hsz_, hBl⟩
      · exact hF
      obtain ⟨g17, h1, h2, h3⟩ := hF
      exact ⟨g17, h1, h2, hkeep _ _ (fun e => hD _ _ rfl rfl (by decide) _ (by rw [hs_]; rfl) (by rw [h1, ← e]; rfl)) h3⟩
    · intro s w w' hD hC hE hF
      replace hF : ∃ g3 : Nat, (s 75) = .slice (some ⟨g3, 0, none⟩) 2 2 ∧ B0 ≤ g3 ∧ w.heap[g3]? = some (.cells #[.int .i64 xl, .int .i64 xh, .int .i64 yl, .int .i64 yh] 23 (0, 0)) := hF
      show ∃ g3 : Nat, (s 75) = .slice (some ⟨g3, 0, none⟩) 2 2 ∧ B0 ≤ g3 ∧ w'.heap[g3]? = some (.cells #[.int .i64 xl, .int .i64 xh, .int .i64 yl, .int .i64 yh] 23 (0, 0))
      replace hE : w' = w ∨ ∃ g19 : Nat, s 19 = .pointer (some ⟨g19, 0, none⟩) ∧ B0 ≤ g19 ∧ (∀ k o, k ≠ g19 → w.heap[k]? = some o → w'.heap[k]? = some o) ∧ w'.heap.size = w.heap.size ∧ Below g19 w w' := hE
      rcases hE with rfl | ⟨gt, hs_, hg_, hkeep, hsz_, hBl⟩
      · exact hF
      obtain ⟨g3, h1, h2, h3⟩ := hF
      exact ⟨g3, h1, h2, hkeep _ _ (fun e => hD _ _ rfl rfl (by decide) _ (by rw [hs_]; rfl) (by rw [h1, ← e]; rfl)) h3⟩
    · intro s w w' hD hC hE hF
      replace hF : ((s 76) = .agg #[.int .i64 p1, .int .i64 p2]) ∧ ∃ o : Bool, AccAt w (some ⟨ga, 0, none⟩) o ∧ (p3 = true → o = true) := hF
      show ((s 76) = .agg #[.int .i64 p1, .int .i64 p2]) ∧ ∃ o : Bool, AccAt w' (some ⟨ga, 0, none⟩) o ∧ (p3 = true → o = true)
      replace hE : w' = w ∨ ∃ g19 : Nat, s 19 = .pointer (some ⟨g19, 0, none⟩) ∧ B0 ≤ g19 ∧ (∀ k o, k ≠ g19 → w.heap[k]? = some o → w'.heap[k]? = some o) ∧ w'.heap.size = w.heap.size ∧ Below g19 w w' := hE
      rcases hE with rfl | ⟨gt, hs_, hg_, hkeep, hsz_, hBl⟩
      · exact hF
      obtain ⟨h1, o2, h2, h3⟩ := hF
      exact ⟨h1, o2, AccAt.keep h2 hBl (fun a_ h_ => by cases h_; show ga < gt; omega), h3⟩
    · intro s w w' hD hC hE hF
      replace hF : ((s 80) = .agg #[.int .i64 m1, .int .i64 m2]) ∧ ∃ o : Bool, AccAt w (some ⟨ga, 0, none⟩) o ∧ (m3 = true → o = true) := hF
      show ((s 80) = .agg #[.int .i64 m1, .int .i64 m2]) ∧ ∃ o : Bool, AccAt w' (some ⟨ga, 0, none⟩) o ∧ (m3 = true → o = true)
      replace hE : w' = w ∨ ∃ g19 : Nat, s 19 = .pointer (some ⟨g19, 0, none⟩) ∧ B0 ≤ g19 ∧ (∀ k o, k ≠ g19 → w.heap[k]? = some o → w'.heap[k]? = some o) ∧ w'.heap.size = w.heap.size ∧ Below g19 w w' := hE
      rcases hE with rfl | ⟨gt, hs_, hg_, hkeep, hsz_, hBl⟩
      · exact hF
      obtain ⟨h1, o2, h2, h3⟩ := hF
      exact ⟨h1, o2, AccAt.keep h2 hBl (fun a_ h_ => by cases h_; show ga < gt; omega), h3⟩
    · intro s w w' hD hC hE hF
      replace hF : ((s 84) = .agg #[.int .i64 t1, .int .i64 t2]) ∧ ∃ o : Bool, AccAt w (some ⟨ga, 0, none⟩) o ∧ (t3 = true → o = true) := hF
      show ((s 84) = .agg #[.int .i64 t1, .int .i64 t2]) ∧ ∃ o : Bool, AccAt w' (some ⟨ga, 0, none⟩) o ∧ (t3 = true → o = true)
      replace hE : w' = w ∨ ∃ g19 : Nat, s 19 = .pointer (some ⟨g19, 0, none⟩) ∧ B0 ≤ g19 ∧ (∀ k o, k ≠ g19 → w.heap[k]? = some o → w'.heap[k]? = some o) ∧ w'.heap.size = w.heap.size ∧ Below g19 w w' := hE
      rcases hE with rfl | ⟨gt, hs_, hg_, hkeep, hsz_, hBl⟩
      · exact hF
      obtain ⟨h1, o2, h2, h3⟩ := hF
      exact ⟨h1, o2, AccAt.keep h2 hBl (fun a_ h_ => by cases h_; show ga < gt; omega), h3⟩
    · intro s w w' hD hC hE hF
      replace hF : ((s 88) = .agg #[.int .i64 q1, .int .i64 q2]) ∧ ∃ o : Bool, AccAt w (some ⟨ga, 0, none⟩) o ∧ (q3 = true → o = true) := hF
      show ((s 88) = .agg #[.int .i64 q1, .int .i64 q2]) ∧ ∃ o : Bool, AccAt w' (some ⟨ga, 0, none⟩) o ∧ (q3 = true → o = true)
      replace hE : w' = w ∨ ∃ g19 : Nat, s 19 = .pointer (some ⟨g19, 0, none⟩) ∧ B0 ≤ g19 ∧ (∀ k o, k ≠ g19 → w.heap[k]? = some o → w'.heap[k]? = some o) ∧ w'.heap.size = w.heap.size ∧ Below g19 w w' := hE
      rcases hE with rfl | ⟨gt, hs_, hg_, hkeep, hsz_, hBl⟩
      · exact hF
      obtain ⟨h1, o2, h2, h3⟩ := hF
      exact ⟨h1, o2, AccAt.keep h2 hBl (fun a_ h_ => by cases h_; show ga < gt; omega), h3⟩
    · intro s w w' hD hC hE hF
      replace hF : ∃ g17 : Nat, (s 17) = .pointer (some ⟨g17, 0, none⟩) ∧ B0 ≤ g17 ∧ w.heap[g17]? = some (.cells #[.int .i64 0, .int .i64 0] 23 (0, 0)) := hF
      show ∃ g17 : Nat, (s 17) = .pointer (some ⟨g17, 0, none⟩) ∧ B0 ≤ g17 ∧ w'.heap[g17]? = some (.cells #[.int .i64 0, .int .i64 0] 23 (0, 0))
      replace hE : w' = w ∨ ∃ g19 : Nat, s 19 = .pointer (some ⟨g19, 0, none⟩) ∧ B0 ≤ g19 ∧ (∀ k o, k ≠ g19 → w.heap[k]? = some o → w'.heap[k]? = some o) ∧ w'.heap.size = w.heap.size ∧ Below g19 w w' := hE
      rcases hE with rfl | ⟨gt, hs_, hg_, hkeep, hsz_, hBl⟩
      · exact hF
      obtain ⟨g17, h1, h2, h3⟩ := hF
      exact ⟨g17, h1, h2, hkeep _ _ (fun e => hD _ _ rfl rfl (by decide) _ (by rw [hs_]; rfl) (by rw [h1, ← e]; rfl)) h3⟩
    · intro s w w' hD hC hE hF
      replace hF : ∃ g18 : Nat, (s 18) = .pointer (some ⟨g18, 0, none⟩) ∧ B0 ≤ g18 ∧ w.heap[g18]? = some (.cells #[.int .i64 0, .int .i64 0] 23 (0, 0)) := hF
      show ∃ g18 : Nat, (s 18) = .pointer (some ⟨g18, 0, none⟩) ∧ B0 ≤ g18 ∧ w'.heap[g18]? = some (.cells #[.int .i64 0, .int .i64 0] 23 (0, 0))
      replace hE : w' = w ∨ ∃ g19 : Nat, s 19 = .pointer (some ⟨g19, 0, none⟩) ∧ B0 ≤ g19 ∧ (∀ k o, k ≠ g19 → w.heap[k]? = some o → w'.heap[k]? = some o) ∧ w'.heap.size = w.heap.size ∧ Below g19 w w' := hE
      rcases hE with rfl | ⟨gt, hs_, hg_, hkeep, hsz_, hBl⟩
      · exact hF
      obtain ⟨g18, h1, h2, h3⟩ := hF
      exact ⟨g18, h1, h2, hkeep _ _ (fun e => hD _ _ rfl rfl (by decide) _ (by rw [hs_]; rfl) (by rw [h1, ← e]; rfl)) h3⟩
    · intro s w w' hD hC hE hF
      replace hF : ∃ g20 : Nat, (s 20) = .pointer (some ⟨g20, 0, none⟩) ∧ B0 ≤ g20 ∧ w.heap[g20]? = some (.cells #[.int .i64 0, .int .i64 0] 23 (0, 0)) := hF
      show ∃ g20 : Nat, (s 20) = .pointer (some ⟨g20, 0, none⟩) ∧ B0 ≤ g20 ∧ w'.heap[g20]? = some (.cells #[.int .i64 0, .int .i64 0] 23 (0, 0))
      replace hE : w' = w ∨ ∃ g19 : Nat, s 19 = .pointer (some ⟨g19, 0, none⟩) ∧ B0 ≤ g19 ∧ (∀ k o, k ≠ g19 → w.heap[k]? = some o → w'.heap[k]? = some o) ∧ w'.heap.size = w.heap.size ∧ Below g19 w w' := hE
      rcases hE with rfl | ⟨gt, hs_, hg_, hkeep, hsz_, hBl⟩
      · exact hF
      obtain ⟨g20, h1, h2, h3⟩ := hF
      exact ⟨g20, h1, h2, hkeep _ _ (fun e => hD _ _ rfl rfl (by decide) _ (by rw [hs_]; rfl) (by rw [h1, ← e]; rfl)) h3⟩
    · intro s w w' hD hC hE hF
      replace hF : ∃ g17 : Nat, (s 17) = .pointer (some ⟨g17, 0, none⟩) ∧ B0 ≤ g17 ∧ w.heap[g17]? = some (.cells #[.int .i64 p1, .int .i64 p2] 23 (0, 0)) := hF
      show ∃ g17 : Nat, (s 17) = .pointer (some ⟨g17, 0, none⟩) ∧ B0 ≤ g17 ∧ w'.heap[g17]? = some (.cells #[.int .i64 p1, .int .i64 p2] 23 (0, 0))
      replace hE : w' = w ∨ ∃ g19 : Nat, s 19 = .pointer (some ⟨g19, 0, none⟩) ∧ B0 ≤ g19 ∧ (∀ k o, k ≠ g19 → w.heap[k]? = some o → w'.heap[k]? = some o) ∧ w'.heap.size = w.heap.size ∧ Below g19 w w' := hE
      rcases hE with rfl | ⟨gt, hs_, hg_, hkeep, hsz_, hBl⟩
      · exact hF
      obtain ⟨g17, h1, h2, h3⟩ := hF
      exact ⟨g17, h1, h2, hkeep _ _ (fun e => hD _ _ rfl rfl (by decide) _ (by rw [hs_]; rfl) (by rw [h1, ← e]; rfl)) h3⟩
    · intro s w w' hD hC hE hF
      replace hF : ∃ g18 : Nat, (s 18) = .pointer (some ⟨g18, 0, none⟩) ∧ B0 ≤ g18 ∧ w.heap[g18]? = some (.cells #[.int .i64 m1, .int .i64 m2] 23 (0, 0)) := hF
      show ∃ g18 : Nat, (s 18) = .pointer (some ⟨g18, 0, none⟩) ∧ B0 ≤ g18 ∧ w'.heap[g18]? = some (.cells #[.int .i64 m1, .int .i64 m2] 23 (0, 0))
      replace hE : w' = w ∨ ∃ g19 : Nat, s 19 = .pointer (some ⟨g19, 0, none⟩) ∧ B0 ≤ g19 ∧ (∀ k o, k ≠ g19 → w.heap[k]? = some o → w'.heap[k]? = some o) ∧ w'.heap.size = w.heap.size ∧ Below g19 w w' := hE
      rcases hE with rfl | ⟨gt, hs_, hg_, hkeep, hsz_, hBl⟩
      · exact hF
      obtain ⟨g18, h1, h2, h3⟩ := hF
      exact ⟨g18, h1, h2, hkeep _ _ (fun e => hD _ _ rfl rfl (by decide) _ (by rw [hs_]; rfl) (by rw [h1, ← e]; rfl)) h3⟩
    · intro s w w' hD hC hE hF
      replace hF : ∃ g3 : Nat, (s 75) = .slice (some ⟨g3, 0, none⟩) 2 2 ∧ B0 ≤ g3 ∧ w.heap[g3]? = some (.cells #[.int .i64 xl, .int .i64 xh, .int .i64 yl, .int .i64 yh] 23 (0, 0)) := hF
      show ∃ g3 : Nat, (s 75) = .slice (some ⟨g3, 0, none⟩) 2 2 ∧ B0 ≤ g3 ∧ w'.heap[g3]? = some (.cells #[.int .i64 xl, .int .i64 xh, .int .i64 yl, .int .i64 yh] 23 (0, 0))
      replace hE : w' = w ∨ ∃ g20 : Nat, s 20 = .pointer (some ⟨g20, 0, none⟩) ∧ B0 ≤ g20 ∧ (∀ k o, k ≠ g20 → w.heap[k]? = some o → w'.heap[k]? = some o) ∧ w'.heap.size = w.heap.size ∧ Below g20 w w' := hE
      rcases hE with rfl | ⟨gt, hs_, hg_, hkeep, hsz_, hBl⟩
      · exact hF
      obtain ⟨g3, h1, h2, h3⟩ := hF
      exact ⟨g3, h1, h2, hkeep _ _ (fun e => hD _ _ rfl rfl (by decide) _ (by rw [hs_]; rfl) (by rw [h1, ← e]; rfl)) h3⟩
    · intro s w w' hD hC hE hF
      replace hF : ((s 76) = .agg #[.int .i64 p1, .int .i64 p2]) ∧ ∃ o : Bool, AccAt w (some ⟨ga, 0, none⟩) o ∧ (p3 = true → o = true) := hF
      show ((s 76) = .agg #[.int .i64 p1, .int .i64 p2]) ∧ ∃ o : Bool, AccAt w' (some ⟨ga, 0, none⟩) o ∧ (p3 = true → o = true)
      replace hE : w' = w ∨ ∃ g20 : Nat, s 20 = .pointer (some ⟨g20, 0, none⟩) ∧ B0 ≤ g20 ∧ (∀ k o, k ≠ g20 → w.heap[k]? = some o → w'.heap[k]? = some o) ∧ w'.heap.size = w.heap.size ∧ Below g20 w w' := hE
      rcases hE with rfl | ⟨gt, hs_, hg_, hkeep, hsz_, hBl⟩
      · exact hF
      obtain ⟨h1, o2, h2, h3⟩ := hF
      exact ⟨h1, o2, AccAt.keep h2 hBl (fun a_ h_ => by cases h_; show ga < gt; omega), h3⟩
    · intro s w w' hD hC hE hF
      replace hF : ((s 80) = .agg #[.int .i64 m1, .int .i64 m2]) ∧ ∃ o : Bool, AccAt w (some ⟨ga, 0, none⟩) o ∧ (m3 = true → o = true) := hF
      show ((s 80) = .agg #[.int .i64 m1, .int .i64 m2]) ∧ ∃ o : Bool, AccAt w' (some ⟨ga, 0, none⟩) o ∧ (m3 = true → o = true)
      replace hE : w' = w ∨ ∃ g20 : Nat, s 20 = .pointer (some ⟨g20, 0, none⟩) ∧ B0 ≤ g20 ∧ (∀ k o, k ≠ g20 → w.heap[k]? = some o → w'.heap[k]? = some o) ∧ w'.heap.size = w.heap.size ∧ Below g20 w w' := hE
      rcases hE with rfl | ⟨gt, hs_, hg_, hkeep, hsz_, hBl⟩
      · exact hF
      obtain ⟨h1, o2, h2, h3⟩ := hF
      exact ⟨h1, o2, AccAt.keep h2 hBl (fun a_ h_ => by cases h_; show ga < gt; omega), h3⟩
    · intro s w w' hD hC hE hF
      replace hF : ((s 84) = .agg #[.int .i64 t1, .int .i64 t2]) ∧ ∃ o : Bool, AccAt w (some ⟨ga, 0, none⟩) o ∧ (t3 = true → o = true) := hF
      show ((s 84) = .agg #[.int .i64 t1, .int .i64 t2]) ∧ ∃ o : Bool, AccAt w' (some ⟨ga, 0, none⟩) o ∧ (t3 = true → o = true)
      replace hE : w' = w ∨ ∃ g20 : Nat, s 20 = .pointer (some ⟨g20, 0, none⟩) ∧ B0 ≤ g20 ∧ (∀ k o, k ≠ g20 → w.heap[k]? = some o → w'.heap[k]? = some o) ∧ w'.heap.size = w.heap.size ∧ Below g20 w w' := hE
      rcases hE with rfl | ⟨gt, hs_, hg_, hkeep, hsz_, hBl⟩
      · exact hF
      obtain ⟨h1, o2, h2, h3⟩ := hF
      exact ⟨h1, o2, AccAt.keep h2 hBl (fun a_ h_ => by cases h_; show ga < gt; omega), h3⟩
    · intro s w w' hD hC hE hF
      replace hF : ((s 88) = .agg #[.int .i64 q1, .int .i64 q2]) ∧ ∃ o : Bool, AccAt w (some ⟨ga, 0, none⟩) o ∧ (q3 = true → o = true) := hF
      show ((s 88) = .agg #[.int .i64 q1, .int .i64 q2]) ∧ ∃ o : Bool, AccAt w' (some ⟨ga, 0, none⟩) o ∧ (q3 = true → o = true)
      replace hE : w' = w ∨ ∃ g20 : Nat, s 20 = .pointer (some ⟨g20, 0, none⟩) ∧ B0 ≤ g20 ∧ (∀ k o, k ≠ g20 → w.heap[k]? = some o → w'.heap[k]? = some o) ∧ w'.heap.size = w.heap.size ∧ Below g20 w w' := hE
      rcases hE with rfl | ⟨gt, hs_, hg_, hkeep, hsz_, hBl⟩
      · exact hF
      obtain ⟨h1, o2, h2, h3⟩ := hF
      exact ⟨h1, o2, AccAt.keep h2 hBl (fun a_ h_ => by cases h_; show ga < gt; omega), h3⟩
    · intro s w w' hD hC hE hF
      replace hF : ∃ g17 : Nat, (s 17) = .pointer (some ⟨g17, 0, none⟩) ∧ B0 ≤ g17 ∧ w.heap[g17]? = some (.cells #[.int .i64 0, .int .i64 0] 23 (0, 0)) := hF
      show ∃ g17 : Nat, (s 17) = .pointer (some ⟨g17, 0, none⟩) ∧ B0 ≤ g17 ∧ w'.heap[g17]? = some (.cells #[.int .i64 0, .int .i64 0] 23 (0, 0))
      replace hE : w' = w ∨ ∃ g20 : Nat, s 20 = .pointer (some ⟨g20, 0, none⟩) ∧ B0 ≤ g20 ∧ (∀ k o, k ≠ g20 → w.heap[k]? = some o → w'.heap[k]? = some o) ∧ w'.heap.size = w.heap.size ∧ Below g20 w w' := hE
      rcases hE with rfl | ⟨gt, hs_, hg_, hkeep, hsz_, hBl⟩
      · exact hF
      obtain ⟨g17, h1, h2, h3⟩ := hF
      exact ⟨g17, h1, h2, hkeep _ _ (fun e => hD _ _ rfl rfl (by decide) _ (by rw [hs_]; rfl) (by rw [h1, ← e]; rfl)) h3⟩
    · intro s w w' hD hC hE hF
      replace hF : ∃ g18 : Nat, (s 18) = .pointer (some ⟨g18, 0, none⟩) ∧ B0 ≤ g18 ∧ w.heap[g18]? = some (.cells #[.int .i64 0, .int .i64 0] 23 (0, 0)) := hF
      show ∃ g18 : Nat, (s 18) = .pointer (some ⟨g18, 0, none⟩) ∧ B0 ≤ g18 ∧ w'.heap[g18]? = some (.cells #[.int .i64 0, .int .i64 0] 23 (0, 0))
      replace hE : w' = w ∨ ∃ g20 : Nat, s 20 = .pointer (some ⟨g20, 0, none⟩) ∧ B0 ≤ g20 ∧ (∀ k o, k ≠ g20 → w.heap[k]? = some o → w'.heap[k]? = some o) ∧ w'.heap.size = w.heap.size ∧ Below g20 w w' := hE
      rcases hE with rfl | ⟨gt, hs_, hg_, hkeep, hsz_, hBl⟩
      · exact hF
      obtain ⟨g18, h1, h2, h3⟩ := hF
      exact ⟨g18, h1, h2, hkeep _ _ (fun e => hD _ _ rfl rfl (by decide) _ (by rw [hs_]; rfl) (by rw [h1, ← e]; rfl)) h3⟩
    · intro s w w' hD hC hE hF
      replace hF : ∃ g19 : Nat, (s 19) = .pointer (some ⟨g19, 0, none⟩) ∧ B0 ≤ g19 ∧ w.heap[g19]? = some (.cells #[.int .i64 0, .int .i64 0] 23 (0, 0)) := hF
      show ∃ g19 : Nat, (s 19) = .pointer (some ⟨g19, 0, none⟩) ∧ B0 ≤ g19 ∧ w'.heap[g19]? = some (.cells #[.int .i64 0, .int .i64 0] 23 (0, 0))
      replace hE : w' = w ∨ ∃ g20 : Nat, s 20 = .pointer (some ⟨g20, 0, none⟩) ∧ B0 ≤ g20 ∧ (∀ k o, k ≠ g20 → w.heap[k]? = some o → w'.heap[k]? = some o) ∧ w'.heap.size = w.heap.size ∧ Below g20 w w' := hE
      rcases hE with rfl | ⟨gt, hs_, hg_, hkeep, hsz_, hBl⟩
      · exact hF
      obtain ⟨g19, h1, h2, h3⟩ := hF
      exact ⟨g19, h1, h2, hkeep _ _ (fun e => hD _ _ rfl rfl (by decide) _ (by rw [hs_]; rfl) (by rw [h1, ← e]; rfl)) h3⟩
    · intro s w w' hD hC hE hF
      replace hF : ∃ g17 : Nat, (s 17) = .pointer (some ⟨g17, 0, none⟩) ∧ B0 ≤ g17 ∧ w.heap[g17]? = some (.cells #[.int .i64 p1, .int .i64 p2] 23 (0, 0)) := hF
      show ∃ g17 : Nat, (s 17) = .pointer (some ⟨g17, 0, none⟩) ∧ B0 ≤ g17 ∧ w'.heap[g17]? = some (.cells #[.int .i64 p1, .int .i64 p2] 23 (0, 0))
      replace hE : w' = w ∨ ∃ g20 : Nat, s 20 = .pointer (some ⟨g20, 0, none⟩) ∧ B0 ≤ g20 ∧ (∀ k o, k ≠ g20 → w.heap[k]? = some o → w'.heap[k]? = some o) ∧ w'.heap.size = w.heap.size ∧ Below g20 w w' := hE
      rcases hE with rfl | ⟨gt, hs_, hg_, hkeep, hsz_, hBl⟩
      · exact hF
      obtain ⟨g17, h1, h2, h3⟩ := hF
      exact ⟨g17, h1, h2, hkeep _ _ (fun e => hD _ _ rfl rfl (by decide) _ (by rw [hs_]; rfl) (by rw [h1, ← e]; rfl)) h3⟩
    · intro s w w' hD hC hE hF
      replace hF : ∃ g18 : Nat, (s 18) = .pointer (some ⟨g18, 0, none⟩) ∧ B0 ≤ g18 ∧ w.heap[g18]? = some (.cells #[.int .i64 m1, .int .i64 m2] 23 (0, 0)) := hF
      show ∃ g18 : Nat, (s 18) = .pointer (some ⟨g18, 0, none⟩) ∧ B0 ≤ g18 ∧ w'.heap[g18]? = some (.cells #[.int .i64 m1, .int .i64 m2] 23 (0, 0))
      replace hE : w' = w ∨ ∃ g20 : Nat, s 20 = .pointer (some ⟨g20, 0, none⟩) ∧ B0 ≤ g20 ∧ (∀ k o, k ≠ g20 → w.heap[k]? = some o → w'.heap[k]? = some o) ∧ w'.heap.size = w.heap.size ∧ Below g20 w w' := hE
      rcases hE with rfl | ⟨gt, hs_, hg_, hkeep, hsz_, hBl⟩
      · exact hF
      obtain ⟨g18, h1, h2, h3⟩ := hF
      exact ⟨g18, h1, h2, hkeep _ _ (fun e => hD _ _ rfl rfl (by decide) _ (by rw [hs_]; rfl) (by rw [h1, ← e]; rfl)) h3⟩
    · intro s w w' hD hC hE hF
      replace hF : ∃ g19 : Nat, (s 19) = .pointer (some ⟨g19, 0, none⟩) ∧ B0 ≤ g19 ∧ w.heap[g19]? = some (.cells #[.int .i64 t1, .int .i64 t2] 23 (0, 0)) := hF
      show ∃ g19 : Nat, (s 19) = .pointer (some ⟨g19, 0, none⟩) ∧ B0 ≤ g19 ∧ w'.heap[g19]? = some (.cells #[.int .i64 t1, .int .i64 t2] 23 (0, 0))
      replace hE : w' = w ∨ ∃ g20 : Nat, s 20 = .pointer (some ⟨g20, 0, none⟩) ∧ B0 ≤ g20 ∧ (∀ k o, k ≠ g20 → w.heap[k]? = some o → w'.heap[k]? = some o) ∧ w'.heap.size = w.heap.size ∧ Below g20 w w' := hE
      rcases hE with rfl | ⟨gt, hs_, hg_, hkeep, hsz_, hBl⟩
      · exact hF
      obtain ⟨g19, h1, h2, h3⟩ := hF
      exact ⟨g19, h1, h2, hkeep _ _ (fun e => hD _ _ rfl rfl (by decide) _ (by rw [hs_]; rfl) (by rw [h1, ← e]; rfl)) h3⟩
  · skip
    refine StepsP.cons ?_ ?_
    · intro Q s w hC hA K hK
      clear hC
      clear hA
      refine guard_none (by rfl) ?_
      refine wp_value (v := .pointer (some ⟨ga, 0, none⟩)) (w1 := w) ?_ (hK.out _ w (Below.refl _ _) rfl (fun h => by cases h))
      go_simp
      try (first | done | rfl | (simp; done))
    refine StepsP.cons ?_ ?_
    · intro Q s w hC hA K hK
      obtain ⟨hsz, hk_gx, lt_gx, hk_gy, lt_gy, hk_gb, lt_gb, ha_a, hbw⟩ := hC
      clear hA
      refine guard_none (by rfl) ?_
      have m0_gx : w.cell? ⟨gx, 0, none⟩ = some (.int .i64 xl) := blk_cell hk_gx 0 (by rfl)
      have m1_gx : w.cell? ⟨gx, 1, none⟩ = some (.int .i64 xh) := blk_cell hk_gx 1 (by rfl)
      refine wp_value (v := .agg #[.int .i64 xl, .int .i64 xh]) (w1 := w) ?_ (hK.out _ w (Below.refl _ _) rfl (fun h => by cases h))
      go_simp
      try (first | done | rfl | (simp; done))
    refine StepsP.cons ?_ ?_
    · intro Q s w hC hA K hK
      obtain ⟨hsz, hk_gx, lt_gx, hk_gy, lt_gy, hk_gb, lt_gb, ha_a, hbw⟩ := hC
      clear hA
      refine guard_none (by rfl) ?_
      have m0_gy : w.cell? ⟨gy, 0, none⟩ = some (.int .i64 yl) := blk_cell hk_gy 0 (by rfl)
      have m1_gy : w.cell? ⟨gy, 1, none⟩ = some (.int .i64 yh) := blk_cell hk_gy 1 (by rfl)
      refine wp_value (v := .agg #[.int .i64 yl, .int .i64 yh]) (w1 := w) ?_ (hK.out _ w (Below.refl _ _) rfl (fun h => by cases h))
      go_simp
      try (first | done | rfl | (simp; done))
    refine StepsP.cons ?_ ?_
    · intro Q s w hC hA K hK
      obtain ⟨hsz, hk_gx, lt_gx, hk_gy, lt_gy, hk_gb, lt_gb, ha_a, hbw⟩ := hC
      obtain ⟨f1, f2, -⟩ := hA
      replace f1 : (s 73) = .agg #[.int .i64 xl, .int .i64 xh] := f1
      replace f2 : (s 74) = .agg #[.int .i64 yl, .int .i64 yh] := f2
      refine guard_none (by rfl) ?_
      refine wp_value (v := .slice (some ⟨w.heap.size, 0, none⟩) 2 2) (w1 := w.alloc (.cells #[.int .i64 xl, .int .i64 xh, .int .i64 yl, .int .i64 yh] 23)) ?_ (hK.out _ _ (bl_alloc (Below.refl _ _) _) ⟨w.heap.size, rfl, hsz, blk_new _ _⟩ (fun _ g h => fresh_alloc (by simpa [blkV] using h)))
      try simp only [f1, f2]
      go_simp
      try rfl
    refine StepsP.cons ?_ ?_
    · intro Q s w hC hA K hK
      obtain ⟨hsz, hk_gx, lt_gx, hk_gy, lt_gy, hk_gb, lt_gb, ha_a, hbw⟩ := hC
      obtain ⟨f0, f3, -⟩ := hA
      replace f0 : (s 72) = .pointer (some ⟨ga, 0, none⟩) := f0
      replace f3 : ∃ g3 : Nat, (s 75) = .slice (some ⟨g3, 0, none⟩) 2 2 ∧ B0 ≤ g3 ∧ w.heap[g3]? = some (.cells #[.int .i64 xl, .int .i64 xh, .int .i64 yl, .int .i64 yh] 23 (0, 0)) := f3
      refine guard_none (by rfl) ?_
      obtain ⟨g3, a_g3, c_g3, hk_g3⟩ := f3
      obtain ⟨o_a, ho_a⟩ := ha_a
      refine wp_call (N := some 76) (by rfl) Try.func35 (by kernel_rfl) #[.pointer (some ⟨ga, 0, none⟩), .slice (some ⟨g3, 0, none⟩) 2 2] rfl (by rfl) ?_ ?_
      · show [s 72, s 75] = [.pointer (some ⟨ga, 0, none⟩), .slice (some ⟨g3, 0, none⟩) 2 2]
        first | rfl | simp only [f0, a_g3]
      refine (Plus_some (some ⟨ga, 0, none⟩) _ (some ⟨g3, 0, none⟩) [⟨xl, xh⟩, ⟨yl, yh⟩] 2 _ ho_a (RdS.of_blk (l := [⟨xl, xh⟩, ⟨yl, yh⟩]) hk_g3 (by simp)) hi (by simp) hs).mono ?_
      rintro e w1 ⟨rfl, hb⟩
      refine ⟨_, rfl, ?_⟩
      rw [hp1.out, hp2.out]
      rw [hp3.out] at hb
      exact hK.out _ _ ⟨_, hb⟩ ⟨rfl, _, ho_a.or hb, fun h_ => by rw [h_, Bool.or_true]⟩ (fun h => by cases h)
    refine StepsP.cons ?_ ?_
    · intro Q s w hC hA K hK
      clear hC
      clear hA
      refine guard_none (by rfl) ?_
      refine wp_value (v := .pointer (some ⟨ga, 0, none⟩)) (w1 := w) ?_ (hK.out _ w (Below.refl _ _) rfl (fun h => by cases h))
      go_simp
      try (first | done | rfl | (simp; done))
    refine StepsP.cons ?_ ?_
    · intro Q s w hC hA K hK
      obtain ⟨hsz, hk_gx, lt_gx, hk_gy, lt_gy, hk_gb, lt_gb, ha_a, hbw⟩ := hC
      clear hA
      refine guard_none (by rfl) ?_
      have m0_gx : w.cell? ⟨gx, 0, none⟩ = some (.int .i64 xl) := blk_cell hk_gx 0 (by rfl)
      have m1_gx : w.cell? ⟨gx, 1, none⟩ = some (.int .i64 xh) := blk_cell hk_gx 1 (by rfl)
      refine wp_value (v := .agg #[.int .i64 xl, .int .i64 xh]) (w1 := w) ?_ (hK.out _ w (Below.refl _ _) rfl (fun h => by cases h))
      go_simp
      try (first | done | rfl | (simp; done))
    refine StepsP.cons ?_ ?_
    · intro Q s w hC hA K hK
      obtain ⟨hsz, hk_gx, lt_gx, hk_gy, lt_gy, hk_gb, lt_gb, ha_a, hbw⟩ := hC
      clear hA
      refine guard_none (by rfl) ?_
      have m0_gy : w.cell? ⟨gy, 0, none⟩ = some (.int .i64 yl) := blk_cell hk_gy 0 (by rfl)
      have m1_gy : w.cell? ⟨gy, 1, none⟩ = some (.int .i64 yh) := blk_cell hk_gy 1 (by rfl)
      refine wp_value (v := .agg #[.int .i64 yl, .int .i64 yh]) (w1 := w) ?_ (hK.out _ w (Below.refl _ _) rfl (fun h => by cases h))
      go_simp
      try (first | done | rfl | (simp; done))
    refine StepsP.cons ?_ ?_
    · intro Q s w hC hA K hK
      obtain ⟨hsz, hk_gx, lt_gx, hk_gy, lt_gy, hk_gb, lt_gb, ha_a, hbw⟩ := hC
      obtain ⟨f5, f6, f7, -⟩ := hA
      replace f5 : (s 77) = .pointer (some ⟨ga, 0, none⟩) := f5
      replace f6 : (s 78) = .agg #[.int .i64 xl, .int .i64 xh] := f6
      replace f7 : (s 79) = .agg #[.int .i64 yl, .int .i64 yh] := f7
      refine guard_none (by rfl) ?_
      obtain ⟨o_a, ho_a⟩ := ha_a
      refine wp_call (N := some 80) (by rfl) Try.func38 (by kernel_rfl) #[.pointer (some ⟨ga, 0, none⟩), .agg #[.int .i64 xl, .int .i64 xh], .agg #[.int .i64 yl, .int .i64 yh]] rfl (by rfl) ?_ ?_
      · show [s 77, s 78, s 79] = [.pointer (some ⟨ga, 0, none⟩), .agg #[.int .i64 xl, .int .i64 xh], .agg #[.int .i64 yl, .int .i64 yh]]
        first | rfl | simp only [f5, f6, f7]
      refine (Minus_some (some ⟨ga, 0, none⟩) _ xl xh yl yh _ ho_a hs hi).mono ?_
      rintro e w1 ⟨rfl, hb⟩
      refine ⟨_, rfl, ?_⟩
      rw [hm1.out, hm2.out]
      rw [hm3.out] at hb
      exact hK.out _ _ ⟨_, hb⟩ ⟨rfl, _, ho_a.or hb, fun h_ => by rw [h_, Bool.or_true]⟩ (fun h => by cases h)
    refine StepsP.cons ?_ ?_
    · intro Q s w hC hA K hK
      clear hC
      clear hA
      refine guard_none (by rfl) ?_
      refine wp_value (v := .pointer (some ⟨ga, 0, none⟩)) (w1 := w) ?_ (hK.out _ w (Below.refl _ _) rfl (fun h => by cases h))
      go_simp
      try (first | done | rfl | (simp; done))
    refine StepsP.cons ?_ ?_
    · intro Q s w hC hA K hK
      obtain ⟨hsz, hk_gx, lt_gx, hk_gy, lt_gy, hk_gb, lt_gb, ha_a, hbw⟩ := hC
      clear hA
      refine guard_none (by rfl) ?_
      have m0_gx : w.cell? ⟨gx, 0, none⟩ = some (.int .i64 xl) := blk_cell hk_gx 0 (by rfl)
      have m1_gx : w.cell? ⟨gx, 1, none⟩ = some (.int .i64 xh) := blk_cell hk_gx 1 (by rfl)
      refine wp_value (v := .agg #[.int .i64 xl, .int .i64 xh]) (w1 := w) ?_ (hK.out _ w (Below.refl _ _) rfl (fun h => by cases h))
      go_simp
      try (first | done | rfl | (simp; done))
    refine StepsP.cons ?_ ?_
    · intro Q s w hC hA K hK
      clear hC
      clear hA
      refine guard_none (by rfl) ?_
      refine wp_value (v := .int .i64 c) (w1 := w) ?_ (hK.out _ w (Below.refl _ _) rfl (fun h => by cases h))
      go_simp
      try (first | done | rfl | (simp; done))
    refine StepsP.cons ?_ ?_
    · intro Q s w hC hA K hK
      obtain ⟨hsz, hk_gx, lt_gx, hk_gy, lt_gy, hk_gb, lt_gb, ha_a, hbw⟩ := hC
      obtain ⟨f9, f10, f11, -⟩ := hA
      replace f9 : (s 81) = .pointer (some ⟨ga, 0, none⟩) := f9
      replace f10 : (s 82) = .agg #[.int .i64 xl, .int .i64 xh] := f10
      replace f11 : (s 83) = .int .i64 c := f11
      refine guard_none (by rfl) ?_
      obtain ⟨o_a, ho_a⟩ := ha_a
      refine wp_call (N := some 84) (by rfl) Try.func36 (by kernel_rfl) #[.pointer (some ⟨ga, 0, none⟩), .agg #[.int .i64 xl, .int .i64 xh], .int .i64 c] rfl (by rfl) ?_ ?_
      · show [s 81, s 82, s 83] = [.pointer (some ⟨ga, 0, none⟩), .agg #[.int .i64 xl, .int .i64 xh], .int .i64 c]
        first | rfl | simp only [f9, f10, f11]
      refine (Times_some (some ⟨ga, 0, none⟩) _ xl xh c _ ho_a (Int.not_lt.2 hex) hx0 hx1 hx2 hx3 hc0 hc1).mono ?_
      rintro e w1 ⟨rfl, hb⟩
      refine ⟨_, rfl, ?_⟩
      rw [ht1.out, ht2.out]
      rw [ht3.out] at hb
      exact hK.out _ _ ⟨_, hb⟩ ⟨rfl, _, ho_a.or hb, fun h_ => by rw [h_, Bool.or_true]⟩ (fun h => by cases h)
    refine StepsP.cons ?_ ?_
    · intro Q s w hC hA K hK
      clear hC
      clear hA
      refine guard_none (by rfl) ?_
      refine wp_value (v := .pointer (some ⟨ga, 0, none⟩)) (w1 := w) ?_ (hK.out _ w (Below.refl _ _) rfl (fun h => by cases h))
      go_simp
      try (first | done | rfl | (simp; done))
    refine StepsP.cons ?_ ?_
    · intro Q s w hC hA K hK
      obtain ⟨hsz, hk_gx, lt_gx, hk_gy, lt_gy, hk_gb, lt_gb, ha_a, hbw⟩ := hC
      clear hA
      refine guard_none (by rfl) ?_
      have m0_gx : w.cell? ⟨gx, 0, none⟩ = some (.int .i64 xl) := blk_cell hk_gx 0 (by rfl)
      have m1_gx : w.cell? ⟨gx, 1, none⟩ = some (.int .i64 xh) := blk_cell hk_gx 1 (by rfl)
      refine wp_value (v := .agg #[.int .i64 xl, .int .i64 xh]) (w1 := w) ?_ (hK.out _ w (Below.refl _ _) rfl (fun h => by cases h))
      go_simp
      try (first | done | rfl | (simp; done))
    refine StepsP.cons ?_ ?_
    · intro Q s w hC hA K hK
      obtain ⟨hsz, hk_gx, lt_gx, hk_gy, lt_gy, hk_gb, lt_gb, ha_a, hbw⟩ := hC
      clear hA
      refine guard_none (by rfl) ?_
      have m0_gy : w.cell? ⟨gy, 0, none⟩ = some (.int .i64 yl) := blk_cell hk_gy 0 (by rfl)
      have m1_gy : w.cell? ⟨gy, 1, none⟩ = some (.int .i64 yh) := blk_cell hk_gy 1 (by rfl)
      refine wp_value (v := .agg #[.int .i64 yl, .int .i64 yh]) (w1 := w) ?_ (hK.out _ w (Below.refl _ _) rfl (fun h => by cases h))
      go_simp
      try (first | done | rfl | (simp; done))
    refine StepsP.cons ?_ ?_
    · intro Q s w hC hA K hK
      obtain ⟨hsz, hk_gx, lt_gx, hk_gy, lt_gy, hk_gb, lt_gb, ha_a, hbw⟩ := hC
      obtain ⟨f13, f14, f15, -⟩ := hA
      replace f13 : (s 85) = .pointer (some ⟨ga, 0, none⟩) := f13
      replace f14 : (s 86) = .agg #[.int .i64 xl, .int .i64 xh] := f14
      replace f15 : (s 87) = .agg #[.int .i64 yl, .int .i64 yh] := f15
      refine guard_none (by rfl) ?_
      obtain ⟨o_a, ho_a⟩ := ha_a
      refine wp_call (N := some 88) (by rfl) Try.func42 (by kernel_rfl) #[.pointer (some ⟨ga, 0, none⟩), .agg #[.int .i64 xl, .int .i64 xh], .agg #[.int .i64 yl, .int .i64 yh]] rfl (by rfl) ?_ ?_
      · show [s 85, s 86, s 87] = [.pointer (some ⟨ga, 0, none⟩), .agg #[.int .i64 xl, .int .i64 xh], .agg #[.int .i64 yl, .int .i64 yh]]
        first | rfl | simp only [f13, f14, f15]
      refine (Cross_some (some ⟨ga, 0, none⟩) _ xl xh yl yh _ ho_a hs hx0 hx1 hx2 hx3 hy0 hy1 hy2 hy3).mono ?_
      rintro e w1 ⟨rfl, hb⟩
      refine ⟨_, rfl, ?_⟩
      rw [hq1.out, hq2.out]
      rw [hq3.out] at hb
      exact hK.out _ _ ⟨_, hb⟩ ⟨rfl, _, ho_a.or hb, fun h_ => by rw [h_, Bool.or_true]⟩ (fun h => by cases h)
    refine StepsP.cons ?_ ?_
    · intro Q s w hC hA K hK
      obtain ⟨hsz, hk_gx, lt_gx, hk_gy, lt_gy, hk_gb, lt_gb, ha_a, hbw⟩ := hC
      clear hA
      refine guard_none (by rfl) ?_
      refine wp_value (v := .pointer (some ⟨w.heap.size, 0, none⟩)) (w1 := w.alloc (.cells #[.int .i64 0, .int .i64 0] 23)) ?_ (hK.out _ _ (bl_alloc (Below.refl _ _) _) ⟨w.heap.size, rfl, hsz, blk_new _ _⟩ (fun _ g h => fresh_alloc (by simpa [blkV] using h)))
      go_simp
      try rfl
    refine StepsP.cons ?_ ?_
    · intro Q s w hC hA K hK
      obtain ⟨hsz, hk_gx, lt_gx, hk_gy, lt_gy, hk_gb, lt_gb, ha_a, hbw⟩ := hC
      clear hA
      refine guard_none (by rfl) ?_
      refine wp_value (v := .pointer (some ⟨w.heap.size, 0, none⟩)) (w1 := w.alloc (.cells #[.int .i64 0, .int .i64 0] 23)) ?_ (hK.out _ _ (bl_alloc (Below.refl _ _) _) ⟨w.heap.size, rfl, hsz, blk_new _ _⟩ (fun _ g h => fresh_alloc (by simpa [blkV] using h)))
      go_simp
      try rfl
    refine StepsP.cons ?_ ?_
    · intro Q s w hC hA K hK
      obtain ⟨hsz, hk_gx, lt_gx, hk_gy, lt_gy, hk_gb, lt_gb, ha_a, hbw⟩ := hC
      clear hA
      refine guard_none (by rfl) ?_
      refine wp_value (v := .pointer (some ⟨w.heap.size, 0, none⟩)) (w1 := w.alloc (.cells #[.int .i64 0, .int .i64 0] 23)) ?_ (hK.out _ _ (bl_alloc (Below.refl _ _) _) ⟨w.heap.size, rfl, hsz, blk_new _ _⟩ (fun _ g h => fresh_alloc (by simpa [blkV] using h)))
      go_simp
      try rfl
    refine StepsP.cons ?_ ?_
    · intro Q s w hC hA K hK
      obtain ⟨hsz, hk_gx, lt_gx, hk_gy, lt_gy, hk_gb, lt_gb, ha_a, hbw⟩ := hC
      clear hA
      refine guard_none (by rfl) ?_
      refine wp_value (v := .pointer (some ⟨w.heap.size, 0, none⟩)) (w1 := w.alloc (.cells #[.int .i64 0, .int .i64 0] 23)) ?_ (hK.out _ _ (bl_alloc (Below.refl _ _) _) ⟨w.heap.size, rfl, hsz, blk_new _ _⟩ (fun _ g h => fresh_alloc (by simpa [blkV] using h)))
      go_simp
      try rfl
    refine StepsP.cons ?_ ?_
    · intro Q s w hC hA K hK
      obtain ⟨hsz, hk_gx, lt_gx, hk_gy, lt_gy, hk_gb, lt_gb, ha_a, hbw⟩ := hC
      obtain ⟨f17, f4, -⟩ := hA
      replace f17 : ∃ g17 : Nat, (s 17) = .pointer (some ⟨g17, 0, none⟩) ∧ B0 ≤ g17 ∧ w.heap[g17]? = some (.cells #[.int .i64 0, .int .i64 0] 23 (0, 0)) := f17
      replace f4 : ((s 76) = .agg #[.int .i64 p1, .int .i64 p2]) ∧ ∃ o : Bool, AccAt w (some ⟨ga, 0, none⟩) o ∧ (p3 = true → o = true) := f4
      refine guard_none (by rfl) ?_
      obtain ⟨g17, a_g17, c_g17, hk_g17⟩ := f17
      obtain ⟨f4, fl4⟩ := f4
      have m0_g17 : w.cell? ⟨g17, 0, none⟩ = some (.int .i64 0) := blk_cell hk_g17 0 (by rfl)
      have z0_g17 : w.frozen? ⟨g17, 0, none⟩ = false := blkf hk_g17 0
      have m1_g17 : w.cell? ⟨g17, 1, none⟩ = some (.int .i64 0) := blk_cell hk_g17 1 (by rfl)
      have z1_g17 : w.frozen? ⟨g17, 1, none⟩ = false := blkf hk_g17 1
      refine wp_skip_ (w1 := ((w.setCell ⟨g17, 0, none⟩ (.int .i64 p1)).setCell ⟨g17, 1, none⟩ (.int .i64 p2))) ?_ (hK.out undef _ (Or.inr ⟨g17, a_g17, c_g17, fun k_ o_ hne_ h_ => (blk_far (blk_far h_ (a := ⟨g17, 0, none⟩) (Ne.symm hne_) (.int .i64 p1)) (a := ⟨g17, 1, none⟩) (Ne.symm hne_) (.int .i64 p2)), by simp [World.setCell], (Below.setCell (Below.setCell (Below.refl _ _) (p := ⟨g17, 0, none⟩) (Nat.le_refl _) (.int .i64 p1)) (p := ⟨g17, 1, none⟩) (Nat.le_refl _) (.int .i64 p2))⟩) ⟨g17, a_g17, c_g17, (blk_set (blk_set hk_g17 0 (.int .i64 p1)) 1 (.int .i64 p2))⟩ (fun h => by cases h))
      try simp only [a_g17, f4]
      go_simp
      try rfl
    refine StepsP.cons ?_ ?_
    · intro Q s w hC hA K hK
      obtain ⟨hsz, hk_gx, lt_gx, hk_gy, lt_gy, hk_gb, lt_gb, ha_a, hbw⟩ := hC
      obtain ⟨f18, f8, -⟩ := hA
      replace f18 : ∃ g18 : Nat, (s 18) = .pointer (some ⟨g18, 0, none⟩) ∧ B0 ≤ g18 ∧ w.heap[g18]? = some (.cells #[.int .i64 0, .int .i64 0] 23 (0, 0)) := f18
      replace f8 : ((s 80) = .agg #[.int .i64 m1, .int .i64 m2]) ∧ ∃ o : Bool, AccAt w (some ⟨ga, 0, none⟩) o ∧ (m3 = true → o = true) := f8
      refine guard_none (by rfl) ?_
      obtain ⟨g18, a_g18, c_g18, hk_g18⟩ := f18
      obtain ⟨f8, fl8⟩ := f8
      have m0_g18 : w.cell? ⟨g18, 0, none⟩ = some (.int .i64 0) := blk_cell hk_g18 0 (by rfl)
      have z0_g18 : w.frozen? ⟨g18, 0, none⟩ = false := blkf hk_g18 0
      have m1_g18 : w.cell? ⟨g18, 1, none⟩ = some (.int .i64 0) := blk_cell hk_g18 1 (by rfl)
      have z1_g18 : w.frozen? ⟨g18, 1, none⟩ = false := blkf hk_g18 1
      refine wp_skip_ (w1 := ((w.setCell ⟨g18, 0, none⟩ (.int .i64 m1)).setCell ⟨g18, 1, none⟩ (.int .i64 m2))) ?_ (hK.out undef _ (Or.inr ⟨g18, a_g18, c_g18, fun k_ o_ hne_ h_ => (blk_far (blk_far h_ (a := ⟨g18, 0, none⟩) (Ne.symm hne_) (.int .i64 m1)) (a := ⟨g18, 1, none⟩) (Ne.symm hne_) (.int .i64 m2)), by simp [World.setCell], (Below.setCell (Below.setCell (Below.refl _ _) (p := ⟨g18, 0, none⟩) (Nat.le_refl _) (.int .i64 m1)) (p := ⟨g18, 1, none⟩) (Nat.le_refl _) (.int .i64 m2))⟩) ⟨g18, a_g18, c_g18, (blk_set (blk_set hk_g18 0 (.int .i64 m1)) 1 (.int .i64 m2))⟩ (fun h => by cases h))
      try simp only [a_g18, f8]
      go_simp
      try rfl
    refine StepsP.cons ?_ ?_
    · intro Q s w hC hA K hK
      obtain ⟨hsz, hk_gx, lt_gx, hk_gy, lt_gy, hk_gb, lt_gb, ha_a, hbw⟩ := hC
      obtain ⟨f19, f12, -⟩ := hA
      replace f19 : ∃ g19 : Nat, (s 19) = .pointer (some ⟨g19, 0, none⟩) ∧ B0 ≤ g19 ∧ w.heap[g19]? = some (.cells #[.int .i64 0, .int .i64 0] 23 (0, 0)) := f19
      replace f12 : ((s 84) = .agg #[.int .i64 t1, .int .i64 t2]) ∧ ∃ o : Bool, AccAt w (some ⟨ga, 0, none⟩) o ∧ (t3 = true → o = true) := f12
      refine guard_none (by rfl) ?_
      obtain ⟨g19, a_g19, c_g19, hk_g19⟩ := f19
      obtain ⟨f12, fl12⟩ := f12
      have m0_g19 : w.cell? ⟨g19, 0, none⟩ = some (.int .i64 0) := blk_cell hk_g19 0 (by rfl)
      have z0_g19 : w.frozen? ⟨g19, 0, none⟩ = false := blkf hk_g19 0
      have m1_g19 : w.cell? ⟨g19, 1, none⟩ = some (.int .i64 0) := blk_cell hk_g19 1 (by rfl)
      have z1_g19 : w.frozen? ⟨g19, 1, none⟩ = false := blkf hk_g19 1
      refine wp_skip_ (w1 := ((w.setCell ⟨g19, 0, none⟩ (.int .i64 t1)).setCell ⟨g19, 1, none⟩ (.int .i64 t2))) ?_ (hK.out undef _ (Or.inr ⟨g19, a_g19, c_g19, fun k_ o_ hne_ h_ => (blk_far (blk_far h_ (a := ⟨g19, 0, none⟩) (Ne.symm hne_) (.int .i64 t1)) (a := ⟨g19, 1, none⟩) (Ne.symm hne_) (.int .i64 t2)), by simp [World.setCell], (Below.setCell (Below.setCell (Below.refl _ _) (p := ⟨g19, 0, none⟩) (Nat.le_refl _) (.int .i64 t1)) (p := ⟨g19, 1, none⟩) (Nat.le_refl _) (.int .i64 t2))⟩) ⟨g19, a_g19, c_g19, (blk_set (blk_set hk_g19 0 (.int .i64 t1)) 1 (.int .i64 t2))⟩ (fun h => by cases h))
      try simp only [a_g19, f12]
      go_simp
      try rfl
    refine StepsP.cons ?_ ?_
    · intro Q s w hC hA K hK
      obtain ⟨hsz, hk_gx, lt_gx, hk_gy, lt_gy, hk_gb, lt_gb, ha_a, hbw⟩ := hC
      obtain ⟨f20, f16, -⟩ := hA
      replace f20 : ∃ g20 : Nat, (s 20) = .pointer (some ⟨g20, 0, none⟩) ∧ B0 ≤ g20 ∧ w.heap[g20]? = some (.cells #[.int .i64 0, .int .i64 0] 23 (0, 0)) := f20
      replace f16 : ((s 88) = .agg #[.int .i64 q1, .int .i64 q2]) ∧ ∃ o : Bool, AccAt w (some ⟨ga, 0, none⟩) o ∧ (q3 = true → o = true) := f16
      refine guard_none (by rfl) ?_
      obtain ⟨g20, a_g20, c_g20, hk_g20⟩ := f20
      obtain ⟨f16, fl16⟩ := f16
      have m0_g20 : w.cell? ⟨g20, 0, none⟩ = some (.int .i64 0) := blk_cell hk_g20 0 (by rfl)
      have z0_g20 : w.frozen? ⟨g20, 0, none⟩ = false := blkf hk_g20 0
      have m1_g20 : w.cell? ⟨g20, 1, none⟩ = some (.int .i64 0) := blk_cell hk_g20 1 (by rfl)
      have z1_g20 : w.frozen? ⟨g20, 1, none⟩ = false := blkf hk_g20 1
      refine wp_skip_ (w1 := ((w.setCell ⟨g20, 0, none⟩ (.int .i64 q1)).setCell ⟨g20, 1, none⟩ (.int .i64 q2))) ?_ (hK.out undef _ (Or.inr ⟨g20, a_g20, c_g20, fun k_ o_ hne_ h_ => (blk_far (blk_far h_ (a := ⟨g20, 0, none⟩) (Ne.symm hne_) (.int .i64 q1)) (a := ⟨g20, 1, none⟩) (Ne.symm hne_) (.int .i64 q2)), by simp [World.setCell], (Below.setCell (Below.setCell (Below.refl _ _) (p := ⟨g20, 0, none⟩) (Nat.le_refl _) (.int .i64 q1)) (p := ⟨g20, 1, none⟩) (Nat.le_refl _) (.int .i64 q2))⟩) ⟨g20, a_g20, c_g20, (blk_set (blk_set hk_g20 0 (.int .i64 q1)) 1 (.int .i64 q2))⟩ (fun h => by cases h))
      try simp only [a_g20, f16]
      go_simp
      try rfl
    exact StepsP.nil
  obtain ⟨hsz, hk_gx, lt_gx, hk_gy, lt_gy, hk_gb, lt_gb, ha_a, hbw⟩ := hC
  obtain ⟨f4, f8, f12, f16, f21, f22, f23, f24, -⟩ := hA
  replace f4 : ((s 76) = .agg #[.int .i64 p1, .int .i64 p2]) ∧ ∃ o : Bool, AccAt w (some ⟨ga, 0, none⟩) o ∧ (p3 = true → o = true) := f4
  replace f8 : ((s 80) = .agg #[.int .i64 m1, .int .i64 m2]) ∧ ∃ o : Bool, AccAt w (some ⟨ga, 0, none⟩) o ∧ (m3 = true → o = true) := f8
  replace f12 : ((s 84) = .agg #[.int .i64 t1, .int .i64 t2]) ∧ ∃ o : Bool, AccAt w (some ⟨ga, 0, none⟩) o ∧ (t3 = true → o = true) := f12
  replace f16 : ((s 88) = .agg #[.int .i64 q1, .int .i64 q2]) ∧ ∃ o : Bool, AccAt w (some ⟨ga, 0, none⟩) o ∧ (q3 = true → o = true) := f16
  replace f21 : ∃ g17 : Nat, (s 17) = .pointer (some ⟨g17, 0, none⟩) ∧ B0 ≤ g17 ∧ w.heap[g17]? = some (.cells #[.int .i64 p1, .int .i64 p2] 23 (0, 0)) := f21
  replace f22 : ∃ g18 : Nat, (s 18) = .pointer (some ⟨g18, 0, none⟩) ∧ B0 ≤ g18 ∧ w.heap[g18]? = some (.cells #[.int .i64 m1, .int .i64 m2] 23 (0, 0)) := f22
  replace f23 : ∃ g19 : Nat, (s 19) = .pointer (some ⟨g19, 0, none⟩) ∧ B0 ≤ g19 ∧ w.heap[g19]? = some (.cells #[.int .i64 t1, .int .i64 t2] 23 (0, 0)) := f23
  replace f24 : ∃ g20 : Nat, (s 20) = .pointer (some ⟨g20, 0, none⟩) ∧ B0 ≤ g20 ∧ w.heap[g20]? = some (.cells #[.int .i64 q1, .int .i64 q2] 23 (0, 0)) := f24
  obtain ⟨f4, fl4⟩ := f4
  obtain ⟨f8, fl8⟩ := f8
  obtain ⟨f12, fl12⟩ := f12
  obtain ⟨f16, fl16⟩ := f16
  obtain ⟨g17, a_g17, c_g17, hk_g17⟩ := f21
  obtain ⟨g18, a_g18, c_g18, hk_g18⟩ := f22
  obtain ⟨g19, a_g19, c_g19, hk_g19⟩ := f23
  obtain ⟨g20, a_g20, c_g20, hk_g20⟩ := f24
  refine act_eq (b' := ?b4) ?h4 ?q4
  case h4 => simp only [f4, f8, f12, f16, a_g17, a_g18, a_g19, a_g20]; rfl
  clear hsz hk_gx hk_gy lt_gx lt_gy ha_a c_g17 c_g18 c_g19 c_g20 a_g17 a_g18 a_g19 a_g20 f4 f8 f12 f16
  obtain ⟨o, hA_, k1⟩ := fl4
  obtain ⟨o2, h2_, k2⟩ := fl8
  obtain ⟨o3, h3_, k3⟩ := fl12
  obtain ⟨o4, h4_, k4⟩ := fl16
  obtain rfl : o2 = o := by have h_ := h2_.1.symm.trans hA_.1; simpa using h_
  obtain rfl : o3 = o2 := by have h_ := h3_.1.symm.trans h2_.1; simpa using h_
  obtain rfl : o4 = o3 := by have h_ := h4_.1.symm.trans h3_.1; simpa using h_
  clear hA_ h2_ h3_
  have mo := h4_.1
  cases o4
  · have e1 : p3 = false := by cases p3 <;> simp_all
    have e2 : m3 = false := by cases m3 <;> simp_all
    have e3 : t3 = false := by cases t3 <;> simp_all
    have e4 : q3 = false := by cases q3 <;> simp_all
    obtain ⟨P1, P2⟩ := hP e1
    obtain ⟨M1, M2⟩ := hM e2
    obtain ⟨T1, T2⟩ := hTf e3
    obtain ⟨T3, T4⟩ := hTt e3
    obtain ⟨C1, C2⟩ := hCf e4
    obtain ⟨C3, C4⟩ := hCt e4
    clear hP hM hTf hTt hCf hCt k1 k2 k3 k4 e1 e2 e3 e4 h4_
    go_upto_region 10 with fail
    clear mo
    obtain ⟨B5, hB5⟩ : ∃ B, B = w.heap.size := ⟨_, rfl⟩
    have c0_hsz : B5 ≤ w.heap.size := Nat.le_of_eq hB5
    have hw0B5 : w0.heap.size ≤ B5 := by rw [hB5]; exact hbw.size
    have c0_hk_gb := blk_drew hk_gb
    have c0_lt_gb : gb < B5 := by rw [hB5]; exact blk_lt hk_gb
    have c0_hk_g17 := blk_drew hk_g17
    have c0_lt_g17 : g17 < B5 := by rw [hB5]; exact blk_lt hk_g17
    have c0_hk_g18 := blk_drew hk_g18
    have c0_lt_g18 : g18 < B5 := by rw [hB5]; exact blk_lt hk_g18
    have c0_hk_g19 := blk_drew hk_g19
    have c0_lt_g19 : g19 < B5 := by rw [hB5]; exact blk_lt hk_g19
    have c0_hk_g20 := blk_drew hk_g20
    have c0_lt_g20 : g20 < B5 := by rw [hB5]; exact blk_lt hk_g20
    have c0_hbw := bl_drew hbw
    clear hB5 hbw hk_gb hk_g17 hk_g18 hk_g19 hk_g20
    refine region_lin (n := 58) (st := ?st5) { R := [0, 1, 3, 3, 3, 3, 51, 123, 255, 511, 1023, 2047, 2047, 2047, 2047, 30719, 65535, 131071, 262143, 524287, 524287, 524287, 524287, 7864319, 16777215, 33554431, 67108863, 134217727, 134217727, 134217727, 134217727, 2013265919, 4294967295, 8589934591, 17179869183, 34359738367, 34359738367, 34359738367, 34359738367, 515396075519, 1099511627775, 2199023255551, 4398046511103, 8796093022207, 8796093022207, 8796093022207, 8796093022207, 131941395333119, 281474976710655, 562949953421311, 1125899906842623, 2251799813685247, 4503599627370495, 9007199254740991, 18014398509481983, 36028797018963967, 72057594037927935, 144115188075855871], kill := [[], [], [], [], [], [], [], [], [], [], [], [], [], [], [], [], [], [], [], [], [], [], [], [], [], [], [], [], [], [], [], [], [], [], [], [], [], [], [], [], [], [], [], [], [], [], [], [], [], [], [], [], [], [], [], [], [], []], cls := [0, 0, 0, 0, 0, 0, 0, 0, 0, 0, 0, 0, 0, 0, 0, 0, 0, 0, 0, 0, 0, 0, 0, 0, 0, 0, 0, 0, 0, 0, 0, 0, 0, 0, 0, 0, 0, 0, 0, 0, 0, 0, 0, 0, 0, 0, 0, 0, 0, 0, 0, 0, 0, 0, 0, 0, 0, 0], dst := [some 95, some 96, some 97, some 98, some 99, some 100, some 101, some 102, some 103, some 104, some 105, some 106, some 107, some 108, some 109, some 110, some 111, some 112, some 113, some 114, some 115, some 116, some 117, some 118, some 119, some 120, some 121, some 122, some 123, some 124, some 125, some 126, some 127, some 128, some 129, some 130, some 131, some 132, some 133, some 134, some 135, some 136, some 137, some 138, some 139, some 140, some 141, some 142, some 143, some 144, some 145, some 146, some 147, some 148, some 149, some 150, some 151, some 10], pre := [[], [0], [1], [1], [1], [1], [1, 4, 5], [1, 3, 6], [1, 2, 7], [1, 8], [9], [10], [10], [10], [10], [10, 12, 13, 14], [10, 11, 15], [10, 16], [17], [18], [18], [18], [18], [18, 20, 21, 22], [18, 19, 23], [18, 24], [25], [26], [26], [26], [26], [26, 28, 29, 30], [26, 27, 31], [26, 32], [33], [34], [34], [34], [34], [34, 36, 37, 38], [34, 35, 39], [34, 40], [41], [42], [42], [42], [42], [42, 44, 45, 46], [42, 43, 47], [42, 48], [49], [50], [50, 51], [50, 52], [50, 53], [50, 54], [50, 55], [56]], cov := [(0, 6)], fin := [57], locs := [(6, 101)], tgt := [none], abt := [none, none, none, none, none, none, some 101, none, none, none, none, none, none, none, none, none, none, none, none, none, none, none, none, none, none, none, none, none, none, none, none, none, none, none, none, none, none, none, none, none, none, none, none, none, none, none, none, none, none, none, none, none, none, none, none, none, none, none] }
      [.v [95] (fun vs => (vs.getD 0 undef) = .bool true),
       .v [96] (fun vs => (vs.getD 0 undef) = .bool true),
       .v [97] (fun vs => (vs.getD 0 undef) = .agg #[.int .i64 p1, .int .i64 p2]),
       .v [98] (fun vs => (vs.getD 0 undef) = .pointer (some ⟨gb, 0, none⟩)),
       .v [99] (fun vs => (vs.getD 0 undef) = .int .i64 u),
       .v [100] (fun vs => (vs.getD 0 undef) = .int .i64 v),
       .w [101] (fun vs w => ∃ g6 : Nat, (vs.getD 0 undef) = .slice (some ⟨g6, 0, none⟩) 2 2 ∧ B5 ≤ g6 ∧ w.heap[g6]? = some (.cells #[.int .i64 u, .int .i64 v] 3 (0, 0))),
       .v [102] (fun vs => (vs.getD 0 undef) = .int .i64 p4),
       .v [103] (fun vs => (vs.getD 0 undef) = .bool true),
       .v [104] (fun vs => (vs.getD 0 undef) = .bool true),
       .v [105] (fun vs => (vs.getD 0 undef) = .bool true),
       .v [106] (fun vs => (vs.getD 0 undef) = .agg #[.int .i64 m1, .int .i64 m2]),
       .v [107] (fun vs => (vs.getD 0 undef) = .pointer (some ⟨gb, 0, none⟩)),
       .v [108] (fun vs => (vs.getD 0 undef) = .int .i64 u),
       .v [109] (fun vs => (vs.getD 0 undef) = .int .i64 v),
       .v [110] (fun vs => (vs.getD 0 undef) = .int .i64 m4),
       .v [111] (fun vs => (vs.getD 0 undef) = .bool true),
       .v [112] (fun vs => (vs.getD 0 undef) = .bool true),
       .v [113] (fun vs => (vs.getD 0 undef) = .bool true),
       .v [114] (fun vs => (vs.getD 0 undef) = .agg #[.int .i64 t1, .int .i64 t2]),
       .v [115] (fun vs => (vs.getD 0 undef) = .pointer (some ⟨gb, 0, none⟩)),
       .v [116] (fun vs => (vs.getD 0 undef) = .int .i64 u),
       .v [117] (fun vs => (vs.getD 0 undef) = .int .i64 c),
       .v [118] (fun vs => (vs.getD 0 undef) = .int .i64 t4),
       .v [119] (fun vs => (vs.getD 0 undef) = .bool true),
       .v [120] (fun vs => (vs.getD 0 undef) = .bool true),
       .v [121] (fun vs => (vs.getD 0 undef) = .bool true),
       .v [122] (fun vs => (vs.getD 0 undef) = .agg #[.int .i64 t1, .int .i64 t2]),
       .v [123] (fun vs => (vs.getD 0 undef) = .pointer (some ⟨gb, 0, none⟩)),
       .v [124] (fun vs => (vs.getD 0 undef) = .int .i64 u),
       .v [125] (fun vs => (vs.getD 0 undef) = .int .i64 c),
       .v [126] (fun vs => (vs.getD 0 undef) = .int .i64 t6),
       .v [127] (fun vs => (vs.getD 0 undef) = .bool true),
       .v [128] (fun vs => (vs.getD 0 undef) = .bool true),
       .v [129] (fun vs => (vs.getD 0 undef) = .bool true),
       .v [130] (fun vs => (vs.getD 0 undef) = .agg #[.int .i64 q1, .int .i64 q2]),
       .v [131] (fun vs => (vs.getD 0 undef) = .pointer (some ⟨gb, 0, none⟩)),
       .v [132] (fun vs => (vs.getD 0 undef) = .int .i64 u),
       .v [133] (fun vs => (vs.getD 0 undef) = .int .i64 v),
       .v [134] (fun vs => (vs.getD 0 undef) = .int .i64 q4),
       .v [135] (fun vs => (vs.getD 0 undef) = .bool true),
       .v [136] (fun vs => (vs.getD 0 undef) = .bool true),
       .v [137] (fun vs => (vs.getD 0 undef) = .bool true),
       .v [138] (fun vs => (vs.getD 0 undef) = .agg #[.int .i64 q1, .int .i64 q2]),
       .v [139] (fun vs => (vs.getD 0 undef) = .pointer (some ⟨gb, 0, none⟩)),
       .v [140] (fun vs => (vs.getD 0 undef) = .int .i64 u),
       .v [141] (fun vs => (vs.getD 0 undef) = .int .i64 v),
       .v [142] (fun vs => (vs.getD 0 undef) = .int .i64 q6),
       .v [143] (fun vs => (vs.getD 0 undef) = .bool true),
       .v [144] (fun vs => (vs.getD 0 undef) = .bool true),
       .v [145] (fun vs => (vs.getD 0 undef) = .bool true),
       .v [146] (fun vs => (vs.getD 0 undef) = .pointer (some ⟨gb, 0, none⟩)),
       .v [147] (fun vs => (vs.getD 0 undef) = .pointer (some ⟨gb, 0, none⟩)),
       .v [148] (fun vs => (vs.getD 0 undef) = .pointer (some ⟨gb, 0, none⟩)),
       .v [149] (fun vs => (vs.getD 0 undef) = .bool false),
       .v [150] (fun vs => (vs.getD 0 undef) = .bool true),
       .v [151] (fun vs => (vs.getD 0 undef) = .bool true),
       .v [10] (fun vs => (vs.getD 0 undef) = .bool true)]
      (fun w => B5 ≤ w.heap.size ∧ w.heap[gb]? = some (.cells #[.bool false] 31 (0, 0)) ∧ gb < B5 ∧ w.heap[g17]? = some (.cells #[.int .i64 p1, .int .i64 p2] 23 (0, 0)) ∧ g17 < B5 ∧ w.heap[g18]? = some (.cells #[.int .i64 m1, .int .i64 m2] 23 (0, 0)) ∧ g18 < B5 ∧ w.heap[g19]? = some (.cells #[.int .i64 t1, .int .i64 t2] 23 (0, 0)) ∧ g19 < B5 ∧ w.heap[g20]? = some (.cells #[.int .i64 q1, .int .i64 q2] 23 (0, 0)) ∧ g20 < B5 ∧ Below w0.heap.size w0 w)
      (fun c => ([fun s w w' => Below w.heap.size w w'] : List ((Nat → Value) → World → World → Prop)).getD c (fun s w w' => w' = w))
      [10, 95, 96, 97, 98, 99, 100, 101, 102, 103, 104, 105, 106, 107, 108, 109, 110, 111, 112, 113, 114, 115, 116, 117, 118, 119, 120, 121, 122, 123, 124, 125, 126, 127, 128, 129, 130, 131, 132, 133, 134, 135, 136, 137, 138, 139, 140, 141, 142, 143, 144, 145, 146, 147, 148, 149, 150, 151] (by kernel_rfl) ⟨by kernel_rfl, by kernel_rfl, by kernel_rfl, by kernel_rfl, by kernel_rfl, by kernel_rfl, by kernel_rfl, by kernel_rfl⟩ (fun s => ?_) ?_ ?_ ?_ ?_ ?_ (fun s w hC hA => ?_)
    rotate_left
    · simp only [fillS, List.foldl, List.setIfInBounds_toArray, List.set_cons_zero, List.set_cons_succ]; rfl
    · exact ⟨c0_hsz, c0_hk_gb, c0_lt_gb, c0_hk_g17, c0_lt_g17, c0_hk_g18, c0_lt_g18, c0_hk_g19, c0_lt_g19, c0_hk_g20, c0_lt_g20, c0_hbw⟩
    · intro c s w w' hE
      match c, hE with
      | 0, hE => exact Below.size hE
      | c + 1, hE => cases hE; exact Nat.le_refl _
    · rintro c s w w' ⟨hsz, hk_gb, lt_gb, hk_g17, lt_g17, hk_g18, lt_g18, hk_g19, lt_g19, hk_g20, lt_g20, hbw⟩ hE
      match c, hE with
      | 0, hE => replace hE : Below w.heap.size w w' := hE; exact ⟨Nat.le_trans hsz hE.size, bl_block hE hk_gb, lt_gb, bl_block hE hk_g17, lt_g17, bl_block hE hk_g18, lt_g18, bl_block hE hk_g19, lt_g19, bl_block hE hk_g20, lt_g20, bl_step hbw hE⟩
      | c + 1, hE => cases hE; exact ⟨hsz, hk_gb, lt_gb, hk_g17, lt_g17, hk_g18, lt_g18, hk_g19, lt_g19, hk_g20, lt_g20, hbw⟩
    · refine ⟨?_, trivial⟩
      · intro s w w' hD hC hE hF
        replace hF : ∃ g6 : Nat, (s 101) = .slice (some ⟨g6, 0, none⟩) 2 2 ∧ B5 ≤ g6 ∧ w.heap[g6]? = some (.cells #[.int .i64 u, .int .i64 v] 3 (0, 0)) := hF
        show ∃ g6 : Nat, (s 101) = .slice (some ⟨g6, 0, none⟩) 2 2 ∧ B5 ≤ g6 ∧ w'.heap[g6]? = some (.cells #[.int .i64 u, .int .i64 v] 3 (0, 0))
        replace hE : Below w.heap.size w w' := hE
        obtain ⟨g6, h1, h2, h3⟩ := hF
        exact ⟨g6, h1, h2, bl_block hE h3⟩
    · skip
      refine StepsP.cons ?_ ?_
      · intro Q s w hC hA K hK
        obtain ⟨hsz, hk_gb, lt_gb, hk_g17, lt_g17, hk_g18, lt_g18, hk_g19, lt_g19, hk_g20, lt_g20, hbw⟩ := hC
        clear hA
        refine guard_none (by rfl) ?_
        refine wp_call (N := some 95) (by rfl) Try.func15 (by kernel_rfl) #[] rfl (by rfl) ?_ ?_
        · show [] = []
          first | rfl | simp only []
        refine (alive_calls _).mono ?_
        rintro e w1 ⟨rfl, hb⟩
        refine ⟨_, rfl, ?_⟩
        exact hK.out _ _ hb rfl (fun h => by cases h)
      refine StepsP.cons ?_ ?_
      · intro Q s w hC hA K hK
        clear hC
        obtain ⟨f0, -⟩ := hA
        replace f0 : (s 95) = .bool true := f0
        refine guard_none (by rfl) ?_
        refine wp_value (v := .bool true) (w1 := w) ?_ (hK.out _ w (Below.refl _ _) rfl (fun h => by cases h))
        try simp only [f0]
        go_simp
        try (first | done | rfl | (simp; done))
      refine StepsP.cons ?_ ?_
      · intro Q s w hC hA K hK
        obtain ⟨hsz, hk_gb, lt_gb, hk_g17, lt_g17, hk_g18, lt_g18, hk_g19, lt_g19, hk_g20, lt_g20, hbw⟩ := hC
        obtain ⟨f1, -⟩ := hA
        replace f1 : (s 96) = .bool true := f1
        refine guard_on (d := 96) (want := true) (by rfl) (by rfl) ?_ ?_
        · exact f1
        have m0_g17 : w.cell? ⟨g17, 0, none⟩ = some (.int .i64 p1) := blk_cell hk_g17 0 (by rfl)
        have m1_g17 : w.cell? ⟨g17, 1, none⟩ = some (.int .i64 p2) := blk_cell hk_g17 1 (by rfl)
        refine wp_value (v := .agg #[.int .i64 p1, .int .i64 p2]) (w1 := w) ?_ (hK.out _ w (Below.refl _ _) rfl (fun h => by cases h))
        try simp only [f1]
        go_simp
        try (first | done | rfl | (simp; done))
      refine StepsP.cons ?_ ?_
      · intro Q s w hC hA K hK
        clear hC
        obtain ⟨f1, -⟩ := hA
        replace f1 : (s 96) = .bool true := f1
        refine guard_on (d := 96) (want := true) (by rfl) (by rfl) ?_ ?_
        · exact f1
        refine wp_value (v := .pointer (some ⟨gb, 0, none⟩)) (w1 := w) ?_ (hK.out _ w (Below.refl _ _) rfl (fun h => by cases h))
        try simp only [f1]
        go_simp
        try (first | done | rfl | (simp; done))
      refine StepsP.cons ?_ ?_
      · intro Q s w hC hA K hK
        clear hC
        obtain ⟨f1, -⟩ := hA
        replace f1 : (s 96) = .bool true := f1
        refine guard_on (d := 96) (want := true) (by rfl) (by rfl) ?_ ?_
        · exact f1
        refine wp_value (v := .int .i64 u) (w1 := w) ?_ (hK.out _ w (Below.refl _ _) rfl (fun h => by cases h))
        try simp only [f1]
        go_simp
        try (first | done | rfl | (simp; done))
      refine StepsP.cons ?_ ?_
      · intro Q s w hC hA K hK
        clear hC
        obtain ⟨f1, -⟩ := hA
        replace f1 : (s 96) = .bool true := f1
        refine guard_on (d := 96) (want := true) (by rfl) (by rfl) ?_ ?_
        · exact f1
        refine wp_value (v := .int .i64 v) (w1 := w) ?_ (hK.out _ w (Below.refl _ _) rfl (fun h => by cases h))
        try simp only [f1]
        go_simp
        try (first | done | rfl | (simp; done))
      refine StepsP.cons ?_ ?_
      · intro Q s w hC hA K hK
        obtain ⟨hsz, hk_gb, lt_gb, hk_g17, lt_g17, hk_g18, lt_g18, hk_g19, lt_g19, hk_g20, lt_g20, hbw⟩ := hC
        obtain ⟨f1, f4, f5, -⟩ := hA
        replace f1 : (s 96) = .bool true := f1
        replace f4 : (s 99) = .int .i64 u := f4
        replace f5 : (s 100) = .int .i64 v := f5
        refine guard_on (d := 96) (want := true) (by rfl) (by rfl) ?_ ?_
        · exact f1
        refine wp_value (v := .slice (some ⟨w.heap.size, 0, none⟩) 2 2) (w1 := w.alloc (.cells #[.int .i64 u, .int .i64 v] 3)) ?_ (hK.out _ _ (bl_alloc (Below.refl _ _) _) ⟨w.heap.size, rfl, hsz, blk_new _ _⟩ (fun _ g h => fresh_alloc (by simpa [blkV] using h)))
        try simp only [f1, f4, f5]
        go_simp
        try rfl
      refine StepsP.cons ?_ ?_
      · intro Q s w hC hA K hK
        obtain ⟨hsz, hk_gb, lt_gb, hk_g17, lt_g17, hk_g18, lt_g18, hk_g19, lt_g19, hk_g20, lt_g20, hbw⟩ := hC
        obtain ⟨f1, f3, f6, -⟩ := hA
        replace f1 : (s 96) = .bool true := f1
        replace f3 : (s 98) = .pointer (some ⟨gb, 0, none⟩) := f3
        replace f6 : ∃ g6 : Nat, (s 101) = .slice (some ⟨g6, 0, none⟩) 2 2 ∧ B5 ≤ g6 ∧ w.heap[g6]? = some (.cells #[.int .i64 u, .int .i64 v] 3 (0, 0)) := f6
        refine guard_on (d := 96) (want := true) (by rfl) (by rfl) ?_ ?_
        · exact f1
        obtain ⟨g6, a_g6, c_g6, hk_g6⟩ := f6
        refine wp_call (N := some 102) (by rfl) Try.func17 (by kernel_rfl) #[.pointer (some ⟨gb, 0, none⟩), .slice (some ⟨g6, 0, none⟩) 2 2] rfl (by rfl) ?_ ?_
        · show [s 98, s 101] = [.pointer (some ⟨gb, 0, none⟩), .slice (some ⟨g6, 0, none⟩) 2 2]
          first | rfl | simp only [f1, f3, a_g6]
        refine (Add_calls (some ⟨gb, 0, none⟩) (some ⟨g6, 0, none⟩) [u, v] 2 false _ (AccAt.blk hk_gb) (RdI.of_blk (l := [u, v]) hk_g6 (by simp)) hiu).mono ?_
        rintro e w1 ⟨rfl, hb⟩
        refine ⟨_, rfl, ?_⟩
        rw [hp5.out, P2, orCell_false] at hb
        rw [hp4.out]
        exact hK.out _ _ hb rfl (fun h => by cases h)
      refine StepsP.cons ?_ ?_
      · intro Q s w hC hA K hK
        obtain ⟨hsz, hk_gb, lt_gb, hk_g17, lt_g17, hk_g18, lt_g18, hk_g19, lt_g19, hk_g20, lt_g20, hbw⟩ := hC
        obtain ⟨f1, f2, f7, -⟩ := hA
        replace f1 : (s 96) = .bool true := f1
        replace f2 : (s 97) = .agg #[.int .i64 p1, .int .i64 p2] := f2
        replace f7 : (s 102) = .int .i64 p4 := f7
        refine guard_on (d := 96) (want := true) (by rfl) (by rfl) ?_ ?_
        · exact f1
        refine wp_call (N := some 103) (by rfl) Try.func12 (by kernel_rfl) #[.agg #[.int .i64 p1, .int .i64 p2], .int .i64 p4] rfl (by rfl) ?_ ?_
        · show [s 97, s 102] = [.agg #[.int .i64 p1, .int .i64 p2], .int .i64 p4]
          first | rfl | simp only [f1, f2, f7]
        refine (Has_calls _ _ _ _).mono ?_
        rintro e w1 ⟨rfl, hb⟩
        refine ⟨_, rfl, ?_⟩
        rw [P1]
        exact hK.out _ _ hb rfl (fun h => by cases h)
      refine StepsP.cons ?_ ?_
      · intro Q s w hC hA K hK
        clear hC
        obtain ⟨f1, f8, -⟩ := hA
        replace f1 : (s 96) = .bool true := f1
        replace f8 : (s 103) = .bool true := f8
        refine guard_none (by rfl) ?_
        refine wp_value (v := .bool true) (w1 := w) ?_ (hK.out _ w (Below.refl _ _) rfl (fun h => by cases h))
        try simp only [f1, f8]
        go_simp
        try (first | done | rfl | (simp; done))
      refine StepsP.cons ?_ ?_
      · intro Q s w hC hA K hK
        clear hC
        obtain ⟨f9, -⟩ := hA
        replace f9 : (s 104) = .bool true := f9
        refine guard_none (by rfl) ?_
        refine wp_value (v := .bool true) (w1 := w) ?_ (hK.out _ w (Below.refl _ _) rfl (fun h => by cases h))
        try simp only [f9]
        go_simp
        try (first | done | rfl | (simp; done))
      refine StepsP.cons ?_ ?_
      · intro Q s w hC hA K hK
        obtain ⟨hsz, hk_gb, lt_gb, hk_g17, lt_g17, hk_g18, lt_g18, hk_g19, lt_g19, hk_g20, lt_g20, hbw⟩ := hC
        obtain ⟨f10, -⟩ := hA
        replace f10 : (s 105) = .bool true := f10
        refine guard_on (d := 105) (want := true) (by rfl) (by rfl) ?_ ?_
        · exact f10
        have m0_g18 : w.cell? ⟨g18, 0, none⟩ = some (.int .i64 m1) := blk_cell hk_g18 0 (by rfl)
        have m1_g18 : w.cell? ⟨g18, 1, none⟩ = some (.int .i64 m2) := blk_cell hk_g18 1 (by rfl)
        refine wp_value (v := .agg #[.int .i64 m1, .int .i64 m2]) (w1 := w) ?_ (hK.out _ w (Below.refl _ _) rfl (fun h => by cases h))
        try simp only [f10]
        go_simp
        try (first | done | rfl | (simp; done))
      refine StepsP.cons ?_ ?_
      · intro Q s w hC hA K hK
        clear hC
        obtain ⟨f10, -⟩ := hA
        replace f10 : (s 105) = .bool true := f10
        refine guard_on (d := 105) (want := true) (by rfl) (by rfl) ?_ ?_
        · exact f10
        refine wp_value (v := .pointer (some ⟨gb, 0, none⟩)) (w1 := w) ?_ (hK.out _ w (Below.refl _ _) rfl (fun h => by cases h))
        try simp only [f10]
        go_simp
        try (first | done | rfl | (simp; done))
      refine StepsP.cons ?_ ?_
      · intro Q s w hC hA K hK
        clear hC
        obtain ⟨f10, -⟩ := hA
        replace f10 : (s 105) = .bool true := f10
        refine guard_on (d := 105) (want := true) (by rfl) (by rfl) ?_ ?_
        · exact f10
        refine wp_value (v := .int .i64 u) (w1 := w) ?_ (hK.out _ w (Below.refl _ _) rfl (fun h => by cases h))
        try simp only [f10]
        go_simp
        try (first | done | rfl | (simp; done))
      refine StepsP.cons ?_ ?_
      · intro Q s w hC hA K hK
        clear hC
        obtain ⟨f10, -⟩ := hA
        replace f10 : (s 105) = .bool true := f10
        refine guard_on (d := 105) (want := true) (by rfl) (by rfl) ?_ ?_
        · exact f10
        refine wp_value (v := .int .i64 v) (w1 := w) ?_ (hK.out _ w (Below.refl _ _) rfl (fun h => by cases h))
        try simp only [f10]
        go_simp
        try (first | done | rfl | (simp; done))
      refine StepsP.cons ?_ ?_
      · intro Q s w hC hA K hK
        obtain ⟨hsz, hk_gb, lt_gb, hk_g17, lt_g17, hk_g18, lt_g18, hk_g19, lt_g19, hk_g20, lt_g20, hbw⟩ := hC
        obtain ⟨f10, f12, f13, f14, -⟩ := hA
        replace f10 : (s 105) = .bool true := f10
        replace f12 : (s 107) = .pointer (some ⟨gb, 0, none⟩) := f12
        replace f13 : (s 108) = .int .i64 u := f13
        replace f14 : (s 109) = .int .i64 v := f14
        refine guard_on (d := 105) (want := true) (by rfl) (by rfl) ?_ ?_
        · exact f10
        refine wp_call (N := some 110) (by rfl) Try.func19 (by kernel_rfl) #[.pointer (some ⟨gb, 0, none⟩), .int .i64 u, .int .i64 v] rfl (by rfl) ?_ ?_
        · show [s 107, s 108, s 109] = [.pointer (some ⟨gb, 0, none⟩), .int .i64 u, .int .i64 v]
          first | rfl | simp only [f10, f12, f13, f14]
        refine (Sub_calls (some ⟨gb, 0, none⟩) u v false _ (AccAt.blk hk_gb) hu0 hu1 hv0 hv1).mono ?_
        rintro e w1 ⟨rfl, hb⟩
        refine ⟨_, rfl, ?_⟩
        rw [hm5.out, M2, orCell_false] at hb
        rw [hm4.out]
        exact hK.out _ _ hb rfl (fun h => by cases h)
      refine StepsP.cons ?_ ?_
      · intro Q s w hC hA K hK
        obtain ⟨hsz, hk_gb, lt_gb, hk_g17, lt_g17, hk_g18, lt_g18, hk_g19, lt_g19, hk_g20, lt_g20, hbw⟩ := hC
        obtain ⟨f10, f11, f15, -⟩ := hA
        replace f10 : (s 105) = .bool true := f10
        replace f11 : (s 106) = .agg #[.int .i64 m1, .int .i64 m2] := f11
        replace f15 : (s 110) = .int .i64 m4 := f15
        refine guard_on (d := 105) (want := true) (by rfl) (by rfl) ?_ ?_
        · exact f10
        refine wp_call (N := some 111) (by rfl) Try.func12 (by kernel_rfl) #[.agg #[.int .i64 m1, .int .i64 m2], .int .i64 m4] rfl (by rfl) ?_ ?_
        · show [s 106, s 110] = [.agg #[.int .i64 m1, .int .i64 m2], .int .i64 m4]
          first | rfl | simp only [f10, f11, f15]
        refine (Has_calls _ _ _ _).mono ?_
        rintro e w1 ⟨rfl, hb⟩
        refine ⟨_, rfl, ?_⟩
        rw [M1]
        exact hK.out _ _ hb rfl (fun h => by cases h)
      refine StepsP.cons ?_ ?_
      · intro Q s w hC hA K hK
        clear hC
        obtain ⟨f10, f16, -⟩ := hA
        replace f10 : (s 105) = .bool true := f10
        replace f16 : (s 111) = .bool true := f16
        refine guard_none (by rfl) ?_
        refine wp_value (v := .bool true) (w1 := w) ?_ (hK.out _ w (Below.refl _ _) rfl (fun h => by cases h))
        try simp only [f10, f16]
        go_simp
        try (first | done | rfl | (simp; done))
      refine StepsP.cons ?_ ?_
      · intro Q s w hC hA K hK
        clear hC
        obtain ⟨f17, -⟩ := hA
        replace f17 : (s 112) = .bool true := f17
        refine guard_none (by rfl) ?_
        refine wp_value (v := .bool true) (w1 := w) ?_ (hK.out _ w (Below.refl _ _) rfl (fun h => by cases h))
        try simp only [f17]
        go_simp
        try (first | done | rfl | (simp; done))
      refine StepsP.cons ?_ ?_
      · intro Q s w hC hA K hK
        obtain ⟨hsz, hk_gb, lt_gb, hk_g17, lt_g17, hk_g18, lt_g18, hk_g19, lt_g19, hk_g20, lt_g20, hbw⟩ := hC
        obtain ⟨f18, -⟩ := hA
        replace f18 : (s 113) = .bool true := f18
        refine guard_on (d := 113) (want := true) (by rfl) (by rfl) ?_ ?_
        · exact f18
        have m0_g19 : w.cell? ⟨g19, 0, none⟩ = some (.int .i64 t1) := blk_cell hk_g19 0 (by rfl)
        have m1_g19 : w.cell? ⟨g19, 1, none⟩ = some (.int .i64 t2) := blk_cell hk_g19 1 (by rfl)
        refine wp_value (v := .agg #[.int .i64 t1, .int .i64 t2]) (w1 := w) ?_ (hK.out _ w (Below.refl _ _) rfl (fun h => by cases h))
        try simp only [f18]
        go_simp
        try (first | done | rfl | (simp; done))
      refine StepsP.cons ?_ ?_
      · intro Q s w hC hA K hK
        clear hC
        obtain ⟨f18, -⟩ := hA
        replace f18 : (s 113) = .bool true := f18
        refine guard_on (d := 113) (want := true) (by rfl) (by rfl) ?_ ?_
        · exact f18
        refine wp_value (v := .pointer (some ⟨gb, 0, none⟩)) (w1 := w) ?_ (hK.out _ w (Below.refl _ _) rfl (fun h => by cases h))
        try simp only [f18]
        go_simp
        try (first | done | rfl | (simp; done))
      refine StepsP.cons ?_ ?_
      · intro Q s w hC hA K hK
        clear hC
        obtain ⟨f18, -⟩ := hA
        replace f18 : (s 113) = .bool true := f18
        refine guard_on (d := 113) (want := true) (by rfl) (by rfl) ?_ ?_
        · exact f18
        refine wp_value (v := .int .i64 u) (w1 := w) ?_ (hK.out _ w (Below.refl _ _) rfl (fun h => by cases h))
        try simp only [f18]
        go_simp
        try (first | done | rfl | (simp; done))
      refine StepsP.cons ?_ ?_
      · intro Q s w hC hA K hK
        clear hC
        obtain ⟨f18, -⟩ := hA
        replace f18 : (s 113) = .bool true := f18
        refine guard_on (d := 113) (want := true) (by rfl) (by rfl) ?_ ?_
        · exact f18
        refine wp_value (v := .int .i64 c) (w1 := w) ?_ (hK.out _ w (Below.refl _ _) rfl (fun h => by cases h))
        try simp only [f18]
        go_simp
        try (first | done | rfl | (simp; done))
      refine StepsP.cons ?_ ?_
      · intro Q s w hC hA K hK
        obtain ⟨hsz, hk_gb, lt_gb, hk_g17, lt_g17, hk_g18, lt_g18, hk_g19, lt_g19, hk_g20, lt_g20, hbw⟩ := hC
        obtain ⟨f18, f20, f21, f22, -⟩ := hA
        replace f18 : (s 113) = .bool true := f18
        replace f20 : (s 115) = .pointer (some ⟨gb, 0, none⟩) := f20
        replace f21 : (s 116) = .int .i64 u := f21
        replace f22 : (s 117) = .int .i64 c := f22
        refine guard_on (d := 113) (want := true) (by rfl) (by rfl) ?_ ?_
        · exact f18
        refine wp_call (N := some 118) (by rfl) Try.func37 (by kernel_rfl) #[.pointer (some ⟨gb, 0, none⟩), .int .i64 u, .int .i64 c, .bool false] rfl (by rfl) ?_ ?_
        · show [s 115, s 116, s 117, .bool false] = [.pointer (some ⟨gb, 0, none⟩), .int .i64 u, .int .i64 c, .bool false]
          first | rfl | simp only [f18, f20, f21, f22]
        refine (Mul_calls (some ⟨gb, 0, none⟩) u c false false _ (AccAt.blk hk_gb) hu0 hu1 hc0 hc1).mono ?_
        rintro e w1 ⟨rfl, hb⟩
        refine ⟨_, rfl, ?_⟩
        rw [ht5.out, T2, orCell_false] at hb
        rw [ht4.out]
        exact hK.out _ _ hb rfl (fun h => by cases h)
      refine StepsP.cons ?_ ?_
      · intro Q s w hC hA K hK
        obtain ⟨hsz, hk_gb, lt_gb, hk_g17, lt_g17, hk_g18, lt_g18, hk_g19, lt_g19, hk_g20, lt_g20, hbw⟩ := hC
        obtain ⟨f18, f19, f23, -⟩ := hA
        replace f18 : (s 113) = .bool true := f18
        replace f19 : (s 114) = .agg #[.int .i64 t1, .int .i64 t2] := f19
        replace f23 : (s 118) = .int .i64 t4 := f23
        refine guard_on (d := 113) (want := true) (by rfl) (by rfl) ?_ ?_
        · exact f18
        refine wp_call (N := some 119) (by rfl) Try.func12 (by kernel_rfl) #[.agg #[.int .i64 t1, .int .i64 t2], .int .i64 t4] rfl (by rfl) ?_ ?_
        · show [s 114, s 118] = [.agg #[.int .i64 t1, .int .i64 t2], .int .i64 t4]
          first | rfl | simp only [f18, f19, f23]
        refine (Has_calls _ _ _ _).mono ?_
        rintro e w1 ⟨rfl, hb⟩
        refine ⟨_, rfl, ?_⟩
        rw [T1]
        exact hK.out _ _ hb rfl (fun h => by cases h)
      refine StepsP.cons ?_ ?_
      · intro Q s w hC hA K hK
        clear hC
        obtain ⟨f18, f24, -⟩ := hA
        replace f18 : (s 113) = .bool true := f18
        replace f24 : (s 119) = .bool true := f24
        refine guard_none (by rfl) ?_
        refine wp_value (v := .bool true) (w1 := w) ?_ (hK.out _ w (Below.refl _ _) rfl (fun h => by cases h))
        try simp only [f18, f24]
        go_simp
        try (first | done | rfl | (simp; done))
      refine StepsP.cons ?_ ?_
      · intro Q s w hC hA K hK
        clear hC
        obtain ⟨f25, -⟩ := hA
        replace f25 : (s 120) = .bool true := f25
        refine guard_none (by rfl) ?_
        refine wp_value (v := .bool true) (w1 := w) ?_ (hK.out _ w (Below.refl _ _) rfl (fun h => by cases h))
        try simp only [f25]
        go_simp
        try (first | done | rfl | (simp; done))
      refine StepsP.cons ?_ ?_
      · intro Q s w hC hA K hK
        obtain ⟨hsz, hk_gb, lt_gb, hk_g17, lt_g17, hk_g18, lt_g18, hk_g19, lt_g19, hk_g20, lt_g20, hbw⟩ := hC
        obtain ⟨f26, -⟩ := hA
        replace f26 : (s 121) = .bool true := f26
        refine guard_on (d := 121) (want := true) (by rfl) (by rfl) ?_ ?_
        · exact f26
        have m0_g19 : w.cell? ⟨g19, 0, none⟩ = some (.int .i64 t1) := blk_cell hk_g19 0 (by rfl)
        have m1_g19 : w.cell? ⟨g19, 1, none⟩ = some (.int .i64 t2) := blk_cell hk_g19 1 (by rfl)
        refine wp_value (v := .agg #[.int .i64 t1, .int .i64 t2]) (w1 := w) ?_ (hK.out _ w (Below.refl _ _) rfl (fun h => by cases h))
        try simp only [f26]
        go_simp
        try (first | done | rfl | (simp; done))
      refine StepsP.cons ?_ ?_
      · intro Q s w hC hA K hK
        clear hC
        obtain ⟨f26, -⟩ := hA
        replace f26 : (s 121) = .bool true := f26
        refine guard_on (d := 121) (want := true) (by rfl) (by rfl) ?_ ?_
        · exact f26
        refine wp_value (v := .pointer (some ⟨gb, 0, none⟩)) (w1 := w) ?_ (hK.out _ w (Below.refl _ _) rfl (fun h => by cases h))
        try simp only [f26]
        go_simp
        try (first | done | rfl | (simp; done))
      refine StepsP.cons ?_ ?_
      · intro Q s w hC hA K hK
        clear hC
        obtain ⟨f26, -⟩ := hA
        replace f26 : (s 121) = .bool true := f26
        refine guard_on (d := 121) (want := true) (by rfl) (by rfl) ?_ ?_
        · exact f26
        refine wp_value (v := .int .i64 u) (w1 := w) ?_ (hK.out _ w (Below.refl _ _) rfl (fun h => by cases h))
        try simp only [f26]
        go_simp
        try (first | done | rfl | (simp; done))
      refine StepsP.cons ?_ ?_
      · intro Q s w hC hA K hK
        clear hC
        obtain ⟨f26, -⟩ := hA
        replace f26 : (s 121) = .bool true := f26
        refine guard_on (d := 121) (want := true) (by rfl) (by rfl) ?_ ?_
        · exact f26
        refine wp_value (v := .int .i64 c) (w1 := w) ?_ (hK.out _ w (Below.refl _ _) rfl (fun h => by cases h))
        try simp only [f26]
        go_simp
        try (first | done | rfl | (simp; done))
      refine StepsP.cons ?_ ?_
      · intro Q s w hC hA K hK
        obtain ⟨hsz, hk_gb, lt_gb, hk_g17, lt_g17, hk_g18, lt_g18, hk_g19, lt_g19, hk_g20, lt_g20, hbw⟩ := hC
        obtain ⟨f26, f28, f29, f30, -⟩ := hA
        replace f26 : (s 121) = .bool true := f26
        replace f28 : (s 123) = .pointer (some ⟨gb, 0, none⟩) := f28
        replace f29 : (s 124) = .int .i64 u := f29
        replace f30 : (s 125) = .int .i64 c := f30
        refine guard_on (d := 121) (want := true) (by rfl) (by rfl) ?_ ?_
        · exact f26
        refine wp_call (N := some 126) (by rfl) Try.func37 (by kernel_rfl) #[.pointer (some ⟨gb, 0, none⟩), .int .i64 u, .int .i64 c, .bool true] rfl (by rfl) ?_ ?_
        · show [s 123, s 124, s 125, .bool true] = [.pointer (some ⟨gb, 0, none⟩), .int .i64 u, .int .i64 c, .bool true]
          first | rfl | simp only [f26, f28, f29, f30]
        refine (Mul_calls (some ⟨gb, 0, none⟩) u c true false _ (AccAt.blk hk_gb) hu0 hu1 hc0 hc1).mono ?_
        rintro e w1 ⟨rfl, hb⟩
        refine ⟨_, rfl, ?_⟩
        rw [ht7.out, T4, orCell_false] at hb
        rw [ht6.out]
        exact hK.out _ _ hb rfl (fun h => by cases h)
      refine StepsP.cons ?_ ?_
      · intro Q s w hC hA K hK
        obtain ⟨hsz, hk_gb, lt_gb, hk_g17, lt_g17, hk_g18, lt_g18, hk_g19, lt_g19, hk_g20, lt_g20, hbw⟩ := hC
        obtain ⟨f26, f27, f31, -⟩ := hA
        replace f26 : (s 121) = .bool true := f26
        replace f27 : (s 122) = .agg #[.int .i64 t1, .int .i64 t2] := f27
        replace f31 : (s 126) = .int .i64 t6 := f31
        refine guard_on (d := 121) (want := true) (by rfl) (by rfl) ?_ ?_
        · exact f26
        refine wp_call (N := some 127) (by rfl) Try.func12 (by kernel_rfl) #[.agg #[.int .i64 t1, .int .i64 t2], .int .i64 t6] rfl (by rfl) ?_ ?_
        · show [s 122, s 126] = [.agg #[.int .i64 t1, .int .i64 t2], .int .i64 t6]
          first | rfl | simp only [f26, f27, f31]
        refine (Has_calls _ _ _ _).mono ?_
        rintro e w1 ⟨rfl, hb⟩
        refine ⟨_, rfl, ?_⟩
        rw [T3]
        exact hK.out _ _ hb rfl (fun h => by cases h)
      refine StepsP.cons ?_ ?_
      · intro Q s w hC hA K hK
        clear hC
        obtain ⟨f26, f32, -⟩ := hA
        replace f26 : (s 121) = .bool true := f26
        replace f32 : (s 127) = .bool true := f32
        refine guard_none (by rfl) ?_
        refine wp_value (v := .bool true) (w1 := w) ?_ (hK.out _ w (Below.refl _ _) rfl (fun h => by cases h))
        try simp only [f26, f32]
        go_simp
        try (first | done | rfl | (simp; done))
      refine StepsP.cons ?_ ?_
      · intro Q s w hC hA K hK
        clear hC
        obtain ⟨f33, -⟩ := hA
        replace f33 : (s 128) = .bool true := f33
        refine guard_none (by rfl) ?_
        refine wp_value (v := .bool true) (w1 := w) ?_ (hK.out _ w (Below.refl _ _) rfl (fun h => by cases h))
        try simp only [f33]
        go_simp
        try (first | done | rfl | (simp; done))
      refine StepsP.cons ?_ ?_
      · intro Q s w hC hA K hK
        obtain ⟨hsz, hk_gb, lt_gb, hk_g17, lt_g17, hk_g18, lt_g18, hk_g19, lt_g19, hk_g20, lt_g20, hbw⟩ := hC
        obtain ⟨f34, -⟩ := hA
        replace f34 : (s 129) = .bool true := f34
        refine guard_on (d := 129) (want := true) (by rfl) (by rfl) ?_ ?_
        · exact f34
        have m0_g20 : w.cell? ⟨g20, 0, none⟩ = some (.int .i64 q1) := blk_cell hk_g20 0 (by rfl)
        have m1_g20 : w.cell? ⟨g20, 1, none⟩ = some (.int .i64 q2) := blk_cell hk_g20 1 (by rfl)
        refine wp_value (v := .agg #[.int .i64 q1, .int .i64 q2]) (w1 := w) ?_ (hK.out _ w (Below.refl _ _) rfl (fun h => by cases h))
        try simp only [f34]
        go_simp
        try (first | done | rfl | (simp; done))
      refine StepsP.cons ?_ ?_
      · intro Q s w hC hA K hK
        clear hC
        obtain ⟨f34, -⟩ := hA
        replace f34 : (s 129) = .bool true := f34
        refine guard_on (d := 129) (want := true) (by rfl) (by rfl) ?_ ?_
        · exact f34
        refine wp_value (v := .pointer (some ⟨gb, 0, none⟩)) (w1 := w) ?_ (hK.out _ w (Below.refl _ _) rfl (fun h => by cases h))
        try simp only [f34]
        go_simp
        try (first | done | rfl | (simp; done))
      refine StepsP.cons ?_ ?_
      · intro Q s w hC hA K hK
        clear hC
        obtain ⟨f34, -⟩ := hA
        replace f34 : (s 129) = .bool true := f34
        refine guard_on (d := 129) (want := true) (by rfl) (by rfl) ?_ ?_
        · exact f34
        refine wp_value (v := .int .i64 u) (w1 := w) ?_ (hK.out _ w (Below.refl _ _) rfl (fun h => by cases h))
        try simp only [f34]
        go_simp
        try (first | done | rfl | (simp; done))
      refine StepsP.cons ?_ ?_
      · intro Q s w hC hA K hK
        clear hC
        obtain ⟨f34, -⟩ := hA
        replace f34 : (s 129) = .bool true := f34
        refine guard_on (d := 129) (want := true) (by rfl) (by rfl) ?_ ?_
        · exact f34
        refine wp_value (v := .int .i64 v) (w1 := w) ?_ (hK.out _ w (Below.refl _ _) rfl (fun h => by cases h))
        try simp only [f34]
        go_simp
        try (first | done | rfl | (simp; done))
      refine StepsP.cons ?_ ?_
      · intro Q s w hC hA K hK
        obtain ⟨hsz, hk_gb, lt_gb, hk_g17, lt_g17, hk_g18, lt_g18, hk_g19, lt_g19, hk_g20, lt_g20, hbw⟩ := hC
        obtain ⟨f34, f36, f37, f38, -⟩ := hA
        replace f34 : (s 129) = .bool true := f34
        replace f36 : (s 131) = .pointer (some ⟨gb, 0, none⟩) := f36
        replace f37 : (s 132) = .int .i64 u := f37
        replace f38 : (s 133) = .int .i64 v := f38
        refine guard_on (d := 129) (want := true) (by rfl) (by rfl) ?_ ?_
        · exact f34
        refine wp_call (N := some 134) (by rfl) Try.func37 (by kernel_rfl) #[.pointer (some ⟨gb, 0, none⟩), .int .i64 u, .int .i64 v, .bool false] rfl (by rfl) ?_ ?_
        · show [s 131, s 132, s 133, .bool false] = [.pointer (some ⟨gb, 0, none⟩), .int .i64 u, .int .i64 v, .bool false]
          first | rfl | simp only [f34, f36, f37, f38]
        refine (Mul_calls (some ⟨gb, 0, none⟩) u v false false _ (AccAt.blk hk_gb) hu0 hu1 hv0 hv1).mono ?_
        rintro e w1 ⟨rfl, hb⟩
        refine ⟨_, rfl, ?_⟩
        rw [hq5.out, C2, orCell_false] at hb
        rw [hq4.out]
        exact hK.out _ _ hb rfl (fun h => by cases h)
      refine StepsP.cons ?_ ?_
      · intro Q s w hC hA K hK
        obtain ⟨hsz, hk_gb, lt_gb, hk_g17, lt_g17, hk_g18, lt_g18, hk_g19, lt_g19, hk_g20, lt_g20, hbw⟩ := hC
        obtain ⟨f34, f35, f39, -⟩ := hA
        replace f34 : (s 129) = .bool true := f34
        replace f35 : (s 130) = .agg #[.int .i64 q1, .int .i64 q2] := f35
        replace f39 : (s 134) = .int .i64 q4 := f39
        refine guard_on (d := 129) (want := true) (by rfl) (by rfl) ?_ ?_
        · exact f34
        refine wp_call (N := some 135) (by rfl) Try.func12 (by kernel_rfl) #[.agg #[.int .i64 q1, .int .i64 q2], .int .i64 q4] rfl (by rfl) ?_ ?_
        · show [s 130, s 134] = [.agg #[.int .i64 q1, .int .i64 q2], .int .i64 q4]
          first | rfl | simp only [f34, f35, f39]
        refine (Has_calls _ _ _ _).mono ?_
        rintro e w1 ⟨rfl, hb⟩
        refine ⟨_, rfl, ?_⟩
        rw [C1]
        exact hK.out _ _ hb rfl (fun h => by cases h)
      refine StepsP.cons ?_ ?_
      · intro Q s w hC hA K hK
        clear hC
        obtain ⟨f34, f40, -⟩ := hA
        replace f34 : (s 129) = .bool true := f34
        replace f40 : (s 135) = .bool true := f40
        refine guard_none (by rfl) ?_
        refine wp_value (v := .bool true) (w1 := w) ?_ (hK.out _ w (Below.refl _ _) rfl (fun h => by cases h))
        try simp only [f34, f40]
        go_simp
        try (first | done | rfl | (simp; done))
      refine StepsP.cons ?_ ?_
      · intro Q s w hC hA K hK
        clear hC
        obtain ⟨f41, -⟩ := hA
        replace f41 : (s 136) = .bool true := f41
        refine guard_none (by rfl) ?_
        refine wp_value (v := .bool true) (w1 := w) ?_ (hK.out _ w (Below.refl _ _) rfl (fun h => by cases h))
        try simp only [f41]
        go_simp
        try (first | done | rfl | (simp; done))
      refine StepsP.cons ?_ ?_
      · intro Q s w hC hA K hK
        obtain ⟨hsz, hk_gb, lt_gb, hk_g17, lt_g17, hk_g18, lt_g18, hk_g19, lt_g19, hk_g20, lt_g20, hbw⟩ := hC
        obtain ⟨f42, -⟩ := hA
        replace f42 : (s 137) = .bool true := f42
        refine guard_on (d := 137) (want := true) (by rfl) (by rfl) ?_ ?_
        · exact f42
        have m0_g20 : w.cell? ⟨g20, 0, none⟩ = some (.int .i64 q1) := blk_cell hk_g20 0 (by rfl)
        have m1_g20 : w.cell? ⟨g20, 1, none⟩ = some (.int .i64 q2) := blk_cell hk_g20 1 (by rfl)
        refine wp_value (v := .agg #[.int .i64 q1, .int .i64 q2]) (w1 := w) ?_ (hK.out _ w (Below.refl _ _) rfl (fun h => by cases h))
        try simp only [f42]
        go_simp
        try (first | done | rfl | (simp; done))
      refine StepsP.cons ?_ ?_
      · intro Q s w hC hA K hK
        clear hC
        obtain ⟨f42, -⟩ := hA
        replace f42 : (s 137) = .bool true := f42
        refine guard_on (d := 137) (want := true) (by rfl) (by rfl) ?_ ?_
        · exact f42
        refine wp_value (v := .pointer (some ⟨gb, 0, none⟩)) (w1 := w) ?_ (hK.out _ w (Below.refl _ _) rfl (fun h => by cases h))
        try simp only [f42]
        go_simp
        try (first | done | rfl | (simp; done))
      refine StepsP.cons ?_ ?_
      · intro Q s w hC hA K hK
        clear hC
        obtain ⟨f42, -⟩ := hA
        replace f42 : (s 137) = .bool true := f42
        refine guard_on (d := 137) (want := true) (by rfl) (by rfl) ?_ ?_
        · exact f42
        refine wp_value (v := .int .i64 u) (w1 := w) ?_ (hK.out _ w (Below.refl _ _) rfl (fun h => by cases h))
        try simp only [f42]
        go_simp
        try (first | done | rfl | (simp; done))
      refine StepsP.cons ?_ ?_
      · intro Q s w hC hA K hK
        clear hC
        obtain ⟨f42, -⟩ := hA
        replace f42 : (s 137) = .bool true := f42
        refine guard_on (d := 137) (want := true) (by rfl) (by rfl) ?_ ?_
        · exact f42
        refine wp_value (v := .int .i64 v) (w1 := w) ?_ (hK.out _ w (Below.refl _ _) rfl (fun h => by cases h))
        try simp only [f42]
        go_simp
        try (first | done | rfl | (simp; done))
      refine StepsP.cons ?_ ?_
      · intro Q s w hC hA K hK
        obtain ⟨hsz, hk_gb, lt_gb, hk_g17, lt_g17, hk_g18, lt_g18, hk_g19, lt_g19, hk_g20, lt_g20, hbw⟩ := hC
        obtain ⟨f42, f44, f45, f46, -⟩ := hA
        replace f42 : (s 137) = .bool true := f42
        replace f44 : (s 139) = .pointer (some ⟨gb, 0, none⟩) := f44
        replace f45 : (s 140) = .int .i64 u := f45
        replace f46 : (s 141) = .int .i64 v := f46
        refine guard_on (d := 137) (want := true) (by rfl) (by rfl) ?_ ?_
        · exact f42
        refine wp_call (N := some 142) (by rfl) Try.func37 (by kernel_rfl) #[.pointer (some ⟨gb, 0, none⟩), .int .i64 u, .int .i64 v, .bool true] rfl (by rfl) ?_ ?_
        · show [s 139, s 140, s 141, .bool true] = [.pointer (some ⟨gb, 0, none⟩), .int .i64 u, .int .i64 v, .bool true]
          first | rfl | simp only [f42, f44, f45, f46]
        refine (Mul_calls (some ⟨gb, 0, none⟩) u v true false _ (AccAt.blk hk_gb) hu0 hu1 hv0 hv1).mono ?_
        rintro e w1 ⟨rfl, hb⟩
        refine ⟨_, rfl, ?_⟩
        rw [hq7.out, C4, orCell_false] at hb
        rw [hq6.out]
        exact hK.out _ _ hb rfl (fun h => by cases h)
      refine StepsP.cons ?_ ?_
      · intro Q s w hC hA K hK
        obtain ⟨hsz, hk_gb, lt_gb, hk_g17, lt_g17, hk_g18, lt_g18, hk_g19, lt_g19, hk_g20, lt_g20, hbw⟩ := hC
        obtain ⟨f42, f43, f47, -⟩ := hA
        replace f42 : (s 137) = .bool true := f42
        replace f43 : (s 138) = .agg #[.int .i64 q1, .int .i64 q2] := f43
        replace f47 : (s 142) = .int .i64 q6 := f47
        refine guard_on (d := 137) (want := true) (by rfl) (by rfl) ?_ ?_
        · exact f42
        refine wp_call (N := some 143) (by rfl) Try.func12 (by kernel_rfl) #[.agg #[.int .i64 q1, .int .i64 q2], .int .i64 q6] rfl (by rfl) ?_ ?_
        · show [s 138, s 142] = [.agg #[.int .i64 q1, .int .i64 q2], .int .i64 q6]
          first | rfl | simp only [f42, f43, f47]
        refine (Has_calls _ _ _ _).mono ?_
        rintro e w1 ⟨rfl, hb⟩
        refine ⟨_, rfl, ?_⟩
        rw [C3]
        exact hK.out _ _ hb rfl (fun h => by cases h)
      refine StepsP.cons ?_ ?_
      · intro Q s w hC hA K hK
        clear hC
        obtain ⟨f42, f48, -⟩ := hA
        replace f42 : (s 137) = .bool true := f42
        replace f48 : (s 143) = .bool true := f48
        refine guard_none (by rfl) ?_
        refine wp_value (v := .bool true) (w1 := w) ?_ (hK.out _ w (Below.refl _ _) rfl (fun h => by cases h))
        try simp only [f42, f48]
        go_simp
        try (first | done | rfl | (simp; done))
      refine StepsP.cons ?_ ?_
      · intro Q s w hC hA K hK
        clear hC
        obtain ⟨f49, -⟩ := hA
        replace f49 : (s 144) = .bool true := f49
        refine guard_none (by rfl) ?_
        refine wp_value (v := .bool true) (w1 := w) ?_ (hK.out _ w (Below.refl _ _) rfl (fun h => by cases h))
        try simp only [f49]
        go_simp
        try (first | done | rfl | (simp; done))
      refine StepsP.cons ?_ ?_
      · intro Q s w hC hA K hK
        clear hC
        obtain ⟨f50, -⟩ := hA
        replace f50 : (s 145) = .bool true := f50
        refine guard_on (d := 145) (want := true) (by rfl) (by rfl) ?_ ?_
        · exact f50
        refine wp_value (v := .pointer (some ⟨gb, 0, none⟩)) (w1 := w) ?_ (hK.out _ w (Below.refl _ _) rfl (fun h => by cases h))
        try simp only [f50]
        go_simp
        try (first | done | rfl | (simp; done))
      refine StepsP.cons ?_ ?_
      · intro Q s w hC hA K hK
        clear hC
        obtain ⟨f50, f51, -⟩ := hA
        replace f50 : (s 145) = .bool true := f50
        replace f51 : (s 146) = .pointer (some ⟨gb, 0, none⟩) := f51
        refine guard_on (d := 145) (want := true) (by rfl) (by rfl) ?_ ?_
        · exact f50
        refine wp_value (v := .pointer (some ⟨gb, 0, none⟩)) (w1 := w) ?_ (hK.out _ w (Below.refl _ _) rfl (fun h => by cases h))
        try simp only [f50, f51]
        go_simp
        try (first | done | rfl | (simp; done))
      refine StepsP.cons ?_ ?_
      · intro Q s w hC hA K hK
        clear hC
        obtain ⟨f50, f52, -⟩ := hA
        replace f50 : (s 145) = .bool true := f50
        replace f52 : (s 147) = .pointer (some ⟨gb, 0, none⟩) := f52
        refine guard_on (d := 145) (want := true) (by rfl) (by rfl) ?_ ?_
        · exact f50
        refine wp_value (v := .pointer (some ⟨gb, 0, none⟩)) (w1 := w) ?_ (hK.out _ w (Below.refl _ _) rfl (fun h => by cases h))
        try simp only [f50, f52]
        go_simp
        try (first | done | rfl | (simp; done))
      refine StepsP.cons ?_ ?_
      · intro Q s w hC hA K hK
        obtain ⟨hsz, hk_gb, lt_gb, hk_g17, lt_g17, hk_g18, lt_g18, hk_g19, lt_g19, hk_g20, lt_g20, hbw⟩ := hC
        obtain ⟨f50, f53, -⟩ := hA
        replace f50 : (s 145) = .bool true := f50
        replace f53 : (s 148) = .pointer (some ⟨gb, 0, none⟩) := f53
        refine guard_on (d := 145) (want := true) (by rfl) (by rfl) ?_ ?_
        · exact f50
        have m0_gb : w.cell? ⟨gb, 0, none⟩ = some (.bool false) := blk_cell hk_gb 0 (by rfl)
        refine wp_value (v := .bool false) (w1 := w) ?_ (hK.out _ w (Below.refl _ _) rfl (fun h => by cases h))
        try simp only [f50, f53]
        go_simp
        try (first | done | rfl | (simp; done))
      refine StepsP.cons ?_ ?_
      · intro Q s w hC hA K hK
        clear hC
        obtain ⟨f50, f54, -⟩ := hA
        replace f50 : (s 145) = .bool true := f50
        replace f54 : (s 149) = .bool false := f54
        refine guard_on (d := 145) (want := true) (by rfl) (by rfl) ?_ ?_
        · exact f50
        refine wp_value (v := .bool true) (w1 := w) ?_ (hK.out _ w (Below.refl _ _) rfl (fun h => by cases h))
        try simp only [f50, f54]
        go_simp
        try (first | done | rfl | (simp; done))
      refine StepsP.cons ?_ ?_
      · intro Q s w hC hA K hK
        clear hC
        obtain ⟨f50, f55, -⟩ := hA
        replace f50 : (s 145) = .bool true := f50
        replace f55 : (s 150) = .bool true := f55
        refine guard_none (by rfl) ?_
        refine wp_value (v := .bool true) (w1 := w) ?_ (hK.out _ w (Below.refl _ _) rfl (fun h => by cases h))
        try simp only [f50, f55]
        go_simp
        try (first | done | rfl | (simp; done))
      refine StepsP.cons ?_ ?_
      · intro Q s w hC hA K hK
        clear hC
        obtain ⟨f56, -⟩ := hA
        replace f56 : (s 151) = .bool true := f56
        refine guard_none (by rfl) ?_
        refine wp_value (v := .bool true) (w1 := w) ?_ (hK.out _ w (Below.refl _ _) rfl (fun h => by cases h))
        try simp only [f56]
        go_simp
        try (first | done | rfl | (simp; done))
      exact StepsP.nil
    obtain ⟨hsz, hk_gb, lt_gb, hk_g17, lt_g17, hk_g18, lt_g18, hk_g19, lt_g19, hk_g20, lt_g20, hbw⟩ := hC
    obtain ⟨f57, -⟩ := hA
    replace f57 : (s 10) = .bool true := f57
    refine act_eq (b' := ?b5) ?h5 ?q5
    case h5 => simp only [f57]; rfl
    go_wp2
    go_ret
    subst hw0
    exact ⟨rfl, hbw⟩
  · go_wp2_with fail
    refine (alive_calls _).mono ?_
    rintro e w9 ⟨rfl, hb9⟩
    go_wp2
    go_ret
    subst hw0
    exact ⟨rfl, bl_step hbw hb9⟩
theorem SpanHolds_walk (xl xh yl yh c i j : Int) (w : World) (hx0 : -9223372036854775808 ≤ xl) (hx1 : xl ≤ 9223372036854775807) (hx2 : -9223372036854775808 ≤ xh) (hx3 : xh ≤ 9223372036854775807) (hy0 : -9223372036854775808 ≤ yl) (hy1 : yl ≤ 9223372036854775807) (hy2 : -9223372036854775808 ≤ yh) (hy3 : yh ≤ 9223372036854775807) (hc0 : -9223372036854775808 ≤ c) (hc1 : c ≤ 9223372036854775807) :
    Calls Try.prog 10 #[.agg #[.int .i64 (xl), .int .i64 (xh)], .agg #[.int .i64 (yl), .int .i64 (yh)], .int .i64 c, .int .i64 i, .int .i64 j] w fun e w' => e = .returned (.bool true) ∧ Below w.heap.size w w' := by
  by_cases hex : xh < xl
  · exact SpanHolds_empty xl xh yl yh c i j w (by rw [someB_cons]; simp [hex]) (Or.inl hex)
  · by_cases hey : yh < yl
    · exact SpanHolds_empty xl xh yl yh c i j w (by rw [someB_cons, someB_cons]; simp [hey]) (Or.inr hey)
    · exact SpanHolds_full xl xh yl yh c i j w hex hey hx0 hx1 hx2 hx3 hy0 hy1 hy2 hy3 hc0 hc1
end Go.Proofs.Ytljkhfookegmaaa
