/- Proved here: lemmas and contracts (what a function of the program computes) that the proofs of the laws of this seat lean on. Conditions: as each theorem states. -/
import Derived.Test.YthdaidmjjcmccaaPl5
set_option linter.unusedVariables false
set_option linter.unusedSimpArgs false
namespace Go.Proofs.Ythdaidmjjcmccaa
open Go.RowKit Go.Pk Go.Proofs.YthdaidmjjcmccaaW.PrintLast
set_option maxHeartbeats 8000000 in
set_option maxRecDepth 100000 in
theorem New_long (q : PA) (p : Pl) (w : World) (hq : q.rd w p) (hl : longP p = false) : Calls Try.prog 15 #[.agg (q.cells p).toArray] w fun e w' => e = .returned (.tuple #[.pointer none, .int .i64 1]) ∧ Below w.heap.size w w' := by
  have hlong := hidI (fun W (hW : q.rd W p) => long_calls q p W hW)
  rw [hl] at hlong
  obtain ⟨aA, cA, aB, cB, aW, cW, aI, cI, aS, cS, aG, cG⟩ := q
  unfold PA.cells at hlong ⊢
  obtain ⟨il, hil⟩ : ∃ z, p.inp.lo = z := ⟨_, rfl⟩
  obtain ⟨ih, hih⟩ : ∃ z, p.inp.hi = z := ⟨_, rfl⟩
  obtain ⟨bi, hbi⟩ : ∃ z, p.bias = z := ⟨_, rfl⟩
  simp only [hil, hih, hbi] at hlong ⊢
  go_enter Try.func15, Try.ntmps15
  go_wp2_with fail
  refine (hlong.out _ (hq.below (bl_alloc (Below.refl _ _) _))).mono ?_
  rintro e w1 ⟨rfl, hb1⟩
  go_wp2
  go_ret2
  exact ⟨rfl, bl_step (bl_alloc (Below.refl _ _) _) hb1⟩
set_option maxHeartbeats 8000000 in
set_option maxRecDepth 100000 in
theorem New_some (q : PA) (p : Pl) (w : World) (hq : q.rd w p) (hin : InP p) (hl : longP p = true) : Calls Try.prog 15 #[.agg (q.cells p).toArray] w fun e w' => Below w.heap.size w w' ∧ (wrongP p = true → e = .returned (.tuple #[.pointer none, .int .i64 42])) ∧ (wrongP p = false → ∃ g, e = .returned (.tuple #[.pointer (some ⟨g, 0, none⟩), .int .i64 0]) ∧ KitAt w' g 116 p ∧ w.heap.size ≤ g) := by
  have hlong := hidI (fun W (hW : q.rd W p) => long_calls q p W hW)
  rw [hl] at hlong
  have hlen : 1 ≤ p.B.length ∧ p.B.length ≤ 3 ∧ p.A.length = p.B.length ∧ (∀ l ∈ p.A, l.length = p.B.length) ∧ p.W.length = p.B.length ∧ p.Inv.length = p.B.length ∧ p.Safe.length = p.B.length ∧ p.gain.length = p.B.length := by
    unfold longP at hl
    simpa [and_assoc] using hl
  replace hlen := hidI hlen
  clear hl
  obtain ⟨aA, cA, aB, cB, aW, cW, aI, cI, aS, cS, aG, cG⟩ := q
  unfold PA.cells at hlong ⊢
  obtain ⟨il, hil⟩ : ∃ z, p.inp.lo = z := ⟨_, rfl⟩
  obtain ⟨ih, hih⟩ : ∃ z, p.inp.hi = z := ⟨_, rfl⟩
  obtain ⟨bi, hbi⟩ : ∃ z, p.bias = z := ⟨_, rfl⟩
  simp only [hil, hih, hbi] at hlong ⊢
  obtain ⟨w0, hw0⟩ : ∃ z : World, z = w := ⟨_, rfl⟩
  rw [← hw0] at hq
  go_enter Try.func15, Try.ntmps15
  go_wp2_with fail
  have hk_g1 := blk_new w (.cells #[.slice aA p.A.length cA, .slice aB p.B.length cB, .int .i64 il, .int .i64 ih, .slice aW p.W.length cW, .slice aI p.Inv.length cI, .slice aS p.Safe.length cS, .slice aG p.gain.length cG, .int .i64 bi] 28)
  have hbw := bl_alloc (Below.refl w.heap.size w) (.cells #[.slice aA p.A.length cA, .slice aB p.B.length cB, .int .i64 il, .int .i64 ih, .slice aW p.W.length cW, .slice aI p.Inv.length cI, .slice aS p.Safe.length cS, .slice aG p.gain.length cG, .int .i64 bi] 28)
  refine (hlong.out _ ((hw0 ▸ hq).below hbw)).mono ?_
  rintro e w1 ⟨rfl, hb1⟩
  replace hk_g1 := bl_block hb1 hk_g1
  replace hbw := bl_step hbw hb1
  rw [← hw0] at hbw
  obtain ⟨g1, hg1⟩ : ∃ g, w.heap.size = g := ⟨_, rfl⟩
  rw [hg1] at hk_g1
  rw [hg1]
  clear hg1 hb1
  go_upto_region 3 with fail
  clear hlong
  have hrd0 := hq
  obtain ⟨hA, hB, hW, hI, hS, hG, kA, kB, kW, kI, kS, kG⟩ := hq
  simp only [] at hA hB hW hI hS hG kA kB kW kI kS kG
  replace hrd0 := hidI hrd0
  obtain ⟨b0, hb0⟩ : ∃ b, Hid (decide (ih < il) = b) := ⟨_, rfl⟩
  obtain ⟨b1, hb1⟩ : ∃ b, Hid (p.W.any emptyB = b) := ⟨_, rfl⟩
  obtain ⟨b2, hb2⟩ : ∃ b, Hid (p.Inv.any emptyB = b) := ⟨_, rfl⟩
  obtain ⟨B0, hB0⟩ : ∃ B, B = w1.heap.size := ⟨_, rfl⟩
  have c0_hsz : B0 ≤ w1.heap.size := Nat.le_of_eq hB0
  have hw0B0 : w0.heap.size ≤ B0 := by rw [hB0]; exact hbw.size
  have c0_hle : w1.heap.size ≤ B0 := Nat.le_of_eq hB0.symm
  have c0_hk_g1 := hk_g1
  have c0_lt_g1 : g1 < B0 := by rw [hB0]; exact blk_lt hk_g1
  have c0_hbw := hbw
  clear hB0 hbw hk_g1
  refine region_lin (n := 14) (st := ?st5) { R := [0, 1, 3, 7, 15, 31, 63, 127, 255, 511, 1023, 2047, 4095, 8191], kill := [[], [], [], [], [], [], [], [], [], [], [], [], [], []], cls := [0, 0, 0, 0, 0, 0, 0, 0, 0, 0, 0, 0, 0, 0], dst := [some 12, some 13, some 14, some 15, some 16, some 17, some 18, some 19, some 20, some 21, some 22, some 23, some 24, some 4], pre := [[], [0], [1], [2], [3], [3, 4], [3, 5], [3, 6], [7], [8], [8, 9], [8, 10], [8, 11], [12]], cov := [], fin := [13], locs := [], tgt := [none], abt := [none, none, none, none, none, none, none, none, none, none, none, none, none, none] }
    [.v [12] (fun vs => (vs.getD 0 undef) = .pointer (some ⟨g1, 2, none⟩)),
     .v [13] (fun vs => (vs.getD 0 undef) = .agg #[.int .i64 il, .int .i64 ih]),
     .v [14] (fun vs => (vs.getD 0 undef) = .bool b0),
     .v [15] (fun vs => (vs.getD 0 undef) = .bool b0),
     .v [16] (fun vs => ((!b0) = true → (vs.getD 0 undef) = .pointer (some ⟨g1, 4, none⟩)) ∧ ((!b0) = false → (vs.getD 0 undef) = undef)),
     .v [17] (fun vs => ((!b0) = true → (vs.getD 0 undef) = .slice aW p.W.length cW) ∧ ((!b0) = false → (vs.getD 0 undef) = undef)),
     .v [18] (fun vs => ((!b0) = true → (vs.getD 0 undef) = .bool b1) ∧ ((!b0) = false → (vs.getD 0 undef) = undef)),
     .v [19] (fun vs => (vs.getD 0 undef) = .bool (b0 || b1)),
     .v [20] (fun vs => (vs.getD 0 undef) = .bool (b0 || b1)),
     .v [21] (fun vs => ((!(b0 || b1)) = true → (vs.getD 0 undef) = .pointer (some ⟨g1, 5, none⟩)) ∧ ((!(b0 || b1)) = false → (vs.getD 0 undef) = undef)),
     .v [22] (fun vs => ((!(b0 || b1)) = true → (vs.getD 0 undef) = .slice aI p.Inv.length cI) ∧ ((!(b0 || b1)) = false → (vs.getD 0 undef) = undef)),
     .v [23] (fun vs => ((!(b0 || b1)) = true → (vs.getD 0 undef) = .bool b2) ∧ ((!(b0 || b1)) = false → (vs.getD 0 undef) = undef)),
     .v [24] (fun vs => (vs.getD 0 undef) = .bool ((b0 || b1) || b2)),
     .v [4] (fun vs => (vs.getD 0 undef) = .bool ((b0 || b1) || b2))]
    (fun w => B0 ≤ w.heap.size ∧ w.heap[g1]? = some (.cells #[.slice aA p.A.length cA, .slice aB p.B.length cB, .int .i64 il, .int .i64 ih, .slice aW p.W.length cW, .slice aI p.Inv.length cI, .slice aS p.Safe.length cS, .slice aG p.gain.length cG, .int .i64 bi] 28 (0, 0)) ∧ g1 < B0 ∧ Below w0.heap.size w0 w)
    (fun c => ([fun s w w' => Below w.heap.size w w'] : List ((Nat → Value) → World → World → Prop)).getD c (fun s w w' => w' = w))
    [4, 12, 13, 14, 15, 16, 17, 18, 19, 20, 21, 22, 23, 24] (by kernel_rfl) ⟨by kernel_rfl, by kernel_rfl, by kernel_rfl, by kernel_rfl, by kernel_rfl, by kernel_rfl, by kernel_rfl, by kernel_rfl⟩ (fun s => ?_) ?_ ?_ ?_ ?_ ?_ (fun s w hC hA => ?_)
  rotate_left
  · simp only [fillS, List.foldl, List.setIfInBounds_toArray, List.set_cons_zero, List.set_cons_succ]; rfl
  · exact ⟨c0_hsz, c0_hk_g1, c0_lt_g1, c0_hbw⟩
  · intro c s w w' hE
    match c, hE with
    | 0, hE => exact Below.size hE
    | c + 1, hE => cases hE; exact Nat.le_refl _
  · rintro c s w w' ⟨hsz, hk_g1, lt_g1, hbw⟩ hE
    match c, hE with
    | 0, hE => replace hE : Below w.heap.size w w' := hE; exact ⟨Nat.le_trans hsz hE.size, bl_block hE hk_g1, lt_g1, bl_step hbw hE⟩
    | c + 1, hE => cases hE; exact ⟨hsz, hk_g1, lt_g1, hbw⟩
  · exact trivial
  · skip
    refine StepsP.cons ?_ ?_
    · intro Q s w hC hA K hK
      clear hC
      clear hA
      refine guard_none (by rfl) ?_
      refine wp_value (v := .pointer (some ⟨g1, 2, none⟩)) (w1 := w) ?_ (hK.out _ w (Below.refl _ _) rfl (fun h => by cases h))
      go_simp
      try (first | done | rfl | (simp; done))
    refine StepsP.cons ?_ ?_
    · intro Q s w hC hA K hK
      obtain ⟨hsz, hk_g1, lt_g1, hbw⟩ := hC
      obtain ⟨f0, -⟩ := hA
      replace f0 : (s 12) = .pointer (some ⟨g1, 2, none⟩) := f0
      refine guard_none (by rfl) ?_
      have m0_g1 : w.cell? ⟨g1, 0, none⟩ = some (.slice aA p.A.length cA) := blk_cell hk_g1 0 (by rfl)
      have m1_g1 : w.cell? ⟨g1, 1, none⟩ = some (.slice aB p.B.length cB) := blk_cell hk_g1 1 (by rfl)
      have m2_g1 : w.cell? ⟨g1, 2, none⟩ = some (.int .i64 il) := blk_cell hk_g1 2 (by rfl)
      have m3_g1 : w.cell? ⟨g1, 3, none⟩ = some (.int .i64 ih) := blk_cell hk_g1 3 (by rfl)
      have m4_g1 : w.cell? ⟨g1, 4, none⟩ = some (.slice aW p.W.length cW) := blk_cell hk_g1 4 (by rfl)
      have m5_g1 : w.cell? ⟨g1, 5, none⟩ = some (.slice aI p.Inv.length cI) := blk_cell hk_g1 5 (by rfl)
      have m6_g1 : w.cell? ⟨g1, 6, none⟩ = some (.slice aS p.Safe.length cS) := blk_cell hk_g1 6 (by rfl)
      have m7_g1 : w.cell? ⟨g1, 7, none⟩ = some (.slice aG p.gain.length cG) := blk_cell hk_g1 7 (by rfl)
      have m8_g1 : w.cell? ⟨g1, 8, none⟩ = some (.int .i64 bi) := blk_cell hk_g1 8 (by rfl)
      refine wp_value (v := .agg #[.int .i64 il, .int .i64 ih]) (w1 := w) ?_ (hK.out _ w (Below.refl _ _) rfl (fun h => by cases h))
      try simp only [f0]
      go_simp
      try (first | done | rfl | (simp; done))
    refine StepsP.cons ?_ ?_
    · intro Q s w hC hA K hK
      obtain ⟨hsz, hk_g1, lt_g1, hbw⟩ := hC
      obtain ⟨f1, -⟩ := hA
      replace f1 : (s 13) = .agg #[.int .i64 il, .int .i64 ih] := f1
      refine guard_none (by rfl) ?_
      refine wp_call (N := some 14) (by rfl) Try.func56 (by kernel_rfl) #[.agg #[.int .i64 il, .int .i64 ih]] rfl (by rfl) ?_ ?_
      · show [s 13] = [.agg #[.int .i64 il, .int .i64 ih]]
        first | rfl | simp only [f1]
      refine (Empty_calls il ih _).mono ?_
      rintro e w1 ⟨rfl, hb⟩
      refine ⟨_, rfl, ?_⟩
      rw [hb0.out]
      exact hK.out _ _ hb rfl (fun h => by cases h)
    refine StepsP.cons ?_ ?_
    · intro Q s w hC hA K hK
      clear hC
      obtain ⟨f2, -⟩ := hA
      replace f2 : (s 14) = .bool b0 := f2
      refine guard_none (by rfl) ?_
      refine wp_value (v := .bool b0) (w1 := w) ?_ (hK.out _ w (Below.refl _ _) rfl (fun h => by cases h))
      try simp only [f2]
      go_simp
      try (first | done | rfl | (simp; done))
    refine StepsP.cons ?_ ?_
    · intro Q s w hC hA K hK
      clear hC
      obtain ⟨f3, -⟩ := hA
      replace f3 : (s 15) = .bool b0 := f3
      cases hc : (!b0)
      · refine guard_off (d := 15) (want := false) (by rfl) (by rfl) ?_ ?_
        · show s 15 ≠ .bool false
          · intro h_
            rw [f3] at h_; injection h_ with h_; rw [Bool.eq_false_iff] at hc; exact hc (by (first | (simp only [h_, Bool.and_true, Bool.true_and, Bool.not_true, Bool.not_false, Bool.and_self]; done) | simp_all))
        exact hK.out _ w (Below.refl _ _) ⟨fun h_ => (by rw [hc] at h_; cases h_), fun _ => rfl⟩ (fun _ g h => by cases h)
      · refine guard_on (d := 15) (want := false) (by rfl) (by rfl) ?_ ?_
        · exact (f3).trans (by rw [show b0 = false by (first | (simp only [Bool.and_eq_true, Bool.not_eq_true', Bool.not_eq_false'] at hc; simp only [hc, Bool.and_true, Bool.true_and, Bool.not_true, Bool.not_false, Bool.and_self]; done) | (simp only [hc, Bool.and_true, Bool.true_and, Bool.not_true, Bool.not_false, Bool.and_self]; done) | simp_all)])
        refine wp_value (v := .pointer (some ⟨g1, 4, none⟩)) (w1 := w) ?_ (hK.out _ w (Below.refl _ _) ⟨fun _ => rfl, fun h_ => (by rw [hc] at h_; cases h_)⟩ (fun h => by cases h))
        try simp only [f3]
        go_simp
        try (first | done | rfl | (simp; done))
    refine StepsP.cons ?_ ?_
    · intro Q s w hC hA K hK
      obtain ⟨hsz, hk_g1, lt_g1, hbw⟩ := hC
      obtain ⟨f3, f4, -⟩ := hA
      replace f3 : (s 15) = .bool b0 := f3
      replace f4 : ((!b0) = true → (s 16) = .pointer (some ⟨g1, 4, none⟩)) ∧ ((!b0) = false → (s 16) = undef) := f4
      cases hc : (!b0)
      · refine guard_off (d := 15) (want := false) (by rfl) (by rfl) ?_ ?_
        · show s 15 ≠ .bool false
          · intro h_
            rw [f3] at h_; injection h_ with h_; rw [Bool.eq_false_iff] at hc; exact hc (by (first | (simp only [h_, Bool.and_true, Bool.true_and, Bool.not_true, Bool.not_false, Bool.and_self]; done) | simp_all))
        exact hK.out _ w (Below.refl _ _) ⟨fun h_ => (by rw [hc] at h_; cases h_), fun _ => rfl⟩ (fun _ g h => by cases h)
      · refine guard_on (d := 15) (want := false) (by rfl) (by rfl) ?_ ?_
        · exact (f3).trans (by rw [show b0 = false by (first | (simp only [Bool.and_eq_true, Bool.not_eq_true', Bool.not_eq_false'] at hc; simp only [hc, Bool.and_true, Bool.true_and, Bool.not_true, Bool.not_false, Bool.and_self]; done) | (simp only [hc, Bool.and_true, Bool.true_and, Bool.not_true, Bool.not_false, Bool.and_self]; done) | simp_all)])
        replace f4 := f4.1 (by exact hc)
        have m0_g1 : w.cell? ⟨g1, 0, none⟩ = some (.slice aA p.A.length cA) := blk_cell hk_g1 0 (by rfl)
        have m1_g1 : w.cell? ⟨g1, 1, none⟩ = some (.slice aB p.B.length cB) := blk_cell hk_g1 1 (by rfl)
        have m2_g1 : w.cell? ⟨g1, 2, none⟩ = some (.int .i64 il) := blk_cell hk_g1 2 (by rfl)
        have m3_g1 : w.cell? ⟨g1, 3, none⟩ = some (.int .i64 ih) := blk_cell hk_g1 3 (by rfl)
        have m4_g1 : w.cell? ⟨g1, 4, none⟩ = some (.slice aW p.W.length cW) := blk_cell hk_g1 4 (by rfl)
        have m5_g1 : w.cell? ⟨g1, 5, none⟩ = some (.slice aI p.Inv.length cI) := blk_cell hk_g1 5 (by rfl)
        have m6_g1 : w.cell? ⟨g1, 6, none⟩ = some (.slice aS p.Safe.length cS) := blk_cell hk_g1 6 (by rfl)
        have m7_g1 : w.cell? ⟨g1, 7, none⟩ = some (.slice aG p.gain.length cG) := blk_cell hk_g1 7 (by rfl)
        have m8_g1 : w.cell? ⟨g1, 8, none⟩ = some (.int .i64 bi) := blk_cell hk_g1 8 (by rfl)
        refine wp_value (v := .slice aW p.W.length cW) (w1 := w) ?_ (hK.out _ w (Below.refl _ _) ⟨fun _ => rfl, fun h_ => (by rw [hc] at h_; cases h_)⟩ (fun h => by cases h))
        try simp only [f3, f4]
        go_simp
        try (first | done | rfl | (simp; done))
    refine StepsP.cons ?_ ?_
    · intro Q s w hC hA K hK
      obtain ⟨hsz, hk_g1, lt_g1, hbw⟩ := hC
      obtain ⟨f3, f5, -⟩ := hA
      replace f3 : (s 15) = .bool b0 := f3
      replace f5 : ((!b0) = true → (s 17) = .slice aW p.W.length cW) ∧ ((!b0) = false → (s 17) = undef) := f5
      cases hc : (!b0)
      · refine guard_off (d := 15) (want := false) (by rfl) (by rfl) ?_ ?_
        · show s 15 ≠ .bool false
          · intro h_
            rw [f3] at h_; injection h_ with h_; rw [Bool.eq_false_iff] at hc; exact hc (by (first | (simp only [h_, Bool.and_true, Bool.true_and, Bool.not_true, Bool.not_false, Bool.and_self]; done) | simp_all))
        exact hK.out _ w (Below.refl _ _) ⟨fun h_ => (by rw [hc] at h_; cases h_), fun _ => rfl⟩ (fun _ g h => by cases h)
      · refine guard_on (d := 15) (want := false) (by rfl) (by rfl) ?_ ?_
        · exact (f3).trans (by rw [show b0 = false by (first | (simp only [Bool.and_eq_true, Bool.not_eq_true', Bool.not_eq_false'] at hc; simp only [hc, Bool.and_true, Bool.true_and, Bool.not_true, Bool.not_false, Bool.and_self]; done) | (simp only [hc, Bool.and_true, Bool.true_and, Bool.not_true, Bool.not_false, Bool.and_self]; done) | simp_all)])
        replace f5 := f5.1 (by exact hc)
        refine wp_call (N := some 18) (by rfl) Try.func57 (by kernel_rfl) #[.slice aW p.W.length cW, .func (.func 56) #[] #[]] rfl (by rfl) ?_ ?_
        · show [s 17, .func (.func 56) #[] #[]] = [.slice aW p.W.length cW, .func (.func 56) #[] #[]]
          first | rfl | simp only [f3, f5]
        refine (ContainsS_calls aW p.W cW _ (hW.below hbw)).mono ?_
        rintro e w1 ⟨rfl, hb⟩
        refine ⟨_, rfl, ?_⟩
        rw [hb1.out]
        exact hK.out _ _ hb ⟨fun _ => rfl, fun h_ => (by rw [hc] at h_; cases h_)⟩ (fun h => by cases h)
    refine StepsP.cons ?_ ?_
    · intro Q s w hC hA K hK
      clear hC
      obtain ⟨f3, f6, -⟩ := hA
      replace f3 : (s 15) = .bool b0 := f3
      replace f6 : ((!b0) = true → (s 18) = .bool b1) ∧ ((!b0) = false → (s 18) = undef) := f6
      refine guard_none (by rfl) ?_
      refine wp_value (v := .bool (b0 || b1)) (w1 := w) ?_ (hK.out _ w (Below.refl _ _) rfl (fun h => by cases h))
      cases ht : b0
      · have hy_ := f6.1 (by first | (simp only [Bool.and_eq_true, Bool.not_eq_true', Bool.not_eq_false'] at hc ht; simp only [hc, ht, Bool.and_true, Bool.true_and, Bool.not_true, Bool.not_false, Bool.and_self]; done) | (simp only [Bool.and_eq_true, Bool.not_eq_true', Bool.not_eq_false'] at ht; simp only [ht, Bool.and_true, Bool.true_and, Bool.not_true, Bool.not_false, Bool.and_self]; done) | (simp only [ht, Bool.and_true, Bool.true_and, Bool.not_true, Bool.not_false, Bool.and_self]; done) | simp_all)
        have hct_ : s 15 = .bool false := by rw [f3, ht]
        simp only [hct_, hy_]
        go_simp
        try simp
      · skip
        have hct_ : s 15 = .bool true := by rw [f3, ht]
        simp only [hct_]
        go_simp
        try simp
    refine StepsP.cons ?_ ?_
    · intro Q s w hC hA K hK
      clear hC
      obtain ⟨f7, -⟩ := hA
      replace f7 : (s 19) = .bool (b0 || b1) := f7
      refine guard_none (by rfl) ?_
      refine wp_value (v := .bool (b0 || b1)) (w1 := w) ?_ (hK.out _ w (Below.refl _ _) rfl (fun h => by cases h))
      try simp only [f7]
      go_simp
      try (first | done | rfl | (simp; done))
    refine StepsP.cons ?_ ?_
    · intro Q s w hC hA K hK
      clear hC
      obtain ⟨f8, -⟩ := hA
      replace f8 : (s 20) = .bool (b0 || b1) := f8
      cases hc : (!(b0 || b1))
      · refine guard_off (d := 20) (want := false) (by rfl) (by rfl) ?_ ?_
        · show s 20 ≠ .bool false
          · intro h_
            rw [f8] at h_; injection h_ with h_; rw [Bool.eq_false_iff] at hc; exact hc (by (first | (simp only [h_, Bool.and_true, Bool.true_and, Bool.not_true, Bool.not_false, Bool.and_self]; done) | simp_all))
        exact hK.out _ w (Below.refl _ _) ⟨fun h_ => (by rw [hc] at h_; cases h_), fun _ => rfl⟩ (fun _ g h => by cases h)
      · refine guard_on (d := 20) (want := false) (by rfl) (by rfl) ?_ ?_
        · exact (f8).trans (by rw [show (b0 || b1) = false by (first | (simp only [Bool.and_eq_true, Bool.not_eq_true', Bool.not_eq_false'] at hc; simp only [hc, Bool.and_true, Bool.true_and, Bool.not_true, Bool.not_false, Bool.and_self]; done) | (simp only [hc, Bool.and_true, Bool.true_and, Bool.not_true, Bool.not_false, Bool.and_self]; done) | simp_all)])
        refine wp_value (v := .pointer (some ⟨g1, 5, none⟩)) (w1 := w) ?_ (hK.out _ w (Below.refl _ _) ⟨fun _ => rfl, fun h_ => (by rw [hc] at h_; cases h_)⟩ (fun h => by cases h))
        try simp only [f8]
        go_simp
        try (first | done | rfl | (simp; done))
    refine StepsP.cons ?_ ?_
    · intro Q s w hC hA K hK
      obtain ⟨hsz, hk_g1, lt_g1, hbw⟩ := hC
      obtain ⟨f8, f9, -⟩ := hA
      replace f8 : (s 20) = .bool (b0 || b1) := f8
      replace f9 : ((!(b0 || b1)) = true → (s 21) = .pointer (some ⟨g1, 5, none⟩)) ∧ ((!(b0 || b1)) = false → (s 21) = undef) := f9
      cases hc : (!(b0 || b1))
      · refine guard_off (d := 20) (want := false) (by rfl) (by rfl) ?_ ?_
        · show s 20 ≠ .bool false
          · intro h_
            rw [f8] at h_; injection h_ with h_; rw [Bool.eq_false_iff] at hc; exact hc (by (first | (simp only [h_, Bool.and_true, Bool.true_and, Bool.not_true, Bool.not_false, Bool.and_self]; done) | simp_all))
        exact hK.out _ w (Below.refl _ _) ⟨fun h_ => (by rw [hc] at h_; cases h_), fun _ => rfl⟩ (fun _ g h => by cases h)
      · refine guard_on (d := 20) (want := false) (by rfl) (by rfl) ?_ ?_
        · exact (f8).trans (by rw [show (b0 || b1) = false by (first | (simp only [Bool.and_eq_true, Bool.not_eq_true', Bool.not_eq_false'] at hc; simp only [hc, Bool.and_true, Bool.true_and, Bool.not_true, Bool.not_false, Bool.and_self]; done) | (simp only [hc, Bool.and_true, Bool.true_and, Bool.not_true, Bool.not_false, Bool.and_self]; done) | simp_all)])
        replace f9 := f9.1 (by exact hc)
        have m0_g1 : w.cell? ⟨g1, 0, none⟩ = some (.slice aA p.A.length cA) := blk_cell hk_g1 0 (by rfl)
        have m1_g1 : w.cell? ⟨g1, 1, none⟩ = some (.slice aB p.B.length cB) := blk_cell hk_g1 1 (by rfl)
        have m2_g1 : w.cell? ⟨g1, 2, none⟩ = some (.int .i64 il) := blk_cell hk_g1 2 (by rfl)
        have m3_g1 : w.cell? ⟨g1, 3, none⟩ = some (.int .i64 ih) := blk_cell hk_g1 3 (by rfl)
        have m4_g1 : w.cell? ⟨g1, 4, none⟩ = some (.slice aW p.W.length cW) := blk_cell hk_g1 4 (by rfl)
        have m5_g1 : w.cell? ⟨g1, 5, none⟩ = some (.slice aI p.Inv.length cI) := blk_cell hk_g1 5 (by rfl)
        have m6_g1 : w.cell? ⟨g1, 6, none⟩ = some (.slice aS p.Safe.length cS) := blk_cell hk_g1 6 (by rfl)
        have m7_g1 : w.cell? ⟨g1, 7, none⟩ = some (.slice aG p.gain.length cG) := blk_cell hk_g1 7 (by rfl)
        have m8_g1 : w.cell? ⟨g1, 8, none⟩ = some (.int .i64 bi) := blk_cell hk_g1 8 (by rfl)
        refine wp_value (v := .slice aI p.Inv.length cI) (w1 := w) ?_ (hK.out _ w (Below.refl _ _) ⟨fun _ => rfl, fun h_ => (by rw [hc] at h_; cases h_)⟩ (fun h => by cases h))
        try simp only [f8, f9]
        go_simp
        try (first | done | rfl | (simp; done))
    refine StepsP.cons ?_ ?_
    · intro Q s w hC hA K hK
      obtain ⟨hsz, hk_g1, lt_g1, hbw⟩ := hC
      obtain ⟨f8, f10, -⟩ := hA
      replace f8 : (s 20) = .bool (b0 || b1) := f8
      replace f10 : ((!(b0 || b1)) = true → (s 22) = .slice aI p.Inv.length cI) ∧ ((!(b0 || b1)) = false → (s 22) = undef) := f10
      cases hc : (!(b0 || b1))
      · refine guard_off (d := 20) (want := false) (by rfl) (by rfl) ?_ ?_
        · show s 20 ≠ .bool false
          · intro h_
            rw [f8] at h_; injection h_ with h_; rw [Bool.eq_false_iff] at hc; exact hc (by (first | (simp only [h_, Bool.and_true, Bool.true_and, Bool.not_true, Bool.not_false, Bool.and_self]; done) | simp_all))
        exact hK.out _ w (Below.refl _ _) ⟨fun h_ => (by rw [hc] at h_; cases h_), fun _ => rfl⟩ (fun _ g h => by cases h)
      · refine guard_on (d := 20) (want := false) (by rfl) (by rfl) ?_ ?_
        · exact (f8).trans (by rw [show (b0 || b1) = false by (first | (simp only [Bool.and_eq_true, Bool.not_eq_true', Bool.not_eq_false'] at hc; simp only [hc, Bool.and_true, Bool.true_and, Bool.not_true, Bool.not_false, Bool.and_self]; done) | (simp only [hc, Bool.and_true, Bool.true_and, Bool.not_true, Bool.not_false, Bool.and_self]; done) | simp_all)])
        replace f10 := f10.1 (by exact hc)
        refine wp_call (N := some 23) (by rfl) Try.func57 (by kernel_rfl) #[.slice aI p.Inv.length cI, .func (.func 56) #[] #[]] rfl (by rfl) ?_ ?_
        · show [s 22, .func (.func 56) #[] #[]] = [.slice aI p.Inv.length cI, .func (.func 56) #[] #[]]
          first | rfl | simp only [f8, f10]
        refine (ContainsS_calls aI p.Inv cI _ (hI.below hbw)).mono ?_
        rintro e w1 ⟨rfl, hb⟩
        refine ⟨_, rfl, ?_⟩
        rw [hb2.out]
        exact hK.out _ _ hb ⟨fun _ => rfl, fun h_ => (by rw [hc] at h_; cases h_)⟩ (fun h => by cases h)
    refine StepsP.cons ?_ ?_
    · intro Q s w hC hA K hK
      clear hC
      obtain ⟨f8, f11, -⟩ := hA
      replace f8 : (s 20) = .bool (b0 || b1) := f8
      replace f11 : ((!(b0 || b1)) = true → (s 23) = .bool b2) ∧ ((!(b0 || b1)) = false → (s 23) = undef) := f11
      refine guard_none (by rfl) ?_
      refine wp_value (v := .bool ((b0 || b1) || b2)) (w1 := w) ?_ (hK.out _ w (Below.refl _ _) rfl (fun h => by cases h))
      cases ht : (b0 || b1)
      · have hy_ := f11.1 (by first | (simp only [Bool.and_eq_true, Bool.not_eq_true', Bool.not_eq_false'] at hc ht; simp only [hc, ht, Bool.and_true, Bool.true_and, Bool.not_true, Bool.not_false, Bool.and_self]; done) | (simp only [Bool.and_eq_true, Bool.not_eq_true', Bool.not_eq_false'] at ht; simp only [ht, Bool.and_true, Bool.true_and, Bool.not_true, Bool.not_false, Bool.and_self]; done) | (simp only [ht, Bool.and_true, Bool.true_and, Bool.not_true, Bool.not_false, Bool.and_self]; done) | simp_all)
        have hct_ : s 20 = .bool false := by rw [f8, ht]
        simp only [hct_, hy_]
        go_simp
        try simp
      · skip
        have hct_ : s 20 = .bool true := by rw [f8, ht]
        simp only [hct_]
        go_simp
        try simp
    refine StepsP.cons ?_ ?_
    · intro Q s w hC hA K hK
      clear hC
      obtain ⟨f12, -⟩ := hA
      replace f12 : (s 24) = .bool ((b0 || b1) || b2) := f12
      refine guard_none (by rfl) ?_
      refine wp_value (v := .bool ((b0 || b1) || b2)) (w1 := w) ?_ (hK.out _ w (Below.refl _ _) rfl (fun h => by cases h))
      try simp only [f12]
      go_simp
      try (first | done | rfl | (simp; done))
    exact StepsP.nil
  obtain ⟨hsz, hk_g1, lt_g1, hbw⟩ := hC
  obtain ⟨f13, -⟩ := hA
  replace f13 : (s 4) = .bool ((b0 || b1) || b2) := f13
  refine act_eq (b' := ?b5) ?h5 ?q5
  case h5 => simp only [f13]; rfl
  obtain ⟨w3, hw3⟩ : ∃ z : World, z = w := ⟨_, rfl⟩
  subst hw3
  go_upto_region 4 with fail
  obtain ⟨vs, hv0, hv1, hv2, hv3⟩ := hA.vals
  have lA : p.A.length ≤ 1000000 := by have := hlen.out; omega
  have hk_x := hk_g1
  obtain ⟨b3, hb3⟩ : ∃ b, (b0 || b1 || b2) = b := ⟨_, rfl⟩
  clear hk_g1 hsz f13 lt_g1
  generalize s 12 = t12
  generalize s 13 = t13
  generalize s 14 = t14
  generalize s 15 = t15
  generalize s 16 = t16
  generalize s 17 = t17
  generalize s 18 = t18
  generalize s 19 = t19
  generalize s 20 = t20
  generalize s 21 = t21
  generalize s 22 = t22
  generalize s 23 = t23
  generalize s 24 = t24
  clear s
  apply cutB
  intro hJ0
  · skip
    replace hk_x := blk_drew hk_x
    replace hbw := bl_drew hbw
    refine start_ (n := 9) (S := fun w' => w'.cell? ⟨g1, 0, none⟩ = some (.slice aA p.A.length cA) ∧ w'.cell? ⟨g1, 1, none⟩ = some (.slice aB p.B.length cB) ∧ w'.cell? ⟨g1, 2, none⟩ = some (.int .i64 il) ∧ w'.cell? ⟨g1, 3, none⟩ = some (.int .i64 ih) ∧ w'.cell? ⟨g1, 4, none⟩ = some (.slice aW p.W.length cW) ∧ w'.cell? ⟨g1, 5, none⟩ = some (.slice aI p.Inv.length cI) ∧ w'.cell? ⟨g1, 6, none⟩ = some (.slice aS p.Safe.length cS) ∧ w'.cell? ⟨g1, 7, none⟩ = some (.slice aG p.gain.length cG) ∧ w'.cell? ⟨g1, 8, none⟩ = some (.int .i64 bi)) (ds := []) #[false, false, false, false, false, false, false, false, false] (by kernel_rfl) rfl rfl ⟨(blk_cell hk_x 0 (by rfl)), (blk_cell hk_x 1 (by rfl)), (blk_cell hk_x 2 (by rfl)), (blk_cell hk_x 3 (by rfl)), (blk_cell hk_x 4 (by rfl)), (blk_cell hk_x 5 (by rfl)), (blk_cell hk_x 6 (by rfl)), (blk_cell hk_x 7 (by rfl)), (blk_cell hk_x 8 (by rfl))⟩ (fun hHeld => ?_)
    generalize w3.drew = wn at *
    refine pure_ (i := 0) (N := some 25) (v := ?_) (a' := ?_) #[true, false, false, false, false, false, false, false, false] rfl rfl (by kernel_rfl) (fun _ _ _ h => h) (Or.inl ⟨by rfl, ?_⟩) ?_ ?_
    rotate_left
    · intro w'
      go_simp
      with_reducible rfl
    rotate_left
    · simp only [Act.put, List.setIfInBounds_toArray, List.set_cons_zero, List.set_cons_succ, i64_w, i32_w]
      rfl
    refine pure_ (i := 3) (N := some 28) (v := ?_) (a' := ?_) #[true, false, false, true, false, false, false, false, false] rfl rfl (by kernel_rfl) (fun _ _ _ h => h) (Or.inl ⟨by rfl, ?_⟩) ?_ ?_
    rotate_left
    · intro w'
      go_simp
      with_reducible rfl
    rotate_left
    · simp only [Act.put, List.setIfInBounds_toArray, List.set_cons_zero, List.set_cons_succ, i64_w, i32_w]
      rfl
    refine pure_ (i := 8) (N := some 33) (v := ?_) (a' := ?_) #[true, false, false, true, false, false, false, false, true] rfl rfl (by kernel_rfl) (fun _ _ _ h => h) (Or.inl ⟨by rfl, ?_⟩) ?_ ?_
    rotate_left
    · intro w'
      go_simp
      with_reducible rfl
    rotate_left
    · simp only [Act.put, List.setIfInBounds_toArray, List.set_cons_zero, List.set_cons_succ, i64_w, i32_w]
      rfl
    refine take_ (i := 1) (N := some 26) (v := ?_) (a' := ?_) #[true, true, false, true, false, false, false, false, true] rfl rfl (by kernel_rfl) (fun _ _ _ h => h) (Or.inl ⟨by rfl, ?_⟩) hHeld ?_ ?_
    rotate_left
    · rintro w' ⟨s0, s1, s2, s3, s4, s5, s6, s7, s8⟩
      go_simp
      with_reducible rfl
    rotate_left
    · simp only [Act.put, List.setIfInBounds_toArray, List.set_cons_zero, List.set_cons_succ, i64_w, i32_w]
      rfl
    refine take_ (i := 4) (N := some 29) (v := ?_) (a' := ?_) #[true, true, false, true, true, false, false, false, true] rfl rfl (by kernel_rfl) (fun _ _ _ h => h) (Or.inl ⟨by rfl, ?_⟩) hHeld ?_ ?_
    rotate_left
    · rintro w' ⟨s0, s1, s2, s3, s4, s5, s6, s7, s8⟩
      go_simp
      with_reducible rfl
    rotate_left
    · simp only [Act.put, List.setIfInBounds_toArray, List.set_cons_zero, List.set_cons_succ, i64_w, i32_w]
      rfl
    refine two_ (i := 2) (j := 5) (Ni := some 27) (Nj := some 30) #[true, true, true, true, true, false, false, false, true] #[true, true, false, true, true, true, false, false, true] rfl rfl rfl rfl (by kernel_rfl) (by decide) (by decide) (fun K hK => ?_) (fun K hK => ?_)
    · skip
      refine goes_ Try.func58 (by kernel_rfl) rfl #[.slice aA p.A.length cA] (by rfl) rfl rfl (by simp only [List.map_toArray, List.map_cons, List.map_nil] <;> rfl) ?_
      refine (CloneR_calls aA p.A cA _ vs (hv1.below hbw) (by omega) hv2 lA).mono ?_
      rintro e wn ⟨v, rfl, ho, hbn⟩
      refine ⟨_, rfl, ?_⟩
      obtain ⟨A1, c1, rfl, hc1, -, -, hfr⟩ := own_rdC ho
      have nA1 : ∀ a, A1 = some a → a.block ≠ g1 := fun a ha e => by have h1 := hfr a ha; have h2 := blk_lt hk_x; omega
      replace ho := own_le ho hbw.size
      replace hk_x := bl_block hbn hk_x
      replace hbw := bl_step hbw hbn
      clear hbn hfr hc1
      clear hHeld
      refine hK.out _ _ ⟨(blk_cell hk_x 0 (by rfl)), (blk_cell hk_x 1 (by rfl)), (blk_cell hk_x 2 (by rfl)), (blk_cell hk_x 3 (by rfl)), (blk_cell hk_x 4 (by rfl)), (blk_cell hk_x 5 (by rfl)), (blk_cell hk_x 6 (by rfl)), (blk_cell hk_x 7 (by rfl)), (blk_cell hk_x 8 (by rfl))⟩ (fun hHeld => ?_)
      clear hK K
      refine norm_ (a' := ?_) ?_ ?_
      rotate_left
      · show Act.put _ (some 27) _ = _
        simp only [Act.put, List.setIfInBounds_toArray, List.set_cons_zero, List.set_cons_succ, i64_w, i32_w]
        rfl
      refine one_ (i := 5) (N := some 30) #[true, true, true, true, true, true, false, false, true] rfl rfl (by kernel_rfl) (by decide) (fun K hK => ?_)
      refine value_ (w1 := wn.alloc (.cells #[.slice aB p.B.length cB] 23)) (v := .slice (some ⟨wn.heap.size, 0, none⟩) 1 1) (by rfl) rfl ?_ ?_
      · go_simp
        try rfl
      have hk_5 := blk_new wn (.cells #[.slice aB p.B.length cB] 23)
      replace hk_x := blk_alloc hk_x (.cells #[.slice aB p.B.length cB] 23)
      replace ho := own_alloc ho (.cells #[.slice aB p.B.length cB] 23)
      replace hbw := bl_alloc hbw (.cells #[.slice aB p.B.length cB] 23)
      generalize wn.heap.size = g5 at *
      generalize wn.alloc (.cells #[.slice aB p.B.length cB] 23) = wn at *
      clear hHeld
      refine hK.out _ _ ⟨(blk_cell hk_x 0 (by rfl)), (blk_cell hk_x 1 (by rfl)), (blk_cell hk_x 2 (by rfl)), (blk_cell hk_x 3 (by rfl)), (blk_cell hk_x 4 (by rfl)), (blk_cell hk_x 5 (by rfl)), (blk_cell hk_x 6 (by rfl)), (blk_cell hk_x 7 (by rfl)), (blk_cell hk_x 8 (by rfl))⟩ (fun hHeld => ?_)
      clear hK K
      refine norm_ (a' := ?_) ?_ ?_
      rotate_left
      · show Act.put _ (some 30) _ = _
        simp only [Act.put, List.setIfInBounds_toArray, List.set_cons_zero, List.set_cons_succ, i64_w, i32_w]
        rfl
      revert hHeld
      revert hk_5
      revert nA1
      revert ho
      revert c1
      revert A1
      revert g5
      revert hk_x
      revert hbw
      revert wn
      exact Bx.out hJ0
    · skip
      refine value_ (w1 := wn.alloc (.cells #[.slice aB p.B.length cB] 23)) (v := .slice (some ⟨wn.heap.size, 0, none⟩) 1 1) (by rfl) rfl ?_ ?_
      · go_simp
        try rfl
      have hk_5 := blk_new wn (.cells #[.slice aB p.B.length cB] 23)
      replace hk_x := blk_alloc hk_x (.cells #[.slice aB p.B.length cB] 23)
      replace hbw := bl_alloc hbw (.cells #[.slice aB p.B.length cB] 23)
      generalize wn.heap.size = g5 at *
      generalize wn.alloc (.cells #[.slice aB p.B.length cB] 23) = wn at *
      clear hHeld
      refine hK.out _ _ ⟨(blk_cell hk_x 0 (by rfl)), (blk_cell hk_x 1 (by rfl)), (blk_cell hk_x 2 (by rfl)), (blk_cell hk_x 3 (by rfl)), (blk_cell hk_x 4 (by rfl)), (blk_cell hk_x 5 (by rfl)), (blk_cell hk_x 6 (by rfl)), (blk_cell hk_x 7 (by rfl)), (blk_cell hk_x 8 (by rfl))⟩ (fun hHeld => ?_)
      clear hK K
      refine norm_ (a' := ?_) ?_ ?_
      rotate_left
      · show Act.put _ (some 30) _ = _
        simp only [Act.put, List.setIfInBounds_toArray, List.set_cons_zero, List.set_cons_succ, i64_w, i32_w]
        rfl
      refine one_ (i := 2) (N := some 27) #[true, true, true, true, true, true, false, false, true] rfl rfl (by kernel_rfl) (by decide) (fun K hK => ?_)
      refine goes_ Try.func58 (by kernel_rfl) rfl #[.slice aA p.A.length cA] (by rfl) rfl rfl (by simp only [List.map_toArray, List.map_cons, List.map_nil] <;> rfl) ?_
      refine (CloneR_calls aA p.A cA _ vs (hv1.below hbw) (by omega) hv2 lA).mono ?_
      rintro e wn ⟨v, rfl, ho, hbn⟩
      refine ⟨_, rfl, ?_⟩
      obtain ⟨A1, c1, rfl, hc1, -, -, hfr⟩ := own_rdC ho
      have nA1 : ∀ a, A1 = some a → a.block ≠ g1 := fun a ha e => by have h1 := hfr a ha; have h2 := blk_lt hk_x; omega
      replace ho := own_le ho hbw.size
      replace hk_x := bl_block hbn hk_x
      replace hk_5 := bl_block hbn hk_5
      replace hbw := bl_step hbw hbn
      clear hbn hfr hc1
      clear hHeld
      refine hK.out _ _ ⟨(blk_cell hk_x 0 (by rfl)), (blk_cell hk_x 1 (by rfl)), (blk_cell hk_x 2 (by rfl)), (blk_cell hk_x 3 (by rfl)), (blk_cell hk_x 4 (by rfl)), (blk_cell hk_x 5 (by rfl)), (blk_cell hk_x 6 (by rfl)), (blk_cell hk_x 7 (by rfl)), (blk_cell hk_x 8 (by rfl))⟩ (fun hHeld => ?_)
      clear hK K
      refine norm_ (a' := ?_) ?_ ?_
      rotate_left
      · show Act.put _ (some 27) _ = _
        simp only [Act.put, List.setIfInBounds_toArray, List.set_cons_zero, List.set_cons_succ, i64_w, i32_w]
        rfl
      revert hHeld
      revert hk_5
      revert nA1
      revert ho
      revert c1
      revert A1
      revert g5
      revert hk_x
      revert hbw
      revert wn
      exact Bx.out hJ0
  · intro wn hbw hk_x g5 A1 c1 ho nA1 hk_5 hHeld
    refine one_ (i := 6) (N := some 31) #[true, true, true, true, true, true, true, false, true] rfl rfl (by kernel_rfl) (by decide) (fun K hK => ?_)
    obtain ⟨v2, w2, hrun, ho2, hg2, -⟩ := run_appRd (P := Try.prog) wn w0.heap.size 22 22 23 _ 1 _ Try.underlying22 infoR (by rfl) (by omega) (.slice A1 p.A.length c1) p.A.length vs ho (some ⟨g5, 0, none⟩) 1 1 [.slice aB p.B.length cB] (by rfl) (fun i u hi => ⟨g5, 0, rfl, by rw [Nat.zero_add, blkc hk_5]; simpa using hi⟩) (by intro u hu; simp at hu; subst hu; rfl) (by omega) (by omega) hbw.size
    obtain ⟨A2, c2, rfl, hc2, hr2, hn2, -⟩ := own_rdC ho2
    refine value_ (w1 := w2) (v := .slice A2 (p.A.length + 1) c2) (by rfl) rfl (exec_app (.tmp 27) (.tmp 30) 22 (by rfl) (by rfl) (by rfl) hrun) ?_
    replace hk_x := blk_grown hk_x hg2 (fun e => by cases A1 with | none => simp [Value.ownBlock] at e | some a => simp [Value.ownBlock] at e; exact nA1 a rfl e.symm)
    replace hbw := bl_grown hbw hg2 (own_row ho)
    clear ho ho2 hg2 hk_5 hrun
    rename_i wo_
    generalize w2 = wn at *
    clear hHeld
    refine hK.out _ _ ⟨(blk_cell hk_x 0 (by rfl)), (blk_cell hk_x 1 (by rfl)), (blk_cell hk_x 2 (by rfl)), (blk_cell hk_x 3 (by rfl)), (blk_cell hk_x 4 (by rfl)), (blk_cell hk_x 5 (by rfl)), (blk_cell hk_x 6 (by rfl)), (blk_cell hk_x 7 (by rfl)), (blk_cell hk_x 8 (by rfl))⟩ (fun hHeld => ?_)
    clear hK K
    refine norm_ (a' := ?_) ?_ ?_
    rotate_left
    · show Act.put _ (some 31) _ = _
      simp only [Act.put, List.setIfInBounds_toArray, List.set_cons_zero, List.set_cons_succ, i64_w, i32_w]
      rfl
    refine pure_ (i := 7) (N := some 32) (v := ?_) (a' := ?_) #[true, true, true, true, true, true, true, true, true] rfl rfl (by kernel_rfl) (fun _ _ _ h => h) (Or.inl ⟨by rfl, ?_⟩) ?_ ?_
    rotate_left
    · intro w'
      go_simp
      with_reducible rfl
    rotate_left
    · simp only [Act.put, List.setIfInBounds_toArray, List.set_cons_zero, List.set_cons_succ, i64_w, i32_w]
      rfl
    refine done_ (by kernel_rfl) ?_
    have hRR : RdR wn A2 (p.A ++ [p.B]) := by
      refine RdR.of (vs := vs ++ [.slice aB p.B.length cB]) (by simp; omega) hr2 (fun i hi => ?_)
      by_cases hlt : i < p.A.length
      · obtain ⟨B, c, q1, q2, q3⟩ := hv3 i hlt
        have e : (p.A ++ [p.B]).getD i [] = p.A.getD i [] := by simp [List.getD_eq_getElem?_getD, List.getElem?_append_left hlt]
        exact ⟨B, c, by rw [e, List.getElem?_append_left (by omega)]; exact q1, by rw [e]; exact q2, by rw [e]; exact q3.below hbw⟩
      · have hie : i = p.A.length := by simp at hi; omega
        subst hie
        have e : (p.A ++ [p.B]).getD p.A.length [] = p.B := by simp [List.getD_eq_getElem?_getD]
        exact ⟨aB, cB, by rw [e, ← hv0]; simp, by rw [e]; exact kB, by rw [e]; exact hB.below hbw⟩
    have hRl : (p.A ++ [p.B]).length = p.A.length + 1 := by simp
    obtain ⟨Rw, hRw⟩ : ∃ z, z = p.A ++ [p.B] := ⟨_, rfl⟩
    obtain ⟨nR, hnR⟩ : ∃ z, z = p.A.length + 1 := ⟨_, rfl⟩
    rw [← hRw] at hRR hRl
    rw [← hnR] at hRl
    have hnR2 : ((p.A.length + 1 : Nat) : Int) = (nR : Int) := by rw [hnR]
    have hnRs : nR ≤ 1000001 := by omega
    rw [← hnR]
    replace hRw := hidI hRw
    replace hnR := hidI hnR
    clear hv0 hv1 hv2 hv3 hr2 hc2 hn2 hHeld hnR2 hA
    obtain ⟨fA, hfA⟩ : ∃ f : List Int → Bool, f = fun l => l.any farI := ⟨_, rfl⟩
    have hfE : ∀ l, fA l = l.any farI := fun l => by rw [hfA]
    replace hfA := hidI hfA
    replace hRl := hidI hRl
    go_wp2
    go_loopw [4, 6, 33] (fun x y i wr => ∃ k : Nat, k ≤ nR ∧ i = .int .i64 k ∧ x = .bool (b3 || (Rw.take k).any fA) ∧ Below w0.heap.size w0 wr ∧ wr.heap[g1]? = some (.cells #[.slice aA p.A.length cA, .slice aB p.B.length cB, .int .i64 il, .int .i64 ih, .slice aW p.W.length cW, .slice aI p.Inv.length cI, .slice aS p.Safe.length cS, .slice aG p.gain.length cG, .int .i64 bi] 28 (0, 0)) ∧ RdR wr A2 Rw) (fun _ _ i _ => (nR - intOf i).toNat)
    case atStart => exact ⟨0, by omega, rfl, by rw [List.take_zero, List.any_nil, Bool.or_false, hb3], hbw, hk_x, hRR⟩
    case round =>
      clear hk_x hbw hRR
      obtain ⟨k, hk, rfl, rfl, hbw, hk_x, hRR⟩ := hrel
      by_cases hlt : k < nR
      · have hta : (Rw.take (k + 1)).any fA = ((Rw.take k).any fA || fA (Rw.getD k [])) := by
          rw [List.take_succ_eq_append_getElem (by rw [hRl.out]; exact hlt), List.any_append]; simp [List.getD_eq_getElem?_getD, List.getElem?_eq_getElem (show k < Rw.length by rw [hRl.out]; exact hlt)]
        have hfk := hfE (Rw.getD k [])
        obtain ⟨b, off, B, cB_, rfl, hc0, hcB, hrB⟩ := hRR.2 k (by rw [hRl.out]; exact hlt)
        have hd : decide ((k : Int) < (p.A.length : Int) + 1) = true := decide_eq_true (by have := hnR.out; omega)
        obtain ⟨lk, hlk⟩ : ∃ z, z = Rw.getD k [] := ⟨_, rfl⟩
        rw [← hlk] at hta hfk hc0 hcB hrB
        have hcI := hidI (fun W (hW : RdI W B lk) => ContainsI_calls B lk cB_ W hW)
        rw [← hfk] at hcI
        replace hta := hidI hta
        clear hlk hfk
        cases hbk : (b3 || (Rw.take k).any fA)
        · go_wp2_with fail
          refine (hcI.out _ hrB).mono ?_
          rintro e w4 ⟨rfl, hb4⟩
          go_wp2
          go_roundw
          case rel => exact ⟨k + 1, by omega, by go_num, by rw [hta.out, ← Bool.or_assoc, hbk, Bool.false_or, hfE], bl_step hbw hb4, bl_block hb4 hk_x, hRR.below hb4⟩
          case measure => simp [intOf]; omega
        · go_wp2
          go_roundw
          case rel => exact ⟨k + 1, by omega, by go_num, by rw [hta.out, ← Bool.or_assoc, hbk, Bool.true_or], hbw, hk_x, hRR⟩
          case measure => simp [intOf]; omega
      · have hke : k = nR := by omega
        subst hke
        have hd : decide ((k : Int) < (p.A.length : Int) + 1) = false := decide_eq_false (by have := hnR.out; omega)
        have htk : Rw.take k = Rw := List.take_of_length_le (by rw [hRl.out]; exact Nat.le_refl _)
        rw [htk]
        obtain ⟨b4, hb4⟩ : ∃ b, (b3 || Rw.any fA) = b := ⟨_, rfl⟩
        rw [hb4]
        have y4 : wr.cell? ⟨g1, 5, none⟩ = some (.slice aI p.Inv.length cI) := blk_cell hk_x 5 (by rfl)
        go_upto_region 10 with fail
        clear y4 hRR hRl hfE htk hlt hk hd hnRs
        have hIl := hI.1
        obtain ⟨w5, hw5⟩ : ∃ z : World, z = wr := ⟨_, rfl⟩
        subst hw5
        obtain ⟨zl, hzl⟩ : ∃ z, z = p.Inv.zip p.Safe := ⟨_, rfl⟩
        have hzll : Hid (zl.length = p.Inv.length) := by unfold Hid; have := hlen.out; rw [hzl, List.length_zip]; omega
        have hzat : Hid (∀ k, k < p.Inv.length → zl.getD k (⟨0, 0⟩, ⟨0, 0⟩) = (p.Inv.getD k ⟨0, 0⟩, p.Safe.getD k ⟨0, 0⟩) ∧ k < p.Safe.length) := by
          unfold Hid
          intro k hk
          have := hlen.out
          have hk2 : k < p.Safe.length := by omega
          rw [hzl]
          simp [List.getD_eq_getElem?_getD, List.getElem?_zip_eq_some, List.getElem?_eq_getElem hk, List.getElem?_eq_getElem hk2, List.getElem?_eq_getElem (show k < (p.Inv.zip p.Safe).length by rw [List.length_zip]; omega), hk2]
        replace hzl := hidI hzl
        obtain ⟨fZ, hfZ⟩ : ∃ f : Sp × Sp → Bool, f = fun q => !inS q.1 q.2 := ⟨_, rfl⟩
        have hfE : ∀ a b c d, fZ (⟨a, b⟩, ⟨c, d⟩) = !inS ⟨a, b⟩ ⟨c, d⟩ := fun a b c d => by rw [hfZ]
        replace hfZ := hidI hfZ
        go_loopw [4, 7, 8, 46] (fun x y t i wr => ∃ k : Nat, k ≤ p.Inv.length ∧ i = .int .i64 k ∧ x = .bool (b4 || (zl.take k).any fZ) ∧ Below w0.heap.size w0 wr ∧ wr.heap[g1]? = some (.cells #[.slice aA p.A.length cA, .slice aB p.B.length cB, .int .i64 il, .int .i64 ih, .slice aW p.W.length cW, .slice aI p.Inv.length cI, .slice aS p.Safe.length cS, .slice aG p.gain.length cG, .int .i64 bi] 28 (0, 0))) (fun _ _ _ i _ => (p.Inv.length - intOf i).toNat)
        case atStart => exact ⟨0, by omega, rfl, by rw [List.take_zero, List.any_nil, Bool.or_false], hbw, hk_x⟩
        case round =>
          clear hk_x hbw
          obtain ⟨k, hk, rfl, rfl, hbw, hk_x⟩ := hrel
          by_cases hlt : k < p.Inv.length
          · obtain ⟨hze, hsl⟩ := hzat.out k hlt
            have hta : (zl.take (k + 1)).any fZ = ((zl.take k).any fZ || fZ (zl.getD k (⟨0, 0⟩, ⟨0, 0⟩))) := by
              rw [List.take_succ_eq_append_getElem (by rw [hzll.out]; exact hlt), List.any_append]; simp [List.getD_eq_getElem?_getD, List.getElem?_eq_getElem (show k < zl.length by rw [hzll.out]; exact hlt)]
            rw [hze] at hta
            obtain ⟨bI, offI, rfl, hc0, hc1⟩ := (hI.below hbw).at hlt
            obtain ⟨bS, offS, rfl, hc2, hc3⟩ := (hS.below hbw).at hsl
            have hfk := hfE (p.Inv.getD k ⟨0, 0⟩).lo (p.Inv.getD k ⟨0, 0⟩).hi (p.Safe.getD k ⟨0, 0⟩).lo (p.Safe.getD k ⟨0, 0⟩).hi
            replace hta : (zl.take (k + 1)).any fZ = ((zl.take k).any fZ || fZ (⟨(p.Inv.getD k ⟨0, 0⟩).lo, (p.Inv.getD k ⟨0, 0⟩).hi⟩, ⟨(p.Safe.getD k ⟨0, 0⟩).lo, (p.Safe.getD k ⟨0, 0⟩).hi⟩)) := hta
            rw [hfk] at hta
            clear hze hfk
            generalize (p.Inv.getD k ⟨0, 0⟩).lo = n0 at *
            generalize (p.Inv.getD k ⟨0, 0⟩).hi = n1 at *
            generalize (p.Safe.getD k ⟨0, 0⟩).lo = m0 at *
            generalize (p.Safe.getD k ⟨0, 0⟩).hi = m1 at *
            replace hta := hidI hta
            have hd : decide ((k : Int) < (p.Inv.length : Int)) = true := decide_eq_true (by omega)
            have hsd : decide ((k : Int) < (p.Safe.length : Int)) = true := decide_eq_true (by omega)
            obtain ⟨bk, hbk⟩ : ∃ z, (b4 || (zl.take k).any fZ) = z := ⟨_, rfl⟩
            rw [hbk]
            go_upto_region 12 with fail
            have hk_g1 := hk_x
            have hk_g8 := blk_new wr (.cells #[.int .i64 n0, .int .i64 n1] 25)
            replace hk_g1 := blk_alloc hk_g1 (.cells #[.int .i64 n0, .int .i64 n1] 25)
            replace hbw := bl_alloc hbw (.cells #[.int .i64 n0, .int .i64 n1] 25)
            have e2 : (wr.alloc (.cells #[.int .i64 n0, .int .i64 n1] 25)).cell? ⟨bS, offS + k * 2, none⟩ = some (.int .i64 m0) := bl_cell (bl_alloc (Below.refl _ _) _) hc2
            have e3 : (wr.alloc (.cells #[.int .i64 n0, .int .i64 n1] 25)).cell? ⟨bS, offS + k * 2 + 1, none⟩ = some (.int .i64 m1) := bl_cell (bl_alloc (Below.refl _ _) _) hc3
            clear hk_x hc0 hc1 hc2 hc3
            generalize wr.alloc (.cells #[.int .i64 n0, .int .i64 n1] 25) = w6 at *
            generalize wr.heap.size = g8 at *
            have c0_e2 : w6.drew.cell? ⟨bS, offS + k * 2, none⟩ = some (.int .i64 m0) := e2
            have c0_e3 : w6.drew.cell? ⟨bS, offS + k * 2 + 1, none⟩ = some (.int .i64 m1) := e3
            clear e2 e3
            obtain ⟨B2, hB2⟩ : ∃ B, B = w6.heap.size := ⟨_, rfl⟩
            have c0_hsz : B2 ≤ w6.heap.size := Nat.le_of_eq hB2
            have hw0B2 : w0.heap.size ≤ B2 := by rw [hB2]; exact hbw.size
            have c0_hle : w6.heap.size ≤ B2 := Nat.le_of_eq hB2.symm
            have c0_hk_g1 := blk_drew hk_g1
            have c0_lt_g1 : g1 < B2 := by rw [hB2]; exact blk_lt hk_g1
            have c0_hk_g8 := blk_drew hk_g8
            have c0_lt_g8 : g8 < B2 := by rw [hB2]; exact blk_lt hk_g8
            have c0_hbw := bl_drew hbw
            clear hB2 hbw hk_g1 hk_g8
            refine region_linM (n := 12) (st := ?st6) { R := [0, 1, 3, 3, 11, 3, 59, 123, 255, 511, 1023, 2047], kill := [[], [], [], [], [], [], [], [], [], [], [], [], [11]], cls := [0, 0, 0, 0, 0, 0, 0, 0, 0, 0, 0, 0], dst := [some 51, some 52, some 53, some 54, some 55, some 56, some 57, some 58, some 59, some 60, some 61, some 4], pre := [[12], [0], [1], [1], [1, 3], [1], [1, 4, 5], [1, 6], [1, 2, 7], [1, 8], [1, 9], [10]], cov := [], fin := [11], locs := [], tgt := [none], abt := [none, none, none, none, none, none, none, none, none, none, none, none], m := 1 }
              [.v [51] (fun vs => (vs.getD 0 undef) = .bool bk),
               .v [52] (fun vs => (vs.getD 0 undef) = .bool bk),
               .v [53] (fun vs => ((!bk) = true → (vs.getD 0 undef) = .agg #[.int .i64 n0, .int .i64 n1]) ∧ ((!bk) = false → (vs.getD 0 undef) = undef)),
               .v [54] (fun vs => ((!bk) = true → (vs.getD 0 undef) = .pointer (some ⟨g1, 6, none⟩)) ∧ ((!bk) = false → (vs.getD 0 undef) = undef)),
               .v [55] (fun vs => ((!bk) = true → (vs.getD 0 undef) = .slice (some ⟨bS, offS, none⟩) p.Safe.length cS) ∧ ((!bk) = false → (vs.getD 0 undef) = undef)),
               .v [56] (fun vs => ((!bk) = true → (vs.getD 0 undef) = .int .i64 (k : Int)) ∧ ((!bk) = false → (vs.getD 0 undef) = undef)),
               .v [57] (fun vs => ((!bk) = true → (vs.getD 0 undef) = .pointer (some ⟨bS, offS + k * 2, none⟩)) ∧ ((!bk) = false → (vs.getD 0 undef) = undef)),
               .v [58] (fun vs => ((!bk) = true → (vs.getD 0 undef) = .agg #[.int .i64 m0, .int .i64 m1]) ∧ ((!bk) = false → (vs.getD 0 undef) = undef)),
               .v [59] (fun vs => ((!bk) = true → (vs.getD 0 undef) = .bool (inS ⟨n0, n1⟩ ⟨m0, m1⟩)) ∧ ((!bk) = false → (vs.getD 0 undef) = undef)),
               .v [60] (fun vs => ((!bk) = true → (vs.getD 0 undef) = .bool (!(inS ⟨n0, n1⟩ ⟨m0, m1⟩))) ∧ ((!bk) = false → (vs.getD 0 undef) = undef)),
               .v [61] (fun vs => (vs.getD 0 undef) = .bool (bk || (!(inS ⟨n0, n1⟩ ⟨m0, m1⟩)))),
               .v [4] (fun vs => (vs.getD 0 undef) = .bool (bk || (!(inS ⟨n0, n1⟩ ⟨m0, m1⟩)))),
               .v [4] (fun vs => (vs.getD 0 undef) = .bool bk)]
              (fun w => B2 ≤ w.heap.size ∧ w.heap[g1]? = some (.cells #[.slice aA p.A.length cA, .slice aB p.B.length cB, .int .i64 il, .int .i64 ih, .slice aW p.W.length cW, .slice (some ⟨bI, offI, none⟩) p.Inv.length cI, .slice (some ⟨bS, offS, none⟩) p.Safe.length cS, .slice aG p.gain.length cG, .int .i64 bi] 28 (0, 0)) ∧ g1 < B2 ∧ w.heap[g8]? = some (.cells #[.int .i64 n0, .int .i64 n1] 25 (0, 0)) ∧ g8 < B2 ∧ Below w0.heap.size w0 w ∧ w.cell? ⟨bS, offS + k * 2, none⟩ = some (.int .i64 m0) ∧ w.cell? ⟨bS, offS + k * 2 + 1, none⟩ = some (.int .i64 m1))
              (fun c => ([fun s w w' => Below w.heap.size w w'] : List ((Nat → Value) → World → World → Prop)).getD c (fun s w w' => w' = w))
              [4, 51, 52, 53, 54, 55, 56, 57, 58, 59, 60, 61] (by kernel_rfl) ⟨by kernel_rfl, by kernel_rfl, by kernel_rfl, by kernel_rfl, by kernel_rfl, by kernel_rfl, by kernel_rfl, by kernel_rfl⟩ (fun s => ?_) ?_ ?_ ?_ ?_ ?_ ?_ (fun s w hC hA => ?_)
            rotate_left
            · simp only [fillS, List.foldl, List.setIfInBounds_toArray, List.set_cons_zero, List.set_cons_succ]; rfl
            · exact ⟨c0_hsz, c0_hk_g1, c0_lt_g1, c0_hk_g8, c0_lt_g8, c0_hbw, c0_e2, c0_e3⟩
            · exact ⟨rfl, trivial⟩
            · intro c s w w' hE
              match c, hE with
              | 0, hE => exact Below.size hE
              | c + 1, hE => cases hE; exact Nat.le_refl _
            · rintro c s w w' ⟨hsz, hk_g1, lt_g1, hk_g8, lt_g8, hbw, e2, e3⟩ hE
              match c, hE with
              | 0, hE => replace hE : Below w.heap.size w w' := hE; exact ⟨Nat.le_trans hsz hE.size, bl_block hE hk_g1, lt_g1, bl_block hE hk_g8, lt_g8, bl_step hbw hE, bl_cell hE e2, bl_cell hE e3⟩
              | c + 1, hE => cases hE; exact ⟨hsz, hk_g1, lt_g1, hk_g8, lt_g8, hbw, e2, e3⟩
            · exact trivial
            · skip
              refine StepsP.cons ?_ ?_
              · intro Q s w hC hA K hK
                clear hC
                obtain ⟨f12, -⟩ := hA
                replace f12 : (s 4) = .bool bk := f12
                refine guard_none (by rfl) ?_
                refine wp_value (v := .bool bk) (w1 := w) ?_ (hK.out _ w (Below.refl _ _) rfl (fun h => by cases h))
                try simp only [f12]
                go_simp
                try (first | done | rfl | (simp; done))
              refine StepsP.cons ?_ ?_
              · intro Q s w hC hA K hK
                clear hC
                obtain ⟨f0, -⟩ := hA
                replace f0 : (s 51) = .bool bk := f0
                refine guard_none (by rfl) ?_
                refine wp_value (v := .bool bk) (w1 := w) ?_ (hK.out _ w (Below.refl _ _) rfl (fun h => by cases h))
                try simp only [f0]
                go_simp
                try (first | done | rfl | (simp; done))
              refine StepsP.cons ?_ ?_
              · intro Q s w hC hA K hK
                obtain ⟨hsz, hk_g1, lt_g1, hk_g8, lt_g8, hbw, e2, e3⟩ := hC
                obtain ⟨f1, -⟩ := hA
                replace f1 : (s 52) = .bool bk := f1
                cases hc : (!bk)
                · refine guard_off (d := 52) (want := false) (by rfl) (by rfl) ?_ ?_
                  · show s 52 ≠ .bool false
                    · intro h_
                      rw [f1] at h_; injection h_ with h_; rw [Bool.eq_false_iff] at hc; exact hc (by (first | (simp only [h_, Bool.and_true, Bool.true_and, Bool.not_true, Bool.not_false, Bool.and_self]; done) | simp_all))
                  exact hK.out _ w (Below.refl _ _) ⟨fun h_ => (by rw [hc] at h_; cases h_), fun _ => rfl⟩ (fun _ g h => by cases h)
                · refine guard_on (d := 52) (want := false) (by rfl) (by rfl) ?_ ?_
                  · exact (f1).trans (by rw [show bk = false by (first | (simp only [Bool.and_eq_true, Bool.not_eq_true', Bool.not_eq_false'] at hc; simp only [hc, Bool.and_true, Bool.true_and, Bool.not_true, Bool.not_false, Bool.and_self]; done) | (simp only [hc, Bool.and_true, Bool.true_and, Bool.not_true, Bool.not_false, Bool.and_self]; done) | simp_all)])
                  have m0_g8 : w.cell? ⟨g8, 0, none⟩ = some (.int .i64 n0) := blk_cell hk_g8 0 (by rfl)
                  have m1_g8 : w.cell? ⟨g8, 1, none⟩ = some (.int .i64 n1) := blk_cell hk_g8 1 (by rfl)
                  refine wp_value (v := .agg #[.int .i64 n0, .int .i64 n1]) (w1 := w) ?_ (hK.out _ w (Below.refl _ _) ⟨fun _ => rfl, fun h_ => (by rw [hc] at h_; cases h_)⟩ (fun h => by cases h))
                  try simp only [f1]
                  go_simp
                  try (first | done | rfl | (simp; done))
              refine StepsP.cons ?_ ?_
              · intro Q s w hC hA K hK
                clear hC
                obtain ⟨f1, -⟩ := hA
                replace f1 : (s 52) = .bool bk := f1
                cases hc : (!bk)
                · refine guard_off (d := 52) (want := false) (by rfl) (by rfl) ?_ ?_
                  · show s 52 ≠ .bool false
                    · intro h_
                      rw [f1] at h_; injection h_ with h_; rw [Bool.eq_false_iff] at hc; exact hc (by (first | (simp only [h_, Bool.and_true, Bool.true_and, Bool.not_true, Bool.not_false, Bool.and_self]; done) | simp_all))
                  exact hK.out _ w (Below.refl _ _) ⟨fun h_ => (by rw [hc] at h_; cases h_), fun _ => rfl⟩ (fun _ g h => by cases h)
                · refine guard_on (d := 52) (want := false) (by rfl) (by rfl) ?_ ?_
                  · exact (f1).trans (by rw [show bk = false by (first | (simp only [Bool.and_eq_true, Bool.not_eq_true', Bool.not_eq_false'] at hc; simp only [hc, Bool.and_true, Bool.true_and, Bool.not_true, Bool.not_false, Bool.and_self]; done) | (simp only [hc, Bool.and_true, Bool.true_and, Bool.not_true, Bool.not_false, Bool.and_self]; done) | simp_all)])
                  refine wp_value (v := .pointer (some ⟨g1, 6, none⟩)) (w1 := w) ?_ (hK.out _ w (Below.refl _ _) ⟨fun _ => rfl, fun h_ => (by rw [hc] at h_; cases h_)⟩ (fun h => by cases h))
                  try simp only [f1]
                  go_simp
                  try (first | done | rfl | (simp; done))
              refine StepsP.cons ?_ ?_
              · intro Q s w hC hA K hK
                obtain ⟨hsz, hk_g1, lt_g1, hk_g8, lt_g8, hbw, e2, e3⟩ := hC
                obtain ⟨f1, f3, -⟩ := hA
                replace f1 : (s 52) = .bool bk := f1
                replace f3 : ((!bk) = true → (s 54) = .pointer (some ⟨g1, 6, none⟩)) ∧ ((!bk) = false → (s 54) = undef) := f3
                cases hc : (!bk)
                · refine guard_off (d := 52) (want := false) (by rfl) (by rfl) ?_ ?_
                  · show s 52 ≠ .bool false
                    · intro h_
                      rw [f1] at h_; injection h_ with h_; rw [Bool.eq_false_iff] at hc; exact hc (by (first | (simp only [h_, Bool.and_true, Bool.true_and, Bool.not_true, Bool.not_false, Bool.and_self]; done) | simp_all))
                  exact hK.out _ w (Below.refl _ _) ⟨fun h_ => (by rw [hc] at h_; cases h_), fun _ => rfl⟩ (fun _ g h => by cases h)
                · refine guard_on (d := 52) (want := false) (by rfl) (by rfl) ?_ ?_
                  · exact (f1).trans (by rw [show bk = false by (first | (simp only [Bool.and_eq_true, Bool.not_eq_true', Bool.not_eq_false'] at hc; simp only [hc, Bool.and_true, Bool.true_and, Bool.not_true, Bool.not_false, Bool.and_self]; done) | (simp only [hc, Bool.and_true, Bool.true_and, Bool.not_true, Bool.not_false, Bool.and_self]; done) | simp_all)])
                  replace f3 := f3.1 (by exact hc)
                  have m0_g1 : w.cell? ⟨g1, 0, none⟩ = some (.slice aA p.A.length cA) := blk_cell hk_g1 0 (by rfl)
                  have m1_g1 : w.cell? ⟨g1, 1, none⟩ = some (.slice aB p.B.length cB) := blk_cell hk_g1 1 (by rfl)
                  have m2_g1 : w.cell? ⟨g1, 2, none⟩ = some (.int .i64 il) := blk_cell hk_g1 2 (by rfl)
                  have m3_g1 : w.cell? ⟨g1, 3, none⟩ = some (.int .i64 ih) := blk_cell hk_g1 3 (by rfl)
                  have m4_g1 : w.cell? ⟨g1, 4, none⟩ = some (.slice aW p.W.length cW) := blk_cell hk_g1 4 (by rfl)
                  have m5_g1 : w.cell? ⟨g1, 5, none⟩ = some (.slice (some ⟨bI, offI, none⟩) p.Inv.length cI) := blk_cell hk_g1 5 (by rfl)
                  have m6_g1 : w.cell? ⟨g1, 6, none⟩ = some (.slice (some ⟨bS, offS, none⟩) p.Safe.length cS) := blk_cell hk_g1 6 (by rfl)
                  have m7_g1 : w.cell? ⟨g1, 7, none⟩ = some (.slice aG p.gain.length cG) := blk_cell hk_g1 7 (by rfl)
                  have m8_g1 : w.cell? ⟨g1, 8, none⟩ = some (.int .i64 bi) := blk_cell hk_g1 8 (by rfl)
                  refine wp_value (v := .slice (some ⟨bS, offS, none⟩) p.Safe.length cS) (w1 := w) ?_ (hK.out _ w (Below.refl _ _) ⟨fun _ => rfl, fun h_ => (by rw [hc] at h_; cases h_)⟩ (fun h => by cases h))
                  try simp only [f1, f3]
                  go_simp
                  try (first | done | rfl | (simp; done))
              refine StepsP.cons ?_ ?_
              · intro Q s w hC hA K hK
                clear hC
                obtain ⟨f1, -⟩ := hA
                replace f1 : (s 52) = .bool bk := f1
                cases hc : (!bk)
                · refine guard_off (d := 52) (want := false) (by rfl) (by rfl) ?_ ?_
                  · show s 52 ≠ .bool false
                    · intro h_
                      rw [f1] at h_; injection h_ with h_; rw [Bool.eq_false_iff] at hc; exact hc (by (first | (simp only [h_, Bool.and_true, Bool.true_and, Bool.not_true, Bool.not_false, Bool.and_self]; done) | simp_all))
                  exact hK.out _ w (Below.refl _ _) ⟨fun h_ => (by rw [hc] at h_; cases h_), fun _ => rfl⟩ (fun _ g h => by cases h)
                · refine guard_on (d := 52) (want := false) (by rfl) (by rfl) ?_ ?_
                  · exact (f1).trans (by rw [show bk = false by (first | (simp only [Bool.and_eq_true, Bool.not_eq_true', Bool.not_eq_false'] at hc; simp only [hc, Bool.and_true, Bool.true_and, Bool.not_true, Bool.not_false, Bool.and_self]; done) | (simp only [hc, Bool.and_true, Bool.true_and, Bool.not_true, Bool.not_false, Bool.and_self]; done) | simp_all)])
                  refine wp_value (v := .int .i64 (k : Int)) (w1 := w) ?_ (hK.out _ w (Below.refl _ _) ⟨fun _ => rfl, fun h_ => (by rw [hc] at h_; cases h_)⟩ (fun h => by cases h))
                  try simp only [f1]
                  go_simp
                  try (first | done | rfl | (simp; done))
              refine StepsP.cons ?_ ?_
              · intro Q s w hC hA K hK
                clear hC
                obtain ⟨f1, f4, f5, -⟩ := hA
                replace f1 : (s 52) = .bool bk := f1
                replace f4 : ((!bk) = true → (s 55) = .slice (some ⟨bS, offS, none⟩) p.Safe.length cS) ∧ ((!bk) = false → (s 55) = undef) := f4
                replace f5 : ((!bk) = true → (s 56) = .int .i64 (k : Int)) ∧ ((!bk) = false → (s 56) = undef) := f5
                cases hc : (!bk)
                · refine guard_off (d := 52) (want := false) (by rfl) (by rfl) ?_ ?_
                  · show s 52 ≠ .bool false
                    · intro h_
                      rw [f1] at h_; injection h_ with h_; rw [Bool.eq_false_iff] at hc; exact hc (by (first | (simp only [h_, Bool.and_true, Bool.true_and, Bool.not_true, Bool.not_false, Bool.and_self]; done) | simp_all))
                  exact hK.out _ w (Below.refl _ _) ⟨fun h_ => (by rw [hc] at h_; cases h_), fun _ => rfl⟩ (fun _ g h => by cases h)
                · refine guard_on (d := 52) (want := false) (by rfl) (by rfl) ?_ ?_
                  · exact (f1).trans (by rw [show bk = false by (first | (simp only [Bool.and_eq_true, Bool.not_eq_true', Bool.not_eq_false'] at hc; simp only [hc, Bool.and_true, Bool.true_and, Bool.not_true, Bool.not_false, Bool.and_self]; done) | (simp only [hc, Bool.and_true, Bool.true_and, Bool.not_true, Bool.not_false, Bool.and_self]; done) | simp_all)])
                  replace f4 := f4.1 (by exact hc)
                  replace f5 := f5.1 (by exact hc)
                  refine wp_value (v := .pointer (some ⟨bS, offS + k * 2, none⟩)) (w1 := w) ?_ (hK.out _ w (Below.refl _ _) ⟨fun _ => rfl, fun h_ => (by rw [hc] at h_; cases h_)⟩ (fun h => by cases h))
                  try simp only [f1, f4, f5]
                  go_simp
                  first | done | (simp [hsd]; done)
              refine StepsP.cons ?_ ?_
              · intro Q s w hC hA K hK
                obtain ⟨hsz, hk_g1, lt_g1, hk_g8, lt_g8, hbw, e2, e3⟩ := hC
                obtain ⟨f1, f6, -⟩ := hA
                replace f1 : (s 52) = .bool bk := f1
                replace f6 : ((!bk) = true → (s 57) = .pointer (some ⟨bS, offS + k * 2, none⟩)) ∧ ((!bk) = false → (s 57) = undef) := f6
                cases hc : (!bk)
                · refine guard_off (d := 52) (want := false) (by rfl) (by rfl) ?_ ?_
                  · show s 52 ≠ .bool false
                    · intro h_
                      rw [f1] at h_; injection h_ with h_; rw [Bool.eq_false_iff] at hc; exact hc (by (first | (simp only [h_, Bool.and_true, Bool.true_and, Bool.not_true, Bool.not_false, Bool.and_self]; done) | simp_all))
                  exact hK.out _ w (Below.refl _ _) ⟨fun h_ => (by rw [hc] at h_; cases h_), fun _ => rfl⟩ (fun _ g h => by cases h)
                · refine guard_on (d := 52) (want := false) (by rfl) (by rfl) ?_ ?_
                  · exact (f1).trans (by rw [show bk = false by (first | (simp only [Bool.and_eq_true, Bool.not_eq_true', Bool.not_eq_false'] at hc; simp only [hc, Bool.and_true, Bool.true_and, Bool.not_true, Bool.not_false, Bool.and_self]; done) | (simp only [hc, Bool.and_true, Bool.true_and, Bool.not_true, Bool.not_false, Bool.and_self]; done) | simp_all)])
                  replace f6 := f6.1 (by exact hc)
                  refine wp_value (v := .agg #[.int .i64 m0, .int .i64 m1]) (w1 := w) ?_ (hK.out _ w (Below.refl _ _) ⟨fun _ => rfl, fun h_ => (by rw [hc] at h_; cases h_)⟩ (fun h => by cases h))
                  try simp only [f1, f6]
                  go_simp
                  try (first | done | rfl | (simp; done))
              refine StepsP.cons ?_ ?_
              · intro Q s w hC hA K hK
                obtain ⟨hsz, hk_g1, lt_g1, hk_g8, lt_g8, hbw, e2, e3⟩ := hC
                obtain ⟨f1, f2, f7, -⟩ := hA
                replace f1 : (s 52) = .bool bk := f1
                replace f2 : ((!bk) = true → (s 53) = .agg #[.int .i64 n0, .int .i64 n1]) ∧ ((!bk) = false → (s 53) = undef) := f2
                replace f7 : ((!bk) = true → (s 58) = .agg #[.int .i64 m0, .int .i64 m1]) ∧ ((!bk) = false → (s 58) = undef) := f7
                cases hc : (!bk)
                · refine guard_off (d := 52) (want := false) (by rfl) (by rfl) ?_ ?_
                  · show s 52 ≠ .bool false
                    · intro h_
                      rw [f1] at h_; injection h_ with h_; rw [Bool.eq_false_iff] at hc; exact hc (by (first | (simp only [h_, Bool.and_true, Bool.true_and, Bool.not_true, Bool.not_false, Bool.and_self]; done) | simp_all))
                  exact hK.out _ w (Below.refl _ _) ⟨fun h_ => (by rw [hc] at h_; cases h_), fun _ => rfl⟩ (fun _ g h => by cases h)
                · refine guard_on (d := 52) (want := false) (by rfl) (by rfl) ?_ ?_
                  · exact (f1).trans (by rw [show bk = false by (first | (simp only [Bool.and_eq_true, Bool.not_eq_true', Bool.not_eq_false'] at hc; simp only [hc, Bool.and_true, Bool.true_and, Bool.not_true, Bool.not_false, Bool.and_self]; done) | (simp only [hc, Bool.and_true, Bool.true_and, Bool.not_true, Bool.not_false, Bool.and_self]; done) | simp_all)])
                  replace f2 := f2.1 (by exact hc)
                  replace f7 := f7.1 (by exact hc)
                  refine wp_call (N := some 59) (by rfl) Try.func61 (by kernel_rfl) #[.agg #[.int .i64 n0, .int .i64 n1], .agg #[.int .i64 m0, .int .i64 m1]] rfl (by rfl) ?_ ?_
                  · show [s 53, s 58] = [.agg #[.int .i64 n0, .int .i64 n1], .agg #[.int .i64 m0, .int .i64 m1]]
                    first | rfl | simp only [f1, f2, f7]
                  refine (In_calls n0 n1 m0 m1 _).mono ?_
                  rintro e w1 ⟨rfl, hb⟩
                  refine ⟨_, rfl, ?_⟩
                  exact hK.out _ _ hb ⟨fun _ => rfl, fun h_ => (by rw [hc] at h_; cases h_)⟩ (fun h => by cases h)
              refine StepsP.cons ?_ ?_
              · intro Q s w hC hA K hK
                clear hC
                obtain ⟨f1, f8, -⟩ := hA
                replace f1 : (s 52) = .bool bk := f1
                replace f8 : ((!bk) = true → (s 59) = .bool (inS ⟨n0, n1⟩ ⟨m0, m1⟩)) ∧ ((!bk) = false → (s 59) = undef) := f8
                cases hc : (!bk)
                · refine guard_off (d := 52) (want := false) (by rfl) (by rfl) ?_ ?_
                  · show s 52 ≠ .bool false
                    · intro h_
                      rw [f1] at h_; injection h_ with h_; rw [Bool.eq_false_iff] at hc; exact hc (by (first | (simp only [h_, Bool.and_true, Bool.true_and, Bool.not_true, Bool.not_false, Bool.and_self]; done) | simp_all))
                  exact hK.out _ w (Below.refl _ _) ⟨fun h_ => (by rw [hc] at h_; cases h_), fun _ => rfl⟩ (fun _ g h => by cases h)
                · refine guard_on (d := 52) (want := false) (by rfl) (by rfl) ?_ ?_
                  · exact (f1).trans (by rw [show bk = false by (first | (simp only [Bool.and_eq_true, Bool.not_eq_true', Bool.not_eq_false'] at hc; simp only [hc, Bool.and_true, Bool.true_and, Bool.not_true, Bool.not_false, Bool.and_self]; done) | (simp only [hc, Bool.and_true, Bool.true_and, Bool.not_true, Bool.not_false, Bool.and_self]; done) | simp_all)])
                  replace f8 := f8.1 (by exact hc)
                  refine wp_value (v := .bool (!(inS ⟨n0, n1⟩ ⟨m0, m1⟩))) (w1 := w) ?_ (hK.out _ w (Below.refl _ _) ⟨fun _ => rfl, fun h_ => (by rw [hc] at h_; cases h_)⟩ (fun h => by cases h))
                  try simp only [f1, f8]
                  go_simp
                  try (first | done | rfl | (simp; done))
              refine StepsP.cons ?_ ?_
              · intro Q s w hC hA K hK
                clear hC
                obtain ⟨f1, f9, -⟩ := hA
                replace f1 : (s 52) = .bool bk := f1
                replace f9 : ((!bk) = true → (s 60) = .bool (!(inS ⟨n0, n1⟩ ⟨m0, m1⟩))) ∧ ((!bk) = false → (s 60) = undef) := f9
                refine guard_none (by rfl) ?_
                refine wp_value (v := .bool (bk || (!(inS ⟨n0, n1⟩ ⟨m0, m1⟩)))) (w1 := w) ?_ (hK.out _ w (Below.refl _ _) rfl (fun h => by cases h))
                cases ht : bk
                · have hy_ := f9.1 (by first | (simp only [Bool.and_eq_true, Bool.not_eq_true', Bool.not_eq_false'] at hc ht; simp only [hc, ht, Bool.and_true, Bool.true_and, Bool.not_true, Bool.not_false, Bool.and_self]; done) | (simp only [Bool.and_eq_true, Bool.not_eq_true', Bool.not_eq_false'] at ht; simp only [ht, Bool.and_true, Bool.true_and, Bool.not_true, Bool.not_false, Bool.and_self]; done) | (simp only [ht, Bool.and_true, Bool.true_and, Bool.not_true, Bool.not_false, Bool.and_self]; done) | simp_all)
                  have hct_ : s 52 = .bool false := by rw [f1, ht]
                  simp only [hct_, hy_]
                  go_simp
                  try simp
                · skip
                  have hct_ : s 52 = .bool true := by rw [f1, ht]
                  simp only [hct_]
                  go_simp
                  try simp
              refine StepsP.cons ?_ ?_
              · intro Q s w hC hA K hK
                clear hC
                obtain ⟨f10, -⟩ := hA
                replace f10 : (s 61) = .bool (bk || (!(inS ⟨n0, n1⟩ ⟨m0, m1⟩))) := f10
                refine guard_none (by rfl) ?_
                refine wp_value (v := .bool (bk || (!(inS ⟨n0, n1⟩ ⟨m0, m1⟩)))) (w1 := w) ?_ (hK.out _ w (Below.refl _ _) rfl (fun h => by cases h))
                try simp only [f10]
                go_simp
                try (first | done | rfl | (simp; done))
              exact StepsP.nil
            obtain ⟨hsz, hk_g1, lt_g1, hk_g8, lt_g8, hbw, e2, e3⟩ := hC
            obtain ⟨f11, -⟩ := hA
            replace f11 : (s 4) = .bool (bk || (!(inS ⟨n0, n1⟩ ⟨m0, m1⟩))) := f11
            refine act_eq (b' := ?b6) ?h6 ?q6
            case h6 => simp only [f11]; rfl
            go_wp2
            go_roundw
            case rel => exact ⟨k + 1, by omega, by go_num, by rw [hta.out, ← Bool.or_assoc, hbk], hbw, hk_g1⟩
            case measure => simp [intOf]; omega
          · have hke : k = p.Inv.length := by omega
            subst hke
            have hd : decide ((p.Inv.length : Int) < (p.Inv.length : Int)) = false := decide_eq_false (by omega)
            have htk : zl.take p.Inv.length = zl := List.take_of_length_le (by rw [hzll.out]; exact Nat.le_refl _)
            rw [htk]
            obtain ⟨b5, hb5⟩ : ∃ b, (b4 || zl.any fZ) = b := ⟨_, rfl⟩
            rw [hb5]
            have hwr : Hid (wrongP p = b5) := by
              unfold Hid wrongP
              rw [← hb5, ← hb4, ← hb3, ← hb0.out, ← hb1.out, ← hb2.out, hRw.out, hzl.out, hfA.out, hfZ.out]
              subst hil hih
              rfl
            cases b5
            · have hrd := hidI (fun W (hW : Below w0.heap.size w0 W) => PA.rd.below (q := ⟨aA, cA, aB, cB, aW, cW, aI, cI, aS, cS, aG, cG⟩) hrd0.out hW)
              have lA2 : ∀ i, (p.A.getD i []).length ≤ 1000000 := fun i => by
                have h := hlen.out
                rw [List.getD_eq_getElem?_getD]
                cases hi : p.A[i]? with
                | none => simp
                | some l => have := h.2.2.2.1 l (List.mem_of_getElem? hi); simp only [Option.getD_some]; omega
              have hcop := fun W hW => copied_calls ⟨aA, cA, aB, cB, aW, cW, aI, cI, aS, cS, aG, cG⟩ p W hW (by have := hlen.out; omega) lA2 (by have := hlen.out; omega) (by have := hlen.out; omega) (by have := hlen.out; omega) (by have := hlen.out; omega) (by have := hlen.out; omega)
              clear lA2
              unfold PA.cells at hcop
              simp only [hil, hih, hbi] at hcop
              replace hcop := hidI hcop
              go_upto_region 16 with fail
              have hk_g1 := hk_x
              clear hk_x hW hI hS hG hB hRw hnR hzl hfZ hfA hzll hzat htk hd
              obtain ⟨B3, hB3⟩ : ∃ B, B = wr.heap.size := ⟨_, rfl⟩
              have c0_hsz : B3 ≤ wr.heap.size := Nat.le_of_eq hB3
              have hw0B3 : w0.heap.size ≤ B3 := by rw [hB3]; exact hbw.size
              have c0_hle : wr.heap.size ≤ B3 := Nat.le_of_eq hB3.symm
              have c0_hk_g1 := blk_drew hk_g1
              have c0_lt_g1 : g1 < B3 := by rw [hB3]; exact blk_lt hk_g1
              have c0_hbw := bl_drew hbw
              clear hB3 hbw hk_g1
              refine region_lin (n := 8) (st := ?st7) { R := [0, 1, 0, 7, 15, 31, 63, 127], kill := [[], [], [], [], [], [], [], []], cls := [0, 0, 0, 0, 0, 0, 0, 0], dst := [some 64, some 65, some 66, some 67, some 68, some 69, some 2, some 3], pre := [[], [0], [], [2], [1, 3], [4], [5], []], cov := [(0, 1), (0, 3), (0, 4), (0, 5)], fin := [5, 6, 7], locs := [], tgt := [none], abt := [none, none, none, none, none, none, none, none] }
                [.v [64] (fun vs => (vs.getD 0 undef) = .agg #[.slice aA p.A.length cA, .slice aB p.B.length cB, .int .i64 il, .int .i64 ih, .slice aW p.W.length cW, .slice aI p.Inv.length cI, .slice aS p.Safe.length cS, .slice aG p.gain.length cG, .int .i64 bi]),
                 .w [65] (fun vs w => ∃ q_ : PA, (vs.getD 0 undef) = .agg #[.slice q_.aA p.A.length q_.cA, .slice q_.aB p.B.length q_.cB, .int .i64 il, .int .i64 ih, .slice q_.aW p.W.length q_.cW, .slice q_.aI p.Inv.length q_.cI, .slice q_.aS p.Safe.length q_.cS, .slice q_.aG p.gain.length q_.cG, .int .i64 bi] ∧ q_.rd w p),
                 .v [66] (fun vs => (vs.getD 0 undef) = .agg #[.slice aA p.A.length cA, .slice aB p.B.length cB, .int .i64 il, .int .i64 ih, .slice aW p.W.length cW, .slice aI p.Inv.length cI, .slice aS p.Safe.length cS, .slice aG p.gain.length cG, .int .i64 bi]),
                 .w [67] (fun vs w => ∃ q_ : PA, (vs.getD 0 undef) = .agg #[.slice q_.aA p.A.length q_.cA, .slice q_.aB p.B.length q_.cB, .int .i64 il, .int .i64 ih, .slice q_.aW p.W.length q_.cW, .slice q_.aI p.Inv.length q_.cI, .slice q_.aS p.Safe.length q_.cS, .slice q_.aG p.gain.length q_.cG, .int .i64 bi] ∧ q_.rd w p),
                 .w [68] (fun vs w => ∃ q1 q2 : PA, (vs.getD 0 undef) = .agg #[.slice q1.aA p.A.length q1.cA, .slice q1.aB p.B.length q1.cB, .int .i64 il, .int .i64 ih, .slice q1.aW p.W.length q1.cW, .slice q1.aI p.Inv.length q1.cI, .slice q1.aS p.Safe.length q1.cS, .slice q1.aG p.gain.length q1.cG, .int .i64 bi, .slice q2.aA p.A.length q2.cA, .slice q2.aB p.B.length q2.cB, .int .i64 il, .int .i64 ih, .slice q2.aW p.W.length q2.cW, .slice q2.aI p.Inv.length q2.cI, .slice q2.aS p.Safe.length q2.cS, .slice q2.aG p.gain.length q2.cG, .int .i64 bi] ∧ q1.rd w p ∧ q2.rd w p),
                 .w [69] (fun vs w => ∃ g_ : Nat, (vs.getD 0 undef) = .pointer (some ⟨g_, 0, none⟩) ∧ B3 ≤ g_ ∧ KitAt w g_ 116 p),
                 .v [2, 69] (fun vs => (vs.getD 0 undef) = (vs.getD 1 undef)),
                 .v [3] (fun vs => (vs.getD 0 undef) = .int .i64 0)]
                (fun w => B3 ≤ w.heap.size ∧ w.heap[g1]? = some (.cells #[.slice aA p.A.length cA, .slice aB p.B.length cB, .int .i64 il, .int .i64 ih, .slice aW p.W.length cW, .slice aI p.Inv.length cI, .slice aS p.Safe.length cS, .slice aG p.gain.length cG, .int .i64 bi] 28 (0, 0)) ∧ g1 < B3 ∧ Below w0.heap.size w0 w)
                (fun c => ([fun s w w' => Below w.heap.size w w'] : List ((Nat → Value) → World → World → Prop)).getD c (fun s w w' => w' = w))
                [2, 3, 64, 65, 66, 67, 68, 69] (by kernel_rfl) ⟨by kernel_rfl, by kernel_rfl, by kernel_rfl, by kernel_rfl, by kernel_rfl, by kernel_rfl, by kernel_rfl, by kernel_rfl⟩ (fun s => ?_) ?_ ?_ ?_ ?_ ?_ (fun s w hC hA => ?_)
              rotate_left
              · simp only [fillS, List.foldl, List.setIfInBounds_toArray, List.set_cons_zero, List.set_cons_succ]; rfl
              · exact ⟨c0_hsz, c0_hk_g1, c0_lt_g1, c0_hbw⟩
              · intro c s w w' hE
                match c, hE with
                | 0, hE => exact Below.size hE
                | c + 1, hE => cases hE; exact Nat.le_refl _
              · rintro c s w w' ⟨hsz, hk_g1, lt_g1, hbw⟩ hE
                match c, hE with
                | 0, hE => replace hE : Below w.heap.size w w' := hE; exact ⟨Nat.le_trans hsz hE.size, bl_block hE hk_g1, lt_g1, bl_step hbw hE⟩
                | c + 1, hE => cases hE; exact ⟨hsz, hk_g1, lt_g1, hbw⟩
              · refine ⟨?_, ?_, ?_, ?_, trivial⟩
                · intro s w w' hD hC hE hF
                  replace hF : ∃ q_ : PA, (s 65) = .agg #[.slice q_.aA p.A.length q_.cA, .slice q_.aB p.B.length q_.cB, .int .i64 il, .int .i64 ih, .slice q_.aW p.W.length q_.cW, .slice q_.aI p.Inv.length q_.cI, .slice q_.aS p.Safe.length q_.cS, .slice q_.aG p.gain.length q_.cG, .int .i64 bi] ∧ q_.rd w p := hF
                  show ∃ q_ : PA, (s 65) = .agg #[.slice q_.aA p.A.length q_.cA, .slice q_.aB p.B.length q_.cB, .int .i64 il, .int .i64 ih, .slice q_.aW p.W.length q_.cW, .slice q_.aI p.Inv.length q_.cI, .slice q_.aS p.Safe.length q_.cS, .slice q_.aG p.gain.length q_.cG, .int .i64 bi] ∧ q_.rd w' p
                  replace hE : Below w.heap.size w w' := hE
                  obtain ⟨q_, h1, h2⟩ := hF
                  exact ⟨q_, h1, h2.below hE⟩
                · intro s w w' hD hC hE hF
                  replace hF : ∃ q_ : PA, (s 67) = .agg #[.slice q_.aA p.A.length q_.cA, .slice q_.aB p.B.length q_.cB, .int .i64 il, .int .i64 ih, .slice q_.aW p.W.length q_.cW, .slice q_.aI p.Inv.length q_.cI, .slice q_.aS p.Safe.length q_.cS, .slice q_.aG p.gain.length q_.cG, .int .i64 bi] ∧ q_.rd w p := hF
                  show ∃ q_ : PA, (s 67) = .agg #[.slice q_.aA p.A.length q_.cA, .slice q_.aB p.B.length q_.cB, .int .i64 il, .int .i64 ih, .slice q_.aW p.W.length q_.cW, .slice q_.aI p.Inv.length q_.cI, .slice q_.aS p.Safe.length q_.cS, .slice q_.aG p.gain.length q_.cG, .int .i64 bi] ∧ q_.rd w' p
                  replace hE : Below w.heap.size w w' := hE
                  obtain ⟨q_, h1, h2⟩ := hF
                  exact ⟨q_, h1, h2.below hE⟩
                · intro s w w' hD hC hE hF
                  replace hF : ∃ q1 q2 : PA, (s 68) = .agg #[.slice q1.aA p.A.length q1.cA, .slice q1.aB p.B.length q1.cB, .int .i64 il, .int .i64 ih, .slice q1.aW p.W.length q1.cW, .slice q1.aI p.Inv.length q1.cI, .slice q1.aS p.Safe.length q1.cS, .slice q1.aG p.gain.length q1.cG, .int .i64 bi, .slice q2.aA p.A.length q2.cA, .slice q2.aB p.B.length q2.cB, .int .i64 il, .int .i64 ih, .slice q2.aW p.W.length q2.cW, .slice q2.aI p.Inv.length q2.cI, .slice q2.aS p.Safe.length q2.cS, .slice q2.aG p.gain.length q2.cG, .int .i64 bi] ∧ q1.rd w p ∧ q2.rd w p := hF
                  show ∃ q1 q2 : PA, (s 68) = .agg #[.slice q1.aA p.A.length q1.cA, .slice q1.aB p.B.length q1.cB, .int .i64 il, .int .i64 ih, .slice q1.aW p.W.length q1.cW, .slice q1.aI p.Inv.length q1.cI, .slice q1.aS p.Safe.length q1.cS, .slice q1.aG p.gain.length q1.cG, .int .i64 bi, .slice q2.aA p.A.length q2.cA, .slice q2.aB p.B.length q2.cB, .int .i64 il, .int .i64 ih, .slice q2.aW p.W.length q2.cW, .slice q2.aI p.Inv.length q2.cI, .slice q2.aS p.Safe.length q2.cS, .slice q2.aG p.gain.length q2.cG, .int .i64 bi] ∧ q1.rd w' p ∧ q2.rd w' p
                  replace hE : Below w.heap.size w w' := hE
                  obtain ⟨q1, q2, h1, h2, h3⟩ := hF
                  exact ⟨q1, q2, h1, h2.below hE, h3.below hE⟩
                · intro s w w' hD hC hE hF
                  replace hF : ∃ g_ : Nat, (s 69) = .pointer (some ⟨g_, 0, none⟩) ∧ B3 ≤ g_ ∧ KitAt w g_ 116 p := hF
                  show ∃ g_ : Nat, (s 69) = .pointer (some ⟨g_, 0, none⟩) ∧ B3 ≤ g_ ∧ KitAt w' g_ 116 p
                  replace hE : Below w.heap.size w w' := hE
                  obtain ⟨g_, h1, h2, h3⟩ := hF
                  exact ⟨g_, h1, h2, h3.below hE⟩
              · skip
                refine StepsP.cons ?_ ?_
                · intro Q s w hC hA K hK
                  obtain ⟨hsz, hk_g1, lt_g1, hbw⟩ := hC
                  clear hA
                  refine guard_none (by rfl) ?_
                  have m0_g1 : w.cell? ⟨g1, 0, none⟩ = some (.slice aA p.A.length cA) := blk_cell hk_g1 0 (by rfl)
                  have m1_g1 : w.cell? ⟨g1, 1, none⟩ = some (.slice aB p.B.length cB) := blk_cell hk_g1 1 (by rfl)
                  have m2_g1 : w.cell? ⟨g1, 2, none⟩ = some (.int .i64 il) := blk_cell hk_g1 2 (by rfl)
                  have m3_g1 : w.cell? ⟨g1, 3, none⟩ = some (.int .i64 ih) := blk_cell hk_g1 3 (by rfl)
                  have m4_g1 : w.cell? ⟨g1, 4, none⟩ = some (.slice aW p.W.length cW) := blk_cell hk_g1 4 (by rfl)
                  have m5_g1 : w.cell? ⟨g1, 5, none⟩ = some (.slice aI p.Inv.length cI) := blk_cell hk_g1 5 (by rfl)
                  have m6_g1 : w.cell? ⟨g1, 6, none⟩ = some (.slice aS p.Safe.length cS) := blk_cell hk_g1 6 (by rfl)
                  have m7_g1 : w.cell? ⟨g1, 7, none⟩ = some (.slice aG p.gain.length cG) := blk_cell hk_g1 7 (by rfl)
                  have m8_g1 : w.cell? ⟨g1, 8, none⟩ = some (.int .i64 bi) := blk_cell hk_g1 8 (by rfl)
                  refine wp_value (v := .agg #[.slice aA p.A.length cA, .slice aB p.B.length cB, .int .i64 il, .int .i64 ih, .slice aW p.W.length cW, .slice aI p.Inv.length cI, .slice aS p.Safe.length cS, .slice aG p.gain.length cG, .int .i64 bi]) (w1 := w) ?_ (hK.out _ w (Below.refl _ _) rfl (fun h => by cases h))
                  go_simp
                  try (first | done | rfl | (simp; done))
                refine StepsP.cons ?_ ?_
                · intro Q s w hC hA K hK
                  obtain ⟨hsz, hk_g1, lt_g1, hbw⟩ := hC
                  obtain ⟨f0, -⟩ := hA
                  replace f0 : (s 64) = .agg #[.slice aA p.A.length cA, .slice aB p.B.length cB, .int .i64 il, .int .i64 ih, .slice aW p.W.length cW, .slice aI p.Inv.length cI, .slice aS p.Safe.length cS, .slice aG p.gain.length cG, .int .i64 bi] := f0
                  refine guard_none (by rfl) ?_
                  refine wp_call (N := some 65) (by rfl) Try.func62 (by kernel_rfl) #[.agg #[.slice aA p.A.length cA, .slice aB p.B.length cB, .int .i64 il, .int .i64 ih, .slice aW p.W.length cW, .slice aI p.Inv.length cI, .slice aS p.Safe.length cS, .slice aG p.gain.length cG, .int .i64 bi]] rfl (by rfl) ?_ ?_
                  · show [s 64] = [.agg #[.slice aA p.A.length cA, .slice aB p.B.length cB, .int .i64 il, .int .i64 ih, .slice aW p.W.length cW, .slice aI p.Inv.length cI, .slice aS p.Safe.length cS, .slice aG p.gain.length cG, .int .i64 bi]]
                    first | rfl | simp only [f0]
                  refine (hcop.out _ (hrd.out _ hbw)).mono ?_
                  rintro e w1 ⟨q_, rfl, h2, hb⟩
                  refine ⟨_, rfl, ?_⟩
                  exact hK.out _ _ hb ⟨q_, rfl, h2⟩ (fun h => by cases h)
                refine StepsP.cons ?_ ?_
                · intro Q s w hC hA K hK
                  obtain ⟨hsz, hk_g1, lt_g1, hbw⟩ := hC
                  clear hA
                  refine guard_none (by rfl) ?_
                  have m0_g1 : w.cell? ⟨g1, 0, none⟩ = some (.slice aA p.A.length cA) := blk_cell hk_g1 0 (by rfl)
                  have m1_g1 : w.cell? ⟨g1, 1, none⟩ = some (.slice aB p.B.length cB) := blk_cell hk_g1 1 (by rfl)
                  have m2_g1 : w.cell? ⟨g1, 2, none⟩ = some (.int .i64 il) := blk_cell hk_g1 2 (by rfl)
                  have m3_g1 : w.cell? ⟨g1, 3, none⟩ = some (.int .i64 ih) := blk_cell hk_g1 3 (by rfl)
                  have m4_g1 : w.cell? ⟨g1, 4, none⟩ = some (.slice aW p.W.length cW) := blk_cell hk_g1 4 (by rfl)
                  have m5_g1 : w.cell? ⟨g1, 5, none⟩ = some (.slice aI p.Inv.length cI) := blk_cell hk_g1 5 (by rfl)
                  have m6_g1 : w.cell? ⟨g1, 6, none⟩ = some (.slice aS p.Safe.length cS) := blk_cell hk_g1 6 (by rfl)
                  have m7_g1 : w.cell? ⟨g1, 7, none⟩ = some (.slice aG p.gain.length cG) := blk_cell hk_g1 7 (by rfl)
                  have m8_g1 : w.cell? ⟨g1, 8, none⟩ = some (.int .i64 bi) := blk_cell hk_g1 8 (by rfl)
                  refine wp_value (v := .agg #[.slice aA p.A.length cA, .slice aB p.B.length cB, .int .i64 il, .int .i64 ih, .slice aW p.W.length cW, .slice aI p.Inv.length cI, .slice aS p.Safe.length cS, .slice aG p.gain.length cG, .int .i64 bi]) (w1 := w) ?_ (hK.out _ w (Below.refl _ _) rfl (fun h => by cases h))
                  go_simp
                  try (first | done | rfl | (simp; done))
                refine StepsP.cons ?_ ?_
                · intro Q s w hC hA K hK
                  obtain ⟨hsz, hk_g1, lt_g1, hbw⟩ := hC
                  obtain ⟨f2, -⟩ := hA
                  replace f2 : (s 66) = .agg #[.slice aA p.A.length cA, .slice aB p.B.length cB, .int .i64 il, .int .i64 ih, .slice aW p.W.length cW, .slice aI p.Inv.length cI, .slice aS p.Safe.length cS, .slice aG p.gain.length cG, .int .i64 bi] := f2
                  refine guard_none (by rfl) ?_
                  refine wp_call (N := some 67) (by rfl) Try.func62 (by kernel_rfl) #[.agg #[.slice aA p.A.length cA, .slice aB p.B.length cB, .int .i64 il, .int .i64 ih, .slice aW p.W.length cW, .slice aI p.Inv.length cI, .slice aS p.Safe.length cS, .slice aG p.gain.length cG, .int .i64 bi]] rfl (by rfl) ?_ ?_
                  · show [s 66] = [.agg #[.slice aA p.A.length cA, .slice aB p.B.length cB, .int .i64 il, .int .i64 ih, .slice aW p.W.length cW, .slice aI p.Inv.length cI, .slice aS p.Safe.length cS, .slice aG p.gain.length cG, .int .i64 bi]]
                    first | rfl | simp only [f2]
                  refine (hcop.out _ (hrd.out _ hbw)).mono ?_
                  rintro e w1 ⟨q_, rfl, h2, hb⟩
                  refine ⟨_, rfl, ?_⟩
                  exact hK.out _ _ hb ⟨q_, rfl, h2⟩ (fun h => by cases h)
                refine StepsP.cons ?_ ?_
                · intro Q s w hC hA K hK
                  obtain ⟨hsz, hk_g1, lt_g1, hbw⟩ := hC
                  obtain ⟨f1, f3, -⟩ := hA
                  replace f1 : ∃ q_ : PA, (s 65) = .agg #[.slice q_.aA p.A.length q_.cA, .slice q_.aB p.B.length q_.cB, .int .i64 il, .int .i64 ih, .slice q_.aW p.W.length q_.cW, .slice q_.aI p.Inv.length q_.cI, .slice q_.aS p.Safe.length q_.cS, .slice q_.aG p.gain.length q_.cG, .int .i64 bi] ∧ q_.rd w p := f1
                  replace f3 : ∃ q_ : PA, (s 67) = .agg #[.slice q_.aA p.A.length q_.cA, .slice q_.aB p.B.length q_.cB, .int .i64 il, .int .i64 ih, .slice q_.aW p.W.length q_.cW, .slice q_.aI p.Inv.length q_.cI, .slice q_.aS p.Safe.length q_.cS, .slice q_.aG p.gain.length q_.cG, .int .i64 bi] ∧ q_.rd w p := f3
                  refine guard_none (by rfl) ?_
                  obtain ⟨q1, e1, r1⟩ := f1
                  obtain ⟨q2, e2, r2⟩ := f3
                  refine wp_value (v := .agg #[.slice q1.aA p.A.length q1.cA, .slice q1.aB p.B.length q1.cB, .int .i64 il, .int .i64 ih, .slice q1.aW p.W.length q1.cW, .slice q1.aI p.Inv.length q1.cI, .slice q1.aS p.Safe.length q1.cS, .slice q1.aG p.gain.length q1.cG, .int .i64 bi, .slice q2.aA p.A.length q2.cA, .slice q2.aB p.B.length q2.cB, .int .i64 il, .int .i64 ih, .slice q2.aW p.W.length q2.cW, .slice q2.aI p.Inv.length q2.cI, .slice q2.aS p.Safe.length q2.cS, .slice q2.aG p.gain.length q2.cG, .int .i64 bi]) (w1 := w) ?_ (hK.out _ w (Below.refl _ _) ⟨q1, q2, rfl, r1, r2⟩ (fun h => by cases h))
                  simp only [e1, e2]
                  go_simp
                  try rfl
                refine StepsP.cons ?_ ?_
                · intro Q s w hC hA K hK
                  obtain ⟨hsz, hk_g1, lt_g1, hbw⟩ := hC
                  obtain ⟨f4, -⟩ := hA
                  replace f4 : ∃ q1 q2 : PA, (s 68) = .agg #[.slice q1.aA p.A.length q1.cA, .slice q1.aB p.B.length q1.cB, .int .i64 il, .int .i64 ih, .slice q1.aW p.W.length q1.cW, .slice q1.aI p.Inv.length q1.cI, .slice q1.aS p.Safe.length q1.cS, .slice q1.aG p.gain.length q1.cG, .int .i64 bi, .slice q2.aA p.A.length q2.cA, .slice q2.aB p.B.length q2.cB, .int .i64 il, .int .i64 ih, .slice q2.aW p.W.length q2.cW, .slice q2.aI p.Inv.length q2.cI, .slice q2.aS p.Safe.length q2.cS, .slice q2.aG p.gain.length q2.cG, .int .i64 bi] ∧ q1.rd w p ∧ q2.rd w p := f4
                  refine guard_none (by rfl) ?_
                  obtain ⟨q1, q2, e, r1, r2⟩ := f4
                  refine wp_value (v := .pointer (some ⟨w.heap.size, 0, none⟩)) (w1 := w.alloc (.cells #[.slice q1.aA p.A.length q1.cA, .slice q1.aB p.B.length q1.cB, .int .i64 il, .int .i64 ih, .slice q1.aW p.W.length q1.cW, .slice q1.aI p.Inv.length q1.cI, .slice q1.aS p.Safe.length q1.cS, .slice q1.aG p.gain.length q1.cG, .int .i64 bi, .slice q2.aA p.A.length q2.cA, .slice q2.aB p.B.length q2.cB, .int .i64 il, .int .i64 ih, .slice q2.aW p.W.length q2.cW, .slice q2.aI p.Inv.length q2.cI, .slice q2.aS p.Safe.length q2.cS, .slice q2.aG p.gain.length q2.cG, .int .i64 bi] 116)) ?_ (hK.out _ _ (bl_alloc (Below.refl _ _) _) ⟨w.heap.size, rfl, hsz, q1, q2, (by subst hil hih hbi; exact blk_new w _), r1.below (bl_alloc (Below.refl _ _) _), r2.below (bl_alloc (Below.refl _ _) _)⟩ (fun h => by cases h))
                  simp only [e]
                  go_simp
                  try rfl
                refine StepsP.cons ?_ ?_
                · intro Q s w hC hA K hK
                  clear hC
                  obtain ⟨f5, -⟩ := hA
                  replace f5 : ∃ g_ : Nat, (s 69) = .pointer (some ⟨g_, 0, none⟩) ∧ B3 ≤ g_ ∧ KitAt w g_ 116 p := f5
                  refine guard_none (by rfl) ?_
                  refine wp_value (v := (s 69)) (w1 := w) ?_ (hK.out _ w (Below.refl _ _) rfl (fun h => by cases h))
                  go_simp
                  try (first | done | rfl | (simp; done))
                refine StepsP.cons ?_ ?_
                · intro Q s w hC hA K hK
                  clear hC
                  clear hA
                  refine guard_none (by rfl) ?_
                  refine wp_value (v := .int .i64 0) (w1 := w) ?_ (hK.out _ w (Below.refl _ _) rfl (fun h => by cases h))
                  go_simp
                  try (first | done | rfl | (simp; done))
                exact StepsP.nil
              obtain ⟨hsz, hk_g1, lt_g1, hbw⟩ := hC
              obtain ⟨f5, f6, f7, -⟩ := hA
              replace f5 : ∃ g_ : Nat, (s 69) = .pointer (some ⟨g_, 0, none⟩) ∧ B3 ≤ g_ ∧ KitAt w g_ 116 p := f5
              replace f6 : (s 2) = (s 69) := f6
              replace f7 : (s 3) = .int .i64 0 := f7
              refine act_eq (b' := ?b7) ?h7 ?q7
              case h7 => simp only [f6, f7]; rfl
              obtain ⟨gk, ek, hgk, hkit⟩ := f5
              go_wp2
              go_ret2
              subst hw0
              exact ⟨hbw, (fun h => by rw [hwr.out] at h; cases h), fun _ => ⟨gk, by rw [ek]; rfl, hkit, Nat.le_trans hw0B3 hgk⟩⟩
            · go_wp2
              go_ret2
              subst hw0
              exact ⟨hbw, fun _ => rfl, fun h => by rw [hwr.out] at h; cases h⟩
end Go.Proofs.Ythdaidmjjcmccaa
