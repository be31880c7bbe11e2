/- Proved here: lemmas and contracts (what a function of the program computes) that the proofs of the laws of this seat lean on. Conditions: as each theorem states. -/
import Derived.Test.YtjidbjmekpholaaAdK
import Derived.Test.YtjidbjmekpholaaPlap
import Derived.Test.YtjidbjmekpholaaWLast
set_option linter.unusedVariables false
set_option linter.unusedSimpArgs false
namespace Go.Proofs.Ytjidbjmekpholaa.AdY
open Go.RowKit Go.Pk Go.Pk.Ad Go.Proofs.Ytjidbjmekpholaa.GD Go.Proofs.Ytjidbjmekpholaa.AdW Go.Proofs.YtjidbjmekpholaaW.PrintMore Go.Proofs.YtjidbjmekpholaaW.PrintLast
open Go.Proofs.YtjidbjmekpholaaW.PrintWords (bt bt_at results_list ReadsInt)
theorem infoIL : (Try.prog.info? 3).map (fun i => (i.zero, i.size, i.bytes)) = some (some (.int .i64 0), 1, 8) := by kernel_rfl
theorem RdI.pre' {w : World} {A : Option Addr} {l : List Int} {x : Int} (h : RdI w A (l ++ [x])) : RdI w A l :=
  ⟨by have := h.1; simp at this; omega, fun i u hi => h.2 i u (by
    have hlt := (List.getElem?_eq_some_iff.1 hi).1
    unfold encI at hi ⊢
    rw [List.map_append, List.getElem?_append_left (by unfold encI at hlt; exact hlt)]
    exact hi)⟩
set_option maxHeartbeats 100000000 in
set_option maxRecDepth 100000 in
theorem makes_walk (a0 a1 a2 a3 ht tk : Int) (A : Option Addr) (l : List Int) (c : Nat) (sb : ByteArray) (w : World) (hc : l.length ≤ c) (hl : RdI w A l) :
    Calls Try.prog 6 #[.int .i64 a0, .int .i64 a1, .int .i64 a2, .int .i64 a3, .int .i64 ht, .int .i64 tk, .slice A l.length c, .string sb] w fun e w' => e = .returned (.bool true) ∧ Below w.heap.size w w' := by
  obtain ⟨Km, hm⟩ := make_ends a0 a1 a2 a3
  replace hm := hm Km (Nat.le_refl _)
  simp only [] at hm
  have hma : advise_Make.f a0 a1 a2 a3 = some (if mayB a0 a1 a2 a3 = true then (a0, a1, a2, a3, strOfNums (bestK a0 a2 a3 a1.toNat), 0) else (0, 0, 0, 0, (⟨#[]⟩ : ByteArray), 1)) := by
    unfold advise_Make.f; split <;> rfl
  have hsz : mayB a0 a1 a2 a3 = true → (strOfNums (bestK a0 a2 a3 a1.toNat)).size ≤ 20000 := by
    intro h
    have hb := mayB_iff.1 h
    obtain ⟨T, hT⟩ := Int.eq_ofNat_of_zero_le (show 0 ≤ a1 by omega)
    have := AdZ.tbl_size a0 a2 a3 T (by omega)
    unfold AdZ.tbl at this
    rw [hT, Int.toNat_natCast]
    have hp := prodB (show 0 ≤ (T : Int) + 1 by omega) (show (T : Int) + 1 ≤ 61 by omega) (show 0 ≤ 2 * a0 + 1 by omega) (show 2 * a0 + 1 ≤ 121 by omega)
    omega
  obtain ⟨r1, r2, r3, r4, r5, r6, hr, hz⟩ : ∃ r1 r2 r3 r4 r5 r6, (if mayB a0 a1 a2 a3 = true then (a0, a1, a2, a3, strOfNums (bestK a0 a2 a3 a1.toNat), 0) else (0, 0, 0, 0, (⟨#[]⟩ : ByteArray), (1 : Int))) = (r1, r2, r3, r4, r5, r6) ∧ r5.size ≤ 20000 := by
    by_cases h : mayB a0 a1 a2 a3 = true
    · exact ⟨_, _, _, _, _, _, if_pos h, hsz h⟩
    · exact ⟨_, _, _, _, _, _, if_neg h, by decide⟩
  rw [hr] at hm hma
  obtain ⟨⟨p, q⟩, ⟨K1, e1⟩, ⟨K2, e2⟩⟩ := putAny r1 r2 r3 r4 r5 (by omega)
  replace e1 := e1 K1 (Nat.le_refl _)
  replace e2 := e2 K2 (Nat.le_refl _)
  obtain ⟨x1, x2, x3, x4, x5, xe, g1c, g2c⟩ := get_both sb
  obtain ⟨bk, b1, b2⟩ := ask_eq r1 r2 r3 r4 ht tk r5 hz
  obtain ⟨K4, e4⟩ := cost_ref r1 r2 r3 r4 ht tk r5 l
  replace e4 := e4 K4 (Nat.le_refl _)
  have e5 : advise_Cost.f r1 r2 r3 r4 r5 ht tk l = some (costV r1 r2 r3 r4 r5 ht tk l) := rfl
  simp only [] at e1 e2 e4
  generalize costV r1 r2 r3 r4 r5 ht tk l = cv at *
  unfold TabV at g1c g2c
  replace hm := hidI hm
  replace hma := hidI hma
  replace e1 := hidI e1
  replace e2 := hidI e2
  replace e4 := hidI e4
  replace e5 := hidI e5
  replace b1 := hidI b1
  replace b2 := hidI b2
  replace g1c := hidI g1c
  replace g2c := hidI g2c
  clear hsz hr hz
  obtain ⟨w0, hw0⟩ : ∃ z : World, z = w := ⟨_, rfl⟩
  have hbw : Below w0.heap.size w0 w := by rw [hw0]; exact Below.refl _ _
  rw [← hw0] at hl
  obtain ⟨q1, hq1⟩ : ∃ z, Hid (decide ((100 : Int) < (l.length : Int)) = z) := ⟨_, rfl⟩
  obtain ⟨q2, hq2⟩ : ∃ z, Hid (decide ((300 : Int) < (sb.size : Int)) = z) := ⟨_, rfl⟩
  obtain ⟨q3, hq3⟩ : ∃ z, Hid (decide ((60 : Int) < a0) = z) := ⟨_, rfl⟩
  obtain ⟨q4, hq4⟩ : ∃ z, Hid (decide (a0 < (1099511627776 : Int)) = z) := ⟨_, rfl⟩
  obtain ⟨q5, hq5⟩ : ∃ z, Hid (decide ((60 : Int) < a1) = z) := ⟨_, rfl⟩
  go_enter Try.func6, Try.ntmps6
  go_upto_region 1 with fail
  have hbwS := hbw
  obtain ⟨B9, hB9⟩ : ∃ B, B = w.heap.size := ⟨_, rfl⟩
  have c0_hsz : B9 ≤ w.heap.size := Nat.le_of_eq hB9
  have hw0B9 : w0.heap.size ≤ B9 := by rw [hB9]; exact hbw.size
  have c0_hle : w.heap.size ≤ B9 := Nat.le_of_eq hB9.symm
  have c0_hbw := hbw
  clear hB9 hbw 
  refine region_lin (n := 20) (st := ?st4) { R := [0, 1, 3, 7, 15, 31, 63, 127, 255, 511, 1023, 2047, 4095, 8191, 16383, 32767, 65535, 131071, 262143, 524287], kill := [[], [], [], [], [], [], [], [], [], [], [], [], [], [], [], [], [], [], [], []], cls := [0, 0, 0, 0, 0, 0, 0, 0, 0, 0, 0, 0, 0, 0, 0, 0, 0, 0, 0, 0], dst := [some 31, some 32, some 33, some 34, some 35, some 36, some 37, some 38, some 39, some 40, some 41, some 42, some 43, some 44, some 45, some 46, some 47, some 48, some 49, some 50], pre := [[], [0], [1], [2], [3], [3, 4], [3, 5], [3, 6], [7], [8], [8, 9], [8, 10], [11], [11, 12], [8, 11, 13], [8, 14], [15], [15, 16], [8, 15, 17], [8, 18]], cov := [], fin := [19], locs := [], tgt := [none], abt := [none, none, none, none, none, none, none, none, none, none, none, none, none, none, none, none, none, none, none, none] }
    [.v [31] (fun vs => (vs.getD 0 undef) = .slice A l.length c),
     .v [32] (fun vs => (vs.getD 0 undef) = .int .i64 (l.length : Int)),
     .v [33] (fun vs => (vs.getD 0 undef) = .bool q1),
     .v [34] (fun vs => (vs.getD 0 undef) = .bool q1),
     .v [35] (fun vs => ((!q1) = true → (vs.getD 0 undef) = .string sb) ∧ ((!q1) = false → (vs.getD 0 undef) = undef)),
     .v [36] (fun vs => ((!q1) = true → (vs.getD 0 undef) = .int .i64 (sb.size : Int)) ∧ ((!q1) = false → (vs.getD 0 undef) = undef)),
     .v [37] (fun vs => ((!q1) = true → (vs.getD 0 undef) = .bool q2) ∧ ((!q1) = false → (vs.getD 0 undef) = undef)),
     .v [38] (fun vs => (vs.getD 0 undef) = .bool (q1 || q2)),
     .v [39] (fun vs => (vs.getD 0 undef) = .bool (q1 || q2)),
     .v [40] (fun vs => ((!(q1 || q2)) = true → (vs.getD 0 undef) = .int .i64 a0) ∧ ((!(q1 || q2)) = false → (vs.getD 0 undef) = undef)),
     .v [41] (fun vs => ((!(q1 || q2)) = true → (vs.getD 0 undef) = .bool q3) ∧ ((!(q1 || q2)) = false → (vs.getD 0 undef) = undef)),
     .v [42] (fun vs => ((!(q1 || q2)) = true → (vs.getD 0 undef) = .bool q3) ∧ ((!(q1 || q2)) = false → (vs.getD 0 undef) = undef)),
     .v [43] (fun vs => (((!(q1 || q2)) && q3) = true → (vs.getD 0 undef) = .int .i64 a0) ∧ (((!(q1 || q2)) && q3) = false → (vs.getD 0 undef) = undef)),
     .v [44] (fun vs => (((!(q1 || q2)) && q3) = true → (vs.getD 0 undef) = .bool q4) ∧ (((!(q1 || q2)) && q3) = false → (vs.getD 0 undef) = undef)),
     .v [45] (fun vs => ((!(q1 || q2)) = true → (vs.getD 0 undef) = .bool (q3 && q4)) ∧ ((!(q1 || q2)) = false → (vs.getD 0 undef) = undef)),
     .v [46] (fun vs => ((!(q1 || q2)) = true → (vs.getD 0 undef) = .bool (q3 && q4)) ∧ ((!(q1 || q2)) = false → (vs.getD 0 undef) = undef)),
     .v [47] (fun vs => (((!(q1 || q2)) && (q3 && q4)) = true → (vs.getD 0 undef) = .int .i64 a1) ∧ (((!(q1 || q2)) && (q3 && q4)) = false → (vs.getD 0 undef) = undef)),
     .v [48] (fun vs => (((!(q1 || q2)) && (q3 && q4)) = true → (vs.getD 0 undef) = .bool q5) ∧ (((!(q1 || q2)) && (q3 && q4)) = false → (vs.getD 0 undef) = undef)),
     .v [49] (fun vs => ((!(q1 || q2)) = true → (vs.getD 0 undef) = .bool ((q3 && q4) && q5)) ∧ ((!(q1 || q2)) = false → (vs.getD 0 undef) = undef)),
     .v [50] (fun vs => (vs.getD 0 undef) = .bool ((q1 || q2) || ((q3 && q4) && q5)))]
    (fun w => B9 ≤ w.heap.size ∧ Below w0.heap.size w0 w)
    (fun c => ([fun s w w' => Below w.heap.size w w'] : List ((Nat → Value) → World → World → Prop)).getD c (fun s w w' => w' = w))
    [31, 32, 33, 34, 35, 36, 37, 38, 39, 40, 41, 42, 43, 44, 45, 46, 47, 48, 49, 50] (by kernel_rfl) ⟨by kernel_rfl, by kernel_rfl, by kernel_rfl, by kernel_rfl, by kernel_rfl, by kernel_rfl, by kernel_rfl, by kernel_rfl⟩ (fun s => ?_) ?_ ?_ ?_ ?_ ?_ (fun s w hC hA => ?_)
  rotate_left
  · simp only [fillS, List.foldl, List.setIfInBounds_toArray, List.set_cons_zero, List.set_cons_succ]; rfl
  · exact ⟨c0_hsz, c0_hbw⟩
  · intro c s w w' hE
    match c, hE with
    | 0, hE => exact Below.size hE
    | c + 1, hE => cases hE; exact Nat.le_refl _
  · rintro c s w w' ⟨hsz, hbw⟩ hE
    match c, hE with
    | 0, hE => replace hE : Below w.heap.size w w' := hE; exact ⟨Nat.le_trans hsz hE.size, bl_step hbw hE⟩
    | c + 1, hE => cases hE; exact ⟨hsz, hbw⟩
  · exact trivial
  · skip
    refine StepsP.cons ?_ ?_
    · intro Q s w hC hA K hK
      clear hC
      clear hA
      refine guard_none (by rfl) ?_
      refine wp_value (v := .slice A l.length c) (w1 := w) ?_ (hK.out _ w (Below.refl _ _) rfl (fun h => by cases h))
      go_simp
      try (first | done | rfl | (simp; done))
    refine StepsP.cons ?_ ?_
    · intro Q s w hC hA K hK
      clear hC
      obtain ⟨f0, -⟩ := hA
      replace f0 : (s 31) = .slice A l.length c := f0
      refine guard_none (by rfl) ?_
      refine wp_value (v := .int .i64 (l.length : Int)) (w1 := w) ?_ (hK.out _ w (Below.refl _ _) rfl (fun h => by cases h))
      try simp only [f0]
      go_simp
      try (first | done | rfl | (simp; done))
    refine StepsP.cons ?_ ?_
    · intro Q s w hC hA K hK
      clear hC
      obtain ⟨f1, -⟩ := hA
      replace f1 : (s 32) = .int .i64 (l.length : Int) := f1
      refine guard_none (by rfl) ?_
      refine wp_value (v := .bool q1) (w1 := w) ?_ (hK.out _ w (Below.refl _ _) rfl (fun h => by cases h))
      try simp only [f1]
      go_simp
      first | done | exact hq1.out | (simp [hq1.out]; done) | (rw [hq1.out]; done)
    refine StepsP.cons ?_ ?_
    · intro Q s w hC hA K hK
      clear hC
      obtain ⟨f2, -⟩ := hA
      replace f2 : (s 33) = .bool q1 := f2
      refine guard_none (by rfl) ?_
      refine wp_value (v := .bool q1) (w1 := w) ?_ (hK.out _ w (Below.refl _ _) rfl (fun h => by cases h))
      try simp only [f2]
      go_simp
      try (first | done | rfl | (simp; done))
    refine StepsP.cons ?_ ?_
    · intro Q s w hC hA K hK
      clear hC
      obtain ⟨f3, -⟩ := hA
      replace f3 : (s 34) = .bool q1 := f3
      cases hc : (!q1)
      · refine guard_off (d := 34) (want := false) (by rfl) (by rfl) ?_ ?_
        · show s 34 ≠ .bool false
          · intro h_
            rw [f3] at h_; injection h_ with h_; rw [Bool.eq_false_iff] at hc; exact hc (by (first | (simp only [h_, Bool.and_true, Bool.true_and, Bool.not_true, Bool.not_false, Bool.and_self]; done) | simp_all))
        exact hK.out _ w (Below.refl _ _) ⟨fun h_ => (by rw [hc] at h_; cases h_), fun _ => rfl⟩ (fun _ g h => by cases h)
      · refine guard_on (d := 34) (want := false) (by rfl) (by rfl) ?_ ?_
        · exact (f3).trans (by rw [show q1 = false by (first | (simp only [Bool.and_eq_true, Bool.not_eq_true', Bool.not_eq_false'] at hc; simp only [hc, Bool.and_true, Bool.true_and, Bool.not_true, Bool.not_false, Bool.and_self]; done) | (simp only [hc, Bool.and_true, Bool.true_and, Bool.not_true, Bool.not_false, Bool.and_self]; done) | simp_all)])
        refine wp_value (v := .string sb) (w1 := w) ?_ (hK.out _ w (Below.refl _ _) ⟨fun _ => rfl, fun h_ => (by rw [hc] at h_; cases h_)⟩ (fun h => by cases h))
        try simp only [f3]
        go_simp
        try (first | done | rfl | (simp; done))
    refine StepsP.cons ?_ ?_
    · intro Q s w hC hA K hK
      clear hC
      obtain ⟨f3, f4, -⟩ := hA
      replace f3 : (s 34) = .bool q1 := f3
      replace f4 : ((!q1) = true → (s 35) = .string sb) ∧ ((!q1) = false → (s 35) = undef) := f4
      cases hc : (!q1)
      · refine guard_off (d := 34) (want := false) (by rfl) (by rfl) ?_ ?_
        · show s 34 ≠ .bool false
          · intro h_
            rw [f3] at h_; injection h_ with h_; rw [Bool.eq_false_iff] at hc; exact hc (by (first | (simp only [h_, Bool.and_true, Bool.true_and, Bool.not_true, Bool.not_false, Bool.and_self]; done) | simp_all))
        exact hK.out _ w (Below.refl _ _) ⟨fun h_ => (by rw [hc] at h_; cases h_), fun _ => rfl⟩ (fun _ g h => by cases h)
      · refine guard_on (d := 34) (want := false) (by rfl) (by rfl) ?_ ?_
        · exact (f3).trans (by rw [show q1 = false by (first | (simp only [Bool.and_eq_true, Bool.not_eq_true', Bool.not_eq_false'] at hc; simp only [hc, Bool.and_true, Bool.true_and, Bool.not_true, Bool.not_false, Bool.and_self]; done) | (simp only [hc, Bool.and_true, Bool.true_and, Bool.not_true, Bool.not_false, Bool.and_self]; done) | simp_all)])
        replace f4 := f4.1 (by exact hc)
        refine wp_value (v := .int .i64 (sb.size : Int)) (w1 := w) ?_ (hK.out _ w (Below.refl _ _) ⟨fun _ => rfl, fun h_ => (by rw [hc] at h_; cases h_)⟩ (fun h => by cases h))
        try simp only [f3, f4]
        go_simp
        first | done | rfl | (simp; done)
    refine StepsP.cons ?_ ?_
    · intro Q s w hC hA K hK
      clear hC
      obtain ⟨f3, f5, -⟩ := hA
      replace f3 : (s 34) = .bool q1 := f3
      replace f5 : ((!q1) = true → (s 36) = .int .i64 (sb.size : Int)) ∧ ((!q1) = false → (s 36) = undef) := f5
      cases hc : (!q1)
      · refine guard_off (d := 34) (want := false) (by rfl) (by rfl) ?_ ?_
        · show s 34 ≠ .bool false
          · intro h_
            rw [f3] at h_; injection h_ with h_; rw [Bool.eq_false_iff] at hc; exact hc (by (first | (simp only [h_, Bool.and_true, Bool.true_and, Bool.not_true, Bool.not_false, Bool.and_self]; done) | simp_all))
        exact hK.out _ w (Below.refl _ _) ⟨fun h_ => (by rw [hc] at h_; cases h_), fun _ => rfl⟩ (fun _ g h => by cases h)
      · refine guard_on (d := 34) (want := false) (by rfl) (by rfl) ?_ ?_
        · exact (f3).trans (by rw [show q1 = false by (first | (simp only [Bool.and_eq_true, Bool.not_eq_true', Bool.not_eq_false'] at hc; simp only [hc, Bool.and_true, Bool.true_and, Bool.not_true, Bool.not_false, Bool.and_self]; done) | (simp only [hc, Bool.and_true, Bool.true_and, Bool.not_true, Bool.not_false, Bool.and_self]; done) | simp_all)])
        replace f5 := f5.1 (by exact hc)
        refine wp_value (v := .bool q2) (w1 := w) ?_ (hK.out _ w (Below.refl _ _) ⟨fun _ => rfl, fun h_ => (by rw [hc] at h_; cases h_)⟩ (fun h => by cases h))
        try simp only [f3, f5]
        go_simp
        first | done | exact hq2.out | (simp [hq2.out]; done) | (rw [hq2.out]; done)
    refine StepsP.cons ?_ ?_
    · intro Q s w hC hA K hK
      clear hC
      obtain ⟨f3, f6, -⟩ := hA
      replace f3 : (s 34) = .bool q1 := f3
      replace f6 : ((!q1) = true → (s 37) = .bool q2) ∧ ((!q1) = false → (s 37) = undef) := f6
      refine guard_none (by rfl) ?_
      refine wp_value (v := .bool (q1 || q2)) (w1 := w) ?_ (hK.out _ w (Below.refl _ _) rfl (fun h => by cases h))
      cases ht : q1
      · have hy_ := f6.1 (by first | (simp only [Bool.and_eq_true, Bool.not_eq_true', Bool.not_eq_false'] at hc ht; simp only [hc, ht, Bool.and_true, Bool.true_and, Bool.not_true, Bool.not_false, Bool.and_self]; done) | (simp only [Bool.and_eq_true, Bool.not_eq_true', Bool.not_eq_false'] at ht; simp only [ht, Bool.and_true, Bool.true_and, Bool.not_true, Bool.not_false, Bool.and_self]; done) | (simp only [ht, Bool.and_true, Bool.true_and, Bool.not_true, Bool.not_false, Bool.and_self]; done) | simp_all)
        have hct_ : s 34 = .bool false := by rw [f3, ht]
        simp only [hct_, hy_]
        go_simp
        try simp
      · skip
        have hct_ : s 34 = .bool true := by rw [f3, ht]
        simp only [hct_]
        go_simp
        try simp
    refine StepsP.cons ?_ ?_
    · intro Q s w hC hA K hK
      clear hC
      obtain ⟨f7, -⟩ := hA
      replace f7 : (s 38) = .bool (q1 || q2) := f7
      refine guard_none (by rfl) ?_
      refine wp_value (v := .bool (q1 || q2)) (w1 := w) ?_ (hK.out _ w (Below.refl _ _) rfl (fun h => by cases h))
      try simp only [f7]
      go_simp
      try (first | done | rfl | (simp; done))
    refine StepsP.cons ?_ ?_
    · intro Q s w hC hA K hK
      clear hC
      obtain ⟨f8, -⟩ := hA
      replace f8 : (s 39) = .bool (q1 || q2) := f8
      cases hc : (!(q1 || q2))
      · refine guard_off (d := 39) (want := false) (by rfl) (by rfl) ?_ ?_
        · show s 39 ≠ .bool false
          · intro h_
            rw [f8] at h_; injection h_ with h_; rw [Bool.eq_false_iff] at hc; exact hc (by (first | (simp only [h_, Bool.and_true, Bool.true_and, Bool.not_true, Bool.not_false, Bool.and_self]; done) | simp_all))
        exact hK.out _ w (Below.refl _ _) ⟨fun h_ => (by rw [hc] at h_; cases h_), fun _ => rfl⟩ (fun _ g h => by cases h)
      · refine guard_on (d := 39) (want := false) (by rfl) (by rfl) ?_ ?_
        · exact (f8).trans (by rw [show (q1 || q2) = false by (first | (simp only [Bool.and_eq_true, Bool.not_eq_true', Bool.not_eq_false'] at hc; simp only [hc, Bool.and_true, Bool.true_and, Bool.not_true, Bool.not_false, Bool.and_self]; done) | (simp only [hc, Bool.and_true, Bool.true_and, Bool.not_true, Bool.not_false, Bool.and_self]; done) | simp_all)])
        refine wp_value (v := .int .i64 a0) (w1 := w) ?_ (hK.out _ w (Below.refl _ _) ⟨fun _ => rfl, fun h_ => (by rw [hc] at h_; cases h_)⟩ (fun h => by cases h))
        try simp only [f8]
        go_simp
        try (first | done | rfl | (simp; done))
    refine StepsP.cons ?_ ?_
    · intro Q s w hC hA K hK
      clear hC
      obtain ⟨f8, f9, -⟩ := hA
      replace f8 : (s 39) = .bool (q1 || q2) := f8
      replace f9 : ((!(q1 || q2)) = true → (s 40) = .int .i64 a0) ∧ ((!(q1 || q2)) = false → (s 40) = undef) := f9
      cases hc : (!(q1 || q2))
      · refine guard_off (d := 39) (want := false) (by rfl) (by rfl) ?_ ?_
        · show s 39 ≠ .bool false
          · intro h_
            rw [f8] at h_; injection h_ with h_; rw [Bool.eq_false_iff] at hc; exact hc (by (first | (simp only [h_, Bool.and_true, Bool.true_and, Bool.not_true, Bool.not_false, Bool.and_self]; done) | simp_all))
        exact hK.out _ w (Below.refl _ _) ⟨fun h_ => (by rw [hc] at h_; cases h_), fun _ => rfl⟩ (fun _ g h => by cases h)
      · refine guard_on (d := 39) (want := false) (by rfl) (by rfl) ?_ ?_
        · exact (f8).trans (by rw [show (q1 || q2) = false by (first | (simp only [Bool.and_eq_true, Bool.not_eq_true', Bool.not_eq_false'] at hc; simp only [hc, Bool.and_true, Bool.true_and, Bool.not_true, Bool.not_false, Bool.and_self]; done) | (simp only [hc, Bool.and_true, Bool.true_and, Bool.not_true, Bool.not_false, Bool.and_self]; done) | simp_all)])
        replace f9 := f9.1 (by exact hc)
        refine wp_value (v := .bool q3) (w1 := w) ?_ (hK.out _ w (Below.refl _ _) ⟨fun _ => rfl, fun h_ => (by rw [hc] at h_; cases h_)⟩ (fun h => by cases h))
        try simp only [f8, f9]
        go_simp
        first | done | exact hq3.out | (simp [hq3.out]; done) | (rw [hq3.out]; done)
    refine StepsP.cons ?_ ?_
    · intro Q s w hC hA K hK
      clear hC
      obtain ⟨f8, f10, -⟩ := hA
      replace f8 : (s 39) = .bool (q1 || q2) := f8
      replace f10 : ((!(q1 || q2)) = true → (s 41) = .bool q3) ∧ ((!(q1 || q2)) = false → (s 41) = undef) := f10
      cases hc : (!(q1 || q2))
      · refine guard_off (d := 39) (want := false) (by rfl) (by rfl) ?_ ?_
        · show s 39 ≠ .bool false
          · intro h_
            rw [f8] at h_; injection h_ with h_; rw [Bool.eq_false_iff] at hc; exact hc (by (first | (simp only [h_, Bool.and_true, Bool.true_and, Bool.not_true, Bool.not_false, Bool.and_self]; done) | simp_all))
        exact hK.out _ w (Below.refl _ _) ⟨fun h_ => (by rw [hc] at h_; cases h_), fun _ => rfl⟩ (fun _ g h => by cases h)
      · refine guard_on (d := 39) (want := false) (by rfl) (by rfl) ?_ ?_
        · exact (f8).trans (by rw [show (q1 || q2) = false by (first | (simp only [Bool.and_eq_true, Bool.not_eq_true', Bool.not_eq_false'] at hc; simp only [hc, Bool.and_true, Bool.true_and, Bool.not_true, Bool.not_false, Bool.and_self]; done) | (simp only [hc, Bool.and_true, Bool.true_and, Bool.not_true, Bool.not_false, Bool.and_self]; done) | simp_all)])
        replace f10 := f10.1 (by exact hc)
        refine wp_value (v := .bool q3) (w1 := w) ?_ (hK.out _ w (Below.refl _ _) ⟨fun _ => rfl, fun h_ => (by rw [hc] at h_; cases h_)⟩ (fun h => by cases h))
        try simp only [f8, f10]
        go_simp
        try (first | done | rfl | (simp; done))
    refine StepsP.cons ?_ ?_
    · intro Q s w hC hA K hK
      clear hC
      obtain ⟨f11, -⟩ := hA
      replace f11 : ((!(q1 || q2)) = true → (s 42) = .bool q3) ∧ ((!(q1 || q2)) = false → (s 42) = undef) := f11
      cases hc : ((!(q1 || q2)) && q3)
      · refine guard_off (d := 42) (want := true) (by rfl) (by rfl) ?_ ?_
        · show s 42 ≠ .bool true
          · intro h_
            cases hcj : (!(q1 || q2))
            · rw [f11.2 hcj] at h_; cases h_
            · rw [f11.1 hcj] at h_; injection h_ with h_; rw [Bool.eq_false_iff] at hc; exact hc (by (first | (simp only [Bool.and_eq_true, Bool.not_eq_true', Bool.not_eq_false'] at hcj; simp only [hcj, h_, Bool.and_true, Bool.true_and, Bool.not_true, Bool.not_false, Bool.and_self]; done) | (simp only [hcj, h_, Bool.and_true, Bool.true_and, Bool.not_true, Bool.not_false, Bool.and_self]; done) | simp_all))
        exact hK.out _ w (Below.refl _ _) ⟨fun h_ => (by rw [hc] at h_; cases h_), fun _ => rfl⟩ (fun _ g h => by cases h)
      · refine guard_on (d := 42) (want := true) (by rfl) (by rfl) ?_ ?_
        · exact (f11.1 (by (first | (simp only [Bool.and_eq_true, Bool.not_eq_true', Bool.not_eq_false'] at hc; simp only [hc, Bool.and_true, Bool.true_and, Bool.not_true, Bool.not_false, Bool.and_self]; done) | (simp only [hc, Bool.and_true, Bool.true_and, Bool.not_true, Bool.not_false, Bool.and_self]; done) | simp_all))).trans (by rw [show q3 = true by (first | (simp only [Bool.and_eq_true, Bool.not_eq_true', Bool.not_eq_false'] at hc; simp only [hc, Bool.and_true, Bool.true_and, Bool.not_true, Bool.not_false, Bool.and_self]; done) | (simp only [hc, Bool.and_true, Bool.true_and, Bool.not_true, Bool.not_false, Bool.and_self]; done) | simp_all)])
        replace f11 := f11.1 (by (first | (simp only [Bool.and_eq_true, Bool.not_eq_true', Bool.not_eq_false'] at hc; simp only [hc, Bool.and_true, Bool.true_and, Bool.not_true, Bool.not_false, Bool.and_self]; done) | (simp only [hc, Bool.and_true, Bool.true_and, Bool.not_true, Bool.not_false, Bool.and_self]; done) | simp_all))
        refine wp_value (v := .int .i64 a0) (w1 := w) ?_ (hK.out _ w (Below.refl _ _) ⟨fun _ => rfl, fun h_ => (by rw [hc] at h_; cases h_)⟩ (fun h => by cases h))
        try simp only [f11]
        go_simp
        try (first | done | rfl | (simp; done))
    refine StepsP.cons ?_ ?_
    · intro Q s w hC hA K hK
      clear hC
      obtain ⟨f11, f12, -⟩ := hA
      replace f11 : ((!(q1 || q2)) = true → (s 42) = .bool q3) ∧ ((!(q1 || q2)) = false → (s 42) = undef) := f11
      replace f12 : (((!(q1 || q2)) && q3) = true → (s 43) = .int .i64 a0) ∧ (((!(q1 || q2)) && q3) = false → (s 43) = undef) := f12
      cases hc : ((!(q1 || q2)) && q3)
      · refine guard_off (d := 42) (want := true) (by rfl) (by rfl) ?_ ?_
        · show s 42 ≠ .bool true
          · intro h_
            cases hcj : (!(q1 || q2))
            · rw [f11.2 hcj] at h_; cases h_
            · rw [f11.1 hcj] at h_; injection h_ with h_; rw [Bool.eq_false_iff] at hc; exact hc (by (first | (simp only [Bool.and_eq_true, Bool.not_eq_true', Bool.not_eq_false'] at hcj; simp only [hcj, h_, Bool.and_true, Bool.true_and, Bool.not_true, Bool.not_false, Bool.and_self]; done) | (simp only [hcj, h_, Bool.and_true, Bool.true_and, Bool.not_true, Bool.not_false, Bool.and_self]; done) | simp_all))
        exact hK.out _ w (Below.refl _ _) ⟨fun h_ => (by rw [hc] at h_; cases h_), fun _ => rfl⟩ (fun _ g h => by cases h)
      · refine guard_on (d := 42) (want := true) (by rfl) (by rfl) ?_ ?_
        · exact (f11.1 (by (first | (simp only [Bool.and_eq_true, Bool.not_eq_true', Bool.not_eq_false'] at hc; simp only [hc, Bool.and_true, Bool.true_and, Bool.not_true, Bool.not_false, Bool.and_self]; done) | (simp only [hc, Bool.and_true, Bool.true_and, Bool.not_true, Bool.not_false, Bool.and_self]; done) | simp_all))).trans (by rw [show q3 = true by (first | (simp only [Bool.and_eq_true, Bool.not_eq_true', Bool.not_eq_false'] at hc; simp only [hc, Bool.and_true, Bool.true_and, Bool.not_true, Bool.not_false, Bool.and_self]; done) | (simp only [hc, Bool.and_true, Bool.true_and, Bool.not_true, Bool.not_false, Bool.and_self]; done) | simp_all)])
        replace f11 := f11.1 (by (first | (simp only [Bool.and_eq_true, Bool.not_eq_true', Bool.not_eq_false'] at hc; simp only [hc, Bool.and_true, Bool.true_and, Bool.not_true, Bool.not_false, Bool.and_self]; done) | (simp only [hc, Bool.and_true, Bool.true_and, Bool.not_true, Bool.not_false, Bool.and_self]; done) | simp_all))
        replace f12 := f12.1 (by exact hc)
        refine wp_value (v := .bool q4) (w1 := w) ?_ (hK.out _ w (Below.refl _ _) ⟨fun _ => rfl, fun h_ => (by rw [hc] at h_; cases h_)⟩ (fun h => by cases h))
        try simp only [f11, f12]
        go_simp
        first | done | exact hq4.out | (simp [hq4.out]; done) | (rw [hq4.out]; done)
    refine StepsP.cons ?_ ?_
    · intro Q s w hC hA K hK
      clear hC
      obtain ⟨f8, f11, f13, -⟩ := hA
      replace f8 : (s 39) = .bool (q1 || q2) := f8
      replace f11 : ((!(q1 || q2)) = true → (s 42) = .bool q3) ∧ ((!(q1 || q2)) = false → (s 42) = undef) := f11
      replace f13 : (((!(q1 || q2)) && q3) = true → (s 44) = .bool q4) ∧ (((!(q1 || q2)) && q3) = false → (s 44) = undef) := f13
      cases hc : (!(q1 || q2))
      · refine guard_off (d := 39) (want := false) (by rfl) (by rfl) ?_ ?_
        · show s 39 ≠ .bool false
          · intro h_
            rw [f8] at h_; injection h_ with h_; rw [Bool.eq_false_iff] at hc; exact hc (by (first | (simp only [h_, Bool.and_true, Bool.true_and, Bool.not_true, Bool.not_false, Bool.and_self]; done) | simp_all))
        exact hK.out _ w (Below.refl _ _) ⟨fun h_ => (by rw [hc] at h_; cases h_), fun _ => rfl⟩ (fun _ g h => by cases h)
      · refine guard_on (d := 39) (want := false) (by rfl) (by rfl) ?_ ?_
        · exact (f8).trans (by rw [show (q1 || q2) = false by (first | (simp only [Bool.and_eq_true, Bool.not_eq_true', Bool.not_eq_false'] at hc; simp only [hc, Bool.and_true, Bool.true_and, Bool.not_true, Bool.not_false, Bool.and_self]; done) | (simp only [hc, Bool.and_true, Bool.true_and, Bool.not_true, Bool.not_false, Bool.and_self]; done) | simp_all)])
        replace f11 := f11.1 (by exact hc)
        refine wp_value (v := .bool (q3 && q4)) (w1 := w) ?_ (hK.out _ w (Below.refl _ _) ⟨fun _ => rfl, fun h_ => (by rw [hc] at h_; cases h_)⟩ (fun h => by cases h))
        cases ht : q3
        · skip
          have hct_ : s 42 = .bool false := by rw [f11, ht]
          simp only [hct_]
          go_simp
          try simp
        · have hy_ := f13.1 (by first | (simp only [Bool.and_eq_true, Bool.not_eq_true', Bool.not_eq_false'] at hc ht; simp only [hc, ht, Bool.and_true, Bool.true_and, Bool.not_true, Bool.not_false, Bool.and_self]; done) | (simp only [Bool.and_eq_true, Bool.not_eq_true', Bool.not_eq_false'] at ht; simp only [ht, Bool.and_true, Bool.true_and, Bool.not_true, Bool.not_false, Bool.and_self]; done) | (simp only [ht, Bool.and_true, Bool.true_and, Bool.not_true, Bool.not_false, Bool.and_self]; done) | simp_all)
          have hct_ : s 42 = .bool true := by rw [f11, ht]
          simp only [hct_, hy_]
          go_simp
          try simp
    refine StepsP.cons ?_ ?_
    · intro Q s w hC hA K hK
      clear hC
      obtain ⟨f8, f14, -⟩ := hA
      replace f8 : (s 39) = .bool (q1 || q2) := f8
      replace f14 : ((!(q1 || q2)) = true → (s 45) = .bool (q3 && q4)) ∧ ((!(q1 || q2)) = false → (s 45) = undef) := f14
      cases hc : (!(q1 || q2))
      · refine guard_off (d := 39) (want := false) (by rfl) (by rfl) ?_ ?_
        · show s 39 ≠ .bool false
          · intro h_
            rw [f8] at h_; injection h_ with h_; rw [Bool.eq_false_iff] at hc; exact hc (by (first | (simp only [h_, Bool.and_true, Bool.true_and, Bool.not_true, Bool.not_false, Bool.and_self]; done) | simp_all))
        exact hK.out _ w (Below.refl _ _) ⟨fun h_ => (by rw [hc] at h_; cases h_), fun _ => rfl⟩ (fun _ g h => by cases h)
      · refine guard_on (d := 39) (want := false) (by rfl) (by rfl) ?_ ?_
        · exact (f8).trans (by rw [show (q1 || q2) = false by (first | (simp only [Bool.and_eq_true, Bool.not_eq_true', Bool.not_eq_false'] at hc; simp only [hc, Bool.and_true, Bool.true_and, Bool.not_true, Bool.not_false, Bool.and_self]; done) | (simp only [hc, Bool.and_true, Bool.true_and, Bool.not_true, Bool.not_false, Bool.and_self]; done) | simp_all)])
        replace f14 := f14.1 (by exact hc)
        refine wp_value (v := .bool (q3 && q4)) (w1 := w) ?_ (hK.out _ w (Below.refl _ _) ⟨fun _ => rfl, fun h_ => (by rw [hc] at h_; cases h_)⟩ (fun h => by cases h))
        try simp only [f8, f14]
        go_simp
        try (first | done | rfl | (simp; done))
    refine StepsP.cons ?_ ?_
    · intro Q s w hC hA K hK
      clear hC
      obtain ⟨f15, -⟩ := hA
      replace f15 : ((!(q1 || q2)) = true → (s 46) = .bool (q3 && q4)) ∧ ((!(q1 || q2)) = false → (s 46) = undef) := f15
      cases hc : ((!(q1 || q2)) && (q3 && q4))
      · refine guard_off (d := 46) (want := true) (by rfl) (by rfl) ?_ ?_
        · show s 46 ≠ .bool true
          · intro h_
            cases hcj : (!(q1 || q2))
            · rw [f15.2 hcj] at h_; cases h_
            · rw [f15.1 hcj] at h_; injection h_ with h_; rw [Bool.eq_false_iff] at hc; exact hc (by (first | (simp only [Bool.and_eq_true, Bool.not_eq_true', Bool.not_eq_false'] at hcj; simp only [hcj, h_, Bool.and_true, Bool.true_and, Bool.not_true, Bool.not_false, Bool.and_self]; done) | (simp only [hcj, h_, Bool.and_true, Bool.true_and, Bool.not_true, Bool.not_false, Bool.and_self]; done) | simp_all))
        exact hK.out _ w (Below.refl _ _) ⟨fun h_ => (by rw [hc] at h_; cases h_), fun _ => rfl⟩ (fun _ g h => by cases h)
      · refine guard_on (d := 46) (want := true) (by rfl) (by rfl) ?_ ?_
        · exact (f15.1 (by (first | (simp only [Bool.and_eq_true, Bool.not_eq_true', Bool.not_eq_false'] at hc; simp only [hc, Bool.and_true, Bool.true_and, Bool.not_true, Bool.not_false, Bool.and_self]; done) | (simp only [hc, Bool.and_true, Bool.true_and, Bool.not_true, Bool.not_false, Bool.and_self]; done) | simp_all))).trans (by rw [show (q3 && q4) = true by (first | (simp only [Bool.and_eq_true, Bool.not_eq_true', Bool.not_eq_false'] at hc; simp only [hc, Bool.and_true, Bool.true_and, Bool.not_true, Bool.not_false, Bool.and_self]; done) | (simp only [hc, Bool.and_true, Bool.true_and, Bool.not_true, Bool.not_false, Bool.and_self]; done) | simp_all)])
        replace f15 := f15.1 (by (first | (simp only [Bool.and_eq_true, Bool.not_eq_true', Bool.not_eq_false'] at hc; simp only [hc, Bool.and_true, Bool.true_and, Bool.not_true, Bool.not_false, Bool.and_self]; done) | (simp only [hc, Bool.and_true, Bool.true_and, Bool.not_true, Bool.not_false, Bool.and_self]; done) | simp_all))
        refine wp_value (v := .int .i64 a1) (w1 := w) ?_ (hK.out _ w (Below.refl _ _) ⟨fun _ => rfl, fun h_ => (by rw [hc] at h_; cases h_)⟩ (fun h => by cases h))
        try simp only [f15]
        go_simp
        try (first | done | rfl | (simp; done))
    refine StepsP.cons ?_ ?_
    · intro Q s w hC hA K hK
      clear hC
      obtain ⟨f15, f16, -⟩ := hA
      replace f15 : ((!(q1 || q2)) = true → (s 46) = .bool (q3 && q4)) ∧ ((!(q1 || q2)) = false → (s 46) = undef) := f15
      replace f16 : (((!(q1 || q2)) && (q3 && q4)) = true → (s 47) = .int .i64 a1) ∧ (((!(q1 || q2)) && (q3 && q4)) = false → (s 47) = undef) := f16
      cases hc : ((!(q1 || q2)) && (q3 && q4))
      · refine guard_off (d := 46) (want := true) (by rfl) (by rfl) ?_ ?_
        · show s 46 ≠ .bool true
          · intro h_
            cases hcj : (!(q1 || q2))
            · rw [f15.2 hcj] at h_; cases h_
            · rw [f15.1 hcj] at h_; injection h_ with h_; rw [Bool.eq_false_iff] at hc; exact hc (by (first | (simp only [Bool.and_eq_true, Bool.not_eq_true', Bool.not_eq_false'] at hcj; simp only [hcj, h_, Bool.and_true, Bool.true_and, Bool.not_true, Bool.not_false, Bool.and_self]; done) | (simp only [hcj, h_, Bool.and_true, Bool.true_and, Bool.not_true, Bool.not_false, Bool.and_self]; done) | simp_all))
        exact hK.out _ w (Below.refl _ _) ⟨fun h_ => (by rw [hc] at h_; cases h_), fun _ => rfl⟩ (fun _ g h => by cases h)
      · refine guard_on (d := 46) (want := true) (by rfl) (by rfl) ?_ ?_
        · exact (f15.1 (by (first | (simp only [Bool.and_eq_true, Bool.not_eq_true', Bool.not_eq_false'] at hc; simp only [hc, Bool.and_true, Bool.true_and, Bool.not_true, Bool.not_false, Bool.and_self]; done) | (simp only [hc, Bool.and_true, Bool.true_and, Bool.not_true, Bool.not_false, Bool.and_self]; done) | simp_all))).trans (by rw [show (q3 && q4) = true by (first | (simp only [Bool.and_eq_true, Bool.not_eq_true', Bool.not_eq_false'] at hc; simp only [hc, Bool.and_true, Bool.true_and, Bool.not_true, Bool.not_false, Bool.and_self]; done) | (simp only [hc, Bool.and_true, Bool.true_and, Bool.not_true, Bool.not_false, Bool.and_self]; done) | simp_all)])
        replace f15 := f15.1 (by (first | (simp only [Bool.and_eq_true, Bool.not_eq_true', Bool.not_eq_false'] at hc; simp only [hc, Bool.and_true, Bool.true_and, Bool.not_true, Bool.not_false, Bool.and_self]; done) | (simp only [hc, Bool.and_true, Bool.true_and, Bool.not_true, Bool.not_false, Bool.and_self]; done) | simp_all))
        replace f16 := f16.1 (by exact hc)
        refine wp_value (v := .bool q5) (w1 := w) ?_ (hK.out _ w (Below.refl _ _) ⟨fun _ => rfl, fun h_ => (by rw [hc] at h_; cases h_)⟩ (fun h => by cases h))
        try simp only [f15, f16]
        go_simp
        first | done | exact hq5.out | (simp [hq5.out]; done) | (rw [hq5.out]; done)
    refine StepsP.cons ?_ ?_
    · intro Q s w hC hA K hK
      clear hC
      obtain ⟨f8, f15, f17, -⟩ := hA
      replace f8 : (s 39) = .bool (q1 || q2) := f8
      replace f15 : ((!(q1 || q2)) = true → (s 46) = .bool (q3 && q4)) ∧ ((!(q1 || q2)) = false → (s 46) = undef) := f15
      replace f17 : (((!(q1 || q2)) && (q3 && q4)) = true → (s 48) = .bool q5) ∧ (((!(q1 || q2)) && (q3 && q4)) = false → (s 48) = undef) := f17
      cases hc : (!(q1 || q2))
      · refine guard_off (d := 39) (want := false) (by rfl) (by rfl) ?_ ?_
        · show s 39 ≠ .bool false
          · intro h_
            rw [f8] at h_; injection h_ with h_; rw [Bool.eq_false_iff] at hc; exact hc (by (first | (simp only [h_, Bool.and_true, Bool.true_and, Bool.not_true, Bool.not_false, Bool.and_self]; done) | simp_all))
        exact hK.out _ w (Below.refl _ _) ⟨fun h_ => (by rw [hc] at h_; cases h_), fun _ => rfl⟩ (fun _ g h => by cases h)
      · refine guard_on (d := 39) (want := false) (by rfl) (by rfl) ?_ ?_
        · exact (f8).trans (by rw [show (q1 || q2) = false by (first | (simp only [Bool.and_eq_true, Bool.not_eq_true', Bool.not_eq_false'] at hc; simp only [hc, Bool.and_true, Bool.true_and, Bool.not_true, Bool.not_false, Bool.and_self]; done) | (simp only [hc, Bool.and_true, Bool.true_and, Bool.not_true, Bool.not_false, Bool.and_self]; done) | simp_all)])
        replace f15 := f15.1 (by exact hc)
        refine wp_value (v := .bool ((q3 && q4) && q5)) (w1 := w) ?_ (hK.out _ w (Below.refl _ _) ⟨fun _ => rfl, fun h_ => (by rw [hc] at h_; cases h_)⟩ (fun h => by cases h))
        cases ht : (q3 && q4)
        · skip
          have hct_ : s 46 = .bool false := by rw [f15, ht]
          simp only [hct_]
          go_simp
          try simp
        · have hy_ := f17.1 (by first | (simp only [Bool.and_eq_true, Bool.not_eq_true', Bool.not_eq_false'] at hc ht; simp only [hc, ht, Bool.and_true, Bool.true_and, Bool.not_true, Bool.not_false, Bool.and_self]; done) | (simp only [Bool.and_eq_true, Bool.not_eq_true', Bool.not_eq_false'] at ht; simp only [ht, Bool.and_true, Bool.true_and, Bool.not_true, Bool.not_false, Bool.and_self]; done) | (simp only [ht, Bool.and_true, Bool.true_and, Bool.not_true, Bool.not_false, Bool.and_self]; done) | simp_all)
          have hct_ : s 46 = .bool true := by rw [f15, ht]
          simp only [hct_, hy_]
          go_simp
          try simp
    refine StepsP.cons ?_ ?_
    · intro Q s w hC hA K hK
      clear hC
      obtain ⟨f8, f18, -⟩ := hA
      replace f8 : (s 39) = .bool (q1 || q2) := f8
      replace f18 : ((!(q1 || q2)) = true → (s 49) = .bool ((q3 && q4) && q5)) ∧ ((!(q1 || q2)) = false → (s 49) = undef) := f18
      refine guard_none (by rfl) ?_
      refine wp_value (v := .bool ((q1 || q2) || ((q3 && q4) && q5))) (w1 := w) ?_ (hK.out _ w (Below.refl _ _) rfl (fun h => by cases h))
      cases ht : (q1 || q2)
      · have hy_ := f18.1 (by first | (simp only [Bool.and_eq_true, Bool.not_eq_true', Bool.not_eq_false'] at hc ht; simp only [hc, ht, Bool.and_true, Bool.true_and, Bool.not_true, Bool.not_false, Bool.and_self]; done) | (simp only [Bool.and_eq_true, Bool.not_eq_true', Bool.not_eq_false'] at ht; simp only [ht, Bool.and_true, Bool.true_and, Bool.not_true, Bool.not_false, Bool.and_self]; done) | (simp only [ht, Bool.and_true, Bool.true_and, Bool.not_true, Bool.not_false, Bool.and_self]; done) | simp_all)
        have hct_ : s 39 = .bool false := by rw [f8, ht]
        simp only [hct_, hy_]
        go_simp
        try simp
      · skip
        have hct_ : s 39 = .bool true := by rw [f8, ht]
        simp only [hct_]
        go_simp
        try simp
    exact StepsP.nil
  obtain ⟨hsz, hbw⟩ := hC
  obtain ⟨f19, -⟩ := hA
  replace f19 : (s 50) = .bool ((q1 || q2) || ((q3 && q4) && q5)) := f19
  refine act_eq (b' := ?b4) ?h4 ?q4
  case h4 => simp only [f19]; rfl
  obtain ⟨tg, htg⟩ : ∃ z, (q1 || q2 || q3 && q4 && q5) = z := ⟨_, rfl⟩
  rw [htg]
  clear f19 c0_hsz c0_hle c0_hbw hbwS hsz hw0B9
  cases tg
  rotate_left
  · skip
    go_wp2_with fail
    refine (alive_calls _).mono ?_
    rintro e wz ⟨rfl, hbz⟩
    replace hbw := bl_step hbw hbz
    subst hw0
    go_wp2
    go_ret
    exact ⟨rfl, hbw⟩
  have hlen : l.length ≤ 100 := by
    have h1 : q1 = false := by cases q1 <;> simp_all
    have := hq1.out
    rw [h1] at this
    have := of_decide_eq_false this
    omega
  clear htg hq1 hq2 hq3 hq4 hq5
  go_upto_region 4 with (first | (go_at_call 18; refine (advise_Make.calls _ _ _ _ _ _ _ _ _ _ _ hma.out).mono ?_; rintro e w1 ⟨rfl, hb1⟩) | fail)
  replace hbw := bl_alloc (bl_step hbw hb1) (.cells #[.int .i64 r1, .int .i64 r2, .int .i64 r3, .int .i64 r4, .string r5] 38)
  have hk_g17 := blk_new w1 (.cells #[.int .i64 r1, .int .i64 r2, .int .i64 r3, .int .i64 r4, .string r5] 38)
  clear hb1
  generalize w1.alloc (.cells #[.int .i64 r1, .int .i64 r2, .int .i64 r3, .int .i64 r4, .string r5] 38) = W1 at *
  generalize w1.heap.size = g17 at *
  go_upto_region 5 with (first | (go_at_call 19; refine (picketref18_Make.calls _ _ _ _ _ _ _ _ _ _ _ _ hm.out).mono ?_; rintro e w2 ⟨rfl, hb2⟩) | fail)
  have hbA := bl_alloc (Below.refl w2.heap.size w2) (.cells #[.int .i64 r1, .int .i64 r2, .int .i64 r3, .int .i64 r4, .string r5] 38)
  replace hbw := bl_step (bl_step hbw hb2) hbA
  replace hk_g17 := bl_block hbA (bl_block hb2 hk_g17)
  have hk_g19 := blk_new w2 (.cells #[.int .i64 r1, .int .i64 r2, .int .i64 r3, .int .i64 r4, .string r5] 38)
  clear hb2 hbA
  generalize w2.alloc (.cells #[.int .i64 r1, .int .i64 r2, .int .i64 r3, .int .i64 r4, .string r5] 38) = W2 at *
  generalize w2.heap.size = g19 at *
  obtain ⟨B8, hB8⟩ : ∃ B, B = W2.heap.size := ⟨_, rfl⟩
  have c0_hsz : B8 ≤ W2.heap.size := Nat.le_of_eq hB8
  have hw0B8 : w0.heap.size ≤ B8 := by rw [hB8]; exact hbw.size
  have c0_hle : W2.heap.size ≤ B8 := Nat.le_of_eq hB8.symm
  have c0_hk_g17 := hk_g17
  have c0_lt_g17 : g17 < B8 := by rw [hB8]; exact blk_lt hk_g17
  have c0_hk_g19 := hk_g19
  have c0_lt_g19 : g19 < B8 := by rw [hB8]; exact blk_lt hk_g19
  have c0_hbw := hbw
  clear hB8 hbw hk_g17 hk_g19
  refine region_lin (n := 8) (st := ?st5) { R := [0, 0, 3, 7, 15, 15, 63, 127], kill := [[], [], [], [], [], [], [], []], cls := [0, 0, 0, 0, 0, 0, 0, 0], dst := [some 68, some 69, some 70, some 71, some 72, some 73, some 74, some 75], pre := [[], [], [0, 1], [2], [3], [3], [3, 4, 5], [3, 6]], cov := [], fin := [7], locs := [], tgt := [none], abt := [none, none, none, none, none, none, none, none] }
    [.v [68] (fun vs => (vs.getD 0 undef) = .agg #[.int .i64 r1, .int .i64 r2, .int .i64 r3, .int .i64 r4, .string r5]),
     .v [69] (fun vs => (vs.getD 0 undef) = .agg #[.int .i64 r1, .int .i64 r2, .int .i64 r3, .int .i64 r4, .string r5]),
     .v [70] (fun vs => (vs.getD 0 undef) = .bool false),
     .v [71] (fun vs => (vs.getD 0 undef) = .bool false),
     .v [72] (fun vs => (vs.getD 0 undef) = .int .i64 r6),
     .v [73] (fun vs => (vs.getD 0 undef) = .int .i64 r6),
     .v [74] (fun vs => (vs.getD 0 undef) = .bool false),
     .v [75] (fun vs => (vs.getD 0 undef) = .bool false)]
    (fun w => B8 ≤ w.heap.size ∧ w.heap[g17]? = some (.cells #[.int .i64 r1, .int .i64 r2, .int .i64 r3, .int .i64 r4, .string r5] 38 (0, 0)) ∧ g17 < B8 ∧ w.heap[g19]? = some (.cells #[.int .i64 r1, .int .i64 r2, .int .i64 r3, .int .i64 r4, .string r5] 38 (0, 0)) ∧ g19 < B8 ∧ Below w0.heap.size w0 w)
    (fun c => ([fun s w w' => Below w.heap.size w w'] : List ((Nat → Value) → World → World → Prop)).getD c (fun s w w' => w' = w))
    [68, 69, 70, 71, 72, 73, 74, 75] (by kernel_rfl) ⟨by kernel_rfl, by kernel_rfl, by kernel_rfl, by kernel_rfl, by kernel_rfl, by kernel_rfl, by kernel_rfl, by kernel_rfl⟩ (fun s => ?_) ?_ ?_ ?_ ?_ ?_ (fun s w hC hA => ?_)
  rotate_left
  · simp only [fillS, List.foldl, List.setIfInBounds_toArray, List.set_cons_zero, List.set_cons_succ]; rfl
  · exact ⟨c0_hsz, c0_hk_g17, c0_lt_g17, c0_hk_g19, c0_lt_g19, c0_hbw⟩
  · intro c s w w' hE
    match c, hE with
    | 0, hE => exact Below.size hE
    | c + 1, hE => cases hE; exact Nat.le_refl _
  · rintro c s w w' ⟨hsz, hk_g17, lt_g17, hk_g19, lt_g19, hbw⟩ hE
    match c, hE with
    | 0, hE => replace hE : Below w.heap.size w w' := hE; exact ⟨Nat.le_trans hsz hE.size, bl_block hE hk_g17, lt_g17, bl_block hE hk_g19, lt_g19, bl_step hbw hE⟩
    | c + 1, hE => cases hE; exact ⟨hsz, hk_g17, lt_g17, hk_g19, lt_g19, hbw⟩
  · exact trivial
  · skip
    refine StepsP.cons ?_ ?_
    · intro Q s w hC hA K hK
      obtain ⟨hsz, hk_g17, lt_g17, hk_g19, lt_g19, hbw⟩ := hC
      clear hA
      refine guard_none (by rfl) ?_
      have m0_g17 : w.cell? ⟨g17, 0, none⟩ = some (.int .i64 r1) := blk_cell hk_g17 0 (by rfl)
      have m1_g17 : w.cell? ⟨g17, 1, none⟩ = some (.int .i64 r2) := blk_cell hk_g17 1 (by rfl)
      have m2_g17 : w.cell? ⟨g17, 2, none⟩ = some (.int .i64 r3) := blk_cell hk_g17 2 (by rfl)
      have m3_g17 : w.cell? ⟨g17, 3, none⟩ = some (.int .i64 r4) := blk_cell hk_g17 3 (by rfl)
      have m4_g17 : w.cell? ⟨g17, 4, none⟩ = some (.string r5) := blk_cell hk_g17 4 (by rfl)
      refine wp_value (v := .agg #[.int .i64 r1, .int .i64 r2, .int .i64 r3, .int .i64 r4, .string r5]) (w1 := w) ?_ (hK.out _ w (Below.refl _ _) rfl (fun h => by cases h))
      go_simp
      try (first | done | rfl | (simp; done))
    refine StepsP.cons ?_ ?_
    · intro Q s w hC hA K hK
      obtain ⟨hsz, hk_g17, lt_g17, hk_g19, lt_g19, hbw⟩ := hC
      clear hA
      refine guard_none (by rfl) ?_
      have m0_g19 : w.cell? ⟨g19, 0, none⟩ = some (.int .i64 r1) := blk_cell hk_g19 0 (by rfl)
      have m1_g19 : w.cell? ⟨g19, 1, none⟩ = some (.int .i64 r2) := blk_cell hk_g19 1 (by rfl)
      have m2_g19 : w.cell? ⟨g19, 2, none⟩ = some (.int .i64 r3) := blk_cell hk_g19 2 (by rfl)
      have m3_g19 : w.cell? ⟨g19, 3, none⟩ = some (.int .i64 r4) := blk_cell hk_g19 3 (by rfl)
      have m4_g19 : w.cell? ⟨g19, 4, none⟩ = some (.string r5) := blk_cell hk_g19 4 (by rfl)
      refine wp_value (v := .agg #[.int .i64 r1, .int .i64 r2, .int .i64 r3, .int .i64 r4, .string r5]) (w1 := w) ?_ (hK.out _ w (Below.refl _ _) rfl (fun h => by cases h))
      go_simp
      try (first | done | rfl | (simp; done))
    refine StepsP.cons ?_ ?_
    · intro Q s w hC hA K hK
      clear hC
      obtain ⟨f0, f1, -⟩ := hA
      replace f0 : (s 68) = .agg #[.int .i64 r1, .int .i64 r2, .int .i64 r3, .int .i64 r4, .string r5] := f0
      replace f1 : (s 69) = .agg #[.int .i64 r1, .int .i64 r2, .int .i64 r3, .int .i64 r4, .string r5] := f1
      refine guard_none (by rfl) ?_
      refine wp_value (v := .bool false) (w1 := w) ?_ (hK.out _ w (Below.refl _ _) rfl (fun h => by cases h))
      try simp only [f0, f1]
      go_simp
      try (first | done | rfl | (simp; done))
    refine StepsP.cons ?_ ?_
    · intro Q s w hC hA K hK
      clear hC
      obtain ⟨f2, -⟩ := hA
      replace f2 : (s 70) = .bool false := f2
      refine guard_none (by rfl) ?_
      refine wp_value (v := .bool false) (w1 := w) ?_ (hK.out _ w (Below.refl _ _) rfl (fun h => by cases h))
      try simp only [f2]
      go_simp
      try (first | done | rfl | (simp; done))
    refine StepsP.cons ?_ ?_
    · intro Q s w hC hA K hK
      clear hC
      obtain ⟨f3, -⟩ := hA
      replace f3 : (s 71) = .bool false := f3
      refine guard_on (d := 71) (want := false) (by rfl) (by rfl) ?_ ?_
      · exact f3
      refine wp_value (v := .int .i64 r6) (w1 := w) ?_ (hK.out _ w (Below.refl _ _) rfl (fun h => by cases h))
      try simp only [f3]
      go_simp
      try (first | done | rfl | (simp; done))
    refine StepsP.cons ?_ ?_
    · intro Q s w hC hA K hK
      clear hC
      obtain ⟨f3, -⟩ := hA
      replace f3 : (s 71) = .bool false := f3
      refine guard_on (d := 71) (want := false) (by rfl) (by rfl) ?_ ?_
      · exact f3
      refine wp_value (v := .int .i64 r6) (w1 := w) ?_ (hK.out _ w (Below.refl _ _) rfl (fun h => by cases h))
      try simp only [f3]
      go_simp
      try (first | done | rfl | (simp; done))
    refine StepsP.cons ?_ ?_
    · intro Q s w hC hA K hK
      clear hC
      obtain ⟨f3, f4, f5, -⟩ := hA
      replace f3 : (s 71) = .bool false := f3
      replace f4 : (s 72) = .int .i64 r6 := f4
      replace f5 : (s 73) = .int .i64 r6 := f5
      refine guard_on (d := 71) (want := false) (by rfl) (by rfl) ?_ ?_
      · exact f3
      refine wp_value (v := .bool false) (w1 := w) ?_ (hK.out _ w (Below.refl _ _) rfl (fun h => by cases h))
      try simp only [f3, f4, f5]
      go_simp
      try (first | done | rfl | (simp; done))
    refine StepsP.cons ?_ ?_
    · intro Q s w hC hA K hK
      clear hC
      obtain ⟨f3, f6, -⟩ := hA
      replace f3 : (s 71) = .bool false := f3
      replace f6 : (s 74) = .bool false := f6
      refine guard_none (by rfl) ?_
      refine wp_value (v := .bool false) (w1 := w) ?_ (hK.out _ w (Below.refl _ _) rfl (fun h => by cases h))
      try simp only [f3, f6]
      go_simp
      try (first | done | rfl | (simp; done))
    exact StepsP.nil
  obtain ⟨hsz, hk_g17, lt_g17, hk_g19, lt_g19, hbw⟩ := hC
  obtain ⟨f7, -⟩ := hA
  replace f7 : (s 75) = .bool false := f7
  refine act_eq (b' := ?b5) ?h5 ?q5
  case h5 => simp only [f7]; rfl
  clear c0_hsz hw0B8 c0_hle c0_hk_g17 c0_lt_g17 c0_hk_g19 c0_lt_g19 c0_hbw hsz lt_g17 lt_g19 f7
  obtain ⟨W3, hW3⟩ : ∃ z : World, z = w := ⟨_, rfl⟩
  subst hW3
  replace hl := hl.below hbw
  have hl2 := hl.2
  have hvl : (encI l).length = l.length * 1 := by simp [encI]
  have h1c : ∀ u ∈ encI l, u.oneCell' = true := by intro u hu; unfold encI at hu; obtain ⟨x, _, rfl⟩ := List.mem_map.1 hu; rfl
  go_upto_region 8 with (first | (at_builtin; refine list_appRd W3.heap.size rfl (.const (.slice none 0 0)) (.tmp 76) 24 3 _ 1 _ rfl Try.underlying24 infoIL (by rfl) (by omega) (.slice none 0 0) 0 [] A l.length c (encI l) rfl rfl (World.ownsRow_nil _ _ _ _) hvl hl2 h1c (by omega) (by omega) (Nat.le_refl _) ?_; intro v1 w5 ho1 hg1 ha1; rw [List.nil_append, Nat.zero_add] at ho1) | (at_builtin; refine list_appRd W3.heap.size rfl (.tmp 77) (.tmp 78) 24 3 _ 1 _ rfl Try.underlying24 infoIL (by rfl) (by omega) v1 l.length (encI l) (some ⟨w5.heap.size, 0, none⟩) 1 1 (encI [-77]) rfl rfl (own_alloc ho1 _) (by rfl) (fun k v hk => ⟨w5.heap.size, 0, rfl, by rw [Nat.zero_add, blkc (blk_new w5 (.cells #[.int .i64 (-77)] 3))]; simpa [encI] using hk⟩) (by intro v hv; simp [encI] at hv; subst hv; rfl) (by omega) (by omega) (by have h1 := hg1.size; have h2 := (bl_alloc (Below.refl w5.heap.size w5) (.cells #[.int .i64 (-77)] 3)).size; omega) ?_; intro v2 w6 ho2 hg2 ha2; obtain ⟨A2, c2, rfl, hc2, hr2, hn2, -⟩ := own_rdC ho2; obtain ⟨bp, op_, rfl, hcell⟩ := hr2 l.length (.int .i64 (-77)) (by simp [encI]); have hcc : l.length ≤ c2 := (by omega)) | fail)
  have hb36 := bl_grown (bl_alloc (bl_grown (Below.refl W3.heap.size W3) hg1 (fun k hk => by cases hk)) (.cells #[.int .i64 (-77)] 3)) hg2 (fun k hk => (own_lt ho1 k hk).1)
  have hp : RdI w6 (some ⟨bp, op_, none⟩) (l ++ [-77]) := ⟨by simp; omega, by unfold encI at hr2 ⊢; rw [List.map_append]; exact hr2⟩
  have hcc1 : l.length + 1 ≤ c2 := by omega
  clear hr2 hcell ho2 hg2 ha2 ho1 hg1 ha1 hn2 hc2 hl2 hvl h1c
  replace hbw := bl_step hbw hb36
  replace hk_g17 := bl_block hb36 hk_g17
  replace hk_g19 := bl_block hb36 hk_g19
  replace hl := hl.below hb36
  clear hb36
  have y0 : w6.cell? ⟨g17, 0, none⟩ = some (.int .i64 r1) := blk_cell hk_g17 0 (by rfl)
  have y1 : w6.cell? ⟨g17, 1, none⟩ = some (.int .i64 r2) := blk_cell hk_g17 1 (by rfl)
  have y2 : w6.cell? ⟨g17, 2, none⟩ = some (.int .i64 r3) := blk_cell hk_g17 2 (by rfl)
  have y3 : w6.cell? ⟨g17, 3, none⟩ = some (.int .i64 r4) := blk_cell hk_g17 3 (by rfl)
  have y4 : w6.cell? ⟨g17, 4, none⟩ = some (.string r5) := blk_cell hk_g17 4 (by rfl)
  go_wp2_with fail
  refine (advise_Put.calls _ _ _ _ _ _ _ _ _ e1.out).mono ?_
  rintro e w7 ⟨rfl, hb7⟩
  replace hbw := bl_step hbw hb7
  replace hk_g17 := bl_block hb7 hk_g17
  replace hk_g19 := bl_block hb7 hk_g19
  replace hl := hl.below hb7
  replace hp := hp.below hb7
  clear hb7
  clear y0 y1 y2 y3 y4
  have y0 : w7.cell? ⟨g19, 0, none⟩ = some (.int .i64 r1) := blk_cell hk_g19 0 (by rfl)
  have y1 : w7.cell? ⟨g19, 1, none⟩ = some (.int .i64 r2) := blk_cell hk_g19 1 (by rfl)
  have y2 : w7.cell? ⟨g19, 2, none⟩ = some (.int .i64 r3) := blk_cell hk_g19 2 (by rfl)
  have y3 : w7.cell? ⟨g19, 3, none⟩ = some (.int .i64 r4) := blk_cell hk_g19 3 (by rfl)
  have y4 : w7.cell? ⟨g19, 4, none⟩ = some (.string r5) := blk_cell hk_g19 4 (by rfl)
  go_wp2_with fail
  refine (picketref18_Put.calls _ _ _ _ _ _ _ _ _ e2.out).mono ?_
  rintro e w8 ⟨rfl, hb8⟩
  replace hbw := bl_step hbw hb8
  replace hk_g17 := bl_block hb8 hk_g17
  replace hk_g19 := bl_block hb8 hk_g19
  replace hl := hl.below hb8
  replace hp := hp.below hb8
  clear hb8
  clear y0 y1 y2 y3 y4
  go_wp2_with fail
  refine (g1c.out _).mono ?_
  rintro e w9 ⟨rfl, hb9⟩
  replace hbw := bl_step hbw hb9
  replace hk_g17 := bl_block hb9 hk_g17
  replace hk_g19 := bl_block hb9 hk_g19
  replace hl := hl.below hb9
  replace hp := hp.below hb9
  clear hb9
  go_upto_region 11 with fail
  have hk_g26 := blk_new w9 (.cells #[.int .i64 x1, .int .i64 x2, .int .i64 x3, .int .i64 x4, .string x5] 38)
  have hbA := bl_alloc (Below.refl w9.heap.size w9) (.cells #[.int .i64 x1, .int .i64 x2, .int .i64 x3, .int .i64 x4, .string x5] 38)
  replace hbw := bl_step hbw hbA
  replace hk_g17 := bl_block hbA hk_g17
  replace hk_g19 := bl_block hbA hk_g19
  replace hl := hl.below hbA
  replace hp := hp.below hbA
  clear hbA
  generalize w9.alloc (.cells #[.int .i64 x1, .int .i64 x2, .int .i64 x3, .int .i64 x4, .string x5] 38) = X26 at *
  generalize w9.heap.size = g26 at *
  go_wp2_with fail
  refine (g2c.out _).mono ?_
  rintro e w10 ⟨rfl, hb10⟩
  replace hbw := bl_step hbw hb10
  replace hk_g17 := bl_block hb10 hk_g17
  replace hk_g19 := bl_block hb10 hk_g19
  replace hl := hl.below hb10
  replace hp := hp.below hb10
  replace hk_g26 := bl_block hb10 hk_g26
  clear hb10
  go_upto_region 12 with fail
  have hk_g28 := blk_new w10 (.cells #[.int .i64 x1, .int .i64 x2, .int .i64 x3, .int .i64 x4, .string x5] 38)
  have hbA := bl_alloc (Below.refl w10.heap.size w10) (.cells #[.int .i64 x1, .int .i64 x2, .int .i64 x3, .int .i64 x4, .string x5] 38)
  replace hbw := bl_step hbw hbA
  replace hk_g17 := bl_block hbA hk_g17
  replace hk_g19 := bl_block hbA hk_g19
  replace hl := hl.below hbA
  replace hp := hp.below hbA
  replace hk_g26 := bl_block hbA hk_g26
  clear hbA
  generalize w10.alloc (.cells #[.int .i64 x1, .int .i64 x2, .int .i64 x3, .int .i64 x4, .string x5] 38) = X28 at *
  generalize w10.heap.size = g28 at *
  have c0_hl := hl.below (bl_drew (Below.refl X28.heap.size X28))
  have c0_hp := hp.below (bl_drew (Below.refl X28.heap.size X28))
  clear hl hp
  obtain ⟨B7, hB7⟩ : ∃ B, B = X28.heap.size := ⟨_, rfl⟩
  have c0_hsz : B7 ≤ X28.heap.size := Nat.le_of_eq hB7
  have hw0B7 : w0.heap.size ≤ B7 := by rw [hB7]; exact hbw.size
  have c0_hle : X28.heap.size ≤ B7 := Nat.le_of_eq hB7.symm
  have c0_hk_g17 := blk_drew hk_g17
  have c0_lt_g17 : g17 < B7 := by rw [hB7]; exact blk_lt hk_g17
  have c0_hk_g19 := blk_drew hk_g19
  have c0_lt_g19 : g19 < B7 := by rw [hB7]; exact blk_lt hk_g19
  have c0_hk_g26 := blk_drew hk_g26
  have c0_lt_g26 : g26 < B7 := by rw [hB7]; exact blk_lt hk_g26
  have c0_hk_g28 := blk_drew hk_g28
  have c0_lt_g28 : g28 < B7 := by rw [hB7]; exact blk_lt hk_g28
  have c0_hbw := bl_drew hbw
  clear hB7 hbw hk_g17 hk_g19 hk_g26 hk_g28
  refine region_lin (n := 42) (st := ?st6) { R := [0, 0, 3, 7, 15, 15, 63, 127, 255, 511, 511, 2047, 4095, 8191, 16383, 16383, 65535, 131071, 262143, 524287, 524287, 524287, 4194303, 524287, 524287, 524287, 67108863, 134217727, 268435455, 536870911, 1073741823, 1073741823, 1073741823, 1073741823, 17179869183, 1073741823, 1073741823, 1073741823, 1073741823, 549755813887, 1099511627775, 2199023255551], kill := [[], [], [], [], [], [], [], [], [], [], [], [], [], [], [], [], [], [], [], [], [], [], [], [], [], [], [], [], [], [], [], [], [], [], [], [], [], [], [], [], [], []], cls := [0, 0, 0, 0, 0, 0, 0, 0, 0, 0, 0, 0, 0, 0, 0, 0, 0, 0, 0, 0, 0, 0, 0, 0, 0, 0, 0, 0, 0, 0, 0, 0, 0, 0, 0, 0, 0, 0, 0, 0, 0, 0], dst := [some 103, some 104, some 105, some 106, some 107, some 108, some 109, some 110, some 111, some 112, some 113, some 114, some 115, some 116, some 117, some 118, some 119, some 120, some 121, some 122, some 123, some 124, some 125, some 126, some 127, some 128, some 129, some 130, some 131, some 132, some 133, some 134, some 135, some 136, some 137, some 138, some 139, some 140, some 141, some 142, some 143, some 144], pre := [[], [], [0, 1], [2], [3], [3], [3, 4, 5], [3, 6], [7], [8], [8], [8, 9, 10], [8, 11], [12], [13], [13], [13, 14, 15], [13, 16], [17], [18], [18], [18], [18, 19, 20, 21], [18], [18], [18], [18, 23, 24, 25], [18, 22, 26], [18, 27], [28], [29], [29], [29], [29], [29, 30, 31, 32, 33], [29], [29], [29], [29], [29, 35, 36, 37, 38], [29, 34, 39], [29, 40]], cov := [], fin := [41], locs := [], tgt := [none], abt := [none, none, none, none, none, none, none, none, none, none, none, none, none, none, none, none, none, none, none, none, none, none, none, none, none, none, none, none, none, none, none, none, none, none, none, none, none, none, none, none, none, none] }
    [.v [103] (fun vs => (vs.getD 0 undef) = .string p),
     .v [104] (fun vs => (vs.getD 0 undef) = .string p),
     .v [105] (fun vs => (vs.getD 0 undef) = .bool false),
     .v [106] (fun vs => (vs.getD 0 undef) = .bool false),
     .v [107] (fun vs => (vs.getD 0 undef) = .int .i64 q),
     .v [108] (fun vs => (vs.getD 0 undef) = .int .i64 q),
     .v [109] (fun vs => (vs.getD 0 undef) = .bool false),
     .v [110] (fun vs => (vs.getD 0 undef) = .bool false),
     .v [111] (fun vs => (vs.getD 0 undef) = .bool false),
     .v [112] (fun vs => (vs.getD 0 undef) = .agg #[.int .i64 x1, .int .i64 x2, .int .i64 x3, .int .i64 x4, .string x5]),
     .v [113] (fun vs => (vs.getD 0 undef) = .agg #[.int .i64 x1, .int .i64 x2, .int .i64 x3, .int .i64 x4, .string x5]),
     .v [114] (fun vs => (vs.getD 0 undef) = .bool false),
     .v [115] (fun vs => (vs.getD 0 undef) = .bool false),
     .v [116] (fun vs => (vs.getD 0 undef) = .bool false),
     .v [117] (fun vs => (vs.getD 0 undef) = .int .i64 xe),
     .v [118] (fun vs => (vs.getD 0 undef) = .int .i64 xe),
     .v [119] (fun vs => (vs.getD 0 undef) = .bool false),
     .v [120] (fun vs => (vs.getD 0 undef) = .bool false),
     .v [121] (fun vs => (vs.getD 0 undef) = .bool false),
     .v [122] (fun vs => (vs.getD 0 undef) = .agg #[.int .i64 r1, .int .i64 r2, .int .i64 r3, .int .i64 r4, .string r5]),
     .v [123] (fun vs => (vs.getD 0 undef) = .int .i64 ht),
     .v [124] (fun vs => (vs.getD 0 undef) = .int .i64 tk),
     .v [125] (fun vs => (vs.getD 0 undef) = .int .i64 bk),
     .v [126] (fun vs => (vs.getD 0 undef) = .agg #[.int .i64 r1, .int .i64 r2, .int .i64 r3, .int .i64 r4, .string r5]),
     .v [127] (fun vs => (vs.getD 0 undef) = .int .i64 ht),
     .v [128] (fun vs => (vs.getD 0 undef) = .int .i64 tk),
     .v [129] (fun vs => (vs.getD 0 undef) = .int .i64 bk),
     .v [130] (fun vs => (vs.getD 0 undef) = .bool false),
     .v [131] (fun vs => (vs.getD 0 undef) = .bool false),
     .v [132] (fun vs => (vs.getD 0 undef) = .bool false),
     .v [133] (fun vs => (vs.getD 0 undef) = .agg #[.int .i64 r1, .int .i64 r2, .int .i64 r3, .int .i64 r4, .string r5]),
     .v [134] (fun vs => (vs.getD 0 undef) = .int .i64 ht),
     .v [135] (fun vs => (vs.getD 0 undef) = .int .i64 tk),
     .v [136] (fun vs => (vs.getD 0 undef) = .slice (some ⟨bp, op_, none⟩) l.length c2),
     .v [137] (fun vs => (vs.getD 0 undef) = .int .i64 cv),
     .v [138] (fun vs => (vs.getD 0 undef) = .agg #[.int .i64 r1, .int .i64 r2, .int .i64 r3, .int .i64 r4, .string r5]),
     .v [139] (fun vs => (vs.getD 0 undef) = .int .i64 ht),
     .v [140] (fun vs => (vs.getD 0 undef) = .int .i64 tk),
     .v [141] (fun vs => (vs.getD 0 undef) = .slice A l.length c),
     .v [142] (fun vs => (vs.getD 0 undef) = .int .i64 cv),
     .v [143] (fun vs => (vs.getD 0 undef) = .bool false),
     .v [144] (fun vs => (vs.getD 0 undef) = .bool false)]
    (fun w => B7 ≤ w.heap.size ∧ w.heap[g17]? = some (.cells #[.int .i64 r1, .int .i64 r2, .int .i64 r3, .int .i64 r4, .string r5] 38 (0, 0)) ∧ g17 < B7 ∧ w.heap[g19]? = some (.cells #[.int .i64 r1, .int .i64 r2, .int .i64 r3, .int .i64 r4, .string r5] 38 (0, 0)) ∧ g19 < B7 ∧ w.heap[g26]? = some (.cells #[.int .i64 x1, .int .i64 x2, .int .i64 x3, .int .i64 x4, .string x5] 38 (0, 0)) ∧ g26 < B7 ∧ w.heap[g28]? = some (.cells #[.int .i64 x1, .int .i64 x2, .int .i64 x3, .int .i64 x4, .string x5] 38 (0, 0)) ∧ g28 < B7 ∧ Below w0.heap.size w0 w ∧ RdI w A l ∧ RdI w (some ⟨bp, op_, none⟩) (l ++ [-77]))
    (fun c => ([fun s w w' => Below w.heap.size w w'] : List ((Nat → Value) → World → World → Prop)).getD c (fun s w w' => w' = w))
    [103, 104, 105, 106, 107, 108, 109, 110, 111, 112, 113, 114, 115, 116, 117, 118, 119, 120, 121, 122, 123, 124, 125, 126, 127, 128, 129, 130, 131, 132, 133, 134, 135, 136, 137, 138, 139, 140, 141, 142, 143, 144] (by kernel_rfl) ⟨by kernel_rfl, by kernel_rfl, by kernel_rfl, by kernel_rfl, by kernel_rfl, by kernel_rfl, by kernel_rfl, by kernel_rfl⟩ (fun s => ?_) ?_ ?_ ?_ ?_ ?_ (fun s w hC hA => ?_)
  rotate_left
  · simp only [fillS, List.foldl, List.setIfInBounds_toArray, List.set_cons_zero, List.set_cons_succ]; rfl
  · exact ⟨c0_hsz, c0_hk_g17, c0_lt_g17, c0_hk_g19, c0_lt_g19, c0_hk_g26, c0_lt_g26, c0_hk_g28, c0_lt_g28, c0_hbw, c0_hl, c0_hp⟩
  · intro c s w w' hE
    match c, hE with
    | 0, hE => exact Below.size hE
    | c + 1, hE => cases hE; exact Nat.le_refl _
  · rintro c s w w' ⟨hsz, hk_g17, lt_g17, hk_g19, lt_g19, hk_g26, lt_g26, hk_g28, lt_g28, hbw, hl, hp⟩ hE
    match c, hE with
    | 0, hE => replace hE : Below w.heap.size w w' := hE; exact ⟨Nat.le_trans hsz hE.size, bl_block hE hk_g17, lt_g17, bl_block hE hk_g19, lt_g19, bl_block hE hk_g26, lt_g26, bl_block hE hk_g28, lt_g28, bl_step hbw hE, hl.below hE, hp.below hE⟩
    | c + 1, hE => cases hE; exact ⟨hsz, hk_g17, lt_g17, hk_g19, lt_g19, hk_g26, lt_g26, hk_g28, lt_g28, hbw, hl, hp⟩
  · exact trivial
  · skip
    refine StepsP.cons ?_ ?_
    · intro Q s w hC hA K hK
      clear hC
      clear hA
      refine guard_none (by rfl) ?_
      refine wp_value (v := .string p) (w1 := w) ?_ (hK.out _ w (Below.refl _ _) rfl (fun h => by cases h))
      go_simp
      try (first | done | rfl | (simp; done))
    refine StepsP.cons ?_ ?_
    · intro Q s w hC hA K hK
      clear hC
      clear hA
      refine guard_none (by rfl) ?_
      refine wp_value (v := .string p) (w1 := w) ?_ (hK.out _ w (Below.refl _ _) rfl (fun h => by cases h))
      go_simp
      try (first | done | rfl | (simp; done))
    refine StepsP.cons ?_ ?_
    · intro Q s w hC hA K hK
      clear hC
      obtain ⟨f0, f1, -⟩ := hA
      replace f0 : (s 103) = .string p := f0
      replace f1 : (s 104) = .string p := f1
      refine guard_none (by rfl) ?_
      refine wp_value (v := .bool false) (w1 := w) ?_ (hK.out _ w (Below.refl _ _) rfl (fun h => by cases h))
      try simp only [f0, f1]
      go_simp
      try (first | done | rfl | (simp; done))
    refine StepsP.cons ?_ ?_
    · intro Q s w hC hA K hK
      clear hC
      obtain ⟨f2, -⟩ := hA
      replace f2 : (s 105) = .bool false := f2
      refine guard_none (by rfl) ?_
      refine wp_value (v := .bool false) (w1 := w) ?_ (hK.out _ w (Below.refl _ _) rfl (fun h => by cases h))
      try simp only [f2]
      go_simp
      try (first | done | rfl | (simp; done))
    refine StepsP.cons ?_ ?_
    · intro Q s w hC hA K hK
      clear hC
      obtain ⟨f3, -⟩ := hA
      replace f3 : (s 106) = .bool false := f3
      refine guard_on (d := 106) (want := false) (by rfl) (by rfl) ?_ ?_
      · exact f3
      refine wp_value (v := .int .i64 q) (w1 := w) ?_ (hK.out _ w (Below.refl _ _) rfl (fun h => by cases h))
      try simp only [f3]
      go_simp
      try (first | done | rfl | (simp; done))
    refine StepsP.cons ?_ ?_
    · intro Q s w hC hA K hK
      clear hC
      obtain ⟨f3, -⟩ := hA
      replace f3 : (s 106) = .bool false := f3
      refine guard_on (d := 106) (want := false) (by rfl) (by rfl) ?_ ?_
      · exact f3
      refine wp_value (v := .int .i64 q) (w1 := w) ?_ (hK.out _ w (Below.refl _ _) rfl (fun h => by cases h))
      try simp only [f3]
      go_simp
      try (first | done | rfl | (simp; done))
    refine StepsP.cons ?_ ?_
    · intro Q s w hC hA K hK
      clear hC
      obtain ⟨f3, f4, f5, -⟩ := hA
      replace f3 : (s 106) = .bool false := f3
      replace f4 : (s 107) = .int .i64 q := f4
      replace f5 : (s 108) = .int .i64 q := f5
      refine guard_on (d := 106) (want := false) (by rfl) (by rfl) ?_ ?_
      · exact f3
      refine wp_value (v := .bool false) (w1 := w) ?_ (hK.out _ w (Below.refl _ _) rfl (fun h => by cases h))
      try simp only [f3, f4, f5]
      go_simp
      try (first | done | rfl | (simp; done))
    refine StepsP.cons ?_ ?_
    · intro Q s w hC hA K hK
      clear hC
      obtain ⟨f3, f6, -⟩ := hA
      replace f3 : (s 106) = .bool false := f3
      replace f6 : (s 109) = .bool false := f6
      refine guard_none (by rfl) ?_
      refine wp_value (v := .bool false) (w1 := w) ?_ (hK.out _ w (Below.refl _ _) rfl (fun h => by cases h))
      try simp only [f3, f6]
      go_simp
      try (first | done | rfl | (simp; done))
    refine StepsP.cons ?_ ?_
    · intro Q s w hC hA K hK
      clear hC
      obtain ⟨f7, -⟩ := hA
      replace f7 : (s 110) = .bool false := f7
      refine guard_none (by rfl) ?_
      refine wp_value (v := .bool false) (w1 := w) ?_ (hK.out _ w (Below.refl _ _) rfl (fun h => by cases h))
      try simp only [f7]
      go_simp
      try (first | done | rfl | (simp; done))
    refine StepsP.cons ?_ ?_
    · intro Q s w hC hA K hK
      obtain ⟨hsz, hk_g17, lt_g17, hk_g19, lt_g19, hk_g26, lt_g26, hk_g28, lt_g28, hbw, hl, hp⟩ := hC
      obtain ⟨f8, -⟩ := hA
      replace f8 : (s 111) = .bool false := f8
      refine guard_on (d := 111) (want := false) (by rfl) (by rfl) ?_ ?_
      · exact f8
      have m0_g26 : w.cell? ⟨g26, 0, none⟩ = some (.int .i64 x1) := blk_cell hk_g26 0 (by rfl)
      have m1_g26 : w.cell? ⟨g26, 1, none⟩ = some (.int .i64 x2) := blk_cell hk_g26 1 (by rfl)
      have m2_g26 : w.cell? ⟨g26, 2, none⟩ = some (.int .i64 x3) := blk_cell hk_g26 2 (by rfl)
      have m3_g26 : w.cell? ⟨g26, 3, none⟩ = some (.int .i64 x4) := blk_cell hk_g26 3 (by rfl)
      have m4_g26 : w.cell? ⟨g26, 4, none⟩ = some (.string x5) := blk_cell hk_g26 4 (by rfl)
      refine wp_value (v := .agg #[.int .i64 x1, .int .i64 x2, .int .i64 x3, .int .i64 x4, .string x5]) (w1 := w) ?_ (hK.out _ w (Below.refl _ _) rfl (fun h => by cases h))
      try simp only [f8]
      go_simp
      try (first | done | rfl | (simp; done))
    refine StepsP.cons ?_ ?_
    · intro Q s w hC hA K hK
      obtain ⟨hsz, hk_g17, lt_g17, hk_g19, lt_g19, hk_g26, lt_g26, hk_g28, lt_g28, hbw, hl, hp⟩ := hC
      obtain ⟨f8, -⟩ := hA
      replace f8 : (s 111) = .bool false := f8
      refine guard_on (d := 111) (want := false) (by rfl) (by rfl) ?_ ?_
      · exact f8
      have m0_g28 : w.cell? ⟨g28, 0, none⟩ = some (.int .i64 x1) := blk_cell hk_g28 0 (by rfl)
      have m1_g28 : w.cell? ⟨g28, 1, none⟩ = some (.int .i64 x2) := blk_cell hk_g28 1 (by rfl)
      have m2_g28 : w.cell? ⟨g28, 2, none⟩ = some (.int .i64 x3) := blk_cell hk_g28 2 (by rfl)
      have m3_g28 : w.cell? ⟨g28, 3, none⟩ = some (.int .i64 x4) := blk_cell hk_g28 3 (by rfl)
      have m4_g28 : w.cell? ⟨g28, 4, none⟩ = some (.string x5) := blk_cell hk_g28 4 (by rfl)
      refine wp_value (v := .agg #[.int .i64 x1, .int .i64 x2, .int .i64 x3, .int .i64 x4, .string x5]) (w1 := w) ?_ (hK.out _ w (Below.refl _ _) rfl (fun h => by cases h))
      try simp only [f8]
      go_simp
      try (first | done | rfl | (simp; done))
    refine StepsP.cons ?_ ?_
    · intro Q s w hC hA K hK
      clear hC
      obtain ⟨f8, f9, f10, -⟩ := hA
      replace f8 : (s 111) = .bool false := f8
      replace f9 : (s 112) = .agg #[.int .i64 x1, .int .i64 x2, .int .i64 x3, .int .i64 x4, .string x5] := f9
      replace f10 : (s 113) = .agg #[.int .i64 x1, .int .i64 x2, .int .i64 x3, .int .i64 x4, .string x5] := f10
      refine guard_on (d := 111) (want := false) (by rfl) (by rfl) ?_ ?_
      · exact f8
      refine wp_value (v := .bool false) (w1 := w) ?_ (hK.out _ w (Below.refl _ _) rfl (fun h => by cases h))
      try simp only [f8, f9, f10]
      go_simp
      try (first | done | rfl | (simp; done))
    refine StepsP.cons ?_ ?_
    · intro Q s w hC hA K hK
      clear hC
      obtain ⟨f8, f11, -⟩ := hA
      replace f8 : (s 111) = .bool false := f8
      replace f11 : (s 114) = .bool false := f11
      refine guard_none (by rfl) ?_
      refine wp_value (v := .bool false) (w1 := w) ?_ (hK.out _ w (Below.refl _ _) rfl (fun h => by cases h))
      try simp only [f8, f11]
      go_simp
      try (first | done | rfl | (simp; done))
    refine StepsP.cons ?_ ?_
    · intro Q s w hC hA K hK
      clear hC
      obtain ⟨f12, -⟩ := hA
      replace f12 : (s 115) = .bool false := f12
      refine guard_none (by rfl) ?_
      refine wp_value (v := .bool false) (w1 := w) ?_ (hK.out _ w (Below.refl _ _) rfl (fun h => by cases h))
      try simp only [f12]
      go_simp
      try (first | done | rfl | (simp; done))
    refine StepsP.cons ?_ ?_
    · intro Q s w hC hA K hK
      clear hC
      obtain ⟨f13, -⟩ := hA
      replace f13 : (s 116) = .bool false := f13
      refine guard_on (d := 116) (want := false) (by rfl) (by rfl) ?_ ?_
      · exact f13
      refine wp_value (v := .int .i64 xe) (w1 := w) ?_ (hK.out _ w (Below.refl _ _) rfl (fun h => by cases h))
      try simp only [f13]
      go_simp
      try (first | done | rfl | (simp; done))
    refine StepsP.cons ?_ ?_
    · intro Q s w hC hA K hK
      clear hC
      obtain ⟨f13, -⟩ := hA
      replace f13 : (s 116) = .bool false := f13
      refine guard_on (d := 116) (want := false) (by rfl) (by rfl) ?_ ?_
      · exact f13
      refine wp_value (v := .int .i64 xe) (w1 := w) ?_ (hK.out _ w (Below.refl _ _) rfl (fun h => by cases h))
      try simp only [f13]
      go_simp
      try (first | done | rfl | (simp; done))
    refine StepsP.cons ?_ ?_
    · intro Q s w hC hA K hK
      clear hC
      obtain ⟨f13, f14, f15, -⟩ := hA
      replace f13 : (s 116) = .bool false := f13
      replace f14 : (s 117) = .int .i64 xe := f14
      replace f15 : (s 118) = .int .i64 xe := f15
      refine guard_on (d := 116) (want := false) (by rfl) (by rfl) ?_ ?_
      · exact f13
      refine wp_value (v := .bool false) (w1 := w) ?_ (hK.out _ w (Below.refl _ _) rfl (fun h => by cases h))
      try simp only [f13, f14, f15]
      go_simp
      try (first | done | rfl | (simp; done))
    refine StepsP.cons ?_ ?_
    · intro Q s w hC hA K hK
      clear hC
      obtain ⟨f13, f16, -⟩ := hA
      replace f13 : (s 116) = .bool false := f13
      replace f16 : (s 119) = .bool false := f16
      refine guard_none (by rfl) ?_
      refine wp_value (v := .bool false) (w1 := w) ?_ (hK.out _ w (Below.refl _ _) rfl (fun h => by cases h))
      try simp only [f13, f16]
      go_simp
      try (first | done | rfl | (simp; done))
    refine StepsP.cons ?_ ?_
    · intro Q s w hC hA K hK
      clear hC
      obtain ⟨f17, -⟩ := hA
      replace f17 : (s 120) = .bool false := f17
      refine guard_none (by rfl) ?_
      refine wp_value (v := .bool false) (w1 := w) ?_ (hK.out _ w (Below.refl _ _) rfl (fun h => by cases h))
      try simp only [f17]
      go_simp
      try (first | done | rfl | (simp; done))
    refine StepsP.cons ?_ ?_
    · intro Q s w hC hA K hK
      obtain ⟨hsz, hk_g17, lt_g17, hk_g19, lt_g19, hk_g26, lt_g26, hk_g28, lt_g28, hbw, hl, hp⟩ := hC
      obtain ⟨f18, -⟩ := hA
      replace f18 : (s 121) = .bool false := f18
      refine guard_on (d := 121) (want := false) (by rfl) (by rfl) ?_ ?_
      · exact f18
      have m0_g17 : w.cell? ⟨g17, 0, none⟩ = some (.int .i64 r1) := blk_cell hk_g17 0 (by rfl)
      have m1_g17 : w.cell? ⟨g17, 1, none⟩ = some (.int .i64 r2) := blk_cell hk_g17 1 (by rfl)
      have m2_g17 : w.cell? ⟨g17, 2, none⟩ = some (.int .i64 r3) := blk_cell hk_g17 2 (by rfl)
      have m3_g17 : w.cell? ⟨g17, 3, none⟩ = some (.int .i64 r4) := blk_cell hk_g17 3 (by rfl)
      have m4_g17 : w.cell? ⟨g17, 4, none⟩ = some (.string r5) := blk_cell hk_g17 4 (by rfl)
      refine wp_value (v := .agg #[.int .i64 r1, .int .i64 r2, .int .i64 r3, .int .i64 r4, .string r5]) (w1 := w) ?_ (hK.out _ w (Below.refl _ _) rfl (fun h => by cases h))
      try simp only [f18]
      go_simp
      try (first | done | rfl | (simp; done))
    refine StepsP.cons ?_ ?_
    · intro Q s w hC hA K hK
      clear hC
      obtain ⟨f18, -⟩ := hA
      replace f18 : (s 121) = .bool false := f18
      refine guard_on (d := 121) (want := false) (by rfl) (by rfl) ?_ ?_
      · exact f18
      refine wp_value (v := .int .i64 ht) (w1 := w) ?_ (hK.out _ w (Below.refl _ _) rfl (fun h => by cases h))
      try simp only [f18]
      go_simp
      try (first | done | rfl | (simp; done))
    refine StepsP.cons ?_ ?_
    · intro Q s w hC hA K hK
      clear hC
      obtain ⟨f18, -⟩ := hA
      replace f18 : (s 121) = .bool false := f18
      refine guard_on (d := 121) (want := false) (by rfl) (by rfl) ?_ ?_
      · exact f18
      refine wp_value (v := .int .i64 tk) (w1 := w) ?_ (hK.out _ w (Below.refl _ _) rfl (fun h => by cases h))
      try simp only [f18]
      go_simp
      try (first | done | rfl | (simp; done))
    refine StepsP.cons ?_ ?_
    · intro Q s w hC hA K hK
      obtain ⟨hsz, hk_g17, lt_g17, hk_g19, lt_g19, hk_g26, lt_g26, hk_g28, lt_g28, hbw, hl, hp⟩ := hC
      obtain ⟨f18, f19, f20, f21, -⟩ := hA
      replace f18 : (s 121) = .bool false := f18
      replace f19 : (s 122) = .agg #[.int .i64 r1, .int .i64 r2, .int .i64 r3, .int .i64 r4, .string r5] := f19
      replace f20 : (s 123) = .int .i64 ht := f20
      replace f21 : (s 124) = .int .i64 tk := f21
      refine guard_on (d := 121) (want := false) (by rfl) (by rfl) ?_ ?_
      · exact f18
      refine wp_call (N := some 125) (by rfl) Try.func24 (by kernel_rfl) #[.agg #[.int .i64 r1, .int .i64 r2, .int .i64 r3, .int .i64 r4, .string r5], .int .i64 ht, .int .i64 tk] rfl (by rfl) ?_ ?_
      · show [s 122, s 123, s 124] = [.agg #[.int .i64 r1, .int .i64 r2, .int .i64 r3, .int .i64 r4, .string r5], .int .i64 ht, .int .i64 tk]
        first | rfl | simp only [f18, f19, f20, f21]
      refine (advise_Ask.calls _ _ _ _ _ _ _ bk _ b1.out).mono ?_
      rintro e w1 ⟨rfl, hb⟩
      refine ⟨_, rfl, ?_⟩
      exact hK.out _ _ hb rfl (fun h => by cases h)
    refine StepsP.cons ?_ ?_
    · intro Q s w hC hA K hK
      obtain ⟨hsz, hk_g17, lt_g17, hk_g19, lt_g19, hk_g26, lt_g26, hk_g28, lt_g28, hbw, hl, hp⟩ := hC
      obtain ⟨f18, -⟩ := hA
      replace f18 : (s 121) = .bool false := f18
      refine guard_on (d := 121) (want := false) (by rfl) (by rfl) ?_ ?_
      · exact f18
      have m0_g19 : w.cell? ⟨g19, 0, none⟩ = some (.int .i64 r1) := blk_cell hk_g19 0 (by rfl)
      have m1_g19 : w.cell? ⟨g19, 1, none⟩ = some (.int .i64 r2) := blk_cell hk_g19 1 (by rfl)
      have m2_g19 : w.cell? ⟨g19, 2, none⟩ = some (.int .i64 r3) := blk_cell hk_g19 2 (by rfl)
      have m3_g19 : w.cell? ⟨g19, 3, none⟩ = some (.int .i64 r4) := blk_cell hk_g19 3 (by rfl)
      have m4_g19 : w.cell? ⟨g19, 4, none⟩ = some (.string r5) := blk_cell hk_g19 4 (by rfl)
      refine wp_value (v := .agg #[.int .i64 r1, .int .i64 r2, .int .i64 r3, .int .i64 r4, .string r5]) (w1 := w) ?_ (hK.out _ w (Below.refl _ _) rfl (fun h => by cases h))
      try simp only [f18]
      go_simp
      try (first | done | rfl | (simp; done))
    refine StepsP.cons ?_ ?_
    · intro Q s w hC hA K hK
      clear hC
      obtain ⟨f18, -⟩ := hA
      replace f18 : (s 121) = .bool false := f18
      refine guard_on (d := 121) (want := false) (by rfl) (by rfl) ?_ ?_
      · exact f18
      refine wp_value (v := .int .i64 ht) (w1 := w) ?_ (hK.out _ w (Below.refl _ _) rfl (fun h => by cases h))
      try simp only [f18]
      go_simp
      try (first | done | rfl | (simp; done))
    refine StepsP.cons ?_ ?_
    · intro Q s w hC hA K hK
      clear hC
      obtain ⟨f18, -⟩ := hA
      replace f18 : (s 121) = .bool false := f18
      refine guard_on (d := 121) (want := false) (by rfl) (by rfl) ?_ ?_
      · exact f18
      refine wp_value (v := .int .i64 tk) (w1 := w) ?_ (hK.out _ w (Below.refl _ _) rfl (fun h => by cases h))
      try simp only [f18]
      go_simp
      try (first | done | rfl | (simp; done))
    refine StepsP.cons ?_ ?_
    · intro Q s w hC hA K hK
      obtain ⟨hsz, hk_g17, lt_g17, hk_g19, lt_g19, hk_g26, lt_g26, hk_g28, lt_g28, hbw, hl, hp⟩ := hC
      obtain ⟨f18, f23, f24, f25, -⟩ := hA
      replace f18 : (s 121) = .bool false := f18
      replace f23 : (s 126) = .agg #[.int .i64 r1, .int .i64 r2, .int .i64 r3, .int .i64 r4, .string r5] := f23
      replace f24 : (s 127) = .int .i64 ht := f24
      replace f25 : (s 128) = .int .i64 tk := f25
      refine guard_on (d := 121) (want := false) (by rfl) (by rfl) ?_ ?_
      · exact f18
      refine wp_call (N := some 129) (by rfl) Try.func25 (by kernel_rfl) #[.agg #[.int .i64 r1, .int .i64 r2, .int .i64 r3, .int .i64 r4, .string r5], .int .i64 ht, .int .i64 tk] rfl (by rfl) ?_ ?_
      · show [s 126, s 127, s 128] = [.agg #[.int .i64 r1, .int .i64 r2, .int .i64 r3, .int .i64 r4, .string r5], .int .i64 ht, .int .i64 tk]
        first | rfl | simp only [f18, f23, f24, f25]
      refine (picketref18_Ask.calls _ _ _ _ _ _ _ bk _ b2.out).mono ?_
      rintro e w1 ⟨rfl, hb⟩
      refine ⟨_, rfl, ?_⟩
      exact hK.out _ _ hb rfl (fun h => by cases h)
    refine StepsP.cons ?_ ?_
    · intro Q s w hC hA K hK
      clear hC
      obtain ⟨f18, f22, f26, -⟩ := hA
      replace f18 : (s 121) = .bool false := f18
      replace f22 : (s 125) = .int .i64 bk := f22
      replace f26 : (s 129) = .int .i64 bk := f26
      refine guard_on (d := 121) (want := false) (by rfl) (by rfl) ?_ ?_
      · exact f18
      refine wp_value (v := .bool false) (w1 := w) ?_ (hK.out _ w (Below.refl _ _) rfl (fun h => by cases h))
      try simp only [f18, f22, f26]
      go_simp
      try (first | done | rfl | (simp; done))
    refine StepsP.cons ?_ ?_
    · intro Q s w hC hA K hK
      clear hC
      obtain ⟨f18, f27, -⟩ := hA
      replace f18 : (s 121) = .bool false := f18
      replace f27 : (s 130) = .bool false := f27
      refine guard_none (by rfl) ?_
      refine wp_value (v := .bool false) (w1 := w) ?_ (hK.out _ w (Below.refl _ _) rfl (fun h => by cases h))
      try simp only [f18, f27]
      go_simp
      try (first | done | rfl | (simp; done))
    refine StepsP.cons ?_ ?_
    · intro Q s w hC hA K hK
      clear hC
      obtain ⟨f28, -⟩ := hA
      replace f28 : (s 131) = .bool false := f28
      refine guard_none (by rfl) ?_
      refine wp_value (v := .bool false) (w1 := w) ?_ (hK.out _ w (Below.refl _ _) rfl (fun h => by cases h))
      try simp only [f28]
      go_simp
      try (first | done | rfl | (simp; done))
    refine StepsP.cons ?_ ?_
    · intro Q s w hC hA K hK
      obtain ⟨hsz, hk_g17, lt_g17, hk_g19, lt_g19, hk_g26, lt_g26, hk_g28, lt_g28, hbw, hl, hp⟩ := hC
      obtain ⟨f29, -⟩ := hA
      replace f29 : (s 132) = .bool false := f29
      refine guard_on (d := 132) (want := false) (by rfl) (by rfl) ?_ ?_
      · exact f29
      have m0_g17 : w.cell? ⟨g17, 0, none⟩ = some (.int .i64 r1) := blk_cell hk_g17 0 (by rfl)
      have m1_g17 : w.cell? ⟨g17, 1, none⟩ = some (.int .i64 r2) := blk_cell hk_g17 1 (by rfl)
      have m2_g17 : w.cell? ⟨g17, 2, none⟩ = some (.int .i64 r3) := blk_cell hk_g17 2 (by rfl)
      have m3_g17 : w.cell? ⟨g17, 3, none⟩ = some (.int .i64 r4) := blk_cell hk_g17 3 (by rfl)
      have m4_g17 : w.cell? ⟨g17, 4, none⟩ = some (.string r5) := blk_cell hk_g17 4 (by rfl)
      refine wp_value (v := .agg #[.int .i64 r1, .int .i64 r2, .int .i64 r3, .int .i64 r4, .string r5]) (w1 := w) ?_ (hK.out _ w (Below.refl _ _) rfl (fun h => by cases h))
      try simp only [f29]
      go_simp
      try (first | done | rfl | (simp; done))
    refine StepsP.cons ?_ ?_
    · intro Q s w hC hA K hK
      clear hC
      obtain ⟨f29, -⟩ := hA
      replace f29 : (s 132) = .bool false := f29
      refine guard_on (d := 132) (want := false) (by rfl) (by rfl) ?_ ?_
      · exact f29
      refine wp_value (v := .int .i64 ht) (w1 := w) ?_ (hK.out _ w (Below.refl _ _) rfl (fun h => by cases h))
      try simp only [f29]
      go_simp
      try (first | done | rfl | (simp; done))
    refine StepsP.cons ?_ ?_
    · intro Q s w hC hA K hK
      clear hC
      obtain ⟨f29, -⟩ := hA
      replace f29 : (s 132) = .bool false := f29
      refine guard_on (d := 132) (want := false) (by rfl) (by rfl) ?_ ?_
      · exact f29
      refine wp_value (v := .int .i64 tk) (w1 := w) ?_ (hK.out _ w (Below.refl _ _) rfl (fun h => by cases h))
      try simp only [f29]
      go_simp
      try (first | done | rfl | (simp; done))
    refine StepsP.cons ?_ ?_
    · intro Q s w hC hA K hK
      clear hC
      obtain ⟨f29, -⟩ := hA
      replace f29 : (s 132) = .bool false := f29
      refine guard_on (d := 132) (want := false) (by rfl) (by rfl) ?_ ?_
      · exact f29
      refine wp_value (v := .slice (some ⟨bp, op_, none⟩) l.length c2) (w1 := w) ?_ (hK.out _ w (Below.refl _ _) rfl (fun h => by cases h))
      try simp only [f29]
      go_simp
      try (first | done | rfl | (simp; done))
    refine StepsP.cons ?_ ?_
    · intro Q s w hC hA K hK
      obtain ⟨hsz, hk_g17, lt_g17, hk_g19, lt_g19, hk_g26, lt_g26, hk_g28, lt_g28, hbw, hl, hp⟩ := hC
      obtain ⟨f29, f30, f31, f32, f33, -⟩ := hA
      replace f29 : (s 132) = .bool false := f29
      replace f30 : (s 133) = .agg #[.int .i64 r1, .int .i64 r2, .int .i64 r3, .int .i64 r4, .string r5] := f30
      replace f31 : (s 134) = .int .i64 ht := f31
      replace f32 : (s 135) = .int .i64 tk := f32
      replace f33 : (s 136) = .slice (some ⟨bp, op_, none⟩) l.length c2 := f33
      refine guard_on (d := 132) (want := false) (by rfl) (by rfl) ?_ ?_
      · exact f29
      refine wp_call (N := some 137) (by rfl) Try.func26 (by kernel_rfl) #[.agg #[.int .i64 r1, .int .i64 r2, .int .i64 r3, .int .i64 r4, .string r5], .int .i64 ht, .int .i64 tk, .slice (some ⟨bp, op_, none⟩) l.length c2] rfl (by rfl) ?_ ?_
      · show [s 133, s 134, s 135, s 136] = [.agg #[.int .i64 r1, .int .i64 r2, .int .i64 r3, .int .i64 r4, .string r5], .int .i64 ht, .int .i64 tk, .slice (some ⟨bp, op_, none⟩) l.length c2]
        first | rfl | simp only [f29, f30, f31, f32, f33]
      refine (advise_Cost.calls _ _ _ _ _ _ _ (some ⟨bp, op_, none⟩) c2 l cv _ (kd_of_RdI (RdI.pre' hp)) hcc e5.out).mono ?_
      rintro e w1 ⟨rfl, hb⟩
      refine ⟨_, rfl, ?_⟩
      exact hK.out _ _ hb rfl (fun h => by cases h)
    refine StepsP.cons ?_ ?_
    · intro Q s w hC hA K hK
      obtain ⟨hsz, hk_g17, lt_g17, hk_g19, lt_g19, hk_g26, lt_g26, hk_g28, lt_g28, hbw, hl, hp⟩ := hC
      obtain ⟨f29, -⟩ := hA
      replace f29 : (s 132) = .bool false := f29
      refine guard_on (d := 132) (want := false) (by rfl) (by rfl) ?_ ?_
      · exact f29
      have m0_g19 : w.cell? ⟨g19, 0, none⟩ = some (.int .i64 r1) := blk_cell hk_g19 0 (by rfl)
      have m1_g19 : w.cell? ⟨g19, 1, none⟩ = some (.int .i64 r2) := blk_cell hk_g19 1 (by rfl)
      have m2_g19 : w.cell? ⟨g19, 2, none⟩ = some (.int .i64 r3) := blk_cell hk_g19 2 (by rfl)
      have m3_g19 : w.cell? ⟨g19, 3, none⟩ = some (.int .i64 r4) := blk_cell hk_g19 3 (by rfl)
      have m4_g19 : w.cell? ⟨g19, 4, none⟩ = some (.string r5) := blk_cell hk_g19 4 (by rfl)
      refine wp_value (v := .agg #[.int .i64 r1, .int .i64 r2, .int .i64 r3, .int .i64 r4, .string r5]) (w1 := w) ?_ (hK.out _ w (Below.refl _ _) rfl (fun h => by cases h))
      try simp only [f29]
      go_simp
      try (first | done | rfl | (simp; done))
    refine StepsP.cons ?_ ?_
    · intro Q s w hC hA K hK
      clear hC
      obtain ⟨f29, -⟩ := hA
      replace f29 : (s 132) = .bool false := f29
      refine guard_on (d := 132) (want := false) (by rfl) (by rfl) ?_ ?_
      · exact f29
      refine wp_value (v := .int .i64 ht) (w1 := w) ?_ (hK.out _ w (Below.refl _ _) rfl (fun h => by cases h))
      try simp only [f29]
      go_simp
      try (first | done | rfl | (simp; done))
    refine StepsP.cons ?_ ?_
    · intro Q s w hC hA K hK
      clear hC
      obtain ⟨f29, -⟩ := hA
      replace f29 : (s 132) = .bool false := f29
      refine guard_on (d := 132) (want := false) (by rfl) (by rfl) ?_ ?_
      · exact f29
      refine wp_value (v := .int .i64 tk) (w1 := w) ?_ (hK.out _ w (Below.refl _ _) rfl (fun h => by cases h))
      try simp only [f29]
      go_simp
      try (first | done | rfl | (simp; done))
    refine StepsP.cons ?_ ?_
    · intro Q s w hC hA K hK
      clear hC
      obtain ⟨f29, -⟩ := hA
      replace f29 : (s 132) = .bool false := f29
      refine guard_on (d := 132) (want := false) (by rfl) (by rfl) ?_ ?_
      · exact f29
      refine wp_value (v := .slice A l.length c) (w1 := w) ?_ (hK.out _ w (Below.refl _ _) rfl (fun h => by cases h))
      try simp only [f29]
      go_simp
      try (first | done | rfl | (simp; done))
    refine StepsP.cons ?_ ?_
    · intro Q s w hC hA K hK
      obtain ⟨hsz, hk_g17, lt_g17, hk_g19, lt_g19, hk_g26, lt_g26, hk_g28, lt_g28, hbw, hl, hp⟩ := hC
      obtain ⟨f29, f35, f36, f37, f38, -⟩ := hA
      replace f29 : (s 132) = .bool false := f29
      replace f35 : (s 138) = .agg #[.int .i64 r1, .int .i64 r2, .int .i64 r3, .int .i64 r4, .string r5] := f35
      replace f36 : (s 139) = .int .i64 ht := f36
      replace f37 : (s 140) = .int .i64 tk := f37
      replace f38 : (s 141) = .slice A l.length c := f38
      refine guard_on (d := 132) (want := false) (by rfl) (by rfl) ?_ ?_
      · exact f29
      refine wp_call (N := some 142) (by rfl) Try.func27 (by kernel_rfl) #[.agg #[.int .i64 r1, .int .i64 r2, .int .i64 r3, .int .i64 r4, .string r5], .int .i64 ht, .int .i64 tk, .slice A l.length c] rfl (by rfl) ?_ ?_
      · show [s 138, s 139, s 140, s 141] = [.agg #[.int .i64 r1, .int .i64 r2, .int .i64 r3, .int .i64 r4, .string r5], .int .i64 ht, .int .i64 tk, .slice A l.length c]
        first | rfl | simp only [f29, f35, f36, f37, f38]
      refine (picketref18_Cost.calls _ _ _ _ _ _ _ _ A c l cv _ (kd_of_RdI hl) hc e4.out).mono ?_
      rintro e w1 ⟨rfl, hb⟩
      refine ⟨_, rfl, ?_⟩
      exact hK.out _ _ hb rfl (fun h => by cases h)
    refine StepsP.cons ?_ ?_
    · intro Q s w hC hA K hK
      clear hC
      obtain ⟨f29, f34, f39, -⟩ := hA
      replace f29 : (s 132) = .bool false := f29
      replace f34 : (s 137) = .int .i64 cv := f34
      replace f39 : (s 142) = .int .i64 cv := f39
      refine guard_on (d := 132) (want := false) (by rfl) (by rfl) ?_ ?_
      · exact f29
      refine wp_value (v := .bool false) (w1 := w) ?_ (hK.out _ w (Below.refl _ _) rfl (fun h => by cases h))
      try simp only [f29, f34, f39]
      go_simp
      try (first | done | rfl | (simp; done))
    refine StepsP.cons ?_ ?_
    · intro Q s w hC hA K hK
      clear hC
      obtain ⟨f29, f40, -⟩ := hA
      replace f29 : (s 132) = .bool false := f29
      replace f40 : (s 143) = .bool false := f40
      refine guard_none (by rfl) ?_
      refine wp_value (v := .bool false) (w1 := w) ?_ (hK.out _ w (Below.refl _ _) rfl (fun h => by cases h))
      try simp only [f29, f40]
      go_simp
      try (first | done | rfl | (simp; done))
    exact StepsP.nil
  obtain ⟨hsz, hk_g17, lt_g17, hk_g19, lt_g19, hk_g26, lt_g26, hk_g28, lt_g28, hbw, hl, hp⟩ := hC
  obtain ⟨f41, -⟩ := hA
  replace f41 : (s 144) = .bool false := f41
  refine act_eq (b' := ?b6) ?h6 ?q6
  case h6 => simp only [f41]; rfl
  clear c0_hsz hw0B7 c0_hle c0_hk_g17 c0_lt_g17 c0_hk_g19 c0_lt_g19 c0_hk_g26 c0_lt_g26 c0_hk_g28 c0_lt_g28 c0_hbw hsz lt_g17 lt_g19 lt_g26 lt_g28 f41 hk_g17 hk_g19 hk_g26 hk_g28 c0_hl c0_hp
  obtain ⟨W4, hW4⟩ : ∃ z : World, z = w := ⟨_, rfl⟩
  subst hW4
  go_upto_region 15 with fail
  have hb40 := Below.refl W4.heap.size W4
  go_loopw [30] (fun x wr => ∃ i : Nat, i ≤ l.length ∧ x = .int .i64 i ∧ Below W4.heap.size W4 wr) (fun x _ => (l.length - intOf x).toNat)
  case atStart => exact ⟨0, by omega, rfl, hb40⟩
  case round =>
    clear hb40
    obtain ⟨i, hi, rfl, hb4⟩ := hrel
    by_cases hlt : i < l.length
    · have hd : decide ((i : Int) < (l.length : Int)) = true := decide_eq_true (by omega)
      obtain ⟨bx, ox, rfl, hex⟩ := hl.at hlt
      obtain ⟨by_, oy, hby, hey⟩ := (RdI.pre' hp).at hlt
      injection hby with hby
      injection hby with e1_ e2_
      subst e1_ e2_
      have hex' := bl_cell hb4 hex
      have hey' := bl_cell hb4 hey
      generalize l.getD i 0 = xi at *
      go_upto_region 17 with fail
      have hbwS := hbw
      have hbw := hb4
      replace hbw := bl_drew hbw
      refine start_ (n := 9) (S := fun w' => w'.cell? ⟨bx, ox + i, none⟩ = some (.int .i64 xi) ∧ w'.cell? ⟨bp, op_ + i, none⟩ = some (.int .i64 xi)) (ds := []) #[false, false, false, false, false, false, false, false, false] (by kernel_rfl) rfl rfl ⟨hex', hey'⟩ (fun hHeld => ?_)
      generalize wr.drew = wn at *
      refine pure_ (i := 0) (N := some 151) (v := ?_) (a' := ?_) #[true, false, false, false, false, false, false, false, false] rfl rfl (by kernel_rfl) (fun _ _ _ h => h) (Or.inl ⟨by rfl, ?_⟩) ?_ ?_
      rotate_left
      · intro w'
        go_simp
        with_reducible rfl
      rotate_left
      · simp only [Act.put, List.setIfInBounds_toArray, List.set_cons_zero, List.set_cons_succ, i64_w, i32_w]
        rfl
      refine pure_ (i := 1) (N := some 152) (v := ?_) (a' := ?_) #[true, true, false, false, false, false, false, false, false] rfl rfl (by kernel_rfl) (fun _ _ _ h => h) (Or.inl ⟨by rfl, ?_⟩) ?_ ?_
      rotate_left
      · intro w'
        go_simp
        with_reducible rfl
      rotate_left
      · simp only [Act.put, List.setIfInBounds_toArray, List.set_cons_zero, List.set_cons_succ, i64_w, i32_w]
        rfl
      refine pure_ (i := 2) (N := some 153) (v := ?_) (a' := ?_) #[true, true, true, false, false, false, false, false, false] rfl rfl (by kernel_rfl) (fun _ _ _ h => h) (Or.inl ⟨by rfl, ?_⟩) ?_ ?_
      rotate_left
      · intro w'
        go_simp
        with_reducible rfl
      rotate_left
      · simp only [Act.put, List.setIfInBounds_toArray, List.set_cons_zero, List.set_cons_succ, i64_w, i32_w]
        rfl
      refine pure_ (i := 4) (N := some 155) (v := ?_) (a' := ?_) #[true, true, true, false, true, false, false, false, false] rfl rfl (by kernel_rfl) (fun _ _ _ h => h) (Or.inl ⟨by rfl, ?_⟩) ?_ ?_
      rotate_left
      · intro w'
        go_simp
        with_reducible rfl
      rotate_left
      · simp only [Act.put, List.setIfInBounds_toArray, List.set_cons_zero, List.set_cons_succ, i64_w, i32_w]
        rfl
      refine pure_ (i := 5) (N := some 156) (v := ?_) (a' := ?_) #[true, true, true, false, true, true, false, false, false] rfl rfl (by kernel_rfl) (fun _ _ _ h => h) (Or.inl ⟨by rfl, ?_⟩) ?_ ?_
      rotate_left
      · intro w'
        go_simp
        with_reducible rfl
      rotate_left
      · simp only [Act.put, List.setIfInBounds_toArray, List.set_cons_zero, List.set_cons_succ, i64_w, i32_w]
        rfl
      refine pure_ (i := 6) (N := some 157) (v := ?_) (a' := ?_) #[true, true, true, false, true, true, true, false, false] rfl rfl (by kernel_rfl) (fun _ _ _ h => h) (Or.inl ⟨by rfl, ?_⟩) ?_ ?_
      rotate_left
      · intro w'
        go_simp
        with_reducible rfl
      rotate_left
      · simp only [Act.put, List.setIfInBounds_toArray, List.set_cons_zero, List.set_cons_succ, i64_w, i32_w]
        rfl
      refine take_ (i := 3) (N := some 154) (v := ?_) (a' := ?_) #[true, true, true, true, true, true, true, false, false] rfl rfl (by kernel_rfl) (fun _ _ _ h => h) (Or.inl ⟨by rfl, ?_⟩) hHeld ?_ ?_
      rotate_left
      · rintro w' ⟨s0, s1⟩
        go_simp
        with_reducible rfl
      rotate_left
      · simp only [Act.put, List.setIfInBounds_toArray, List.set_cons_zero, List.set_cons_succ, i64_w, i32_w]
        rfl
      refine take_ (i := 7) (N := some 158) (v := ?_) (a' := ?_) #[true, true, true, true, true, true, true, true, false] rfl rfl (by kernel_rfl) (fun _ _ _ h => h) (Or.inl ⟨by rfl, ?_⟩) hHeld ?_ ?_
      rotate_left
      · rintro w' ⟨s0, s1⟩
        go_simp
        with_reducible rfl
      rotate_left
      · simp only [Act.put, List.setIfInBounds_toArray, List.set_cons_zero, List.set_cons_succ, i64_w, i32_w]
        rfl
      refine pure_ (i := 8) (N := some 159) (v := ?_) (a' := ?_) #[true, true, true, true, true, true, true, true, true] rfl rfl (by kernel_rfl) (fun _ _ _ h => h) (Or.inl ⟨by rfl, ?_⟩) ?_ ?_
      rotate_left
      · intro w'
        go_simp
        with_reducible rfl
      rotate_left
      · simp only [Act.put, List.setIfInBounds_toArray, List.set_cons_zero, List.set_cons_succ, i64_w, i32_w]
        rfl
      refine done_ (by kernel_rfl) ?_
      have hb64 : ((i : Int) + 1) ≤ 9223372036854775807 := by omega
      go_wp2
      go_roundw
      case rel => exact ⟨i + 1, by omega, by go_num, hbw⟩
      case measure => simp [intOf]; omega
    · have hie : i = l.length := by omega
      subst hie
      have hd : decide ((l.length : Int) < (l.length : Int)) = false := decide_eq_false (by omega)
      replace hbw := bl_step hbw hb4
      obtain ⟨by_, oy, hby, hey⟩ := (hp.below hb4).at (i := l.length) (by simp)
      injection hby with hby
      injection hby with e1_ e2_
      subst e1_ e2_
      have h77 : (l ++ [(-77 : Int)]).getD l.length 0 = (-77 : Int) := by rw [List.getD_eq_getElem?_getD, List.getElem?_append_right (Nat.le_refl _), Nat.sub_self]; rfl
      rw [h77] at hey
      clear h77
      go_wp2_with fail
      refine (alive_calls _).mono ?_
      rintro e wz ⟨rfl, hbz⟩
      replace hbw := bl_step hbw hbz
      replace hey := bl_cell hbz hey
      have hw1 : wrap64 ((l.length : Int) + 1) = (l.length : Int) + 1 := by unfold wrap64; omega
      subst hw0
      go_wp2
      go_ret
      exact ⟨rfl, hbw⟩
end Go.Proofs.Ytjidbjmekpholaa.AdY
