/- Proved here: lemmas and contracts (what a function of the program computes) that the proofs of the laws of this seat lean on. Conditions: as each theorem states. -/
import Derived.Test.YtjidbjmekpholaaAdY
set_option linter.unusedVariables false
set_option linter.unusedSimpArgs false
namespace Go.Proofs.Ytjidbjmekpholaa.AdY
open Go.RowKit Go.Pk Go.Pk.Ad Go.Proofs.Ytjidbjmekpholaa.GD Go.Proofs.Ytjidbjmekpholaa.AdW Go.Proofs.YtjidbjmekpholaaW.PrintMore
open Go.Proofs.YtjidbjmekpholaaW.PrintWords (bt bt_at results_list)
set_option maxHeartbeats 100000000 in
set_option maxRecDepth 100000 in
theorem alive_calls (w : World) : Calls Try.prog 17 #[] w fun e w' => e = .returned (.bool true) ∧ Below w.heap.size w w' := by
  have hm : mayB 10 (5 : Nat) 3 2 = true := by decide
  obtain ⟨k, sb, hp, hs, h0, h1, h2, h3⟩ := AdZ.put_tbl 10 3 2 5 hm
  have hmk : advise_Make.f 10 5 3 2 = some (10, 5, 3, 2, AdZ.tbl 10 3 2 5, 0) := AdZ.make_tbl 10 3 2 5 hm
  have hsz : ((AdZ.tbl 10 3 2 5).size : Int) = 126 := by rw [AdZ.tbl_size 10 3 2 5 (by omega)]; decide
  have ha : advise_Ask.f 10 ((5 : Nat) : Int) 3 2 (AdZ.tbl 10 3 2 5) (-1) 2 = some 2 := by
    rw [AdZ.ask_tbl 10 3 2 5 (by omega) (by omega) (by omega)]
    decide
  have hv := AdZ.valid_tbl 10 3 2 5 hm
  have hget := fun W => advGet_long k sb sb 10 5 3 2 0 0 (AdZ.tbl 10 3 2 5) W hs (by rw [h0, h1, h2, h3]; exact hmk) (fun _ => hp) (TabV 10 5 3 2 (AdZ.tbl 10 3 2 5) 0) (fun _ _ => rfl) (fun h => absurd rfl (h rfl))
  have hs9 : (sb.size : Int) = 9 := by omega
  unfold TabV at hget
  generalize AdZ.tbl 10 3 2 5 = S at *
  replace hmk := hidI hmk
  replace hp := hidI hp
  replace ha := hidI ha
  replace hv := hidI hv
  replace hget := hidI hget
  clear h0 h1 h2 h3 hm
  have hsz2 : S.size = 126 := by omega
  go_enter Try.func17, Try.ntmps17
  go_upto_region 2 with (first | (go_at_call 18; refine (advise_Make.calls _ _ _ _ _ _ _ _ _ _ _ hmk.out).mono ?_; rintro e w1 ⟨rfl, hb1⟩) | fail)
  have hk_g0 := blk_new w1 (.cells #[.int .i64 10, .int .i64 5, .int .i64 3, .int .i64 2, .string S] 38)
  have hbw := bl_alloc hb1 (.cells #[.int .i64 10, .int .i64 5, .int .i64 3, .int .i64 2, .string S] 38)
  clear hb1
  generalize w1.alloc (.cells #[.int .i64 10, .int .i64 5, .int .i64 3, .int .i64 2, .string S] 38) = W1 at *
  generalize w1.heap.size = g0 at *
  obtain ⟨w0, hw0⟩ : ∃ z : World, z = w := ⟨_, rfl⟩
  rw [← hw0] at hbw
  have y0 : W1.cell? ⟨g0, 0, none⟩ = some (.int .i64 10) := blk_cell hk_g0 0 (by rfl)
  have y1 : W1.cell? ⟨g0, 1, none⟩ = some (.int .i64 5) := blk_cell hk_g0 1 (by rfl)
  have y2 : W1.cell? ⟨g0, 2, none⟩ = some (.int .i64 3) := blk_cell hk_g0 2 (by rfl)
  have y3 : W1.cell? ⟨g0, 3, none⟩ = some (.int .i64 2) := blk_cell hk_g0 3 (by rfl)
  have y4 : W1.cell? ⟨g0, 4, none⟩ = some (.string S) := blk_cell hk_g0 4 (by rfl)
  go_upto_region 4 with (first | (go_at_call 20; refine (advise_Put.calls _ _ _ _ _ _ _ _ _ hp.out).mono ?_; rintro e w2 ⟨rfl, hb2⟩) | (go_at_call 22; refine (hget.out _).mono ?_; rintro e w3 ⟨rfl, hb3⟩) | fail)
  clear y0 y1 y2 y3 y4 hget hp hmk
  replace hk_g0 := bl_block hb2 hk_g0
  replace hbw := bl_step hbw hb2
  replace hk_g0 := bl_block hb3 hk_g0
  replace hbw := bl_step hbw hb3
  clear hb2 hb3
  replace hk_g0 := blk_alloc hk_g0 (.cells #[.int .i64 10, .int .i64 5, .int .i64 3, .int .i64 2, .string S] 38)
  have hk_g1 := blk_new w3 (.cells #[.int .i64 10, .int .i64 5, .int .i64 3, .int .i64 2, .string S] 38)
  replace hbw := bl_alloc hbw (.cells #[.int .i64 10, .int .i64 5, .int .i64 3, .int .i64 2, .string S] 38)
  generalize w3.alloc (.cells #[.int .i64 10, .int .i64 5, .int .i64 3, .int .i64 2, .string S] 38) = W3 at *
  generalize w3.heap.size = g1 at *
  obtain ⟨B0, hB0⟩ : ∃ B, B = W3.heap.size := ⟨_, rfl⟩
  have c0_hsz : B0 ≤ W3.heap.size := Nat.le_of_eq hB0
  have hw0B0 : w0.heap.size ≤ B0 := by rw [hB0]; exact hbw.size
  have c0_hk_g0 := hk_g0
  have c0_lt_g0 : g0 < B0 := by rw [hB0]; exact blk_lt hk_g0
  have c0_hk_g1 := hk_g1
  have c0_lt_g1 : g1 < B0 := by rw [hB0]; exact blk_lt hk_g1
  have c0_hbw := hbw
  clear hB0 hbw hk_g0 hk_g1
  refine region_lin (n := 36) (st := ?st2) { R := [0, 1, 3, 7, 15, 31, 63, 127, 255, 511, 1023, 2047, 2047, 8191, 16383, 32767, 65535, 131071, 262143, 524287, 1048575, 2097151, 4194303, 8388607, 16777215, 33554431, 67108863, 134217727, 268435455, 536870911, 1073741823, 2147483647, 4294967295, 8589934591, 17179869183, 34359738367], kill := [[], [], [], [], [], [], [], [], [], [], [], [], [], [], [], [], [], [], [], [], [], [], [], [], [], [], [], [], [], [], [], [], [], [], [], []], cls := [0, 0, 0, 0, 0, 0, 0, 0, 0, 0, 0, 0, 0, 0, 0, 0, 0, 0, 0, 0, 0, 0, 0, 0, 0, 0, 0, 0, 0, 0, 0, 0, 0, 0, 0, 0], dst := [some 21, some 22, some 23, some 24, some 25, some 26, some 27, some 28, some 29, some 30, some 31, some 32, some 33, some 34, some 35, some 36, some 37, some 38, some 39, some 40, some 41, some 42, some 43, some 44, some 45, some 46, some 47, some 48, some 49, some 50, some 51, some 52, some 53, some 54, some 55, some 0], pre := [[], [0], [1], [2], [2, 3], [2, 4], [5], [6], [6, 7], [6, 8], [9], [10], [10], [10, 11, 12], [10, 13], [14], [15], [15, 16], [15, 17], [15, 18], [15, 19], [20], [21], [21, 22], [21, 23], [21, 24], [25], [26], [26, 27], [26, 28], [29], [30], [30, 31], [30, 32], [30, 33], [34]], cov := [], fin := [35], locs := [], tgt := [none], abt := [none, none, none, none, none, none, none, none, none, none, none, none, none, none, none, none, none, none, none, none, none, none, none, none, none, none, none, none, none, none, none, none, none, none, none, none] }
    [.v [21] (fun vs => (vs.getD 0 undef) = .int .i64 0),
     .v [22] (fun vs => (vs.getD 0 undef) = .bool true),
     .v [23] (fun vs => (vs.getD 0 undef) = .bool true),
     .v [24] (fun vs => (vs.getD 0 undef) = .int .i64 0),
     .v [25] (fun vs => (vs.getD 0 undef) = .bool true),
     .v [26] (fun vs => (vs.getD 0 undef) = .bool true),
     .v [27] (fun vs => (vs.getD 0 undef) = .bool true),
     .v [28] (fun vs => (vs.getD 0 undef) = .int .i64 0),
     .v [29] (fun vs => (vs.getD 0 undef) = .bool true),
     .v [30] (fun vs => (vs.getD 0 undef) = .bool true),
     .v [31] (fun vs => (vs.getD 0 undef) = .bool true),
     .v [32] (fun vs => (vs.getD 0 undef) = .agg #[.int .i64 10, .int .i64 5, .int .i64 3, .int .i64 2, .string S]),
     .v [33] (fun vs => (vs.getD 0 undef) = .agg #[.int .i64 10, .int .i64 5, .int .i64 3, .int .i64 2, .string S]),
     .v [34] (fun vs => (vs.getD 0 undef) = .bool true),
     .v [35] (fun vs => (vs.getD 0 undef) = .bool true),
     .v [36] (fun vs => (vs.getD 0 undef) = .bool true),
     .v [37] (fun vs => (vs.getD 0 undef) = .pointer (some ⟨g0, 4, none⟩)),
     .v [38] (fun vs => (vs.getD 0 undef) = .string S),
     .v [39] (fun vs => (vs.getD 0 undef) = .int .i64 126),
     .v [40] (fun vs => (vs.getD 0 undef) = .bool true),
     .v [41] (fun vs => (vs.getD 0 undef) = .bool true),
     .v [42] (fun vs => (vs.getD 0 undef) = .bool true),
     .v [43] (fun vs => (vs.getD 0 undef) = .agg #[.int .i64 10, .int .i64 5, .int .i64 3, .int .i64 2, .string S]),
     .v [44] (fun vs => (vs.getD 0 undef) = .int .i64 2),
     .v [45] (fun vs => (vs.getD 0 undef) = .bool true),
     .v [46] (fun vs => (vs.getD 0 undef) = .bool true),
     .v [47] (fun vs => (vs.getD 0 undef) = .bool true),
     .v [48] (fun vs => (vs.getD 0 undef) = .agg #[.int .i64 10, .int .i64 5, .int .i64 3, .int .i64 2, .string S]),
     .v [49] (fun vs => (vs.getD 0 undef) = .bool true),
     .v [50] (fun vs => (vs.getD 0 undef) = .bool true),
     .v [51] (fun vs => (vs.getD 0 undef) = .bool true),
     .v [52] (fun vs => (vs.getD 0 undef) = .string sb),
     .v [53] (fun vs => (vs.getD 0 undef) = .int .i64 9),
     .v [54] (fun vs => (vs.getD 0 undef) = .bool true),
     .v [55] (fun vs => (vs.getD 0 undef) = .bool true),
     .v [0] (fun vs => (vs.getD 0 undef) = .bool true)]
    (fun w => B0 ≤ w.heap.size ∧ w.heap[g0]? = some (.cells #[.int .i64 10, .int .i64 5, .int .i64 3, .int .i64 2, .string S] 38 (0, 0)) ∧ g0 < B0 ∧ w.heap[g1]? = some (.cells #[.int .i64 10, .int .i64 5, .int .i64 3, .int .i64 2, .string S] 38 (0, 0)) ∧ g1 < B0 ∧ Below w0.heap.size w0 w)
    (fun c => ([fun s w w' => Below w.heap.size w w'] : List ((Nat → Value) → World → World → Prop)).getD c (fun s w w' => w' = w))
    [0, 21, 22, 23, 24, 25, 26, 27, 28, 29, 30, 31, 32, 33, 34, 35, 36, 37, 38, 39, 40, 41, 42, 43, 44, 45, 46, 47, 48, 49, 50, 51, 52, 53, 54, 55] (by kernel_rfl) ⟨by kernel_rfl, by kernel_rfl, by kernel_rfl, by kernel_rfl, by kernel_rfl, by kernel_rfl, by kernel_rfl, by kernel_rfl⟩ (fun s => ?_) ?_ ?_ ?_ ?_ ?_ (fun s w hC hA => ?_)
  rotate_left
  · simp only [fillS, List.foldl, List.setIfInBounds_toArray, List.set_cons_zero, List.set_cons_succ]; rfl
  · exact ⟨c0_hsz, c0_hk_g0, c0_lt_g0, c0_hk_g1, c0_lt_g1, c0_hbw⟩
  · intro c s w w' hE
    match c, hE with
    | 0, hE => exact Below.size hE
    | c + 1, hE => cases hE; exact Nat.le_refl _
  · rintro c s w w' ⟨hsz, hk_g0, lt_g0, hk_g1, lt_g1, hbw⟩ hE
    match c, hE with
    | 0, hE => replace hE : Below w.heap.size w w' := hE; exact ⟨Nat.le_trans hsz hE.size, bl_block hE hk_g0, lt_g0, bl_block hE hk_g1, lt_g1, bl_step hbw hE⟩
    | c + 1, hE => cases hE; exact ⟨hsz, hk_g0, lt_g0, hk_g1, lt_g1, hbw⟩
  · exact trivial
  · skip
    refine StepsP.cons ?_ ?_
    · intro Q s w hC hA K hK
      clear hC
      clear hA
      refine guard_none (by rfl) ?_
      refine wp_value (v := .int .i64 0) (w1 := w) ?_ (hK.out _ w (Below.refl _ _) rfl (fun h => by cases h))
      go_simp
      try (first | done | rfl | (simp; done))
    refine StepsP.cons ?_ ?_
    · intro Q s w hC hA K hK
      clear hC
      obtain ⟨f0, -⟩ := hA
      replace f0 : (s 21) = .int .i64 0 := f0
      refine guard_none (by rfl) ?_
      refine wp_value (v := .bool true) (w1 := w) ?_ (hK.out _ w (Below.refl _ _) rfl (fun h => by cases h))
      try simp only [f0]
      go_simp
      try (first | done | rfl | (simp; done))
    refine StepsP.cons ?_ ?_
    · intro Q s w hC hA K hK
      clear hC
      obtain ⟨f1, -⟩ := hA
      replace f1 : (s 22) = .bool true := f1
      refine guard_none (by rfl) ?_
      refine wp_value (v := .bool true) (w1 := w) ?_ (hK.out _ w (Below.refl _ _) rfl (fun h => by cases h))
      try simp only [f1]
      go_simp
      try (first | done | rfl | (simp; done))
    refine StepsP.cons ?_ ?_
    · intro Q s w hC hA K hK
      clear hC
      obtain ⟨f2, -⟩ := hA
      replace f2 : (s 23) = .bool true := f2
      refine guard_on (d := 23) (want := true) (by rfl) (by rfl) ?_ ?_
      · exact f2
      refine wp_value (v := .int .i64 0) (w1 := w) ?_ (hK.out _ w (Below.refl _ _) rfl (fun h => by cases h))
      try simp only [f2]
      go_simp
      try (first | done | rfl | (simp; done))
    refine StepsP.cons ?_ ?_
    · intro Q s w hC hA K hK
      clear hC
      obtain ⟨f2, f3, -⟩ := hA
      replace f2 : (s 23) = .bool true := f2
      replace f3 : (s 24) = .int .i64 0 := f3
      refine guard_on (d := 23) (want := true) (by rfl) (by rfl) ?_ ?_
      · exact f2
      refine wp_value (v := .bool true) (w1 := w) ?_ (hK.out _ w (Below.refl _ _) rfl (fun h => by cases h))
      try simp only [f2, f3]
      go_simp
      try (first | done | rfl | (simp; done))
    refine StepsP.cons ?_ ?_
    · intro Q s w hC hA K hK
      clear hC
      obtain ⟨f2, f4, -⟩ := hA
      replace f2 : (s 23) = .bool true := f2
      replace f4 : (s 25) = .bool true := f4
      refine guard_none (by rfl) ?_
      refine wp_value (v := .bool true) (w1 := w) ?_ (hK.out _ w (Below.refl _ _) rfl (fun h => by cases h))
      try simp only [f2, f4]
      go_simp
      try (first | done | rfl | (simp; done))
    refine StepsP.cons ?_ ?_
    · intro Q s w hC hA K hK
      clear hC
      obtain ⟨f5, -⟩ := hA
      replace f5 : (s 26) = .bool true := f5
      refine guard_none (by rfl) ?_
      refine wp_value (v := .bool true) (w1 := w) ?_ (hK.out _ w (Below.refl _ _) rfl (fun h => by cases h))
      try simp only [f5]
      go_simp
      try (first | done | rfl | (simp; done))
    refine StepsP.cons ?_ ?_
    · intro Q s w hC hA K hK
      clear hC
      obtain ⟨f6, -⟩ := hA
      replace f6 : (s 27) = .bool true := f6
      refine guard_on (d := 27) (want := true) (by rfl) (by rfl) ?_ ?_
      · exact f6
      refine wp_value (v := .int .i64 0) (w1 := w) ?_ (hK.out _ w (Below.refl _ _) rfl (fun h => by cases h))
      try simp only [f6]
      go_simp
      try (first | done | rfl | (simp; done))
    refine StepsP.cons ?_ ?_
    · intro Q s w hC hA K hK
      clear hC
      obtain ⟨f6, f7, -⟩ := hA
      replace f6 : (s 27) = .bool true := f6
      replace f7 : (s 28) = .int .i64 0 := f7
      refine guard_on (d := 27) (want := true) (by rfl) (by rfl) ?_ ?_
      · exact f6
      refine wp_value (v := .bool true) (w1 := w) ?_ (hK.out _ w (Below.refl _ _) rfl (fun h => by cases h))
      try simp only [f6, f7]
      go_simp
      try (first | done | rfl | (simp; done))
    refine StepsP.cons ?_ ?_
    · intro Q s w hC hA K hK
      clear hC
      obtain ⟨f6, f8, -⟩ := hA
      replace f6 : (s 27) = .bool true := f6
      replace f8 : (s 29) = .bool true := f8
      refine guard_none (by rfl) ?_
      refine wp_value (v := .bool true) (w1 := w) ?_ (hK.out _ w (Below.refl _ _) rfl (fun h => by cases h))
      try simp only [f6, f8]
      go_simp
      try (first | done | rfl | (simp; done))
    refine StepsP.cons ?_ ?_
    · intro Q s w hC hA K hK
      clear hC
      obtain ⟨f9, -⟩ := hA
      replace f9 : (s 30) = .bool true := f9
      refine guard_none (by rfl) ?_
      refine wp_value (v := .bool true) (w1 := w) ?_ (hK.out _ w (Below.refl _ _) rfl (fun h => by cases h))
      try simp only [f9]
      go_simp
      try (first | done | rfl | (simp; done))
    refine StepsP.cons ?_ ?_
    · intro Q s w hC hA K hK
      obtain ⟨hsz, hk_g0, lt_g0, hk_g1, lt_g1, hbw⟩ := hC
      obtain ⟨f10, -⟩ := hA
      replace f10 : (s 31) = .bool true := f10
      refine guard_on (d := 31) (want := true) (by rfl) (by rfl) ?_ ?_
      · exact f10
      have m0_g0 : w.cell? ⟨g0, 0, none⟩ = some (.int .i64 10) := blk_cell hk_g0 0 (by rfl)
      have m1_g0 : w.cell? ⟨g0, 1, none⟩ = some (.int .i64 5) := blk_cell hk_g0 1 (by rfl)
      have m2_g0 : w.cell? ⟨g0, 2, none⟩ = some (.int .i64 3) := blk_cell hk_g0 2 (by rfl)
      have m3_g0 : w.cell? ⟨g0, 3, none⟩ = some (.int .i64 2) := blk_cell hk_g0 3 (by rfl)
      have m4_g0 : w.cell? ⟨g0, 4, none⟩ = some (.string S) := blk_cell hk_g0 4 (by rfl)
      refine wp_value (v := .agg #[.int .i64 10, .int .i64 5, .int .i64 3, .int .i64 2, .string S]) (w1 := w) ?_ (hK.out _ w (Below.refl _ _) rfl (fun h => by cases h))
      try simp only [f10]
      go_simp
      try (first | done | rfl | (simp; done))
    refine StepsP.cons ?_ ?_
    · intro Q s w hC hA K hK
      obtain ⟨hsz, hk_g0, lt_g0, hk_g1, lt_g1, hbw⟩ := hC
      obtain ⟨f10, -⟩ := hA
      replace f10 : (s 31) = .bool true := f10
      refine guard_on (d := 31) (want := true) (by rfl) (by rfl) ?_ ?_
      · exact f10
      have m0_g1 : w.cell? ⟨g1, 0, none⟩ = some (.int .i64 10) := blk_cell hk_g1 0 (by rfl)
      have m1_g1 : w.cell? ⟨g1, 1, none⟩ = some (.int .i64 5) := blk_cell hk_g1 1 (by rfl)
      have m2_g1 : w.cell? ⟨g1, 2, none⟩ = some (.int .i64 3) := blk_cell hk_g1 2 (by rfl)
      have m3_g1 : w.cell? ⟨g1, 3, none⟩ = some (.int .i64 2) := blk_cell hk_g1 3 (by rfl)
      have m4_g1 : w.cell? ⟨g1, 4, none⟩ = some (.string S) := blk_cell hk_g1 4 (by rfl)
      refine wp_value (v := .agg #[.int .i64 10, .int .i64 5, .int .i64 3, .int .i64 2, .string S]) (w1 := w) ?_ (hK.out _ w (Below.refl _ _) rfl (fun h => by cases h))
      try simp only [f10]
      go_simp
      try (first | done | rfl | (simp; done))
    refine StepsP.cons ?_ ?_
    · intro Q s w hC hA K hK
      clear hC
      obtain ⟨f10, f11, f12, -⟩ := hA
      replace f10 : (s 31) = .bool true := f10
      replace f11 : (s 32) = .agg #[.int .i64 10, .int .i64 5, .int .i64 3, .int .i64 2, .string S] := f11
      replace f12 : (s 33) = .agg #[.int .i64 10, .int .i64 5, .int .i64 3, .int .i64 2, .string S] := f12
      refine guard_on (d := 31) (want := true) (by rfl) (by rfl) ?_ ?_
      · exact f10
      refine wp_value (v := .bool true) (w1 := w) ?_ (hK.out _ w (Below.refl _ _) rfl (fun h => by cases h))
      try simp only [f10, f11, f12]
      go_simp
      try (first | done | rfl | (simp; done))
    refine StepsP.cons ?_ ?_
    · intro Q s w hC hA K hK
      clear hC
      obtain ⟨f10, f13, -⟩ := hA
      replace f10 : (s 31) = .bool true := f10
      replace f13 : (s 34) = .bool true := f13
      refine guard_none (by rfl) ?_
      refine wp_value (v := .bool true) (w1 := w) ?_ (hK.out _ w (Below.refl _ _) rfl (fun h => by cases h))
      try simp only [f10, f13]
      go_simp
      try (first | done | rfl | (simp; done))
    refine StepsP.cons ?_ ?_
    · intro Q s w hC hA K hK
      clear hC
      obtain ⟨f14, -⟩ := hA
      replace f14 : (s 35) = .bool true := f14
      refine guard_none (by rfl) ?_
      refine wp_value (v := .bool true) (w1 := w) ?_ (hK.out _ w (Below.refl _ _) rfl (fun h => by cases h))
      try simp only [f14]
      go_simp
      try (first | done | rfl | (simp; done))
    refine StepsP.cons ?_ ?_
    · intro Q s w hC hA K hK
      clear hC
      obtain ⟨f15, -⟩ := hA
      replace f15 : (s 36) = .bool true := f15
      refine guard_on (d := 36) (want := true) (by rfl) (by rfl) ?_ ?_
      · exact f15
      refine wp_value (v := .pointer (some ⟨g0, 4, none⟩)) (w1 := w) ?_ (hK.out _ w (Below.refl _ _) rfl (fun h => by cases h))
      try simp only [f15]
      go_simp
      try (first | done | rfl | (simp; done))
    refine StepsP.cons ?_ ?_
    · intro Q s w hC hA K hK
      obtain ⟨hsz, hk_g0, lt_g0, hk_g1, lt_g1, hbw⟩ := hC
      obtain ⟨f15, f16, -⟩ := hA
      replace f15 : (s 36) = .bool true := f15
      replace f16 : (s 37) = .pointer (some ⟨g0, 4, none⟩) := f16
      refine guard_on (d := 36) (want := true) (by rfl) (by rfl) ?_ ?_
      · exact f15
      have m0_g0 : w.cell? ⟨g0, 0, none⟩ = some (.int .i64 10) := blk_cell hk_g0 0 (by rfl)
      have m1_g0 : w.cell? ⟨g0, 1, none⟩ = some (.int .i64 5) := blk_cell hk_g0 1 (by rfl)
      have m2_g0 : w.cell? ⟨g0, 2, none⟩ = some (.int .i64 3) := blk_cell hk_g0 2 (by rfl)
      have m3_g0 : w.cell? ⟨g0, 3, none⟩ = some (.int .i64 2) := blk_cell hk_g0 3 (by rfl)
      have m4_g0 : w.cell? ⟨g0, 4, none⟩ = some (.string S) := blk_cell hk_g0 4 (by rfl)
      refine wp_value (v := .string S) (w1 := w) ?_ (hK.out _ w (Below.refl _ _) rfl (fun h => by cases h))
      try simp only [f15, f16]
      go_simp
      try (first | done | rfl | (simp; done))
    refine StepsP.cons ?_ ?_
    · intro Q s w hC hA K hK
      clear hC
      obtain ⟨f15, f17, -⟩ := hA
      replace f15 : (s 36) = .bool true := f15
      replace f17 : (s 38) = .string S := f17
      refine guard_on (d := 36) (want := true) (by rfl) (by rfl) ?_ ?_
      · exact f15
      refine wp_value (v := .int .i64 126) (w1 := w) ?_ (hK.out _ w (Below.refl _ _) rfl (fun h => by cases h))
      try simp only [f17]
      go_simp
      first | done | simp [hsz]
    refine StepsP.cons ?_ ?_
    · intro Q s w hC hA K hK
      clear hC
      obtain ⟨f15, f18, -⟩ := hA
      replace f15 : (s 36) = .bool true := f15
      replace f18 : (s 39) = .int .i64 126 := f18
      refine guard_on (d := 36) (want := true) (by rfl) (by rfl) ?_ ?_
      · exact f15
      refine wp_value (v := .bool true) (w1 := w) ?_ (hK.out _ w (Below.refl _ _) rfl (fun h => by cases h))
      try simp only [f15, f18]
      go_simp
      try (first | done | rfl | (simp; done))
    refine StepsP.cons ?_ ?_
    · intro Q s w hC hA K hK
      clear hC
      obtain ⟨f15, f19, -⟩ := hA
      replace f15 : (s 36) = .bool true := f15
      replace f19 : (s 40) = .bool true := f19
      refine guard_none (by rfl) ?_
      refine wp_value (v := .bool true) (w1 := w) ?_ (hK.out _ w (Below.refl _ _) rfl (fun h => by cases h))
      try simp only [f15, f19]
      go_simp
      try (first | done | rfl | (simp; done))
    refine StepsP.cons ?_ ?_
    · intro Q s w hC hA K hK
      clear hC
      obtain ⟨f20, -⟩ := hA
      replace f20 : (s 41) = .bool true := f20
      refine guard_none (by rfl) ?_
      refine wp_value (v := .bool true) (w1 := w) ?_ (hK.out _ w (Below.refl _ _) rfl (fun h => by cases h))
      try simp only [f20]
      go_simp
      try (first | done | rfl | (simp; done))
    refine StepsP.cons ?_ ?_
    · intro Q s w hC hA K hK
      obtain ⟨hsz, hk_g0, lt_g0, hk_g1, lt_g1, hbw⟩ := hC
      obtain ⟨f21, -⟩ := hA
      replace f21 : (s 42) = .bool true := f21
      refine guard_on (d := 42) (want := true) (by rfl) (by rfl) ?_ ?_
      · exact f21
      have m0_g0 : w.cell? ⟨g0, 0, none⟩ = some (.int .i64 10) := blk_cell hk_g0 0 (by rfl)
      have m1_g0 : w.cell? ⟨g0, 1, none⟩ = some (.int .i64 5) := blk_cell hk_g0 1 (by rfl)
      have m2_g0 : w.cell? ⟨g0, 2, none⟩ = some (.int .i64 3) := blk_cell hk_g0 2 (by rfl)
      have m3_g0 : w.cell? ⟨g0, 3, none⟩ = some (.int .i64 2) := blk_cell hk_g0 3 (by rfl)
      have m4_g0 : w.cell? ⟨g0, 4, none⟩ = some (.string S) := blk_cell hk_g0 4 (by rfl)
      refine wp_value (v := .agg #[.int .i64 10, .int .i64 5, .int .i64 3, .int .i64 2, .string S]) (w1 := w) ?_ (hK.out _ w (Below.refl _ _) rfl (fun h => by cases h))
      try simp only [f21]
      go_simp
      try (first | done | rfl | (simp; done))
    refine StepsP.cons ?_ ?_
    · intro Q s w hC hA K hK
      obtain ⟨hsz, hk_g0, lt_g0, hk_g1, lt_g1, hbw⟩ := hC
      obtain ⟨f21, f22, -⟩ := hA
      replace f21 : (s 42) = .bool true := f21
      replace f22 : (s 43) = .agg #[.int .i64 10, .int .i64 5, .int .i64 3, .int .i64 2, .string S] := f22
      refine guard_on (d := 42) (want := true) (by rfl) (by rfl) ?_ ?_
      · exact f21
      refine wp_call (N := some 44) (by rfl) Try.func24 (by kernel_rfl) #[.agg #[.int .i64 10, .int .i64 5, .int .i64 3, .int .i64 2, .string S], .int .i64 (-1), .int .i64 2] rfl (by rfl) ?_ ?_
      · show [s 43, .int .i64 (-1), .int .i64 2] = [.agg #[.int .i64 10, .int .i64 5, .int .i64 3, .int .i64 2, .string S], .int .i64 (-1), .int .i64 2]
        first | rfl | simp only [f21, f22]
      refine (advise_Ask.calls _ _ _ _ _ _ _ 2 _ ha.out).mono ?_
      rintro e w1 ⟨rfl, hb⟩
      refine ⟨_, rfl, ?_⟩
      exact hK.out _ _ hb rfl (fun h => by cases h)
    refine StepsP.cons ?_ ?_
    · intro Q s w hC hA K hK
      clear hC
      obtain ⟨f21, f23, -⟩ := hA
      replace f21 : (s 42) = .bool true := f21
      replace f23 : (s 44) = .int .i64 2 := f23
      refine guard_on (d := 42) (want := true) (by rfl) (by rfl) ?_ ?_
      · exact f21
      refine wp_value (v := .bool true) (w1 := w) ?_ (hK.out _ w (Below.refl _ _) rfl (fun h => by cases h))
      try simp only [f21, f23]
      go_simp
      try (first | done | rfl | (simp; done))
    refine StepsP.cons ?_ ?_
    · intro Q s w hC hA K hK
      clear hC
      obtain ⟨f21, f24, -⟩ := hA
      replace f21 : (s 42) = .bool true := f21
      replace f24 : (s 45) = .bool true := f24
      refine guard_none (by rfl) ?_
      refine wp_value (v := .bool true) (w1 := w) ?_ (hK.out _ w (Below.refl _ _) rfl (fun h => by cases h))
      try simp only [f21, f24]
      go_simp
      try (first | done | rfl | (simp; done))
    refine StepsP.cons ?_ ?_
    · intro Q s w hC hA K hK
      clear hC
      obtain ⟨f25, -⟩ := hA
      replace f25 : (s 46) = .bool true := f25
      refine guard_none (by rfl) ?_
      refine wp_value (v := .bool true) (w1 := w) ?_ (hK.out _ w (Below.refl _ _) rfl (fun h => by cases h))
      try simp only [f25]
      go_simp
      try (first | done | rfl | (simp; done))
    refine StepsP.cons ?_ ?_
    · intro Q s w hC hA K hK
      obtain ⟨hsz, hk_g0, lt_g0, hk_g1, lt_g1, hbw⟩ := hC
      obtain ⟨f26, -⟩ := hA
      replace f26 : (s 47) = .bool true := f26
      refine guard_on (d := 47) (want := true) (by rfl) (by rfl) ?_ ?_
      · exact f26
      have m0_g0 : w.cell? ⟨g0, 0, none⟩ = some (.int .i64 10) := blk_cell hk_g0 0 (by rfl)
      have m1_g0 : w.cell? ⟨g0, 1, none⟩ = some (.int .i64 5) := blk_cell hk_g0 1 (by rfl)
      have m2_g0 : w.cell? ⟨g0, 2, none⟩ = some (.int .i64 3) := blk_cell hk_g0 2 (by rfl)
      have m3_g0 : w.cell? ⟨g0, 3, none⟩ = some (.int .i64 2) := blk_cell hk_g0 3 (by rfl)
      have m4_g0 : w.cell? ⟨g0, 4, none⟩ = some (.string S) := blk_cell hk_g0 4 (by rfl)
      refine wp_value (v := .agg #[.int .i64 10, .int .i64 5, .int .i64 3, .int .i64 2, .string S]) (w1 := w) ?_ (hK.out _ w (Below.refl _ _) rfl (fun h => by cases h))
      try simp only [f26]
      go_simp
      try (first | done | rfl | (simp; done))
    refine StepsP.cons ?_ ?_
    · intro Q s w hC hA K hK
      obtain ⟨hsz, hk_g0, lt_g0, hk_g1, lt_g1, hbw⟩ := hC
      obtain ⟨f26, f27, -⟩ := hA
      replace f26 : (s 47) = .bool true := f26
      replace f27 : (s 48) = .agg #[.int .i64 10, .int .i64 5, .int .i64 3, .int .i64 2, .string S] := f27
      refine guard_on (d := 47) (want := true) (by rfl) (by rfl) ?_ ?_
      · exact f26
      refine wp_call (N := some 49) (by rfl) Try.func28 (by kernel_rfl) #[.agg #[.int .i64 10, .int .i64 5, .int .i64 3, .int .i64 2, .string S]] rfl (by rfl) ?_ ?_
      · show [s 48] = [.agg #[.int .i64 10, .int .i64 5, .int .i64 3, .int .i64 2, .string S]]
        first | rfl | simp only [f26, f27]
      refine (advise_Valid.calls _ _ _ _ _ true _ hv.out).mono ?_
      rintro e w1 ⟨rfl, hb⟩
      refine ⟨_, rfl, ?_⟩
      exact hK.out _ _ hb rfl (fun h => by cases h)
    refine StepsP.cons ?_ ?_
    · intro Q s w hC hA K hK
      clear hC
      obtain ⟨f26, f28, -⟩ := hA
      replace f26 : (s 47) = .bool true := f26
      replace f28 : (s 49) = .bool true := f28
      refine guard_none (by rfl) ?_
      refine wp_value (v := .bool true) (w1 := w) ?_ (hK.out _ w (Below.refl _ _) rfl (fun h => by cases h))
      try simp only [f26, f28]
      go_simp
      try (first | done | rfl | (simp; done))
    refine StepsP.cons ?_ ?_
    · intro Q s w hC hA K hK
      clear hC
      obtain ⟨f29, -⟩ := hA
      replace f29 : (s 50) = .bool true := f29
      refine guard_none (by rfl) ?_
      refine wp_value (v := .bool true) (w1 := w) ?_ (hK.out _ w (Below.refl _ _) rfl (fun h => by cases h))
      try simp only [f29]
      go_simp
      try (first | done | rfl | (simp; done))
    refine StepsP.cons ?_ ?_
    · intro Q s w hC hA K hK
      clear hC
      obtain ⟨f30, -⟩ := hA
      replace f30 : (s 51) = .bool true := f30
      refine guard_on (d := 51) (want := true) (by rfl) (by rfl) ?_ ?_
      · exact f30
      refine wp_value (v := .string sb) (w1 := w) ?_ (hK.out _ w (Below.refl _ _) rfl (fun h => by cases h))
      try simp only [f30]
      go_simp
      try (first | done | rfl | (simp; done))
    refine StepsP.cons ?_ ?_
    · intro Q s w hC hA K hK
      clear hC
      obtain ⟨f30, f31, -⟩ := hA
      replace f30 : (s 51) = .bool true := f30
      replace f31 : (s 52) = .string sb := f31
      refine guard_on (d := 51) (want := true) (by rfl) (by rfl) ?_ ?_
      · exact f30
      refine wp_value (v := .int .i64 9) (w1 := w) ?_ (hK.out _ w (Below.refl _ _) rfl (fun h => by cases h))
      try simp only [f31]
      go_simp
      first | done | simp [hs9]
    refine StepsP.cons ?_ ?_
    · intro Q s w hC hA K hK
      clear hC
      obtain ⟨f30, f32, -⟩ := hA
      replace f30 : (s 51) = .bool true := f30
      replace f32 : (s 53) = .int .i64 9 := f32
      refine guard_on (d := 51) (want := true) (by rfl) (by rfl) ?_ ?_
      · exact f30
      refine wp_value (v := .bool true) (w1 := w) ?_ (hK.out _ w (Below.refl _ _) rfl (fun h => by cases h))
      try simp only [f30, f32]
      go_simp
      try (first | done | rfl | (simp; done))
    refine StepsP.cons ?_ ?_
    · intro Q s w hC hA K hK
      clear hC
      obtain ⟨f30, f33, -⟩ := hA
      replace f30 : (s 51) = .bool true := f30
      replace f33 : (s 54) = .bool true := f33
      refine guard_none (by rfl) ?_
      refine wp_value (v := .bool true) (w1 := w) ?_ (hK.out _ w (Below.refl _ _) rfl (fun h => by cases h))
      try simp only [f30, f33]
      go_simp
      try (first | done | rfl | (simp; done))
    refine StepsP.cons ?_ ?_
    · intro Q s w hC hA K hK
      clear hC
      obtain ⟨f34, -⟩ := hA
      replace f34 : (s 55) = .bool true := f34
      refine guard_none (by rfl) ?_
      refine wp_value (v := .bool true) (w1 := w) ?_ (hK.out _ w (Below.refl _ _) rfl (fun h => by cases h))
      try simp only [f34]
      go_simp
      try (first | done | rfl | (simp; done))
    exact StepsP.nil
  obtain ⟨hsz, hk_g0, lt_g0, hk_g1, lt_g1, hbw⟩ := hC
  obtain ⟨f35, -⟩ := hA
  replace f35 : (s 0) = .bool true := f35
  refine act_eq (b' := ?b2) ?h2 ?q2
  case h2 => simp only [f35]; rfl
  subst hw0
  go_wp2
  go_ret
  exact ⟨rfl, hbw⟩
theorem kd_of_RdI {w : World} {A : Option Addr} {l : List Int} (h : RdI w A l) : Go.Proofs.YtjidbjmekpholaaW.PrintWords.Kd.C (Go.Proofs.YtjidbjmekpholaaW.PrintWords.Kd.int .i64) w A l.length l := by
  refine Go.Proofs.YtjidbjmekpholaaW.PrintWords.Kd.C_of_reads (d := (0 : Int)) (h1 := fun _ => rfl) ⟨rfl, h.1, fun hn => ?_⟩
  obtain ⟨b, off, rfl, h0⟩ := h.at hn
  refine ⟨_, rfl, fun j hj => ?_⟩
  obtain ⟨b2, off2, e, hc⟩ := h.at hj
  injection e with e
  injection e with e1 e2
  subst e1 e2
  rw [← hc]
  unfold Addr.add
  by_cases q : j = 0
  · subst q; simp
  · simp [q]
set_option maxHeartbeats 100000000 in
set_option maxRecDepth 100000 in
theorem any_walk (a0 a1 a2 a3 : Int) (S : ByteArray) (ht tk : Int) (A : Option Addr) (l : List Int) (c : Nat) (w : World) (hc : l.length ≤ c) (hl : RdI w A l) :
    Calls Try.prog 7 #[.agg #[.int .i64 a0, .int .i64 a1, .int .i64 a2, .int .i64 a3, .string S], .int .i64 ht, .int .i64 tk, .slice A l.length c] w fun e w' => e = .returned (.bool true) ∧ Below w.heap.size w w' := by
  by_cases h1 : (100 : Int) < (l.length : Int)
  · replace h1 : decide ((100 : Int) < (l.length : Int)) = true := decide_eq_true h1
    go_enter Try.func7, Try.ntmps7
    go_wp2_with (first | (go_at_call 17; refine (alive_calls _).mono ?_; rintro e w2 ⟨rfl, hb2⟩) | fail)
    go_ret
    exact ⟨rfl, (by (repeat (first | with_reducible exact Below.refl _ _ | with_reducible assumption | with_reducible apply bl_alloc | with_reducible apply bl_drew | with_reducible apply bl_drewN | (with_reducible refine bl_set ?_ (by first | omega | (simp; done) | (simp; omega)) _) | (with_reducible refine bl_step ?_ (by assumption)) | (with_reducible refine bl_grown ?_ (by assumption) (by assumption)) | (with_reducible refine bl_own ?_ (by assumption) (by assumption)))))⟩
  by_cases h2 : (20000 : Int) < (S.size : Int)
  · replace h1 : decide ((100 : Int) < (l.length : Int)) = false := decide_eq_false h1
    replace h2 : decide ((20000 : Int) < (S.size : Int)) = true := decide_eq_true h2
    go_enter Try.func7, Try.ntmps7
    go_wp2_with (first | (go_at_call 17; refine (alive_calls _).mono ?_; rintro e w2 ⟨rfl, hb2⟩) | fail)
    go_ret
    exact ⟨rfl, (by (repeat (first | with_reducible exact Below.refl _ _ | with_reducible assumption | with_reducible apply bl_alloc | with_reducible apply bl_drew | with_reducible apply bl_drewN | (with_reducible refine bl_set ?_ (by first | omega | (simp; done) | (simp; omega)) _) | (with_reducible refine bl_step ?_ (by assumption)) | (with_reducible refine bl_grown ?_ (by assumption) (by assumption)) | (with_reducible refine bl_own ?_ (by assumption) (by assumption)))))⟩
  have hS : S.size ≤ 20000 := by omega
  replace h1 : decide ((100 : Int) < (l.length : Int)) = false := decide_eq_false h1
  replace h2 : decide ((20000 : Int) < (S.size : Int)) = false := decide_eq_false h2
  obtain ⟨⟨r1, r2⟩, ⟨K1, e1⟩, ⟨K2, e2⟩⟩ := putAny a0 a1 a2 a3 S (by omega)
  obtain ⟨K3, e3⟩ := valid_ref a0 a1 a2 a3 S
  obtain ⟨b, b1, b2⟩ := ask_eq a0 a1 a2 a3 ht tk S (by omega)
  obtain ⟨K4, e4⟩ := cost_ref a0 a1 a2 a3 ht tk S l
  have va := valid_adv a0 a1 a2 a3 S
  replace e1 := e1 K1 (Nat.le_refl _)
  replace e2 := e2 K2 (Nat.le_refl _)
  replace e3 := e3 K3 (Nat.le_refl _)
  replace e4 := e4 K4 (Nat.le_refl _)
  simp only [] at e1 e2 e3 e4
  have e5 : advise_Cost.f a0 a1 a2 a3 S ht tk l = some (costV a0 a1 a2 a3 S ht tk l) := rfl
  generalize costV a0 a1 a2 a3 S ht tk l = cv at *
  generalize validV a0 a1 a2 a3 S = vv at *
  replace e1 := hidI e1
  replace e2 := hidI e2
  replace e3 := hidI e3
  replace e4 := hidI e4
  replace e5 := hidI e5
  replace b1 := hidI b1
  replace b2 := hidI b2
  replace va := hidI va
  go_enter Try.func7, Try.ntmps7
  go_upto_region 3 with fail
  have hk_g0 := blk_new w (.cells #[.int .i64 a0, .int .i64 a1, .int .i64 a2, .int .i64 a3, .string S] 38)
  have hbw := bl_alloc (Below.refl w.heap.size w) (.cells #[.int .i64 a0, .int .i64 a1, .int .i64 a2, .int .i64 a3, .string S] 38)
  generalize w.alloc (.cells #[.int .i64 a0, .int .i64 a1, .int .i64 a2, .int .i64 a3, .string S] 38) = W1 at *
  obtain ⟨g0, hg0⟩ : ∃ g, w.heap.size = g := ⟨_, rfl⟩
  rw [hg0] at hk_g0
  rw [hg0]
  obtain ⟨w0, hw0⟩ : ∃ z : World, z = w := ⟨_, rfl⟩
  rw [← hw0] at hbw hl
  clear hg0
  have y0 : W1.cell? ⟨g0, 0, none⟩ = some (.int .i64 a0) := blk_cell hk_g0 0 (by rfl)
  have y1 : W1.cell? ⟨g0, 1, none⟩ = some (.int .i64 a1) := blk_cell hk_g0 1 (by rfl)
  have y2 : W1.cell? ⟨g0, 2, none⟩ = some (.int .i64 a2) := blk_cell hk_g0 2 (by rfl)
  have y3 : W1.cell? ⟨g0, 3, none⟩ = some (.int .i64 a3) := blk_cell hk_g0 3 (by rfl)
  have y4 : W1.cell? ⟨g0, 4, none⟩ = some (.string S) := blk_cell hk_g0 4 (by rfl)
  go_upto_region 4 with (first | (go_at_call 20; refine (advise_Put.calls _ _ _ _ _ _ _ _ _ e1.out).mono ?_; rintro e w2 ⟨rfl, hb2⟩) | fail)
  replace hk_g0 := bl_block hb2 hk_g0
  replace hbw := bl_step hbw hb2
  clear y0 y1 y2 y3 y4 hb2
  have y0 : w2.cell? ⟨g0, 0, none⟩ = some (.int .i64 a0) := blk_cell hk_g0 0 (by rfl)
  have y1 : w2.cell? ⟨g0, 1, none⟩ = some (.int .i64 a1) := blk_cell hk_g0 1 (by rfl)
  have y2 : w2.cell? ⟨g0, 2, none⟩ = some (.int .i64 a2) := blk_cell hk_g0 2 (by rfl)
  have y3 : w2.cell? ⟨g0, 3, none⟩ = some (.int .i64 a3) := blk_cell hk_g0 3 (by rfl)
  have y4 : w2.cell? ⟨g0, 4, none⟩ = some (.string S) := blk_cell hk_g0 4 (by rfl)
  go_upto_region 5 with (first | (go_at_call 21; refine (picketref18_Put.calls _ _ _ _ _ _ _ _ _ e2.out).mono ?_; rintro e w3 ⟨rfl, hb3⟩) | fail)
  replace hk_g0 := bl_block hb3 hk_g0
  replace hbw := bl_step hbw hb3
  clear y0 y1 y2 y3 y4 hb3 e1 e2 h1 h2
  replace hl := hl.below hbw
  have c0_hl := hl.below (bl_drew (Below.refl w3.heap.size w3))
  obtain ⟨B0, hB0⟩ : ∃ B, B = w3.heap.size := ⟨_, rfl⟩
  have c0_hsz : B0 ≤ w3.heap.size := Nat.le_of_eq hB0
  have hw0B0 : w0.heap.size ≤ B0 := by rw [hB0]; exact hbw.size
  have c0_hk_g0 := blk_drew hk_g0
  have c0_lt_g0 : g0 < B0 := by rw [hB0]; exact blk_lt hk_g0
  have c0_hbw := bl_drew hbw
  clear hB0 hbw hk_g0
  refine region_lin (n := 43) (st := ?st3) { R := [0, 1, 3, 7, 3, 31, 63, 127, 255, 511, 511, 511, 4095, 511, 511, 511, 65535, 131071, 262143, 524287, 1048575, 1048575, 1048575, 1048575, 16777215, 1048575, 1048575, 1048575, 1048575, 536870911, 1073741823, 2147483647, 4294967295, 8589934591, 8589934591, 34359738367, 68719476735, 137438953471, 274877906943, 274877906943, 1099511627775, 2199023255551, 4398046511103], kill := [[], [], [], [], [], [], [], [], [], [], [], [], [], [], [], [], [], [], [], [], [], [], [], [], [], [], [], [], [], [], [], [], [], [], [], [], [], [], [], [], [], [], []], cls := [0, 0, 0, 0, 0, 0, 0, 0, 0, 0, 0, 0, 0, 0, 0, 0, 0, 0, 0, 0, 0, 0, 0, 0, 0, 0, 0, 0, 0, 0, 0, 0, 0, 0, 0, 0, 0, 0, 0, 0, 0, 0, 0], dst := [some 33, some 34, some 35, some 36, some 37, some 38, some 39, some 40, some 41, some 42, some 43, some 44, some 45, some 46, some 47, some 48, some 49, some 50, some 51, some 52, some 53, some 54, some 55, some 56, some 57, some 58, some 59, some 60, some 61, some 62, some 63, some 64, some 65, some 66, some 67, some 68, some 69, some 70, some 71, some 72, some 73, some 74, some 8], pre := [[], [0], [1], [1, 2], [1], [1, 4], [1, 3, 5], [1, 6], [7], [8], [8], [8], [8, 9, 10, 11], [8], [8], [8], [8, 13, 14, 15], [8, 12, 16], [8, 17], [18], [19], [19], [19], [19], [19, 20, 21, 22, 23], [19], [19], [19], [19], [19, 25, 26, 27, 28], [19, 24, 29], [19, 30], [31], [32], [32], [32, 33, 34], [32, 35], [36], [37], [37], [37, 38, 39], [37, 40], [41]], cov := [], fin := [42], locs := [], tgt := [none], abt := [none, none, none, none, none, none, none, none, none, none, none, none, none, none, none, none, none, none, none, none, none, none, none, none, none, none, none, none, none, none, none, none, none, none, none, none, none, none, none, none, none, none, none] }
    [.v [33] (fun vs => (vs.getD 0 undef) = .bool true),
     .v [34] (fun vs => (vs.getD 0 undef) = .bool true),
     .v [35] (fun vs => (vs.getD 0 undef) = .agg #[.int .i64 a0, .int .i64 a1, .int .i64 a2, .int .i64 a3, .string S]),
     .v [36] (fun vs => (vs.getD 0 undef) = .bool vv),
     .v [37] (fun vs => (vs.getD 0 undef) = .agg #[.int .i64 a0, .int .i64 a1, .int .i64 a2, .int .i64 a3, .string S]),
     .v [38] (fun vs => (vs.getD 0 undef) = .bool vv),
     .v [39] (fun vs => (vs.getD 0 undef) = .bool true),
     .v [40] (fun vs => (vs.getD 0 undef) = .bool true),
     .v [41] (fun vs => (vs.getD 0 undef) = .bool true),
     .v [42] (fun vs => (vs.getD 0 undef) = .agg #[.int .i64 a0, .int .i64 a1, .int .i64 a2, .int .i64 a3, .string S]),
     .v [43] (fun vs => (vs.getD 0 undef) = .int .i64 ht),
     .v [44] (fun vs => (vs.getD 0 undef) = .int .i64 tk),
     .v [45] (fun vs => (vs.getD 0 undef) = .int .i64 b),
     .v [46] (fun vs => (vs.getD 0 undef) = .agg #[.int .i64 a0, .int .i64 a1, .int .i64 a2, .int .i64 a3, .string S]),
     .v [47] (fun vs => (vs.getD 0 undef) = .int .i64 ht),
     .v [48] (fun vs => (vs.getD 0 undef) = .int .i64 tk),
     .v [49] (fun vs => (vs.getD 0 undef) = .int .i64 b),
     .v [50] (fun vs => (vs.getD 0 undef) = .bool true),
     .v [51] (fun vs => (vs.getD 0 undef) = .bool true),
     .v [52] (fun vs => (vs.getD 0 undef) = .bool true),
     .v [53] (fun vs => (vs.getD 0 undef) = .agg #[.int .i64 a0, .int .i64 a1, .int .i64 a2, .int .i64 a3, .string S]),
     .v [54] (fun vs => (vs.getD 0 undef) = .int .i64 ht),
     .v [55] (fun vs => (vs.getD 0 undef) = .int .i64 tk),
     .v [56] (fun vs => (vs.getD 0 undef) = .slice A l.length c),
     .v [57] (fun vs => (vs.getD 0 undef) = .int .i64 cv),
     .v [58] (fun vs => (vs.getD 0 undef) = .agg #[.int .i64 a0, .int .i64 a1, .int .i64 a2, .int .i64 a3, .string S]),
     .v [59] (fun vs => (vs.getD 0 undef) = .int .i64 ht),
     .v [60] (fun vs => (vs.getD 0 undef) = .int .i64 tk),
     .v [61] (fun vs => (vs.getD 0 undef) = .slice A l.length c),
     .v [62] (fun vs => (vs.getD 0 undef) = .int .i64 cv),
     .v [63] (fun vs => (vs.getD 0 undef) = .bool true),
     .v [64] (fun vs => (vs.getD 0 undef) = .bool true),
     .v [65] (fun vs => (vs.getD 0 undef) = .bool true),
     .v [66] (fun vs => (vs.getD 0 undef) = .string r1),
     .v [67] (fun vs => (vs.getD 0 undef) = .string r1),
     .v [68] (fun vs => (vs.getD 0 undef) = .bool true),
     .v [69] (fun vs => (vs.getD 0 undef) = .bool true),
     .v [70] (fun vs => (vs.getD 0 undef) = .bool true),
     .v [71] (fun vs => (vs.getD 0 undef) = .int .i64 r2),
     .v [72] (fun vs => (vs.getD 0 undef) = .int .i64 r2),
     .v [73] (fun vs => (vs.getD 0 undef) = .bool true),
     .v [74] (fun vs => (vs.getD 0 undef) = .bool true),
     .v [8] (fun vs => (vs.getD 0 undef) = .bool true)]
    (fun w => B0 ≤ w.heap.size ∧ w.heap[g0]? = some (.cells #[.int .i64 a0, .int .i64 a1, .int .i64 a2, .int .i64 a3, .string S] 38 (0, 0)) ∧ g0 < B0 ∧ Below w0.heap.size w0 w ∧ RdI w A l)
    (fun c => ([fun s w w' => Below w.heap.size w w'] : List ((Nat → Value) → World → World → Prop)).getD c (fun s w w' => w' = w))
    [8, 33, 34, 35, 36, 37, 38, 39, 40, 41, 42, 43, 44, 45, 46, 47, 48, 49, 50, 51, 52, 53, 54, 55, 56, 57, 58, 59, 60, 61, 62, 63, 64, 65, 66, 67, 68, 69, 70, 71, 72, 73, 74] (by kernel_rfl) ⟨by kernel_rfl, by kernel_rfl, by kernel_rfl, by kernel_rfl, by kernel_rfl, by kernel_rfl, by kernel_rfl, by kernel_rfl⟩ (fun s => ?_) ?_ ?_ ?_ ?_ ?_ (fun s w hC hA => ?_)
  rotate_left
  · simp only [fillS, List.foldl, List.setIfInBounds_toArray, List.set_cons_zero, List.set_cons_succ]; rfl
  · exact ⟨c0_hsz, c0_hk_g0, c0_lt_g0, c0_hbw, c0_hl⟩
  · intro c s w w' hE
    match c, hE with
    | 0, hE => exact Below.size hE
    | c + 1, hE => cases hE; exact Nat.le_refl _
  · rintro c s w w' ⟨hsz, hk_g0, lt_g0, hbw, hl⟩ hE
    match c, hE with
    | 0, hE => replace hE : Below w.heap.size w w' := hE; exact ⟨Nat.le_trans hsz hE.size, bl_block hE hk_g0, lt_g0, bl_step hbw hE, hl.below hE⟩
    | c + 1, hE => cases hE; exact ⟨hsz, hk_g0, lt_g0, hbw, hl⟩
  · exact trivial
  · skip
    refine StepsP.cons ?_ ?_
    · intro Q s w hC hA K hK
      obtain ⟨hsz, hk_g0, lt_g0, hbw, hl⟩ := hC
      clear hA
      refine guard_none (by rfl) ?_
      refine wp_call (N := some 33) (by rfl) Try.func17 (by kernel_rfl) #[] rfl (by rfl) ?_ ?_
      · show [] = []
        first | rfl | simp only []
      refine (alive_calls _).mono ?_
      rintro e w1 ⟨rfl, hb⟩
      refine ⟨_, rfl, ?_⟩
      exact hK.out _ _ hb rfl (fun h => by cases h)
    refine StepsP.cons ?_ ?_
    · intro Q s w hC hA K hK
      clear hC
      obtain ⟨f0, -⟩ := hA
      replace f0 : (s 33) = .bool true := f0
      refine guard_none (by rfl) ?_
      refine wp_value (v := .bool true) (w1 := w) ?_ (hK.out _ w (Below.refl _ _) rfl (fun h => by cases h))
      try simp only [f0]
      go_simp
      try (first | done | rfl | (simp; done))
    refine StepsP.cons ?_ ?_
    · intro Q s w hC hA K hK
      obtain ⟨hsz, hk_g0, lt_g0, hbw, hl⟩ := hC
      obtain ⟨f1, -⟩ := hA
      replace f1 : (s 34) = .bool true := f1
      refine guard_on (d := 34) (want := true) (by rfl) (by rfl) ?_ ?_
      · exact f1
      have m0_g0 : w.cell? ⟨g0, 0, none⟩ = some (.int .i64 a0) := blk_cell hk_g0 0 (by rfl)
      have m1_g0 : w.cell? ⟨g0, 1, none⟩ = some (.int .i64 a1) := blk_cell hk_g0 1 (by rfl)
      have m2_g0 : w.cell? ⟨g0, 2, none⟩ = some (.int .i64 a2) := blk_cell hk_g0 2 (by rfl)
      have m3_g0 : w.cell? ⟨g0, 3, none⟩ = some (.int .i64 a3) := blk_cell hk_g0 3 (by rfl)
      have m4_g0 : w.cell? ⟨g0, 4, none⟩ = some (.string S) := blk_cell hk_g0 4 (by rfl)
      refine wp_value (v := .agg #[.int .i64 a0, .int .i64 a1, .int .i64 a2, .int .i64 a3, .string S]) (w1 := w) ?_ (hK.out _ w (Below.refl _ _) rfl (fun h => by cases h))
      try simp only [f1]
      go_simp
      try (first | done | rfl | (simp; done))
    refine StepsP.cons ?_ ?_
    · intro Q s w hC hA K hK
      obtain ⟨hsz, hk_g0, lt_g0, hbw, hl⟩ := hC
      obtain ⟨f1, f2, -⟩ := hA
      replace f1 : (s 34) = .bool true := f1
      replace f2 : (s 35) = .agg #[.int .i64 a0, .int .i64 a1, .int .i64 a2, .int .i64 a3, .string S] := f2
      refine guard_on (d := 34) (want := true) (by rfl) (by rfl) ?_ ?_
      · exact f1
      refine wp_call (N := some 36) (by rfl) Try.func28 (by kernel_rfl) #[.agg #[.int .i64 a0, .int .i64 a1, .int .i64 a2, .int .i64 a3, .string S]] rfl (by rfl) ?_ ?_
      · show [s 35] = [.agg #[.int .i64 a0, .int .i64 a1, .int .i64 a2, .int .i64 a3, .string S]]
        first | rfl | simp only [f1, f2]
      refine (advise_Valid.calls _ _ _ _ _ vv _ va.out).mono ?_
      rintro e w1 ⟨rfl, hb⟩
      refine ⟨_, rfl, ?_⟩
      exact hK.out _ _ hb rfl (fun h => by cases h)
    refine StepsP.cons ?_ ?_
    · intro Q s w hC hA K hK
      obtain ⟨hsz, hk_g0, lt_g0, hbw, hl⟩ := hC
      obtain ⟨f1, -⟩ := hA
      replace f1 : (s 34) = .bool true := f1
      refine guard_on (d := 34) (want := true) (by rfl) (by rfl) ?_ ?_
      · exact f1
      have m0_g0 : w.cell? ⟨g0, 0, none⟩ = some (.int .i64 a0) := blk_cell hk_g0 0 (by rfl)
      have m1_g0 : w.cell? ⟨g0, 1, none⟩ = some (.int .i64 a1) := blk_cell hk_g0 1 (by rfl)
      have m2_g0 : w.cell? ⟨g0, 2, none⟩ = some (.int .i64 a2) := blk_cell hk_g0 2 (by rfl)
      have m3_g0 : w.cell? ⟨g0, 3, none⟩ = some (.int .i64 a3) := blk_cell hk_g0 3 (by rfl)
      have m4_g0 : w.cell? ⟨g0, 4, none⟩ = some (.string S) := blk_cell hk_g0 4 (by rfl)
      refine wp_value (v := .agg #[.int .i64 a0, .int .i64 a1, .int .i64 a2, .int .i64 a3, .string S]) (w1 := w) ?_ (hK.out _ w (Below.refl _ _) rfl (fun h => by cases h))
      try simp only [f1]
      go_simp
      try (first | done | rfl | (simp; done))
    refine StepsP.cons ?_ ?_
    · intro Q s w hC hA K hK
      obtain ⟨hsz, hk_g0, lt_g0, hbw, hl⟩ := hC
      obtain ⟨f1, f4, -⟩ := hA
      replace f1 : (s 34) = .bool true := f1
      replace f4 : (s 37) = .agg #[.int .i64 a0, .int .i64 a1, .int .i64 a2, .int .i64 a3, .string S] := f4
      refine guard_on (d := 34) (want := true) (by rfl) (by rfl) ?_ ?_
      · exact f1
      refine wp_call (N := some 38) (by rfl) Try.func29 (by kernel_rfl) #[.agg #[.int .i64 a0, .int .i64 a1, .int .i64 a2, .int .i64 a3, .string S]] rfl (by rfl) ?_ ?_
      · show [s 37] = [.agg #[.int .i64 a0, .int .i64 a1, .int .i64 a2, .int .i64 a3, .string S]]
        first | rfl | simp only [f1, f4]
      refine (picketref18_Valid.calls _ _ _ _ _ _ vv _ e3.out).mono ?_
      rintro e w1 ⟨rfl, hb⟩
      refine ⟨_, rfl, ?_⟩
      exact hK.out _ _ hb rfl (fun h => by cases h)
    refine StepsP.cons ?_ ?_
    · intro Q s w hC hA K hK
      clear hC
      obtain ⟨f1, f3, f5, -⟩ := hA
      replace f1 : (s 34) = .bool true := f1
      replace f3 : (s 36) = .bool vv := f3
      replace f5 : (s 38) = .bool vv := f5
      refine guard_on (d := 34) (want := true) (by rfl) (by rfl) ?_ ?_
      · exact f1
      refine wp_value (v := .bool true) (w1 := w) ?_ (hK.out _ w (Below.refl _ _) rfl (fun h => by cases h))
      try simp only [f3, f5]
      go_simp
      first | done | simp
    refine StepsP.cons ?_ ?_
    · intro Q s w hC hA K hK
      clear hC
      obtain ⟨f1, f6, -⟩ := hA
      replace f1 : (s 34) = .bool true := f1
      replace f6 : (s 39) = .bool true := f6
      refine guard_none (by rfl) ?_
      refine wp_value (v := .bool true) (w1 := w) ?_ (hK.out _ w (Below.refl _ _) rfl (fun h => by cases h))
      try simp only [f1, f6]
      go_simp
      try (first | done | rfl | (simp; done))
    refine StepsP.cons ?_ ?_
    · intro Q s w hC hA K hK
      clear hC
      obtain ⟨f7, -⟩ := hA
      replace f7 : (s 40) = .bool true := f7
      refine guard_none (by rfl) ?_
      refine wp_value (v := .bool true) (w1 := w) ?_ (hK.out _ w (Below.refl _ _) rfl (fun h => by cases h))
      try simp only [f7]
      go_simp
      try (first | done | rfl | (simp; done))
    refine StepsP.cons ?_ ?_
    · intro Q s w hC hA K hK
      obtain ⟨hsz, hk_g0, lt_g0, hbw, hl⟩ := hC
      obtain ⟨f8, -⟩ := hA
      replace f8 : (s 41) = .bool true := f8
      refine guard_on (d := 41) (want := true) (by rfl) (by rfl) ?_ ?_
      · exact f8
      have m0_g0 : w.cell? ⟨g0, 0, none⟩ = some (.int .i64 a0) := blk_cell hk_g0 0 (by rfl)
      have m1_g0 : w.cell? ⟨g0, 1, none⟩ = some (.int .i64 a1) := blk_cell hk_g0 1 (by rfl)
      have m2_g0 : w.cell? ⟨g0, 2, none⟩ = some (.int .i64 a2) := blk_cell hk_g0 2 (by rfl)
      have m3_g0 : w.cell? ⟨g0, 3, none⟩ = some (.int .i64 a3) := blk_cell hk_g0 3 (by rfl)
      have m4_g0 : w.cell? ⟨g0, 4, none⟩ = some (.string S) := blk_cell hk_g0 4 (by rfl)
      refine wp_value (v := .agg #[.int .i64 a0, .int .i64 a1, .int .i64 a2, .int .i64 a3, .string S]) (w1 := w) ?_ (hK.out _ w (Below.refl _ _) rfl (fun h => by cases h))
      try simp only [f8]
      go_simp
      try (first | done | rfl | (simp; done))
    refine StepsP.cons ?_ ?_
    · intro Q s w hC hA K hK
      clear hC
      obtain ⟨f8, -⟩ := hA
      replace f8 : (s 41) = .bool true := f8
      refine guard_on (d := 41) (want := true) (by rfl) (by rfl) ?_ ?_
      · exact f8
      refine wp_value (v := .int .i64 ht) (w1 := w) ?_ (hK.out _ w (Below.refl _ _) rfl (fun h => by cases h))
      try simp only [f8]
      go_simp
      try (first | done | rfl | (simp; done))
    refine StepsP.cons ?_ ?_
    · intro Q s w hC hA K hK
      clear hC
      obtain ⟨f8, -⟩ := hA
      replace f8 : (s 41) = .bool true := f8
      refine guard_on (d := 41) (want := true) (by rfl) (by rfl) ?_ ?_
      · exact f8
      refine wp_value (v := .int .i64 tk) (w1 := w) ?_ (hK.out _ w (Below.refl _ _) rfl (fun h => by cases h))
      try simp only [f8]
      go_simp
      try (first | done | rfl | (simp; done))
    refine StepsP.cons ?_ ?_
    · intro Q s w hC hA K hK
      obtain ⟨hsz, hk_g0, lt_g0, hbw, hl⟩ := hC
      obtain ⟨f8, f9, f10, f11, -⟩ := hA
      replace f8 : (s 41) = .bool true := f8
      replace f9 : (s 42) = .agg #[.int .i64 a0, .int .i64 a1, .int .i64 a2, .int .i64 a3, .string S] := f9
      replace f10 : (s 43) = .int .i64 ht := f10
      replace f11 : (s 44) = .int .i64 tk := f11
      refine guard_on (d := 41) (want := true) (by rfl) (by rfl) ?_ ?_
      · exact f8
      refine wp_call (N := some 45) (by rfl) Try.func24 (by kernel_rfl) #[.agg #[.int .i64 a0, .int .i64 a1, .int .i64 a2, .int .i64 a3, .string S], .int .i64 ht, .int .i64 tk] rfl (by rfl) ?_ ?_
      · show [s 42, s 43, s 44] = [.agg #[.int .i64 a0, .int .i64 a1, .int .i64 a2, .int .i64 a3, .string S], .int .i64 ht, .int .i64 tk]
        first | rfl | simp only [f8, f9, f10, f11]
      refine (advise_Ask.calls _ _ _ _ _ _ _ b _ b1.out).mono ?_
      rintro e w1 ⟨rfl, hb⟩
      refine ⟨_, rfl, ?_⟩
      exact hK.out _ _ hb rfl (fun h => by cases h)
    refine StepsP.cons ?_ ?_
    · intro Q s w hC hA K hK
      obtain ⟨hsz, hk_g0, lt_g0, hbw, hl⟩ := hC
      obtain ⟨f8, -⟩ := hA
      replace f8 : (s 41) = .bool true := f8
      refine guard_on (d := 41) (want := true) (by rfl) (by rfl) ?_ ?_
      · exact f8
      have m0_g0 : w.cell? ⟨g0, 0, none⟩ = some (.int .i64 a0) := blk_cell hk_g0 0 (by rfl)
      have m1_g0 : w.cell? ⟨g0, 1, none⟩ = some (.int .i64 a1) := blk_cell hk_g0 1 (by rfl)
      have m2_g0 : w.cell? ⟨g0, 2, none⟩ = some (.int .i64 a2) := blk_cell hk_g0 2 (by rfl)
      have m3_g0 : w.cell? ⟨g0, 3, none⟩ = some (.int .i64 a3) := blk_cell hk_g0 3 (by rfl)
      have m4_g0 : w.cell? ⟨g0, 4, none⟩ = some (.string S) := blk_cell hk_g0 4 (by rfl)
      refine wp_value (v := .agg #[.int .i64 a0, .int .i64 a1, .int .i64 a2, .int .i64 a3, .string S]) (w1 := w) ?_ (hK.out _ w (Below.refl _ _) rfl (fun h => by cases h))
      try simp only [f8]
      go_simp
      try (first | done | rfl | (simp; done))
    refine StepsP.cons ?_ ?_
    · intro Q s w hC hA K hK
      clear hC
      obtain ⟨f8, -⟩ := hA
      replace f8 : (s 41) = .bool true := f8
      refine guard_on (d := 41) (want := true) (by rfl) (by rfl) ?_ ?_
      · exact f8
      refine wp_value (v := .int .i64 ht) (w1 := w) ?_ (hK.out _ w (Below.refl _ _) rfl (fun h => by cases h))
      try simp only [f8]
      go_simp
      try (first | done | rfl | (simp; done))
    refine StepsP.cons ?_ ?_
    · intro Q s w hC hA K hK
      clear hC
      obtain ⟨f8, -⟩ := hA
      replace f8 : (s 41) = .bool true := f8
      refine guard_on (d := 41) (want := true) (by rfl) (by rfl) ?_ ?_
      · exact f8
      refine wp_value (v := .int .i64 tk) (w1 := w) ?_ (hK.out _ w (Below.refl _ _) rfl (fun h => by cases h))
      try simp only [f8]
      go_simp
      try (first | done | rfl | (simp; done))
    refine StepsP.cons ?_ ?_
    · intro Q s w hC hA K hK
      obtain ⟨hsz, hk_g0, lt_g0, hbw, hl⟩ := hC
      obtain ⟨f8, f13, f14, f15, -⟩ := hA
      replace f8 : (s 41) = .bool true := f8
      replace f13 : (s 46) = .agg #[.int .i64 a0, .int .i64 a1, .int .i64 a2, .int .i64 a3, .string S] := f13
      replace f14 : (s 47) = .int .i64 ht := f14
      replace f15 : (s 48) = .int .i64 tk := f15
      refine guard_on (d := 41) (want := true) (by rfl) (by rfl) ?_ ?_
      · exact f8
      refine wp_call (N := some 49) (by rfl) Try.func25 (by kernel_rfl) #[.agg #[.int .i64 a0, .int .i64 a1, .int .i64 a2, .int .i64 a3, .string S], .int .i64 ht, .int .i64 tk] rfl (by rfl) ?_ ?_
      · show [s 46, s 47, s 48] = [.agg #[.int .i64 a0, .int .i64 a1, .int .i64 a2, .int .i64 a3, .string S], .int .i64 ht, .int .i64 tk]
        first | rfl | simp only [f8, f13, f14, f15]
      refine (picketref18_Ask.calls _ _ _ _ _ _ _ b _ b2.out).mono ?_
      rintro e w1 ⟨rfl, hb⟩
      refine ⟨_, rfl, ?_⟩
      exact hK.out _ _ hb rfl (fun h => by cases h)
    refine StepsP.cons ?_ ?_
    · intro Q s w hC hA K hK
      clear hC
      obtain ⟨f8, f12, f16, -⟩ := hA
      replace f8 : (s 41) = .bool true := f8
      replace f12 : (s 45) = .int .i64 b := f12
      replace f16 : (s 49) = .int .i64 b := f16
      refine guard_on (d := 41) (want := true) (by rfl) (by rfl) ?_ ?_
      · exact f8
      refine wp_value (v := .bool true) (w1 := w) ?_ (hK.out _ w (Below.refl _ _) rfl (fun h => by cases h))
      try simp only [f8, f12, f16]
      go_simp
      try (first | done | rfl | (simp; done))
    refine StepsP.cons ?_ ?_
    · intro Q s w hC hA K hK
      clear hC
      obtain ⟨f8, f17, -⟩ := hA
      replace f8 : (s 41) = .bool true := f8
      replace f17 : (s 50) = .bool true := f17
      refine guard_none (by rfl) ?_
      refine wp_value (v := .bool true) (w1 := w) ?_ (hK.out _ w (Below.refl _ _) rfl (fun h => by cases h))
      try simp only [f8, f17]
      go_simp
      try (first | done | rfl | (simp; done))
    refine StepsP.cons ?_ ?_
    · intro Q s w hC hA K hK
      clear hC
      obtain ⟨f18, -⟩ := hA
      replace f18 : (s 51) = .bool true := f18
      refine guard_none (by rfl) ?_
      refine wp_value (v := .bool true) (w1 := w) ?_ (hK.out _ w (Below.refl _ _) rfl (fun h => by cases h))
      try simp only [f18]
      go_simp
      try (first | done | rfl | (simp; done))
    refine StepsP.cons ?_ ?_
    · intro Q s w hC hA K hK
      obtain ⟨hsz, hk_g0, lt_g0, hbw, hl⟩ := hC
      obtain ⟨f19, -⟩ := hA
      replace f19 : (s 52) = .bool true := f19
      refine guard_on (d := 52) (want := true) (by rfl) (by rfl) ?_ ?_
      · exact f19
      have m0_g0 : w.cell? ⟨g0, 0, none⟩ = some (.int .i64 a0) := blk_cell hk_g0 0 (by rfl)
      have m1_g0 : w.cell? ⟨g0, 1, none⟩ = some (.int .i64 a1) := blk_cell hk_g0 1 (by rfl)
      have m2_g0 : w.cell? ⟨g0, 2, none⟩ = some (.int .i64 a2) := blk_cell hk_g0 2 (by rfl)
      have m3_g0 : w.cell? ⟨g0, 3, none⟩ = some (.int .i64 a3) := blk_cell hk_g0 3 (by rfl)
      have m4_g0 : w.cell? ⟨g0, 4, none⟩ = some (.string S) := blk_cell hk_g0 4 (by rfl)
      refine wp_value (v := .agg #[.int .i64 a0, .int .i64 a1, .int .i64 a2, .int .i64 a3, .string S]) (w1 := w) ?_ (hK.out _ w (Below.refl _ _) rfl (fun h => by cases h))
      try simp only [f19]
      go_simp
      try (first | done | rfl | (simp; done))
    refine StepsP.cons ?_ ?_
    · intro Q s w hC hA K hK
      clear hC
      obtain ⟨f19, -⟩ := hA
      replace f19 : (s 52) = .bool true := f19
      refine guard_on (d := 52) (want := true) (by rfl) (by rfl) ?_ ?_
      · exact f19
      refine wp_value (v := .int .i64 ht) (w1 := w) ?_ (hK.out _ w (Below.refl _ _) rfl (fun h => by cases h))
      try simp only [f19]
      go_simp
      try (first | done | rfl | (simp; done))
    refine StepsP.cons ?_ ?_
    · intro Q s w hC hA K hK
      clear hC
      obtain ⟨f19, -⟩ := hA
      replace f19 : (s 52) = .bool true := f19
      refine guard_on (d := 52) (want := true) (by rfl) (by rfl) ?_ ?_
      · exact f19
      refine wp_value (v := .int .i64 tk) (w1 := w) ?_ (hK.out _ w (Below.refl _ _) rfl (fun h => by cases h))
      try simp only [f19]
      go_simp
      try (first | done | rfl | (simp; done))
    refine StepsP.cons ?_ ?_
    · intro Q s w hC hA K hK
      clear hC
      obtain ⟨f19, -⟩ := hA
      replace f19 : (s 52) = .bool true := f19
      refine guard_on (d := 52) (want := true) (by rfl) (by rfl) ?_ ?_
      · exact f19
      refine wp_value (v := .slice A l.length c) (w1 := w) ?_ (hK.out _ w (Below.refl _ _) rfl (fun h => by cases h))
      try simp only [f19]
      go_simp
      try (first | done | rfl | (simp; done))
    refine StepsP.cons ?_ ?_
    · intro Q s w hC hA K hK
      obtain ⟨hsz, hk_g0, lt_g0, hbw, hl⟩ := hC
      obtain ⟨f19, f20, f21, f22, f23, -⟩ := hA
      replace f19 : (s 52) = .bool true := f19
      replace f20 : (s 53) = .agg #[.int .i64 a0, .int .i64 a1, .int .i64 a2, .int .i64 a3, .string S] := f20
      replace f21 : (s 54) = .int .i64 ht := f21
      replace f22 : (s 55) = .int .i64 tk := f22
      replace f23 : (s 56) = .slice A l.length c := f23
      refine guard_on (d := 52) (want := true) (by rfl) (by rfl) ?_ ?_
      · exact f19
      refine wp_call (N := some 57) (by rfl) Try.func26 (by kernel_rfl) #[.agg #[.int .i64 a0, .int .i64 a1, .int .i64 a2, .int .i64 a3, .string S], .int .i64 ht, .int .i64 tk, .slice A l.length c] rfl (by rfl) ?_ ?_
      · show [s 53, s 54, s 55, s 56] = [.agg #[.int .i64 a0, .int .i64 a1, .int .i64 a2, .int .i64 a3, .string S], .int .i64 ht, .int .i64 tk, .slice A l.length c]
        first | rfl | simp only [f19, f20, f21, f22, f23]
      refine (advise_Cost.calls _ _ _ _ _ _ _ A c l cv _ (kd_of_RdI hl) hc e5.out).mono ?_
      rintro e w1 ⟨rfl, hb⟩
      refine ⟨_, rfl, ?_⟩
      exact hK.out _ _ hb rfl (fun h => by cases h)
    refine StepsP.cons ?_ ?_
    · intro Q s w hC hA K hK
      obtain ⟨hsz, hk_g0, lt_g0, hbw, hl⟩ := hC
      obtain ⟨f19, -⟩ := hA
      replace f19 : (s 52) = .bool true := f19
      refine guard_on (d := 52) (want := true) (by rfl) (by rfl) ?_ ?_
      · exact f19
      have m0_g0 : w.cell? ⟨g0, 0, none⟩ = some (.int .i64 a0) := blk_cell hk_g0 0 (by rfl)
      have m1_g0 : w.cell? ⟨g0, 1, none⟩ = some (.int .i64 a1) := blk_cell hk_g0 1 (by rfl)
      have m2_g0 : w.cell? ⟨g0, 2, none⟩ = some (.int .i64 a2) := blk_cell hk_g0 2 (by rfl)
      have m3_g0 : w.cell? ⟨g0, 3, none⟩ = some (.int .i64 a3) := blk_cell hk_g0 3 (by rfl)
      have m4_g0 : w.cell? ⟨g0, 4, none⟩ = some (.string S) := blk_cell hk_g0 4 (by rfl)
      refine wp_value (v := .agg #[.int .i64 a0, .int .i64 a1, .int .i64 a2, .int .i64 a3, .string S]) (w1 := w) ?_ (hK.out _ w (Below.refl _ _) rfl (fun h => by cases h))
      try simp only [f19]
      go_simp
      try (first | done | rfl | (simp; done))
    refine StepsP.cons ?_ ?_
    · intro Q s w hC hA K hK
      clear hC
      obtain ⟨f19, -⟩ := hA
      replace f19 : (s 52) = .bool true := f19
      refine guard_on (d := 52) (want := true) (by rfl) (by rfl) ?_ ?_
      · exact f19
      refine wp_value (v := .int .i64 ht) (w1 := w) ?_ (hK.out _ w (Below.refl _ _) rfl (fun h => by cases h))
      try simp only [f19]
      go_simp
      try (first | done | rfl | (simp; done))
    refine StepsP.cons ?_ ?_
    · intro Q s w hC hA K hK
      clear hC
      obtain ⟨f19, -⟩ := hA
      replace f19 : (s 52) = .bool true := f19
      refine guard_on (d := 52) (want := true) (by rfl) (by rfl) ?_ ?_
      · exact f19
      refine wp_value (v := .int .i64 tk) (w1 := w) ?_ (hK.out _ w (Below.refl _ _) rfl (fun h => by cases h))
      try simp only [f19]
      go_simp
      try (first | done | rfl | (simp; done))
    refine StepsP.cons ?_ ?_
    · intro Q s w hC hA K hK
      clear hC
      obtain ⟨f19, -⟩ := hA
      replace f19 : (s 52) = .bool true := f19
      refine guard_on (d := 52) (want := true) (by rfl) (by rfl) ?_ ?_
      · exact f19
      refine wp_value (v := .slice A l.length c) (w1 := w) ?_ (hK.out _ w (Below.refl _ _) rfl (fun h => by cases h))
      try simp only [f19]
      go_simp
      try (first | done | rfl | (simp; done))
    refine StepsP.cons ?_ ?_
    · intro Q s w hC hA K hK
      obtain ⟨hsz, hk_g0, lt_g0, hbw, hl⟩ := hC
      obtain ⟨f19, f25, f26, f27, f28, -⟩ := hA
      replace f19 : (s 52) = .bool true := f19
      replace f25 : (s 58) = .agg #[.int .i64 a0, .int .i64 a1, .int .i64 a2, .int .i64 a3, .string S] := f25
      replace f26 : (s 59) = .int .i64 ht := f26
      replace f27 : (s 60) = .int .i64 tk := f27
      replace f28 : (s 61) = .slice A l.length c := f28
      refine guard_on (d := 52) (want := true) (by rfl) (by rfl) ?_ ?_
      · exact f19
      refine wp_call (N := some 62) (by rfl) Try.func27 (by kernel_rfl) #[.agg #[.int .i64 a0, .int .i64 a1, .int .i64 a2, .int .i64 a3, .string S], .int .i64 ht, .int .i64 tk, .slice A l.length c] rfl (by rfl) ?_ ?_
      · show [s 58, s 59, s 60, s 61] = [.agg #[.int .i64 a0, .int .i64 a1, .int .i64 a2, .int .i64 a3, .string S], .int .i64 ht, .int .i64 tk, .slice A l.length c]
        first | rfl | simp only [f19, f25, f26, f27, f28]
      refine (picketref18_Cost.calls _ _ _ _ _ _ _ _ A c l cv _ (kd_of_RdI hl) hc e4.out).mono ?_
      rintro e w1 ⟨rfl, hb⟩
      refine ⟨_, rfl, ?_⟩
      exact hK.out _ _ hb rfl (fun h => by cases h)
    refine StepsP.cons ?_ ?_
    · intro Q s w hC hA K hK
      clear hC
      obtain ⟨f19, f24, f29, -⟩ := hA
      replace f19 : (s 52) = .bool true := f19
      replace f24 : (s 57) = .int .i64 cv := f24
      replace f29 : (s 62) = .int .i64 cv := f29
      refine guard_on (d := 52) (want := true) (by rfl) (by rfl) ?_ ?_
      · exact f19
      refine wp_value (v := .bool true) (w1 := w) ?_ (hK.out _ w (Below.refl _ _) rfl (fun h => by cases h))
      try simp only [f19, f24, f29]
      go_simp
      try (first | done | rfl | (simp; done))
    refine StepsP.cons ?_ ?_
    · intro Q s w hC hA K hK
      clear hC
      obtain ⟨f19, f30, -⟩ := hA
      replace f19 : (s 52) = .bool true := f19
      replace f30 : (s 63) = .bool true := f30
      refine guard_none (by rfl) ?_
      refine wp_value (v := .bool true) (w1 := w) ?_ (hK.out _ w (Below.refl _ _) rfl (fun h => by cases h))
      try simp only [f19, f30]
      go_simp
      try (first | done | rfl | (simp; done))
    refine StepsP.cons ?_ ?_
    · intro Q s w hC hA K hK
      clear hC
      obtain ⟨f31, -⟩ := hA
      replace f31 : (s 64) = .bool true := f31
      refine guard_none (by rfl) ?_
      refine wp_value (v := .bool true) (w1 := w) ?_ (hK.out _ w (Below.refl _ _) rfl (fun h => by cases h))
      try simp only [f31]
      go_simp
      try (first | done | rfl | (simp; done))
    refine StepsP.cons ?_ ?_
    · intro Q s w hC hA K hK
      clear hC
      obtain ⟨f32, -⟩ := hA
      replace f32 : (s 65) = .bool true := f32
      refine guard_on (d := 65) (want := true) (by rfl) (by rfl) ?_ ?_
      · exact f32
      refine wp_value (v := .string r1) (w1 := w) ?_ (hK.out _ w (Below.refl _ _) rfl (fun h => by cases h))
      try simp only [f32]
      go_simp
      try (first | done | rfl | (simp; done))
    refine StepsP.cons ?_ ?_
    · intro Q s w hC hA K hK
      clear hC
      obtain ⟨f32, -⟩ := hA
      replace f32 : (s 65) = .bool true := f32
      refine guard_on (d := 65) (want := true) (by rfl) (by rfl) ?_ ?_
      · exact f32
      refine wp_value (v := .string r1) (w1 := w) ?_ (hK.out _ w (Below.refl _ _) rfl (fun h => by cases h))
      try simp only [f32]
      go_simp
      try (first | done | rfl | (simp; done))
    refine StepsP.cons ?_ ?_
    · intro Q s w hC hA K hK
      clear hC
      obtain ⟨f32, f33, f34, -⟩ := hA
      replace f32 : (s 65) = .bool true := f32
      replace f33 : (s 66) = .string r1 := f33
      replace f34 : (s 67) = .string r1 := f34
      refine guard_on (d := 65) (want := true) (by rfl) (by rfl) ?_ ?_
      · exact f32
      refine wp_value (v := .bool true) (w1 := w) ?_ (hK.out _ w (Below.refl _ _) rfl (fun h => by cases h))
      try simp only [f32, f33, f34]
      go_simp
      try (first | done | rfl | (simp; done))
    refine StepsP.cons ?_ ?_
    · intro Q s w hC hA K hK
      clear hC
      obtain ⟨f32, f35, -⟩ := hA
      replace f32 : (s 65) = .bool true := f32
      replace f35 : (s 68) = .bool true := f35
      refine guard_none (by rfl) ?_
      refine wp_value (v := .bool true) (w1 := w) ?_ (hK.out _ w (Below.refl _ _) rfl (fun h => by cases h))
      try simp only [f32, f35]
      go_simp
      try (first | done | rfl | (simp; done))
    refine StepsP.cons ?_ ?_
    · intro Q s w hC hA K hK
      clear hC
      obtain ⟨f36, -⟩ := hA
      replace f36 : (s 69) = .bool true := f36
      refine guard_none (by rfl) ?_
      refine wp_value (v := .bool true) (w1 := w) ?_ (hK.out _ w (Below.refl _ _) rfl (fun h => by cases h))
      try simp only [f36]
      go_simp
      try (first | done | rfl | (simp; done))
    refine StepsP.cons ?_ ?_
    · intro Q s w hC hA K hK
      clear hC
      obtain ⟨f37, -⟩ := hA
      replace f37 : (s 70) = .bool true := f37
      refine guard_on (d := 70) (want := true) (by rfl) (by rfl) ?_ ?_
      · exact f37
      refine wp_value (v := .int .i64 r2) (w1 := w) ?_ (hK.out _ w (Below.refl _ _) rfl (fun h => by cases h))
      try simp only [f37]
      go_simp
      try (first | done | rfl | (simp; done))
    refine StepsP.cons ?_ ?_
    · intro Q s w hC hA K hK
      clear hC
      obtain ⟨f37, -⟩ := hA
      replace f37 : (s 70) = .bool true := f37
      refine guard_on (d := 70) (want := true) (by rfl) (by rfl) ?_ ?_
      · exact f37
      refine wp_value (v := .int .i64 r2) (w1 := w) ?_ (hK.out _ w (Below.refl _ _) rfl (fun h => by cases h))
      try simp only [f37]
      go_simp
      try (first | done | rfl | (simp; done))
    refine StepsP.cons ?_ ?_
    · intro Q s w hC hA K hK
      clear hC
      obtain ⟨f37, f38, f39, -⟩ := hA
      replace f37 : (s 70) = .bool true := f37
      replace f38 : (s 71) = .int .i64 r2 := f38
      replace f39 : (s 72) = .int .i64 r2 := f39
      refine guard_on (d := 70) (want := true) (by rfl) (by rfl) ?_ ?_
      · exact f37
      refine wp_value (v := .bool true) (w1 := w) ?_ (hK.out _ w (Below.refl _ _) rfl (fun h => by cases h))
      try simp only [f37, f38, f39]
      go_simp
      try (first | done | rfl | (simp; done))
    refine StepsP.cons ?_ ?_
    · intro Q s w hC hA K hK
      clear hC
      obtain ⟨f37, f40, -⟩ := hA
      replace f37 : (s 70) = .bool true := f37
      replace f40 : (s 73) = .bool true := f40
      refine guard_none (by rfl) ?_
      refine wp_value (v := .bool true) (w1 := w) ?_ (hK.out _ w (Below.refl _ _) rfl (fun h => by cases h))
      try simp only [f37, f40]
      go_simp
      try (first | done | rfl | (simp; done))
    refine StepsP.cons ?_ ?_
    · intro Q s w hC hA K hK
      clear hC
      obtain ⟨f41, -⟩ := hA
      replace f41 : (s 74) = .bool true := f41
      refine guard_none (by rfl) ?_
      refine wp_value (v := .bool true) (w1 := w) ?_ (hK.out _ w (Below.refl _ _) rfl (fun h => by cases h))
      try simp only [f41]
      go_simp
      try (first | done | rfl | (simp; done))
    exact StepsP.nil
  obtain ⟨hsz, hk_g0, lt_g0, hbw, hl⟩ := hC
  obtain ⟨f42, -⟩ := hA
  replace f42 : (s 8) = .bool true := f42
  refine act_eq (b' := ?b3) ?h3 ?q3
  case h3 => simp only [f42]; rfl
  subst hw0
  go_wp2
  go_ret
  exact ⟨rfl, hbw⟩
end Go.Proofs.Ytjidbjmekpholaa.AdY
