/- Proved here: lemmas and contracts (what a function of the program computes) that the proofs of the laws of this seat lean on. Conditions: as each theorem states. -/
import Derived.Test.YtjidbjmekpholaaAdY
set_option linter.unusedVariables false
set_option linter.unusedSimpArgs false
namespace Go.Proofs.Ytjidbjmekpholaa.AdY
open Go.RowKit Go.Pk Go.Pk.Ad Go.Proofs.Ytjidbjmekpholaa.GD Go.Proofs.Ytjidbjmekpholaa.AdW Go.Proofs.YtjidbjmekpholaaW.PrintMore
open Go.Proofs.YtjidbjmekpholaaW.PrintWords (bt bt_at results_list)
set_option maxHeartbeats 100000000 in
set_option maxRecDepth 100000 in
theorem alive_calls (w : World) : Calls Try.prog 17 #[] w fun e w' => e = .returned (.bool true) ∧ Below w.heap.size w w' := by
  have hm : mayB 10 (5 : Nat) 3 2 = true := by decide
  obtain ⟨k, sb, hp, hs, h0, h1, h2, h3⟩ := AdZ.put_tbl 10 3 2 5 hm
  have hmk : advise_Make.f 10 5 3 2 = some (10, 5, 3, 2, AdZ.tbl 10 3 2 5, 0) := AdZ.make_tbl 10 3 2 5 hm
  have hsz : ((AdZ.tbl 10 3 2 5).size : Int) = 126 := by rw [AdZ.tbl_size 10 3 2 5 (by omega)]; decide
  have ha : advise_Ask.f 10 ((5 : Nat) : Int) 3 2 (AdZ.tbl 10 3 2 5) (-1) 2 = some 2 := by
    rw [AdZ.ask_tbl 10 3 2 5 (by omega) (by omega) (by omega)]
    decide
  have hv := AdZ.valid_tbl 10 3 2 5 hm
  have hget := fun W => advGet_long k sb sb 10 5 3 2 0 0 (AdZ.tbl 10 3 2 5) W hs (by rw [h0, h1, h2, h3]; exact hmk) (fun _ => hp) (TabV 10 5 3 2 (AdZ.tbl 10 3 2 5) 0) (fun _ _ => rfl) (fun h => absurd rfl (h rfl))
  have hs9 : (sb.size : Int) = 9 := by omega
  unfold TabV at hget
  generalize AdZ.tbl 10 3 2 5 = S at *
  replace hmk := hidI hmk
  replace hp := hidI hp
  replace ha := hidI ha
  replace hv := hidI hv
  replace hget := hidI hget
  clear h0 h1 h2 h3 hm
  have hsz2 : S.size = 126 := by omega
  go_enter Try.func17, Try.ntmps17
  go_upto_region 2 with (first | (go_at_call 18; refine (advise_Make.calls _ _ _ _ _ _ _ _ _ _ _ hmk.out).mono ?_; rintro e w1 ⟨rfl, hb1⟩) | fail)
  have hk_g0 := blk_new w1 (.cells #[.int .i64 10, .int .i64 5, .int .i64 3, .int .i64 2, .string S] 38)
  have hbw := bl_alloc hb1 (.cells #[.int .i64 10, .int .i64 5, .int .i64 3, .int .i64 2, .string S] 38)
  clear hb1
  generalize w1.alloc (.cells #[.int .i64 10, .int .i64 5, .int .i64 3, .int .i64 2, .string S] 38) = W1 at *
  generalize w1.heap.size = g0 at *
  obtain ⟨w0, hw0⟩ : ∃ z : World, z = w := ⟨_, rfl⟩
  rw [← hw0] at hbw
  have y0 : W1.cell? ⟨g0, 0, none⟩ = some (.int .i64 10) := blk_cell hk_g0 0 (by rfl)
  have y1 : W1.cell? ⟨g0, 1, none⟩ = some (.int .i64 5) := blk_cell hk_g0 1 (by rfl)
  have y2 : W1.cell? ⟨g0, 2, none⟩ = some (.int .i64 3) := blk_cell hk_g0 2 (by rfl)
  have y3 : W1.cell? ⟨g0, 3, none⟩ = some (.int .i64 2) := blk_cell hk_g0 3 (by rfl)
  have y4 : W1.cell? ⟨g0, 4, none⟩ = some (.string S) := blk_cell hk_g0 4 (by rfl)
  go_upto_region 4 with (first | (go_at_call 20; refine (advise_Put.calls _ _ _ _ _ _ _ _ _ hp.out).mono ?_; rintro e w2 ⟨rfl, hb2⟩) | (go_at_call 22; refine (hget.out _).mono ?_; rintro e w3 ⟨rfl, hb3⟩) | fail)
  clear y0 y1 y2 y3 y4 hget hp hmk
  replace hk_g0 := bl_block hb2 hk_g0
  replace hbw := bl_step hbw hb2
  replace hk_g0 := bl_block hb3 hk_g0
  replace hbw := bl_step hbw hb3
  clear hb2 hb3
  replace hk_g0 := blk_alloc hk_g0 (.cells #[.int .i64 10, .int .i64 5, .int .i64 3, .int .i64 2, .string S] 38)
  have hk_g1 := blk_new w3 (.cells #[.int .i64 10, .int .i64 5, .int .i64 3, .int .i64 2, .string S] 38)
  replace hbw := bl_alloc hbw (.cells #[.int .i64 10, .int .i64 5, .int .i64 3, .int .i64 2, .string S] 38)
  generalize w3.alloc (.cells #[.int .i64 10, .int .i64 5, .int .i64 3, .int .i64 2, .string S] 38) = W3 at *
  generalize w3.heap.size = g1 at *
  obtain ⟨B0, hB0⟩ : ∃ B, B = W3.heap.size := ⟨_, rfl⟩
  have c0_hsz : B0 ≤ W3.heap.size := Nat.le_of_eq hB0
  have hw0B0 : w0.heap.size ≤ B0 := by rw [hB0]; exact hbw.size
  have c0_hle : W3.heap.size ≤ B0 := Nat.le_of_eq hB0.symm
  have c0_hk_g0 := hk_g0
  have c0_lt_g0 : g0 < B0 := by rw [hB0]; exact blk_lt hk_g0
  have c0_hk_g1 := hk_g1
  have c0_lt_g1 : g1 < B0 := by rw [hB0]; exact blk_lt hk_g1
  have c0_hbw := hbw
  clear hB0 hbw hk_g0 hk_g1
  refine region_lin (n := 36) (st := ?st3) { R := [0, 1, 3, 7, 15, 31, 63, 127, 255, 511, 1023, 2047, 2047, 8191, 16383, 32767, 65535, 131071, 262143, 524287, 1048575, 2097151, 4194303, 8388607, 16777215, 33554431, 67108863, 134217727, 268435455, 536870911, 1073741823, 2147483647, 4294967295, 8589934591, 17179869183, 34359738367], kill := [[], [], [], [], [], [], [], [], [], [], [], [], [], [], [], [], [], [], [], [], [], [], [], [], [], [], [], [], [], [], [], [], [], [], [], []], cls := [0, 0, 0, 0, 0, 0, 0, 0, 0, 0, 0, 0, 0, 0, 0, 0, 0, 0, 0, 0, 0, 0, 0, 0, 0, 0, 0, 0, 0, 0, 0, 0, 0, 0, 0, 0], dst := [some 21, some 22, some 23, some 24, some 25, some 26, some 27, some 28, some 29, some 30, some 31, some 32, some 33, some 34, some 35, some 36, some 37, some 38, some 39, some 40, some 41, some 42, some 43, some 44, some 45, some 46, some 47, some 48, some 49, some 50, some 51, some 52, some 53, some 54, some 55, some 0], pre := [[], [0], [1], [2], [2, 3], [2, 4], [5], [6], [6, 7], [6, 8], [9], [10], [10], [10, 11, 12], [10, 13], [14], [15], [15, 16], [15, 17], [15, 18], [15, 19], [20], [21], [21, 22], [21, 23], [21, 24], [25], [26], [26, 27], [26, 28], [29], [30], [30, 31], [30, 32], [30, 33], [34]], cov := [], fin := [35], locs := [], tgt := [none], abt := [none, none, none, none, none, none, none, none, none, none, none, none, none, none, none, none, none, none, none, none, none, none, none, none, none, none, none, none, none, none, none, none, none, none, none, none] }
    [.v [21] (fun vs => (vs.getD 0 undef) = .int .i64 0),
     .v [22] (fun vs => (vs.getD 0 undef) = .bool true),
     .v [23] (fun vs => (vs.getD 0 undef) = .bool true),
     .v [24] (fun vs => (vs.getD 0 undef) = .int .i64 0),
     .v [25] (fun vs => (vs.getD 0 undef) = .bool true),
     .v [26] (fun vs => (vs.getD 0 undef) = .bool true),
     .v [27] (fun vs => (vs.getD 0 undef) = .bool true),
     .v [28] (fun vs => (vs.getD 0 undef) = .int .i64 0),
     .v [29] (fun vs => (vs.getD 0 undef) = .bool true),
     .v [30] (fun vs => (vs.getD 0 undef) = .bool true),
     .v [31] (fun vs => (vs.getD 0 undef) = .bool true),
     .v [32] (fun vs => (vs.getD 0 undef) = .agg #[.int .i64 10, .int .i64 5, .int .i64 3, .int .i64 2, .string S]),
     .v [33] (fun vs => (vs.getD 0 undef) = .agg #[.int .i64 10, .int .i64 5, .int .i64 3, .int .i64 2, .string S]),
     .v [34] (fun vs => (vs.getD 0 undef) = .bool true),
     .v [35] (fun vs => (vs.getD 0 undef) = .bool true),
     .v [36] (fun vs => (vs.getD 0 undef) = .bool true),
     .v [37] (fun vs => (vs.getD 0 undef) = .pointer (some ⟨g0, 4, none⟩)),
     .v [38] (fun vs => (vs.getD 0 undef) = .string S),
     .v [39] (fun vs => (vs.getD 0 undef) = .int .i64 126),
     .v [40] (fun vs => (vs.getD 0 undef) = .bool true),
     .v [41] (fun vs => (vs.getD 0 undef) = .bool true),
     .v [42] (fun vs => (vs.getD 0 undef) = .bool true),
     .v [43] (fun vs => (vs.getD 0 undef) = .agg #[.int .i64 10, .int .i64 5, .int .i64 3, .int .i64 2, .string S]),
     .v [44] (fun vs => (vs.getD 0 undef) = .int .i64 2),
     .v [45] (fun vs => (vs.getD 0 undef) = .bool true),
     .v [46] (fun vs => (vs.getD 0 undef) = .bool true),
     .v [47] (fun vs => (vs.getD 0 undef) = .bool true),
     .v [48] (fun vs => (vs.getD 0 undef) = .agg #[.int .i64 10, .int .i64 5, .int .i64 3, .int .i64 2, .string S]),
     .v [49] (fun vs => (vs.getD 0 undef) = .bool true),
     .v [50] (fun vs => (vs.getD 0 undef) = .bool true),
     .v [51] (fun vs => (vs.getD 0 undef) = .bool true),
     .v [52] (fun vs => (vs.getD 0 undef) = .string sb),
     .v [53] (fun vs => (vs.getD 0 undef) = .int .i64 9),
     .v [54] (fun vs => (vs.getD 0 undef) = .bool true),
     .v [55] (fun vs => (vs.getD 0 undef) = .bool true),
     .v [0] (fun vs => (vs.getD 0 undef) = .bool true)]
    (fun w => B0 ≤ w.heap.size ∧ w.heap[g0]? = some (.cells #[.int .i64 10, .int .i64 5, .int .i64 3, .int .i64 2, .string S] 38 (0, 0)) ∧ g0 < B0 ∧ w.heap[g1]? = some (.cells #[.int .i64 10, .int .i64 5, .int .i64 3, .int .i64 2, .string S] 38 (0, 0)) ∧ g1 < B0 ∧ Below w0.heap.size w0 w)
    (fun c => ([fun s w w' => Below w.heap.size w w'] : List ((Nat → Value) → World → World → Prop)).getD c (fun s w w' => w' = w))
    [0, 21, 22, 23, 24, 25, 26, 27, 28, 29, 30, 31, 32, 33, 34, 35, 36, 37, 38, 39, 40, 41, 42, 43, 44, 45, 46, 47, 48, 49, 50, 51, 52, 53, 54, 55] (by kernel_rfl) ⟨by kernel_rfl, by kernel_rfl, by kernel_rfl, by kernel_rfl, by kernel_rfl, by kernel_rfl, by kernel_rfl, by kernel_rfl⟩ (fun s => ?_) ?_ ?_ ?_ ?_ ?_ (fun s w hC hA => ?_)
  rotate_left
  · simp only [fillS, List.foldl, List.setIfInBounds_toArray, List.set_cons_zero, List.set_cons_succ]; rfl
  · exact ⟨c0_hsz, c0_hk_g0, c0_lt_g0, c0_hk_g1, c0_lt_g1, c0_hbw⟩
  · intro c s w w' hE
    match c, hE with
    | 0, hE => exact Below.size hE
    | c + 1, hE => cases hE; exact Nat.le_refl _
  · rintro c s w w' ⟨hsz, hk_g0, lt_g0, hk_g1, lt_g1, hbw⟩ hE
    match c, hE with
    | 0, hE => replace hE : Below w.heap.size w w' := hE; exact ⟨Nat.le_trans hsz hE.size, bl_block hE hk_g0, lt_g0, bl_block hE hk_g1, lt_g1, bl_step hbw hE⟩
    | c + 1, hE => cases hE; exact ⟨hsz, hk_g0, lt_g0, hk_g1, lt_g1, hbw⟩
  · exact trivial
  · skip
    refine StepsP.cons ?_ ?_
    · intro Q s w hC hA K hK
      clear hC
      clear hA
      refine guard_none (by rfl) ?_
      refine wp_value (v := .int .i64 0) (w1 := w) ?_ (hK.out _ w (Below.refl _ _) rfl (fun h => by cases h))
      go_simp
      try (first | done | rfl | (simp; done))
    refine StepsP.cons ?_ ?_
    · intro Q s w hC hA K hK
      clear hC
      obtain ⟨f0, -⟩ := hA
      replace f0 : (s 21) = .int .i64 0 := f0
      refine guard_none (by rfl) ?_
      refine wp_value (v := .bool true) (w1 := w) ?_ (hK.out _ w (Below.refl _ _) rfl (fun h => by cases h))
      try simp only [f0]
      go_simp
      try (first | done | rfl | (simp; done))
    refine StepsP.cons ?_ ?_
    · intro Q s w hC hA K hK
      clear hC
      obtain ⟨f1, -⟩ := hA
      replace f1 : (s 22) = .bool true := f1
      refine guard_none (by rfl) ?_
      refine wp_value (v := .bool true) (w1 := w) ?_ (hK.out _ w (Below.refl _ _) rfl (fun h => by cases h))
      try simp only [f1]
      go_simp
      try (first | done | rfl | (simp; done))
    refine StepsP.cons ?_ ?_
    · intro Q s w hC hA K hK
      clear hC
      obtain ⟨f2, -⟩ := hA
      replace f2 : (s 23) = .bool true := f2
      refine guard_on (d := 23) (want := true) (by rfl) (by rfl) ?_ ?_
      · exact f2
      refine wp_value (v := .int .i64 0) (w1 := w) ?_ (hK.out _ w (Below.refl _ _) rfl (fun h => by cases h))
      try simp only [f2]
      go_simp
      try (first | done | rfl | (simp; done))
    refine StepsP.cons ?_ ?_
    · intro Q s w hC hA K hK
      clear hC
      obtain ⟨f2, f3, -⟩ := hA
      replace f2 : (s 23) = .bool true := f2
      replace f3 : (s 24) = .int .i64 0 := f3
      refine guard_on (d := 23) (want := true) (by rfl) (by rfl) ?_ ?_
      · exact f2
      refine wp_value (v := .bool true) (w1 := w) ?_ (hK.out _ w (Below.refl _ _) rfl (fun h => by cases h))
      try simp only [f2, f3]
      go_simp
      try (first | done | rfl | (simp; done))
    refine StepsP.cons ?_ ?_
    · intro Q s w hC hA K hK
      clear hC
      obtain ⟨f2, f4, -⟩ := hA
      replace f2 : (s 23) = .bool true := f2
      replace f4 : (s 25) = .bool true := f4
      refine guard_none (by rfl) ?_
      refine wp_value (v := .bool true) (w1 := w) ?_ (hK.out _ w (Below.refl _ _) rfl (fun h => by cases h))
      try simp only [f2, f4]
      go_simp
      try (first | done | rfl | (simp; done))
    refine StepsP.cons ?_ ?_
    · intro Q s w hC hA K hK
      clear hC
      obtain ⟨f5, -⟩ := hA
      replace f5 : (s 26) = .bool true := f5
      refine guard_none (by rfl) ?_
      refine wp_value (v := .bool true) (w1 := w) ?_ (hK.out _ w (Below.refl _ _) rfl (fun h => by cases h))
      try simp only [f5]
      go_simp
      try (first | done | rfl | (simp; done))
    refine StepsP.cons ?_ ?_
    · intro Q s w hC hA K hK
      clear hC
      obtain ⟨f6, -⟩ := hA
      replace f6 : (s 27) = .bool true := f6
      refine guard_on (d := 27) (want := true) (by rfl) (by rfl) ?_ ?_
      · exact f6
      refine wp_value (v := .int .i64 0) (w1 := w) ?_ (hK.out _ w (Below.refl _ _) rfl (fun h => by cases h))
      try simp only [f6]
      go_simp
      try (first | done | rfl | (simp; done))
    refine StepsP.cons ?_ ?_
    · intro Q s w hC hA K hK
      clear hC
      obtain ⟨f6, f7, -⟩ := hA
      replace f6 : (s 27) = .bool true := f6
      replace f7 : (s 28) = .int .i64 0 := f7
      refine guard_on (d := 27) (want := true) (by rfl) (by rfl) ?_ ?_
      · exact f6
      refine wp_value (v := .bool true) (w1 := w) ?_ (hK.out _ w (Below.refl _ _) rfl (fun h => by cases h))
      try simp only [f6, f7]
      go_simp
      try (first | done | rfl | (simp; done))
    refine StepsP.cons ?_ ?_
    · intro Q s w hC hA K hK
      clear hC
      obtain ⟨f6, f8, -⟩ := hA
      replace f6 : (s 27) = .bool true := f6
      replace f8 : (s 29) = .bool true := f8
      refine guard_none (by rfl) ?_
      refine wp_value (v := .bool true) (w1 := w) ?_ (hK.out _ w (Below.refl _ _) rfl (fun h => by cases h))
      try simp only [f6, f8]
      go_simp
      try (first | done | rfl | (simp; done))
    refine StepsP.cons ?_ ?_
    · intro Q s w hC hA K hK
      clear hC
      obtain ⟨f9, -⟩ := hA
      replace f9 : (s 30) = .bool true := f9
      refine guard_none (by rfl) ?_
      refine wp_value (v := .bool true) (w1 := w) ?_ (hK.out _ w (Below.refl _ _) rfl (fun h => by cases h))
      try simp only [f9]
      go_simp
      try (first | done | rfl | (simp; done))
    refine StepsP.cons ?_ ?_
    · intro Q s w hC hA K hK
      obtain ⟨hsz, hk_g0, lt_g0, hk_g1, lt_g1, hbw⟩ := hC
      obtain ⟨f10, -⟩ := hA
      replace f10 : (s 31) = .bool true := f10
      refine guard_on (d := 31) (want := true) (by rfl) (by rfl) ?_ ?_
      · exact f10
      have m0_g0 : w.cell? ⟨g0, 0, none⟩ = some (.int .i64 10) := blk_cell hk_g0 0 (by rfl)
      have m1_g0 : w.cell? ⟨g0, 1, none⟩ = some (.int .i64 5) := blk_cell hk_g0 1 (by rfl)
      have m2_g0 : w.cell? ⟨g0, 2, none⟩ = some (.int .i64 3) := blk_cell hk_g0 2 (by rfl)
      have m3_g0 : w.cell? ⟨g0, 3, none⟩ = some (.int .i64 2) := blk_cell hk_g0 3 (by rfl)
      have m4_g0 : w.cell? ⟨g0, 4, none⟩ = some (.string S) := blk_cell hk_g0 4 (by rfl)
      refine wp_value (v := .agg #[.int .i64 10, .int .i64 5, .int .i64 3, .int .i64 2, .string S]) (w1 := w) ?_ (hK.out _ w (Below.refl _ _) rfl (fun h => by cases h))
      try simp only [f10]
      go_simp
      try (first | done | rfl | (simp; done))
    refine StepsP.cons ?_ ?_
    · intro Q s w hC hA K hK
      obtain ⟨hsz, hk_g0, lt_g0, hk_g1, lt_g1, hbw⟩ := hC
      obtain ⟨f10, -⟩ := hA
      replace f10 : (s 31) = .bool true := f10
      refine guard_on (d := 31) (want := true) (by rfl) (by rfl) ?_ ?_
      · exact f10
      have m0_g1 : w.cell? ⟨g1, 0, none⟩ = some (.int .i64 10) := blk_cell hk_g1 0 (by rfl)
      have m1_g1 : w.cell? ⟨g1, 1, none⟩ = some (.int .i64 5) := blk_cell hk_g1 1 (by rfl)
      have m2_g1 : w.cell? ⟨g1, 2, none⟩ = some (.int .i64 3) := blk_cell hk_g1 2 (by rfl)
      have m3_g1 : w.cell? ⟨g1, 3, none⟩ = some (.int .i64 2) := blk_cell hk_g1 3 (by rfl)
      have m4_g1 : w.cell? ⟨g1, 4, none⟩ = some (.string S) := blk_cell hk_g1 4 (by rfl)
      refine wp_value (v := .agg #[.int .i64 10, .int .i64 5, .int .i64 3, .int .i64 2, .string S]) (w1 := w) ?_ (hK.out _ w (Below.refl _ _) rfl (fun h => by cases h))
      try simp only [f10]
      go_simp
      try (first | done | rfl | (simp; done))
    refine StepsP.cons ?_ ?_
    · intro Q s w hC hA K hK
      clear hC
      obtain ⟨f10, f11, f12, -⟩ := hA
      replace f10 : (s 31) = .bool true := f10
      replace f11 : (s 32) = .agg #[.int .i64 10, .int .i64 5, .int .i64 3, .int .i64 2, .string S] := f11
      replace f12 : (s 33) = .agg #[.int .i64 10, .int .i64 5, .int .i64 3, .int .i64 2, .string S] := f12
      refine guard_on (d := 31) (want := true) (by rfl) (by rfl) ?_ ?_
      · exact f10
      refine wp_value (v := .bool true) (w1 := w) ?_ (hK.out _ w (Below.refl _ _) rfl (fun h => by cases h))
      try simp only [f10, f11, f12]
      go_simp
      try (first | done | rfl | (simp; done))
    refine StepsP.cons ?_ ?_
    · intro Q s w hC hA K hK
      clear hC
      obtain ⟨f10, f13, -⟩ := hA
      replace f10 : (s 31) = .bool true := f10
      replace f13 : (s 34) = .bool true := f13
      refine guard_none (by rfl) ?_
      refine wp_value (v := .bool true) (w1 := w) ?_ (hK.out _ w (Below.refl _ _) rfl (fun h => by cases h))
      try simp only [f10, f13]
      go_simp
      try (first | done | rfl | (simp; done))
    refine StepsP.cons ?_ ?_
    · intro Q s w hC hA K hK
      clear hC
      obtain ⟨f14, -⟩ := hA
      replace f14 : (s 35) = .bool true := f14
      refine guard_none (by rfl) ?_
      refine wp_value (v := .bool true) (w1 := w) ?_ (hK.out _ w (Below.refl _ _) rfl (fun h => by cases h))
      try simp only [f14]
      go_simp
      try (first | done | rfl | (simp; done))
    refine StepsP.cons ?_ ?_
    · intro Q s w hC hA K hK
      clear hC
      obtain ⟨f15, -⟩ := hA
      replace f15 : (s 36) = .bool true := f15
      refine guard_on (d := 36) (want := true) (by rfl) (by rfl) ?_ ?_
      · exact f15
      refine wp_value (v := .pointer (some ⟨g0, 4, none⟩)) (w1 := w) ?_ (hK.out _ w (Below.refl _ _) rfl (fun h => by cases h))
      try simp only [f15]
      go_simp
      try (first | done | rfl | (simp; done))
    refine StepsP.cons ?_ ?_
    · intro Q s w hC hA K hK
      obtain ⟨hsz, hk_g0, lt_g0, hk_g1, lt_g1, hbw⟩ := hC
      obtain ⟨f15, f16, -⟩ := hA
      replace f15 : (s 36) = .bool true := f15
      replace f16 : (s 37) = .pointer (some ⟨g0, 4, none⟩) := f16
      refine guard_on (d := 36) (want := true) (by rfl) (by rfl) ?_ ?_
      · exact f15
      have m0_g0 : w.cell? ⟨g0, 0, none⟩ = some (.int .i64 10) := blk_cell hk_g0 0 (by rfl)
      have m1_g0 : w.cell? ⟨g0, 1, none⟩ = some (.int .i64 5) := blk_cell hk_g0 1 (by rfl)
      have m2_g0 : w.cell? ⟨g0, 2, none⟩ = some (.int .i64 3) := blk_cell hk_g0 2 (by rfl)
      have m3_g0 : w.cell? ⟨g0, 3, none⟩ = some (.int .i64 2) := blk_cell hk_g0 3 (by rfl)
      have m4_g0 : w.cell? ⟨g0, 4, none⟩ = some (.string S) := blk_cell hk_g0 4 (by rfl)
      refine wp_value (v := .string S) (w1 := w) ?_ (hK.out _ w (Below.refl _ _) rfl (fun h => by cases h))
      try simp only [f15, f16]
      go_simp
      try (first | done | rfl | (simp; done))
    refine StepsP.cons ?_ ?_
    · intro Q s w hC hA K hK
      clear hC
      obtain ⟨f15, f17, -⟩ := hA
      replace f15 : (s 36) = .bool true := f15
      replace f17 : (s 38) = .string S := f17
      refine guard_on (d := 36) (want := true) (by rfl) (by rfl) ?_ ?_
      · exact f15
      refine wp_value (v := .int .i64 126) (w1 := w) ?_ (hK.out _ w (Below.refl _ _) rfl (fun h => by cases h))
      try simp only [f17]
      go_simp
      first | done | simp [hsz]
    refine StepsP.cons ?_ ?_
    · intro Q s w hC hA K hK
      clear hC
      obtain ⟨f15, f18, -⟩ := hA
      replace f15 : (s 36) = .bool true := f15
      replace f18 : (s 39) = .int .i64 126 := f18
      refine guard_on (d := 36) (want := true) (by rfl) (by rfl) ?_ ?_
      · exact f15
      refine wp_value (v := .bool true) (w1 := w) ?_ (hK.out _ w (Below.refl _ _) rfl (fun h => by cases h))
      try simp only [f15, f18]
      go_simp
      try (first | done | rfl | (simp; done))
    refine StepsP.cons ?_ ?_
    · intro Q s w hC hA K hK
      clear hC
      obtain ⟨f15, f19, -⟩ := hA
      replace f15 : (s 36) = .bool true := f15
      replace f19 : (s 40) = .bool true := f19
      refine guard_none (by rfl) ?_
      refine wp_value (v := .bool true) (w1 := w) ?_ (hK.out _ w (Below.refl _ _) rfl (fun h => by cases h))
      try simp only [f15, f19]
      go_simp
      try (first | done | rfl | (simp; done))
    refine StepsP.cons ?_ ?_
    · intro Q s w hC hA K hK
      clear hC
      obtain ⟨f20, -⟩ := hA
      replace f20 : (s 41) = .bool true := f20
      refine guard_none (by rfl) ?_
      refine wp_value (v := .bool true) (w1 := w) ?_ (hK.out _ w (Below.refl _ _) rfl (fun h => by cases h))
      try simp only [f20]
      go_simp
      try (first | done | rfl | (simp; done))
    refine StepsP.cons ?_ ?_
    · intro Q s w hC hA K hK
      obtain ⟨hsz, hk_g0, lt_g0, hk_g1, lt_g1, hbw⟩ := hC
      obtain ⟨f21, -⟩ := hA
      replace f21 : (s 42) = .bool true := f21
      refine guard_on (d := 42) (want := true) (by rfl) (by rfl) ?_ ?_
      · exact f21
      have m0_g0 : w.cell? ⟨g0, 0, none⟩ = some (.int .i64 10) := blk_cell hk_g0 0 (by rfl)
      have m1_g0 : w.cell? ⟨g0, 1, none⟩ = some (.int .i64 5) := blk_cell hk_g0 1 (by rfl)
      have m2_g0 : w.cell? ⟨g0, 2, none⟩ = some (.int .i64 3) := blk_cell hk_g0 2 (by rfl)
      have m3_g0 : w.cell? ⟨g0, 3, none⟩ = some (.int .i64 2) := blk_cell hk_g0 3 (by rfl)
      have m4_g0 : w.cell? ⟨g0, 4, none⟩ = some (.string S) := blk_cell hk_g0 4 (by rfl)
      refine wp_value (v := .agg #[.int .i64 10, .int .i64 5, .int .i64 3, .int .i64 2, .string S]) (w1 := w) ?_ (hK.out _ w (Below.refl _ _) rfl (fun h => by cases h))
      try simp only [f21]
      go_simp
      try (first | done | rfl | (simp; done))
    refine StepsP.cons ?_ ?_
    · intro Q s w hC hA K hK
      obtain ⟨hsz, hk_g0, lt_g0, hk_g1, lt_g1, hbw⟩ := hC
      obtain ⟨f21, f22, -⟩ := hA
      replace f21 : (s 42) = .bool true := f21
      replace f22 : (s 43) = .agg #[.int .i64 10, .int .i64 5, .int .i64 3, .int .i64 2, .string S] := f22
      refine guard_on (d := 42) (want := true) (by rfl) (by rfl) ?_ ?_
      · exact f21
      refine wp_call (N := some 44) (by rfl) Try.func24 (by kernel_rfl) #[.agg #[.int .i64 10, .int .i64 5, .int .i64 3, .int .i64 2, .string S], .int .i64 (-1), .int .i64 2] rfl (by rfl) ?_ ?_
      · show [s 43, .int .i64 (-1), .int .i64 2] = [.agg #[.int .i64 10, .int .i64 5, .int .i64 3, .int .i64 2, .string S], .int .i64 (-1), .int .i64 2]
        first | rfl | simp only [f21, f22]
      refine (advise_Ask.calls _ _ _ _ _ _ _ 2 _ ha.out).mono ?_
      rintro e w1 ⟨rfl, hb⟩
      refine ⟨_, rfl, ?_⟩
      exact hK.out _ _ hb rfl (fun h => by cases h)
    refine StepsP.cons ?_ ?_
    · intro Q s w hC hA K hK
      clear hC
      obtain ⟨f21, f23, -⟩ := hA
      replace f21 : (s 42) = .bool true := f21
      replace f23 : (s 44) = .int .i64 2 := f23
      refine guard_on (d := 42) (want := true) (by rfl) (by rfl) ?_ ?_
      · exact f21
      refine wp_value (v := .bool true) (w1 := w) ?_ (hK.out _ w (Below.refl _ _) rfl (fun h => by cases h))
      try simp only [f21, f23]
      go_simp
      try (first | done | rfl | (simp; done))
    refine StepsP.cons ?_ ?_
    · intro Q s w hC hA K hK
      clear hC
      obtain ⟨f21, f24, -⟩ := hA
      replace f21 : (s 42) = .bool true := f21
      replace f24 : (s 45) = .bool true := f24
      refine guard_none (by rfl) ?_
      refine wp_value (v := .bool true) (w1 := w) ?_ (hK.out _ w (Below.refl _ _) rfl (fun h => by cases h))
      try simp only [f21, f24]
      go_simp
      try (first | done | rfl | (simp; done))
    refine StepsP.cons ?_ ?_
    · intro Q s w hC hA K hK
      clear hC
      obtain ⟨f25, -⟩ := hA
      replace f25 : (s 46) = .bool true := f25
      refine guard_none (by rfl) ?_
      refine wp_value (v := .bool true) (w1 := w) ?_ (hK.out _ w (Below.refl _ _) rfl (fun h => by cases h))
      try simp only [f25]
      go_simp
      try (first | done | rfl | (simp; done))
    refine StepsP.cons ?_ ?_
    · intro Q s w hC hA K hK
      obtain ⟨hsz, hk_g0, lt_g0, hk_g1, lt_g1, hbw⟩ := hC
      obtain ⟨f26, -⟩ := hA
      replace f26 : (s 47) = .bool true := f26
      refine guard_on (d := 47) (want := true) (by rfl) (by rfl) ?_ ?_
      · exact f26
      have m0_g0 : w.cell? ⟨g0, 0, none⟩ = some (.int .i64 10) := blk_cell hk_g0 0 (by rfl)
      have m1_g0 : w.cell? ⟨g0, 1, none⟩ = some (.int .i64 5) := blk_cell hk_g0 1 (by rfl)
      have m2_g0 : w.cell? ⟨g0, 2, none⟩ = some (.int .i64 3) := blk_cell hk_g0 2 (by rfl)
      have m3_g0 : w.cell? ⟨g0, 3, none⟩ = some (.int .i64 2) := blk_cell hk_g0 3 (by rfl)
      have m4_g0 : w.cell? ⟨g0, 4, none⟩ = some (.string S) := blk_cell hk_g0 4 (by rfl)
      refine wp_value (v := .agg #[.int .i64 10, .int .i64 5, .int .i64 3, .int .i64 2, .string S]) (w1 := w) ?_ (hK.out _ w (Below.refl _ _) rfl (fun h => by cases h))
      try simp only [f26]
      go_simp
      try (first | done | rfl | (simp; done))
    refine StepsP.cons ?_ ?_
    · intro Q s w hC hA K hK
      obtain ⟨hsz, hk_g0, lt_g0, hk_g1, lt_g1, hbw⟩ := hC
      obtain ⟨f26, f27, -⟩ := hA
      replace f26 : (s 47) = .bool true := f26
      replace f27 : (s 48) = .agg #[.int .i64 10, .int .i64 5, .int .i64 3, .int .i64 2, .string S] := f27
      refine guard_on (d := 47) (want := true) (by rfl) (by rfl) ?_ ?_
      · exact f26
      refine wp_call (N := some 49) (by rfl) Try.func28 (by kernel_rfl) #[.agg #[.int .i64 10, .int .i64 5, .int .i64 3, .int .i64 2, .string S]] rfl (by rfl) ?_ ?_
      · show [s 48] = [.agg #[.int .i64 10, .int .i64 5, .int .i64 3, .int .i64 2, .string S]]
        first | rfl | simp only [f26, f27]
      refine (advise_Valid.calls _ _ _ _ _ true _ hv.out).mono ?_
      rintro e w1 ⟨rfl, hb⟩
      refine ⟨_, rfl, ?_⟩
      exact hK.out _ _ hb rfl (fun h => by cases h)
    refine StepsP.cons ?_ ?_
    · intro Q s w hC hA K hK
      clear hC
      obtain ⟨f26, f28, -⟩ := hA
      replace f26 : (s 47) = .bool true := f26
      replace f28 : (s 49) = .bool true := f28
      refine guard_none (by rfl) ?_
      refine wp_value (v := .bool true) (w1 := w) ?_ (hK.out _ w (Below.refl _ _) rfl (fun h => by cases h))
      try simp only [f26, f28]
      go_simp
      try (first | done | rfl | (simp; done))
    refine StepsP.cons ?_ ?_
    · intro Q s w hC hA K hK
      clear hC
      obtain ⟨f29, -⟩ := hA
      replace f29 : (s 50) = .bool true := f29
      refine guard_none (by rfl) ?_
      refine wp_value (v := .bool true) (w1 := w) ?_ (hK.out _ w (Below.refl _ _) rfl (fun h => by cases h))
      try simp only [f29]
      go_simp
      try (first | done | rfl | (simp; done))
    refine StepsP.cons ?_ ?_
    · intro Q s w hC hA K hK
      clear hC
      obtain ⟨f30, -⟩ := hA
      replace f30 : (s 51) = .bool true := f30
      refine guard_on (d := 51) (want := true) (by rfl) (by rfl) ?_ ?_
      · exact f30
      refine wp_value (v := .string sb) (w1 := w) ?_ (hK.out _ w (Below.refl _ _) rfl (fun h => by cases h))
      try simp only [f30]
      go_simp
      try (first | done | rfl | (simp; done))
    refine StepsP.cons ?_ ?_
    · intro Q s w hC hA K hK
      clear hC
      obtain ⟨f30, f31, -⟩ := hA
      replace f30 : (s 51) = .bool true := f30
      replace f31 : (s 52) = .string sb := f31
      refine guard_on (d := 51) (want := true) (by rfl) (by rfl) ?_ ?_
      · exact f30
      refine wp_value (v := .int .i64 9) (w1 := w) ?_ (hK.out _ w (Below.refl _ _) rfl (fun h => by cases h))
      try simp only [f31]
      go_simp
      first | done | simp [hs9]
    refine StepsP.cons ?_ ?_
    · intro Q s w hC hA K hK
      clear hC
      obtain ⟨f30, f32, -⟩ := hA
      replace f30 : (s 51) = .bool true := f30
      replace f32 : (s 53) = .int .i64 9 := f32
      refine guard_on (d := 51) (want := true) (by rfl) (by rfl) ?_ ?_
      · exact f30
      refine wp_value (v := .bool true) (w1 := w) ?_ (hK.out _ w (Below.refl _ _) rfl (fun h => by cases h))
      try simp only [f30, f32]
      go_simp
      try (first | done | rfl | (simp; done))
    refine StepsP.cons ?_ ?_
    · intro Q s w hC hA K hK
      clear hC
      obtain ⟨f30, f33, -⟩ := hA
      replace f30 : (s 51) = .bool true := f30
      replace f33 : (s 54) = .bool true := f33
      refine guard_none (by rfl) ?_
      refine wp_value (v := .bool true) (w1 := w) ?_ (hK.out _ w (Below.refl _ _) rfl (fun h => by cases h))
      try simp only [f30, f33]
      go_simp
      try (first | done | rfl | (simp; done))
    refine StepsP.cons ?_ ?_
    · intro Q s w hC hA K hK
      clear hC
      obtain ⟨f34, -⟩ := hA
      replace f34 : (s 55) = .bool true := f34
      refine guard_none (by rfl) ?_
      refine wp_value (v := .bool true) (w1 := w) ?_ (hK.out _ w (Below.refl _ _) rfl (fun h => by cases h))
      try simp only [f34]
      go_simp
      try (first | done | rfl | (simp; done))
    exact StepsP.nil
  obtain ⟨hsz, hk_g0, lt_g0, hk_g1, lt_g1, hbw⟩ := hC
  obtain ⟨f35, -⟩ := hA
  replace f35 : (s 0) = .bool true := f35
  refine act_eq (b' := ?b3) ?h3 ?q3
  case h3 => simp only [f35]; rfl
  subst hw0
  go_wp2
  go_ret
  exact ⟨rfl, hbw⟩
theorem kd_of_RdI {w : World} {A : Option Addr} {l : List Int} (h : RdI w A l) : Go.Proofs.YtjidbjmekpholaaW.PrintWords.Kd.C (Go.Proofs.YtjidbjmekpholaaW.PrintWords.Kd.int .i64) w A l.length l := by
  refine Go.Proofs.YtjidbjmekpholaaW.PrintWords.Kd.C_of_reads (d := (0 : Int)) (h1 := fun _ => rfl) ⟨rfl, h.1, fun hn => ?_⟩
  obtain ⟨b, off, rfl, h0⟩ := h.at hn
  refine ⟨_, rfl, fun j hj => ?_⟩
  obtain ⟨b2, off2, e, hc⟩ := h.at hj
  injection e with e
  injection e with e1 e2
  subst e1 e2
  rw [← hc]
  unfold Addr.add
  by_cases q : j = 0
  · subst q; simp
  · simp [q]
end Go.Proofs.Ytjidbjmekpholaa.AdY
