/- Proved here: lemmas and contracts (what a function of the program computes) that the proofs of the laws of this seat lean on. Conditions: as each theorem states. -/
import Derived.Test.YtcmdhkefenjldaaPl30
import Derived.Test.YtcmdhkefenjldaaPl19
import Derived.Test.YtcmdhkefenjldaaLin
set_option linter.unusedVariables false
set_option linter.unusedSimpArgs false
namespace Go.Proofs.Ytcmdhkefenjldaa
open Go.RowKit Go.Pk Go.Proofs.YtcmdhkefenjldaaW.PrintLast
theorem Holds_none (L S : Value) (w : World) (hNo' : Calls Try.prog 52 #[L] w fun e w' => e = .returned (.bool true) ∧ w' = w) :
    Calls Try.prog 29 #[L, S] w fun e w' => e = .returned (.bool false) ∧ w' = w := by
  have hNo := hidI hNo'
  clear hNo'
  go_enter Try.func29, Try.ntmps29
  go_wp2_with fail
  refine hNo.out.mono ?_
  rintro e w1 ⟨rfl, hw1⟩
  subst hw1
  go_wp2
  go_ret
  exact ⟨rfl, rfl⟩
set_option maxHeartbeats 8000000 in
set_option maxRecDepth 100000 in
theorem PNone_walk (d : Int) (lb : List Sp) (ab : Option Addr) (cb : Nat) (w : World) :
    Calls Try.prog 8 #[.int .i64 d, .slice ab lb.length cb] w fun e w' => e = .returned (.bool true) ∧ Below w.heap.size w w' := by
  obtain ⟨w0, hw0⟩ : ∃ z : World, z = w := ⟨_, rfl⟩
  have hbw : Below w0.heap.size w0 w := by rw [hw0]; exact Below.refl _ _
  go_enter Try.func8, Try.ntmps8
  go_wp2_with fail
  · skip
    go_wp2_with fail
    refine (alive16_calls _).mono ?_
    rintro e wz ⟨rfl, hbz⟩
    replace hbw := bl_step hbw hbz
    subst hw0
    go_wp2
    go_ret
    exact ⟨rfl, hbw⟩
  · have hk_gz := blk_new w (.cells #[.pointer none, .slice none 0 0] 58)
    have hbA := bl_alloc (Below.refl w.heap.size w) (.cells #[.pointer none, .slice none 0 0] 58)
    replace hbw := bl_step hbw hbA
    clear hbA
    generalize w.alloc (.cells #[.pointer none, .slice none 0 0] 58) = W1 at *
    obtain ⟨gz, hgz⟩ : ∃ z, w.heap.size = z := ⟨_, rfl⟩
    rw [hgz] at hk_gz
    rw [hgz]
    clear hgz
    refine (Prove_nil d W1).mono ?_
    rintro e w2 ⟨rfl, hb2⟩
    replace hbw := bl_step hbw hb2
    replace hk_gz := bl_block hb2 hk_gz
    clear hb2 W1
    go_wp2_with fail
    refine (Prove_zero gz (.slice none 0 0) d w2 hk_gz).mono ?_
    rintro e w3 ⟨rfl, hb3⟩
    replace hbw := bl_step hbw hb3
    replace hk_gz := bl_block hb3 hk_gz
    clear hb3 w2
    go_upto_region 6 with fail
    have hk_g7 := blk_alloc (blk_new w3 (.cells #[.int .i64 2, .int .i64 0, .slice none 0 0] 65)) (.cells #[.int .i64 2, .int .i64 0, .slice none 0 0] 65)
    have hk_g8 : ((w3.alloc (.cells #[.int .i64 2, .int .i64 0, .slice none 0 0] 65)).alloc (.cells #[.int .i64 2, .int .i64 0, .slice none 0 0] 65)).heap[w3.heap.size + 1]? = some (.cells #[.int .i64 2, .int .i64 0, .slice none 0 0] 65) := by have h_ := blk_new (w3.alloc (.cells #[.int .i64 2, .int .i64 0, .slice none 0 0] 65)) (.cells #[.int .i64 2, .int .i64 0, .slice none 0 0] 65); simpa using h_
    replace hbw := bl_alloc (bl_alloc hbw (.cells #[.int .i64 2, .int .i64 0, .slice none 0 0] 65)) (.cells #[.int .i64 2, .int .i64 0, .slice none 0 0] 65)
    replace hk_gz := blk_alloc (blk_alloc hk_gz (.cells #[.int .i64 2, .int .i64 0, .slice none 0 0] 65)) (.cells #[.int .i64 2, .int .i64 0, .slice none 0 0] 65)
    generalize (w3.alloc (.cells #[.int .i64 2, .int .i64 0, .slice none 0 0] 65)).alloc (.cells #[.int .i64 2, .int .i64 0, .slice none 0 0] 65) = W2 at *
    generalize w3.heap.size + 1 = g8 at *
    generalize w3.heap.size = g7 at *
    obtain ⟨B0, hB0⟩ : ∃ B, B = W2.heap.size := ⟨_, rfl⟩
    have c0_hsz : B0 ≤ W2.heap.size := Nat.le_of_eq hB0
    have hw0B0 : w0.heap.size ≤ B0 := by rw [hB0]; exact hbw.size
    have c0_hle : W2.heap.size ≤ B0 := Nat.le_of_eq hB0.symm
    have c0_hk_gz := blk_drew hk_gz
    have c0_lt_gz : gz < B0 := by rw [hB0]; exact blk_lt hk_gz
    have c0_hk_g7 := blk_drew hk_g7
    have c0_lt_g7 : g7 < B0 := by rw [hB0]; exact blk_lt hk_g7
    have c0_hk_g8 := blk_drew hk_g8
    have c0_lt_g8 : g8 < B0 := by rw [hB0]; exact blk_lt hk_g8
    have c0_hbw := bl_drew hbw
    clear hB0 hbw hk_gz hk_g7 hk_g8
    refine region_lin (n := 55) (st := ?st15) { R := [0, 1, 3, 7, 15, 31, 63, 127, 255, 511, 1023, 2047, 4095, 8191, 4095, 20479, 65535, 4095, 135167, 397311, 1048575, 4095, 2101247, 6295551, 16777215, 4095, 33558527, 100667391, 234885119, 503320575, 1073741823, 2147483647, 4294967295, 8589934591, 17179869183, 17179869183, 68719476735, 137438953471, 274877906943, 549755813887, 1099511627775, 1099511627775, 4398046511103, 8796093022207, 17592186044415, 35184372088831, 70368744177663, 140737488355327, 281474976710655, 562949953421311, 70368744177663, 2251799813685247, 4503599627370495, 9007199254740991, 18014398509481983], kill := [[], [], [], [], [], [], [], [], [], [], [], [], [], [], [], [], [], [], [], [], [], [], [], [], [], [], [], [], [], [], [], [], [], [], [], [], [], [], [], [], [], [], [], [], [], [], [], [], [], [], [], [], [], [], []], cls := [0, 0, 0, 0, 0, 0, 0, 0, 0, 0, 0, 0, 0, 0, 0, 0, 0, 0, 0, 0, 0, 0, 0, 0, 0, 0, 0, 0, 0, 0, 0, 0, 0, 0, 0, 0, 0, 0, 0, 0, 0, 0, 0, 0, 0, 0, 0, 0, 0, 0, 0, 0, 0, 0, 0], dst := [some 21, some 22, some 23, some 24, some 25, some 26, some 27, some 28, some 29, some 30, some 31, some 32, some 33, some 34, some 35, some 36, some 37, some 38, some 39, some 40, some 41, some 42, some 43, some 44, some 45, some 46, some 47, some 48, some 49, some 50, some 51, some 52, some 53, some 54, some 55, some 56, some 57, some 58, some 59, some 60, some 61, some 62, some 63, some 64, some 65, some 66, some 67, some 68, some 69, some 70, some 71, some 72, some 73, some 74, some 4], pre := [[], [0], [1], [1, 2], [1, 3], [1, 4], [5], [6], [6, 7], [6, 8], [6, 9], [10], [11], [11, 12], [11], [11, 14], [11, 13, 15], [11], [11, 17], [11, 18], [11, 16, 19], [11], [11, 21], [11, 22], [11, 20, 23], [11], [11, 25], [11, 26], [11, 27], [11, 28], [11, 24, 29], [11, 30], [11, 31], [32], [33], [33], [33, 34, 35], [33, 36], [33, 37], [38], [39], [39], [39, 40, 41], [39, 42], [39, 43], [44], [45], [45, 46], [45, 47], [45, 48], [45], [45, 49, 50], [45, 51], [45, 52], [53]], cov := [(0, 50)], fin := [54], locs := [(50, 71)], tgt := [none], abt := [none, none, none, none, none, none, none, none, none, none, none, none, none, none, none, none, none, none, none, none, none, none, none, none, none, none, none, none, none, none, none, none, none, none, none, none, none, none, none, none, none, none, none, none, none, none, none, none, none, none, some 71, none, none, none, none] }
      [.v [21] (fun vs => (vs.getD 0 undef) = .bool true),
       .v [22] (fun vs => (vs.getD 0 undef) = .bool true),
       .v [23] (fun vs => (vs.getD 0 undef) = .pointer (some ⟨g7, 0, none⟩)),
       .v [24] (fun vs => (vs.getD 0 undef) = .int .i64 2),
       .v [25] (fun vs => (vs.getD 0 undef) = .bool true),
       .v [26] (fun vs => (vs.getD 0 undef) = .bool true),
       .v [27] (fun vs => (vs.getD 0 undef) = .bool true),
       .v [28] (fun vs => (vs.getD 0 undef) = .pointer (some ⟨g8, 0, none⟩)),
       .v [29] (fun vs => (vs.getD 0 undef) = .int .i64 2),
       .v [30] (fun vs => (vs.getD 0 undef) = .bool true),
       .v [31] (fun vs => (vs.getD 0 undef) = .bool true),
       .v [32] (fun vs => (vs.getD 0 undef) = .bool true),
       .v [33] (fun vs => (vs.getD 0 undef) = .pointer (some ⟨g7, 1, none⟩)),
       .v [34] (fun vs => (vs.getD 0 undef) = .int .i64 0),
       .v [35] (fun vs => (vs.getD 0 undef) = .pointer (some ⟨g8, 1, none⟩)),
       .v [36] (fun vs => (vs.getD 0 undef) = .int .i64 0),
       .v [37] (fun vs => (vs.getD 0 undef) = .int .i64 0),
       .v [38] (fun vs => (vs.getD 0 undef) = .pointer (some ⟨g7, 2, none⟩)),
       .v [39] (fun vs => (vs.getD 0 undef) = .slice none 0 0),
       .v [40] (fun vs => (vs.getD 0 undef) = .int .i64 0),
       .v [41] (fun vs => (vs.getD 0 undef) = .int .i64 0),
       .v [42] (fun vs => (vs.getD 0 undef) = .pointer (some ⟨g8, 2, none⟩)),
       .v [43] (fun vs => (vs.getD 0 undef) = .slice none 0 0),
       .v [44] (fun vs => (vs.getD 0 undef) = .int .i64 0),
       .v [45] (fun vs => (vs.getD 0 undef) = .int .i64 0),
       .v [46] (fun vs => (vs.getD 0 undef) = .pointer (some ⟨gz, 0, none⟩)),
       .v [47] (fun vs => (vs.getD 0 undef) = .pointer (some ⟨gz, 0, none⟩)),
       .v [48] (fun vs => (vs.getD 0 undef) = .pointer (some ⟨gz, 0, none⟩)),
       .v [49] (fun vs => (vs.getD 0 undef) = .pointer none),
       .v [50] (fun vs => (vs.getD 0 undef) = .int .i64 0),
       .v [51] (fun vs => (vs.getD 0 undef) = .int .i64 0),
       .v [52] (fun vs => (vs.getD 0 undef) = .bool true),
       .v [53] (fun vs => (vs.getD 0 undef) = .bool true),
       .v [54] (fun vs => (vs.getD 0 undef) = .bool true),
       .v [55] (fun vs => (vs.getD 0 undef) = .pointer none),
       .v [56] (fun vs => (vs.getD 0 undef) = .slice ab lb.length cb),
       .v [57] (fun vs => (vs.getD 0 undef) = .bool false),
       .v [58] (fun vs => (vs.getD 0 undef) = .bool true),
       .v [59] (fun vs => (vs.getD 0 undef) = .bool true),
       .v [60] (fun vs => (vs.getD 0 undef) = .bool true),
       .v [61] (fun vs => (vs.getD 0 undef) = .pointer (some ⟨gz, 0, none⟩)),
       .v [62] (fun vs => (vs.getD 0 undef) = .slice ab lb.length cb),
       .v [63] (fun vs => (vs.getD 0 undef) = .bool false),
       .v [64] (fun vs => (vs.getD 0 undef) = .bool true),
       .v [65] (fun vs => (vs.getD 0 undef) = .bool true),
       .v [66] (fun vs => (vs.getD 0 undef) = .bool true),
       .v [67] (fun vs => (vs.getD 0 undef) = .pointer (some ⟨gz, 0, none⟩)),
       .v [68] (fun vs => (vs.getD 0 undef) = .pointer (some ⟨gz, 0, none⟩)),
       .v [69] (fun vs => (vs.getD 0 undef) = .pointer (some ⟨gz, 0, none⟩)),
       .v [70] (fun vs => (vs.getD 0 undef) = .pointer none),
       .w [71] (fun vs w => ∃ g50 : Nat, (vs.getD 0 undef) = .slice (some ⟨g50, 0, none⟩) 1 1 ∧ B0 ≤ g50 ∧ w.heap[g50]? = some (.cells #[.int .i64 1] 3 (0, 0))),
       .v [72] (fun vs => (vs.getD 0 undef) = .int .i64 0),
       .v [73] (fun vs => (vs.getD 0 undef) = .bool true),
       .v [74] (fun vs => (vs.getD 0 undef) = .bool true),
       .v [4] (fun vs => (vs.getD 0 undef) = .bool true)]
      (fun w => B0 ≤ w.heap.size ∧ w.heap[gz]? = some (.cells #[.pointer none, .slice none 0 0] 58 (0, 0)) ∧ gz < B0 ∧ w.heap[g7]? = some (.cells #[.int .i64 2, .int .i64 0, .slice none 0 0] 65 (0, 0)) ∧ g7 < B0 ∧ w.heap[g8]? = some (.cells #[.int .i64 2, .int .i64 0, .slice none 0 0] 65 (0, 0)) ∧ g8 < B0 ∧ Below w0.heap.size w0 w)
      (fun c => ([fun s w w' => Below w.heap.size w w'] : List ((Nat → Value) → World → World → Prop)).getD c (fun s w w' => w' = w))
      [4, 21, 22, 23, 24, 25, 26, 27, 28, 29, 30, 31, 32, 33, 34, 35, 36, 37, 38, 39, 40, 41, 42, 43, 44, 45, 46, 47, 48, 49, 50, 51, 52, 53, 54, 55, 56, 57, 58, 59, 60, 61, 62, 63, 64, 65, 66, 67, 68, 69, 70, 71, 72, 73, 74] (by kernel_rfl) ⟨by kernel_rfl, by kernel_rfl, by kernel_rfl, by kernel_rfl, by kernel_rfl, by kernel_rfl, by kernel_rfl, by kernel_rfl⟩ (fun s => ?_) ?_ ?_ ?_ ?_ ?_ (fun s w hC hA => ?_)
    rotate_left
    · simp only [fillS, List.foldl, List.setIfInBounds_toArray, List.set_cons_zero, List.set_cons_succ]; rfl
    · exact ⟨c0_hsz, c0_hk_gz, c0_lt_gz, c0_hk_g7, c0_lt_g7, c0_hk_g8, c0_lt_g8, c0_hbw⟩
    · intro c s w w' hE
      match c, hE with
      | 0, hE => exact Below.size hE
      | c + 1, hE => cases hE; exact Nat.le_refl _
    · rintro c s w w' ⟨hsz, hk_gz, lt_gz, hk_g7, lt_g7, hk_g8, lt_g8, hbw⟩ hE
      match c, hE with
      | 0, hE => replace hE : Below w.heap.size w w' := hE; exact ⟨Nat.le_trans hsz hE.size, bl_block hE hk_gz, lt_gz, bl_block hE hk_g7, lt_g7, bl_block hE hk_g8, lt_g8, bl_step hbw hE⟩
      | c + 1, hE => cases hE; exact ⟨hsz, hk_gz, lt_gz, hk_g7, lt_g7, hk_g8, lt_g8, hbw⟩
    · refine ⟨?_, trivial⟩
      · intro s w w' hD hC hE hF
        replace hF : ∃ g50 : Nat, (s 71) = .slice (some ⟨g50, 0, none⟩) 1 1 ∧ B0 ≤ g50 ∧ w.heap[g50]? = some (.cells #[.int .i64 1] 3 (0, 0)) := hF
        show ∃ g50 : Nat, (s 71) = .slice (some ⟨g50, 0, none⟩) 1 1 ∧ B0 ≤ g50 ∧ w'.heap[g50]? = some (.cells #[.int .i64 1] 3 (0, 0))
        replace hE : Below w.heap.size w w' := hE
        obtain ⟨g50, h1, h2, h3⟩ := hF
        exact ⟨g50, h1, h2, bl_block hE h3⟩
    · skip
      refine StepsP.cons ?_ ?_
      · intro Q s w hC hA K hK
        obtain ⟨hsz, hk_gz, lt_gz, hk_g7, lt_g7, hk_g8, lt_g8, hbw⟩ := hC
        clear hA
        refine guard_none (by rfl) ?_
        refine wp_call (N := some 21) (by rfl) Try.func26 (by kernel_rfl) #[] rfl (by rfl) ?_ ?_
        · show [] = []
          first | rfl | simp only []
        refine (alive16_calls _).mono ?_
        rintro e w1 ⟨rfl, hb⟩
        refine ⟨_, rfl, ?_⟩
        exact hK.out _ _ hb rfl (fun h => by cases h)
      refine StepsP.cons ?_ ?_
      · intro Q s w hC hA K hK
        clear hC
        obtain ⟨f0, -⟩ := hA
        replace f0 : (s 21) = .bool true := f0
        refine guard_none (by rfl) ?_
        refine wp_value (v := .bool true) (w1 := w) ?_ (hK.out _ w (Below.refl _ _) rfl (fun h => by cases h))
        try simp only [f0]
        go_simp
        try (first | done | rfl | (simp; done))
      refine StepsP.cons ?_ ?_
      · intro Q s w hC hA K hK
        clear hC
        obtain ⟨f1, -⟩ := hA
        replace f1 : (s 22) = .bool true := f1
        refine guard_on (d := 22) (want := true) (by rfl) (by rfl) ?_ ?_
        · exact f1
        refine wp_value (v := .pointer (some ⟨g7, 0, none⟩)) (w1 := w) ?_ (hK.out _ w (Below.refl _ _) rfl (fun h => by cases h))
        try simp only [f1]
        go_simp
        try (first | done | rfl | (simp; done))
      refine StepsP.cons ?_ ?_
      · intro Q s w hC hA K hK
        obtain ⟨hsz, hk_gz, lt_gz, hk_g7, lt_g7, hk_g8, lt_g8, hbw⟩ := hC
        obtain ⟨f1, f2, -⟩ := hA
        replace f1 : (s 22) = .bool true := f1
        replace f2 : (s 23) = .pointer (some ⟨g7, 0, none⟩) := f2
        refine guard_on (d := 22) (want := true) (by rfl) (by rfl) ?_ ?_
        · exact f1
        have m0_g7 : w.cell? ⟨g7, 0, none⟩ = some (.int .i64 2) := blk_cell hk_g7 0 (by rfl)
        have m1_g7 : w.cell? ⟨g7, 1, none⟩ = some (.int .i64 0) := blk_cell hk_g7 1 (by rfl)
        have m2_g7 : w.cell? ⟨g7, 2, none⟩ = some (.slice none 0 0) := blk_cell hk_g7 2 (by rfl)
        refine wp_value (v := .int .i64 2) (w1 := w) ?_ (hK.out _ w (Below.refl _ _) rfl (fun h => by cases h))
        try simp only [f1, f2]
        go_simp
        try (first | done | rfl | (simp; done))
      refine StepsP.cons ?_ ?_
      · intro Q s w hC hA K hK
        clear hC
        obtain ⟨f1, f3, -⟩ := hA
        replace f1 : (s 22) = .bool true := f1
        replace f3 : (s 24) = .int .i64 2 := f3
        refine guard_on (d := 22) (want := true) (by rfl) (by rfl) ?_ ?_
        · exact f1
        refine wp_value (v := .bool true) (w1 := w) ?_ (hK.out _ w (Below.refl _ _) rfl (fun h => by cases h))
        try simp only [f1, f3]
        go_simp
        try (first | done | rfl | (simp; done))
      refine StepsP.cons ?_ ?_
      · intro Q s w hC hA K hK
        clear hC
        obtain ⟨f1, f4, -⟩ := hA
        replace f1 : (s 22) = .bool true := f1
        replace f4 : (s 25) = .bool true := f4
        refine guard_none (by rfl) ?_
        refine wp_value (v := .bool true) (w1 := w) ?_ (hK.out _ w (Below.refl _ _) rfl (fun h => by cases h))
        try simp only [f1, f4]
        go_simp
        try (first | done | rfl | (simp; done))
      refine StepsP.cons ?_ ?_
      · intro Q s w hC hA K hK
        clear hC
        obtain ⟨f5, -⟩ := hA
        replace f5 : (s 26) = .bool true := f5
        refine guard_none (by rfl) ?_
        refine wp_value (v := .bool true) (w1 := w) ?_ (hK.out _ w (Below.refl _ _) rfl (fun h => by cases h))
        try simp only [f5]
        go_simp
        try (first | done | rfl | (simp; done))
      refine StepsP.cons ?_ ?_
      · intro Q s w hC hA K hK
        clear hC
        obtain ⟨f6, -⟩ := hA
        replace f6 : (s 27) = .bool true := f6
        refine guard_on (d := 27) (want := true) (by rfl) (by rfl) ?_ ?_
        · exact f6
        refine wp_value (v := .pointer (some ⟨g8, 0, none⟩)) (w1 := w) ?_ (hK.out _ w (Below.refl _ _) rfl (fun h => by cases h))
        try simp only [f6]
        go_simp
        try (first | done | rfl | (simp; done))
      refine StepsP.cons ?_ ?_
      · intro Q s w hC hA K hK
        obtain ⟨hsz, hk_gz, lt_gz, hk_g7, lt_g7, hk_g8, lt_g8, hbw⟩ := hC
        obtain ⟨f6, f7, -⟩ := hA
        replace f6 : (s 27) = .bool true := f6
        replace f7 : (s 28) = .pointer (some ⟨g8, 0, none⟩) := f7
        refine guard_on (d := 27) (want := true) (by rfl) (by rfl) ?_ ?_
        · exact f6
        have m0_g8 : w.cell? ⟨g8, 0, none⟩ = some (.int .i64 2) := blk_cell hk_g8 0 (by rfl)
        have m1_g8 : w.cell? ⟨g8, 1, none⟩ = some (.int .i64 0) := blk_cell hk_g8 1 (by rfl)
        have m2_g8 : w.cell? ⟨g8, 2, none⟩ = some (.slice none 0 0) := blk_cell hk_g8 2 (by rfl)
        refine wp_value (v := .int .i64 2) (w1 := w) ?_ (hK.out _ w (Below.refl _ _) rfl (fun h => by cases h))
        try simp only [f6, f7]
        go_simp
        try (first | done | rfl | (simp; done))
      refine StepsP.cons ?_ ?_
      · intro Q s w hC hA K hK
        clear hC
        obtain ⟨f6, f8, -⟩ := hA
        replace f6 : (s 27) = .bool true := f6
        replace f8 : (s 29) = .int .i64 2 := f8
        refine guard_on (d := 27) (want := true) (by rfl) (by rfl) ?_ ?_
        · exact f6
        refine wp_value (v := .bool true) (w1 := w) ?_ (hK.out _ w (Below.refl _ _) rfl (fun h => by cases h))
        try simp only [f6, f8]
        go_simp
        try (first | done | rfl | (simp; done))
      refine StepsP.cons ?_ ?_
      · intro Q s w hC hA K hK
        clear hC
        obtain ⟨f6, f9, -⟩ := hA
        replace f6 : (s 27) = .bool true := f6
        replace f9 : (s 30) = .bool true := f9
        refine guard_none (by rfl) ?_
        refine wp_value (v := .bool true) (w1 := w) ?_ (hK.out _ w (Below.refl _ _) rfl (fun h => by cases h))
        try simp only [f6, f9]
        go_simp
        try (first | done | rfl | (simp; done))
      refine StepsP.cons ?_ ?_
      · intro Q s w hC hA K hK
        clear hC
        obtain ⟨f10, -⟩ := hA
        replace f10 : (s 31) = .bool true := f10
        refine guard_none (by rfl) ?_
        refine wp_value (v := .bool true) (w1 := w) ?_ (hK.out _ w (Below.refl _ _) rfl (fun h => by cases h))
        try simp only [f10]
        go_simp
        try (first | done | rfl | (simp; done))
      refine StepsP.cons ?_ ?_
      · intro Q s w hC hA K hK
        clear hC
        obtain ⟨f11, -⟩ := hA
        replace f11 : (s 32) = .bool true := f11
        refine guard_on (d := 32) (want := true) (by rfl) (by rfl) ?_ ?_
        · exact f11
        refine wp_value (v := .pointer (some ⟨g7, 1, none⟩)) (w1 := w) ?_ (hK.out _ w (Below.refl _ _) rfl (fun h => by cases h))
        try simp only [f11]
        go_simp
        try (first | done | rfl | (simp; done))
      refine StepsP.cons ?_ ?_
      · intro Q s w hC hA K hK
        obtain ⟨hsz, hk_gz, lt_gz, hk_g7, lt_g7, hk_g8, lt_g8, hbw⟩ := hC
        obtain ⟨f11, f12, -⟩ := hA
        replace f11 : (s 32) = .bool true := f11
        replace f12 : (s 33) = .pointer (some ⟨g7, 1, none⟩) := f12
        refine guard_on (d := 32) (want := true) (by rfl) (by rfl) ?_ ?_
        · exact f11
        have m0_g7 : w.cell? ⟨g7, 0, none⟩ = some (.int .i64 2) := blk_cell hk_g7 0 (by rfl)
        have m1_g7 : w.cell? ⟨g7, 1, none⟩ = some (.int .i64 0) := blk_cell hk_g7 1 (by rfl)
        have m2_g7 : w.cell? ⟨g7, 2, none⟩ = some (.slice none 0 0) := blk_cell hk_g7 2 (by rfl)
        refine wp_value (v := .int .i64 0) (w1 := w) ?_ (hK.out _ w (Below.refl _ _) rfl (fun h => by cases h))
        try simp only [f11, f12]
        go_simp
        try (first | done | rfl | (simp; done))
      refine StepsP.cons ?_ ?_
      · intro Q s w hC hA K hK
        clear hC
        obtain ⟨f11, -⟩ := hA
        replace f11 : (s 32) = .bool true := f11
        refine guard_on (d := 32) (want := true) (by rfl) (by rfl) ?_ ?_
        · exact f11
        refine wp_value (v := .pointer (some ⟨g8, 1, none⟩)) (w1 := w) ?_ (hK.out _ w (Below.refl _ _) rfl (fun h => by cases h))
        try simp only [f11]
        go_simp
        try (first | done | rfl | (simp; done))
      refine StepsP.cons ?_ ?_
      · intro Q s w hC hA K hK
        obtain ⟨hsz, hk_gz, lt_gz, hk_g7, lt_g7, hk_g8, lt_g8, hbw⟩ := hC
        obtain ⟨f11, f14, -⟩ := hA
        replace f11 : (s 32) = .bool true := f11
        replace f14 : (s 35) = .pointer (some ⟨g8, 1, none⟩) := f14
        refine guard_on (d := 32) (want := true) (by rfl) (by rfl) ?_ ?_
        · exact f11
        have m0_g8 : w.cell? ⟨g8, 0, none⟩ = some (.int .i64 2) := blk_cell hk_g8 0 (by rfl)
        have m1_g8 : w.cell? ⟨g8, 1, none⟩ = some (.int .i64 0) := blk_cell hk_g8 1 (by rfl)
        have m2_g8 : w.cell? ⟨g8, 2, none⟩ = some (.slice none 0 0) := blk_cell hk_g8 2 (by rfl)
        refine wp_value (v := .int .i64 0) (w1 := w) ?_ (hK.out _ w (Below.refl _ _) rfl (fun h => by cases h))
        try simp only [f11, f14]
        go_simp
        try (first | done | rfl | (simp; done))
      refine StepsP.cons ?_ ?_
      · intro Q s w hC hA K hK
        clear hC
        obtain ⟨f11, f13, f15, -⟩ := hA
        replace f11 : (s 32) = .bool true := f11
        replace f13 : (s 34) = .int .i64 0 := f13
        replace f15 : (s 36) = .int .i64 0 := f15
        refine guard_on (d := 32) (want := true) (by rfl) (by rfl) ?_ ?_
        · exact f11
        refine wp_value (v := .int .i64 0) (w1 := w) ?_ (hK.out _ w (Below.refl _ _) rfl (fun h => by cases h))
        try simp only [f11, f13, f15]
        go_simp
        try (first | done | rfl | (simp; done))
      refine StepsP.cons ?_ ?_
      · intro Q s w hC hA K hK
        clear hC
        obtain ⟨f11, -⟩ := hA
        replace f11 : (s 32) = .bool true := f11
        refine guard_on (d := 32) (want := true) (by rfl) (by rfl) ?_ ?_
        · exact f11
        refine wp_value (v := .pointer (some ⟨g7, 2, none⟩)) (w1 := w) ?_ (hK.out _ w (Below.refl _ _) rfl (fun h => by cases h))
        try simp only [f11]
        go_simp
        try (first | done | rfl | (simp; done))
      refine StepsP.cons ?_ ?_
      · intro Q s w hC hA K hK
        obtain ⟨hsz, hk_gz, lt_gz, hk_g7, lt_g7, hk_g8, lt_g8, hbw⟩ := hC
        obtain ⟨f11, f17, -⟩ := hA
        replace f11 : (s 32) = .bool true := f11
        replace f17 : (s 38) = .pointer (some ⟨g7, 2, none⟩) := f17
        refine guard_on (d := 32) (want := true) (by rfl) (by rfl) ?_ ?_
        · exact f11
        have m0_g7 : w.cell? ⟨g7, 0, none⟩ = some (.int .i64 2) := blk_cell hk_g7 0 (by rfl)
        have m1_g7 : w.cell? ⟨g7, 1, none⟩ = some (.int .i64 0) := blk_cell hk_g7 1 (by rfl)
        have m2_g7 : w.cell? ⟨g7, 2, none⟩ = some (.slice none 0 0) := blk_cell hk_g7 2 (by rfl)
        refine wp_value (v := .slice none 0 0) (w1 := w) ?_ (hK.out _ w (Below.refl _ _) rfl (fun h => by cases h))
        try simp only [f11, f17]
        go_simp
        try (first | done | rfl | (simp; done))
      refine StepsP.cons ?_ ?_
      · intro Q s w hC hA K hK
        clear hC
        obtain ⟨f11, f18, -⟩ := hA
        replace f11 : (s 32) = .bool true := f11
        replace f18 : (s 39) = .slice none 0 0 := f18
        refine guard_on (d := 32) (want := true) (by rfl) (by rfl) ?_ ?_
        · exact f11
        refine wp_value (v := .int .i64 0) (w1 := w) ?_ (hK.out _ w (Below.refl _ _) rfl (fun h => by cases h))
        try simp only [f11, f18]
        go_simp
        try (first | done | rfl | (simp; done))
      refine StepsP.cons ?_ ?_
      · intro Q s w hC hA K hK
        clear hC
        obtain ⟨f11, f16, f19, -⟩ := hA
        replace f11 : (s 32) = .bool true := f11
        replace f16 : (s 37) = .int .i64 0 := f16
        replace f19 : (s 40) = .int .i64 0 := f19
        refine guard_on (d := 32) (want := true) (by rfl) (by rfl) ?_ ?_
        · exact f11
        refine wp_value (v := .int .i64 0) (w1 := w) ?_ (hK.out _ w (Below.refl _ _) rfl (fun h => by cases h))
        try simp only [f11, f16, f19]
        go_simp
        try (first | done | rfl | (simp; done))
      refine StepsP.cons ?_ ?_
      · intro Q s w hC hA K hK
        clear hC
        obtain ⟨f11, -⟩ := hA
        replace f11 : (s 32) = .bool true := f11
        refine guard_on (d := 32) (want := true) (by rfl) (by rfl) ?_ ?_
        · exact f11
        refine wp_value (v := .pointer (some ⟨g8, 2, none⟩)) (w1 := w) ?_ (hK.out _ w (Below.refl _ _) rfl (fun h => by cases h))
        try simp only [f11]
        go_simp
        try (first | done | rfl | (simp; done))
      refine StepsP.cons ?_ ?_
      · intro Q s w hC hA K hK
        obtain ⟨hsz, hk_gz, lt_gz, hk_g7, lt_g7, hk_g8, lt_g8, hbw⟩ := hC
        obtain ⟨f11, f21, -⟩ := hA
        replace f11 : (s 32) = .bool true := f11
        replace f21 : (s 42) = .pointer (some ⟨g8, 2, none⟩) := f21
        refine guard_on (d := 32) (want := true) (by rfl) (by rfl) ?_ ?_
        · exact f11
        have m0_g8 : w.cell? ⟨g8, 0, none⟩ = some (.int .i64 2) := blk_cell hk_g8 0 (by rfl)
        have m1_g8 : w.cell? ⟨g8, 1, none⟩ = some (.int .i64 0) := blk_cell hk_g8 1 (by rfl)
        have m2_g8 : w.cell? ⟨g8, 2, none⟩ = some (.slice none 0 0) := blk_cell hk_g8 2 (by rfl)
        refine wp_value (v := .slice none 0 0) (w1 := w) ?_ (hK.out _ w (Below.refl _ _) rfl (fun h => by cases h))
        try simp only [f11, f21]
        go_simp
        try (first | done | rfl | (simp; done))
      refine StepsP.cons ?_ ?_
      · intro Q s w hC hA K hK
        clear hC
        obtain ⟨f11, f22, -⟩ := hA
        replace f11 : (s 32) = .bool true := f11
        replace f22 : (s 43) = .slice none 0 0 := f22
        refine guard_on (d := 32) (want := true) (by rfl) (by rfl) ?_ ?_
        · exact f11
        refine wp_value (v := .int .i64 0) (w1 := w) ?_ (hK.out _ w (Below.refl _ _) rfl (fun h => by cases h))
        try simp only [f11, f22]
        go_simp
        try (first | done | rfl | (simp; done))
      refine StepsP.cons ?_ ?_
      · intro Q s w hC hA K hK
        clear hC
        obtain ⟨f11, f20, f23, -⟩ := hA
        replace f11 : (s 32) = .bool true := f11
        replace f20 : (s 41) = .int .i64 0 := f20
        replace f23 : (s 44) = .int .i64 0 := f23
        refine guard_on (d := 32) (want := true) (by rfl) (by rfl) ?_ ?_
        · exact f11
        refine wp_value (v := .int .i64 0) (w1 := w) ?_ (hK.out _ w (Below.refl _ _) rfl (fun h => by cases h))
        try simp only [f11, f20, f23]
        go_simp
        try (first | done | rfl | (simp; done))
      refine StepsP.cons ?_ ?_
      · intro Q s w hC hA K hK
        clear hC
        obtain ⟨f11, -⟩ := hA
        replace f11 : (s 32) = .bool true := f11
        refine guard_on (d := 32) (want := true) (by rfl) (by rfl) ?_ ?_
        · exact f11
        refine wp_value (v := .pointer (some ⟨gz, 0, none⟩)) (w1 := w) ?_ (hK.out _ w (Below.refl _ _) rfl (fun h => by cases h))
        try simp only [f11]
        go_simp
        try (first | done | rfl | (simp; done))
      refine StepsP.cons ?_ ?_
      · intro Q s w hC hA K hK
        clear hC
        obtain ⟨f11, f25, -⟩ := hA
        replace f11 : (s 32) = .bool true := f11
        replace f25 : (s 46) = .pointer (some ⟨gz, 0, none⟩) := f25
        refine guard_on (d := 32) (want := true) (by rfl) (by rfl) ?_ ?_
        · exact f11
        refine wp_value (v := .pointer (some ⟨gz, 0, none⟩)) (w1 := w) ?_ (hK.out _ w (Below.refl _ _) rfl (fun h => by cases h))
        try simp only [f11, f25]
        go_simp
        try (first | done | rfl | (simp; done))
      refine StepsP.cons ?_ ?_
      · intro Q s w hC hA K hK
        clear hC
        obtain ⟨f11, f26, -⟩ := hA
        replace f11 : (s 32) = .bool true := f11
        replace f26 : (s 47) = .pointer (some ⟨gz, 0, none⟩) := f26
        refine guard_on (d := 32) (want := true) (by rfl) (by rfl) ?_ ?_
        · exact f11
        refine wp_value (v := .pointer (some ⟨gz, 0, none⟩)) (w1 := w) ?_ (hK.out _ w (Below.refl _ _) rfl (fun h => by cases h))
        try simp only [f11, f26]
        go_simp
        try (first | done | rfl | (simp; done))
      refine StepsP.cons ?_ ?_
      · intro Q s w hC hA K hK
        obtain ⟨hsz, hk_gz, lt_gz, hk_g7, lt_g7, hk_g8, lt_g8, hbw⟩ := hC
        obtain ⟨f11, f27, -⟩ := hA
        replace f11 : (s 32) = .bool true := f11
        replace f27 : (s 48) = .pointer (some ⟨gz, 0, none⟩) := f27
        refine guard_on (d := 32) (want := true) (by rfl) (by rfl) ?_ ?_
        · exact f11
        have m0_gz : w.cell? ⟨gz, 0, none⟩ = some (.pointer none) := blk_cell hk_gz 0 (by rfl)
        have m1_gz : w.cell? ⟨gz, 1, none⟩ = some (.slice none 0 0) := blk_cell hk_gz 1 (by rfl)
        refine wp_value (v := .pointer none) (w1 := w) ?_ (hK.out _ w (Below.refl _ _) rfl (fun h => by cases h))
        try simp only [f11, f27]
        go_simp
        try (first | done | rfl | (simp; done))
      refine StepsP.cons ?_ ?_
      · intro Q s w hC hA K hK
        obtain ⟨hsz, hk_gz, lt_gz, hk_g7, lt_g7, hk_g8, lt_g8, hbw⟩ := hC
        obtain ⟨f11, f28, -⟩ := hA
        replace f11 : (s 32) = .bool true := f11
        replace f28 : (s 49) = .pointer none := f28
        refine guard_on (d := 32) (want := true) (by rfl) (by rfl) ?_ ?_
        · exact f11
        refine wp_call (N := some 50) (by rfl) Try.func14 (by kernel_rfl) #[.pointer none] rfl (by rfl) ?_ ?_
        · show [s 49] = [.pointer none]
          first | rfl | simp only [f11, f28]
        refine (Dim_nil _).mono ?_
        rintro e w1 ⟨rfl, rfl⟩
        refine ⟨_, rfl, ?_⟩
        exact hK.out _ _ (Below.refl _ _) rfl (fun h => by cases h)
      refine StepsP.cons ?_ ?_
      · intro Q s w hC hA K hK
        clear hC
        obtain ⟨f11, f24, f29, -⟩ := hA
        replace f11 : (s 32) = .bool true := f11
        replace f24 : (s 45) = .int .i64 0 := f24
        replace f29 : (s 50) = .int .i64 0 := f29
        refine guard_on (d := 32) (want := true) (by rfl) (by rfl) ?_ ?_
        · exact f11
        refine wp_value (v := .int .i64 0) (w1 := w) ?_ (hK.out _ w (Below.refl _ _) rfl (fun h => by cases h))
        try simp only [f11, f24, f29]
        go_simp
        try (first | done | rfl | (simp; done))
      refine StepsP.cons ?_ ?_
      · intro Q s w hC hA K hK
        clear hC
        obtain ⟨f11, f30, -⟩ := hA
        replace f11 : (s 32) = .bool true := f11
        replace f30 : (s 51) = .int .i64 0 := f30
        refine guard_on (d := 32) (want := true) (by rfl) (by rfl) ?_ ?_
        · exact f11
        refine wp_value (v := .bool true) (w1 := w) ?_ (hK.out _ w (Below.refl _ _) rfl (fun h => by cases h))
        try simp only [f11, f30]
        go_simp
        try (first | done | rfl | (simp; done))
      refine StepsP.cons ?_ ?_
      · intro Q s w hC hA K hK
        clear hC
        obtain ⟨f11, f31, -⟩ := hA
        replace f11 : (s 32) = .bool true := f11
        replace f31 : (s 52) = .bool true := f31
        refine guard_none (by rfl) ?_
        refine wp_value (v := .bool true) (w1 := w) ?_ (hK.out _ w (Below.refl _ _) rfl (fun h => by cases h))
        try simp only [f11, f31]
        go_simp
        try (first | done | rfl | (simp; done))
      refine StepsP.cons ?_ ?_
      · intro Q s w hC hA K hK
        clear hC
        obtain ⟨f32, -⟩ := hA
        replace f32 : (s 53) = .bool true := f32
        refine guard_none (by rfl) ?_
        refine wp_value (v := .bool true) (w1 := w) ?_ (hK.out _ w (Below.refl _ _) rfl (fun h => by cases h))
        try simp only [f32]
        go_simp
        try (first | done | rfl | (simp; done))
      refine StepsP.cons ?_ ?_
      · intro Q s w hC hA K hK
        clear hC
        obtain ⟨f33, -⟩ := hA
        replace f33 : (s 54) = .bool true := f33
        refine guard_on (d := 54) (want := true) (by rfl) (by rfl) ?_ ?_
        · exact f33
        refine wp_value (v := .pointer none) (w1 := w) ?_ (hK.out _ w (Below.refl _ _) rfl (fun h => by cases h))
        try simp only [f33]
        go_simp
        try (first | done | rfl | (simp; done))
      refine StepsP.cons ?_ ?_
      · intro Q s w hC hA K hK
        clear hC
        obtain ⟨f33, -⟩ := hA
        replace f33 : (s 54) = .bool true := f33
        refine guard_on (d := 54) (want := true) (by rfl) (by rfl) ?_ ?_
        · exact f33
        refine wp_value (v := .slice ab lb.length cb) (w1 := w) ?_ (hK.out _ w (Below.refl _ _) rfl (fun h => by cases h))
        try simp only [f33]
        go_simp
        try (first | done | rfl | (simp; done))
      refine StepsP.cons ?_ ?_
      · intro Q s w hC hA K hK
        obtain ⟨hsz, hk_gz, lt_gz, hk_g7, lt_g7, hk_g8, lt_g8, hbw⟩ := hC
        obtain ⟨f33, f34, f35, -⟩ := hA
        replace f33 : (s 54) = .bool true := f33
        replace f34 : (s 55) = .pointer none := f34
        replace f35 : (s 56) = .slice ab lb.length cb := f35
        refine guard_on (d := 54) (want := true) (by rfl) (by rfl) ?_ ?_
        · exact f33
        refine wp_call (N := some 57) (by rfl) Try.func29 (by kernel_rfl) #[.pointer none, .slice ab lb.length cb] rfl (by rfl) ?_ ?_
        · show [s 55, s 56] = [.pointer none, .slice ab lb.length cb]
          first | rfl | simp only [f33, f34, f35]
        refine (Holds_none _ _ _ (none_nil _)).mono ?_
        rintro e w1 ⟨rfl, rfl⟩
        refine ⟨_, rfl, ?_⟩
        exact hK.out _ _ (Below.refl _ _) rfl (fun h => by cases h)
      refine StepsP.cons ?_ ?_
      · intro Q s w hC hA K hK
        clear hC
        obtain ⟨f33, f36, -⟩ := hA
        replace f33 : (s 54) = .bool true := f33
        replace f36 : (s 57) = .bool false := f36
        refine guard_on (d := 54) (want := true) (by rfl) (by rfl) ?_ ?_
        · exact f33
        refine wp_value (v := .bool true) (w1 := w) ?_ (hK.out _ w (Below.refl _ _) rfl (fun h => by cases h))
        try simp only [f33, f36]
        go_simp
        try (first | done | rfl | (simp; done))
      refine StepsP.cons ?_ ?_
      · intro Q s w hC hA K hK
        clear hC
        obtain ⟨f33, f37, -⟩ := hA
        replace f33 : (s 54) = .bool true := f33
        replace f37 : (s 58) = .bool true := f37
        refine guard_none (by rfl) ?_
        refine wp_value (v := .bool true) (w1 := w) ?_ (hK.out _ w (Below.refl _ _) rfl (fun h => by cases h))
        try simp only [f33, f37]
        go_simp
        try (first | done | rfl | (simp; done))
      refine StepsP.cons ?_ ?_
      · intro Q s w hC hA K hK
        clear hC
        obtain ⟨f38, -⟩ := hA
        replace f38 : (s 59) = .bool true := f38
        refine guard_none (by rfl) ?_
        refine wp_value (v := .bool true) (w1 := w) ?_ (hK.out _ w (Below.refl _ _) rfl (fun h => by cases h))
        try simp only [f38]
        go_simp
        try (first | done | rfl | (simp; done))
      refine StepsP.cons ?_ ?_
      · intro Q s w hC hA K hK
        clear hC
        obtain ⟨f39, -⟩ := hA
        replace f39 : (s 60) = .bool true := f39
        refine guard_on (d := 60) (want := true) (by rfl) (by rfl) ?_ ?_
        · exact f39
        refine wp_value (v := .pointer (some ⟨gz, 0, none⟩)) (w1 := w) ?_ (hK.out _ w (Below.refl _ _) rfl (fun h => by cases h))
        try simp only [f39]
        go_simp
        try (first | done | rfl | (simp; done))
      refine StepsP.cons ?_ ?_
      · intro Q s w hC hA K hK
        clear hC
        obtain ⟨f39, -⟩ := hA
        replace f39 : (s 60) = .bool true := f39
        refine guard_on (d := 60) (want := true) (by rfl) (by rfl) ?_ ?_
        · exact f39
        refine wp_value (v := .slice ab lb.length cb) (w1 := w) ?_ (hK.out _ w (Below.refl _ _) rfl (fun h => by cases h))
        try simp only [f39]
        go_simp
        try (first | done | rfl | (simp; done))
      refine StepsP.cons ?_ ?_
      · intro Q s w hC hA K hK
        obtain ⟨hsz, hk_gz, lt_gz, hk_g7, lt_g7, hk_g8, lt_g8, hbw⟩ := hC
        obtain ⟨f39, f40, f41, -⟩ := hA
        replace f39 : (s 60) = .bool true := f39
        replace f40 : (s 61) = .pointer (some ⟨gz, 0, none⟩) := f40
        replace f41 : (s 62) = .slice ab lb.length cb := f41
        refine guard_on (d := 60) (want := true) (by rfl) (by rfl) ?_ ?_
        · exact f39
        refine wp_call (N := some 63) (by rfl) Try.func29 (by kernel_rfl) #[.pointer (some ⟨gz, 0, none⟩), .slice ab lb.length cb] rfl (by rfl) ?_ ?_
        · show [s 61, s 62] = [.pointer (some ⟨gz, 0, none⟩), .slice ab lb.length cb]
          first | rfl | simp only [f39, f40, f41]
        refine (Holds_none _ _ _ (none_zero gz (.slice none 0 0) _ hk_gz)).mono ?_
        rintro e w1 ⟨rfl, rfl⟩
        refine ⟨_, rfl, ?_⟩
        exact hK.out _ _ (Below.refl _ _) rfl (fun h => by cases h)
      refine StepsP.cons ?_ ?_
      · intro Q s w hC hA K hK
        clear hC
        obtain ⟨f39, f42, -⟩ := hA
        replace f39 : (s 60) = .bool true := f39
        replace f42 : (s 63) = .bool false := f42
        refine guard_on (d := 60) (want := true) (by rfl) (by rfl) ?_ ?_
        · exact f39
        refine wp_value (v := .bool true) (w1 := w) ?_ (hK.out _ w (Below.refl _ _) rfl (fun h => by cases h))
        try simp only [f39, f42]
        go_simp
        try (first | done | rfl | (simp; done))
      refine StepsP.cons ?_ ?_
      · intro Q s w hC hA K hK
        clear hC
        obtain ⟨f39, f43, -⟩ := hA
        replace f39 : (s 60) = .bool true := f39
        replace f43 : (s 64) = .bool true := f43
        refine guard_none (by rfl) ?_
        refine wp_value (v := .bool true) (w1 := w) ?_ (hK.out _ w (Below.refl _ _) rfl (fun h => by cases h))
        try simp only [f39, f43]
        go_simp
        try (first | done | rfl | (simp; done))
      refine StepsP.cons ?_ ?_
      · intro Q s w hC hA K hK
        clear hC
        obtain ⟨f44, -⟩ := hA
        replace f44 : (s 65) = .bool true := f44
        refine guard_none (by rfl) ?_
        refine wp_value (v := .bool true) (w1 := w) ?_ (hK.out _ w (Below.refl _ _) rfl (fun h => by cases h))
        try simp only [f44]
        go_simp
        try (first | done | rfl | (simp; done))
      refine StepsP.cons ?_ ?_
      · intro Q s w hC hA K hK
        clear hC
        obtain ⟨f45, -⟩ := hA
        replace f45 : (s 66) = .bool true := f45
        refine guard_on (d := 66) (want := true) (by rfl) (by rfl) ?_ ?_
        · exact f45
        refine wp_value (v := .pointer (some ⟨gz, 0, none⟩)) (w1 := w) ?_ (hK.out _ w (Below.refl _ _) rfl (fun h => by cases h))
        try simp only [f45]
        go_simp
        try (first | done | rfl | (simp; done))
      refine StepsP.cons ?_ ?_
      · intro Q s w hC hA K hK
        clear hC
        obtain ⟨f45, f46, -⟩ := hA
        replace f45 : (s 66) = .bool true := f45
        replace f46 : (s 67) = .pointer (some ⟨gz, 0, none⟩) := f46
        refine guard_on (d := 66) (want := true) (by rfl) (by rfl) ?_ ?_
        · exact f45
        refine wp_value (v := .pointer (some ⟨gz, 0, none⟩)) (w1 := w) ?_ (hK.out _ w (Below.refl _ _) rfl (fun h => by cases h))
        try simp only [f45, f46]
        go_simp
        try (first | done | rfl | (simp; done))
      refine StepsP.cons ?_ ?_
      · intro Q s w hC hA K hK
        clear hC
        obtain ⟨f45, f47, -⟩ := hA
        replace f45 : (s 66) = .bool true := f45
        replace f47 : (s 68) = .pointer (some ⟨gz, 0, none⟩) := f47
        refine guard_on (d := 66) (want := true) (by rfl) (by rfl) ?_ ?_
        · exact f45
        refine wp_value (v := .pointer (some ⟨gz, 0, none⟩)) (w1 := w) ?_ (hK.out _ w (Below.refl _ _) rfl (fun h => by cases h))
        try simp only [f45, f47]
        go_simp
        try (first | done | rfl | (simp; done))
      refine StepsP.cons ?_ ?_
      · intro Q s w hC hA K hK
        obtain ⟨hsz, hk_gz, lt_gz, hk_g7, lt_g7, hk_g8, lt_g8, hbw⟩ := hC
        obtain ⟨f45, f48, -⟩ := hA
        replace f45 : (s 66) = .bool true := f45
        replace f48 : (s 69) = .pointer (some ⟨gz, 0, none⟩) := f48
        refine guard_on (d := 66) (want := true) (by rfl) (by rfl) ?_ ?_
        · exact f45
        have m0_gz : w.cell? ⟨gz, 0, none⟩ = some (.pointer none) := blk_cell hk_gz 0 (by rfl)
        have m1_gz : w.cell? ⟨gz, 1, none⟩ = some (.slice none 0 0) := blk_cell hk_gz 1 (by rfl)
        refine wp_value (v := .pointer none) (w1 := w) ?_ (hK.out _ w (Below.refl _ _) rfl (fun h => by cases h))
        try simp only [f45, f48]
        go_simp
        try (first | done | rfl | (simp; done))
      refine StepsP.cons ?_ ?_
      · intro Q s w hC hA K hK
        obtain ⟨hsz, hk_gz, lt_gz, hk_g7, lt_g7, hk_g8, lt_g8, hbw⟩ := hC
        obtain ⟨f45, -⟩ := hA
        replace f45 : (s 66) = .bool true := f45
        refine guard_on (d := 66) (want := true) (by rfl) (by rfl) ?_ ?_
        · exact f45
        refine wp_value (v := .slice (some ⟨w.heap.size, 0, none⟩) 1 1) (w1 := w.alloc (.cells #[.int .i64 1] 3)) ?_ (hK.out _ _ (bl_alloc (Below.refl _ _) _) ⟨w.heap.size, rfl, hsz, blk_new _ _⟩ (fun _ g h => fresh_alloc (by simpa [blkV] using h)))
        try simp only [f45]
        go_simp
        try rfl
      refine StepsP.cons ?_ ?_
      · intro Q s w hC hA K hK
        obtain ⟨hsz, hk_gz, lt_gz, hk_g7, lt_g7, hk_g8, lt_g8, hbw⟩ := hC
        obtain ⟨f45, f49, f50, -⟩ := hA
        replace f45 : (s 66) = .bool true := f45
        replace f49 : (s 70) = .pointer none := f49
        replace f50 : ∃ g50 : Nat, (s 71) = .slice (some ⟨g50, 0, none⟩) 1 1 ∧ B0 ≤ g50 ∧ w.heap[g50]? = some (.cells #[.int .i64 1] 3 (0, 0)) := f50
        refine guard_on (d := 66) (want := true) (by rfl) (by rfl) ?_ ?_
        · exact f45
        obtain ⟨g50, a_g50, c_g50, hk_g50⟩ := f50
        refine wp_call (N := some 72) (by rfl) Try.func17 (by kernel_rfl) #[.pointer none, .slice (some ⟨g50, 0, none⟩) 1 1] rfl (by rfl) ?_ ?_
        · show [s 70, s 71] = [.pointer none, .slice (some ⟨g50, 0, none⟩) 1 1]
          first | rfl | simp only [f45, f49, a_g50]
        refine (Base_nil _ _ _ _).mono ?_
        rintro e w1 ⟨rfl, hb⟩
        refine ⟨_, rfl, ?_⟩
        exact hK.out _ _ hb rfl (fun h => by cases h)
      refine StepsP.cons ?_ ?_
      · intro Q s w hC hA K hK
        clear hC
        obtain ⟨f45, f51, -⟩ := hA
        replace f45 : (s 66) = .bool true := f45
        replace f51 : (s 72) = .int .i64 0 := f51
        refine guard_on (d := 66) (want := true) (by rfl) (by rfl) ?_ ?_
        · exact f45
        refine wp_value (v := .bool true) (w1 := w) ?_ (hK.out _ w (Below.refl _ _) rfl (fun h => by cases h))
        try simp only [f45, f51]
        go_simp
        try (first | done | rfl | (simp; done))
      refine StepsP.cons ?_ ?_
      · intro Q s w hC hA K hK
        clear hC
        obtain ⟨f45, f52, -⟩ := hA
        replace f45 : (s 66) = .bool true := f45
        replace f52 : (s 73) = .bool true := f52
        refine guard_none (by rfl) ?_
        refine wp_value (v := .bool true) (w1 := w) ?_ (hK.out _ w (Below.refl _ _) rfl (fun h => by cases h))
        try simp only [f45, f52]
        go_simp
        try (first | done | rfl | (simp; done))
      refine StepsP.cons ?_ ?_
      · intro Q s w hC hA K hK
        clear hC
        obtain ⟨f53, -⟩ := hA
        replace f53 : (s 74) = .bool true := f53
        refine guard_none (by rfl) ?_
        refine wp_value (v := .bool true) (w1 := w) ?_ (hK.out _ w (Below.refl _ _) rfl (fun h => by cases h))
        try simp only [f53]
        go_simp
        try (first | done | rfl | (simp; done))
      exact StepsP.nil
    obtain ⟨hsz, hk_gz, lt_gz, hk_g7, lt_g7, hk_g8, lt_g8, hbw⟩ := hC
    obtain ⟨f54, -⟩ := hA
    replace f54 : (s 4) = .bool true := f54
    refine act_eq (b' := ?b15) ?h15 ?q15
    case h15 => simp only [f54]; rfl
    go_wp2
    go_ret
    subst hw0
    exact ⟨rfl, hbw⟩
end Go.Proofs.Ytcmdhkefenjldaa
