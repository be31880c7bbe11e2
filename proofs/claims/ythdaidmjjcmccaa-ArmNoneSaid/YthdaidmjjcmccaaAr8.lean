/- Proved here: lemmas and contracts (what a function of the program computes) that the proofs of the laws of this seat lean on. Conditions: as each theorem states. -/
import Derived.Test.YthdaidmjjcmccaaAr7
import Derived.Test.YthdaidmjjcmccaaLin
set_option linter.unusedVariables false
set_option linter.unusedSimpArgs false
namespace Go.Proofs.Ythdaidmjjcmccaa
open Go.RowKit Go.Pk Go.Proofs.YthdaidmjjcmccaaW.PrintLast
set_option maxHeartbeats 4000000 in
set_option maxRecDepth 100000 in
theorem aSource_none (L : Value) (w : World) (hN : Calls Try.prog 85 #[L] w fun e w' => e = .returned (.bool true) ∧ w' = w) : Calls Try.prog 42 #[L] w fun e w' => e = .returned (.int .i64 0) ∧ w' = w := by
  replace hN := hidI hN
  go_enter Try.func42, Try.ntmps42
  go_wp2_with fail
  refine hN.out.mono ?_
  rintro e W2 ⟨rfl, hW2⟩
  subst hW2
  go_wp2
  go_ret
  exact ⟨rfl, rfl⟩
set_option maxHeartbeats 4000000 in
set_option maxRecDepth 100000 in
theorem aSince_none (L : Value) (w : World) (hN : Calls Try.prog 85 #[L] w fun e w' => e = .returned (.bool true) ∧ w' = w) : Calls Try.prog 43 #[L] w fun e w' => e = .returned (.int .i64 0) ∧ w' = w := by
  replace hN := hidI hN
  go_enter Try.func43, Try.ntmps43
  go_wp2_with fail
  refine hN.out.mono ?_
  rintro e W2 ⟨rfl, hW2⟩
  subst hW2
  go_wp2
  go_ret
  exact ⟨rfl, rfl⟩
set_option maxHeartbeats 4000000 in
set_option maxRecDepth 100000 in
theorem aCounts_none (L : Value) (w : World) (hN : Calls Try.prog 85 #[L] w fun e w' => e = .returned (.bool true) ∧ w' = w) : Calls Try.prog 40 #[L] w fun e w' => e = .returned (.tuple #[.int .i64 0, .int .i64 0]) ∧ w' = w := by
  replace hN := hidI hN
  go_enter Try.func40, Try.ntmps40
  go_wp2_with fail
  refine hN.out.mono ?_
  rintro e W2 ⟨rfl, hW2⟩
  subst hW2
  go_wp2
  go_ret2
  exact ⟨rfl, rfl⟩
set_option maxHeartbeats 4000000 in
set_option maxRecDepth 100000 in
theorem aReset_none (L : Value) (w : World) (hN : Calls Try.prog 85 #[L] w fun e w' => e = .returned (.bool true) ∧ w' = w) : Calls Try.prog 39 #[L] w fun e w' => e = .returned (.tuple #[]) ∧ w' = w := by
  replace hN := hidI hN
  go_enter Try.func39, Try.ntmps39
  go_wp2_with fail
  refine hN.out.mono ?_
  rintro e W2 ⟨rfl, hW2⟩
  subst hW2
  go_wp2
  go_end0
  exact ⟨rfl, rfl⟩
set_option maxHeartbeats 8000000 in
set_option maxRecDepth 100000 in
theorem aDecide_none (L B X : Value) (w : World) (hN : ∀ W, Below w.heap.size w W → Calls Try.prog 85 #[L] W fun e w' => e = .returned (.bool true) ∧ w' = W) : Calls Try.prog 38 #[L, B, X] w fun e w' => e = .returned (.agg #[.int .i64 0, .int .i64 1, .int .i64 1]) ∧ Below w.heap.size w w' := by
  replace hN := hidI hN
  go_enter Try.func38, Try.ntmps38
  go_upto_region 1 with fail
  have hk_gr := blk_new w (.cells #[.int .i64 0, .int .i64 0, .int .i64 0] 73)
  have hbw := bl_alloc (Below.refl w.heap.size w) (.cells #[.int .i64 0, .int .i64 0, .int .i64 0] 73)
  have hN2 := hidI (hN.out _ hbw)
  generalize w.alloc (.cells #[.int .i64 0, .int .i64 0, .int .i64 0] 73) = W1 at *
  obtain ⟨gr, hgr⟩ : ∃ g, w.heap.size = g := ⟨_, rfl⟩
  have hwg : w.heap.size ≤ gr := by omega
  rw [hgr] at hk_gr
  rw [hgr]
  clear hgr
  go_wp2_with fail
  refine hN2.out.mono ?_
  rintro e W2 ⟨rfl, hW2⟩
  subst hW2
  have y0 : W2.cell? ⟨gr, 0, none⟩ = some (.int .i64 0) := blk_cell hk_gr 0 (by rfl)
  have y1 : W2.cell? ⟨gr, 1, none⟩ = some (.int .i64 0) := blk_cell hk_gr 1 (by rfl)
  have y2 : W2.cell? ⟨gr, 2, none⟩ = some (.int .i64 0) := blk_cell hk_gr 2 (by rfl)
  have z0 := blkf hk_gr 0
  have z1 := blkf hk_gr 1
  have z2 := blkf hk_gr 2
  go_wp2
  refine bodyPost_ret (results_cell_row rfl _ _ gr 73 #[.int .i64 0, .int .i64 1, .int .i64 1] (0, 0) _ rfl (blk_set (blk_set (blk_set hk_gr 0 (.int .i64 0)) 1 (.int .i64 1)) 2 (.int .i64 1)) Try.underlying73 rfl (by kernel_rfl)) rfl ?_
  exact ⟨rfl, bl_set (bl_set (bl_set hbw (p := ⟨gr, 0, none⟩) hwg (.int .i64 0)) (p := ⟨gr, 1, none⟩) hwg (.int .i64 1)) (p := ⟨gr, 2, none⟩) hwg (.int .i64 1)⟩
set_option maxHeartbeats 8000000 in
set_option maxRecDepth 100000 in
theorem aForce_none (L B X : Value) (w : World) (hN : ∀ W, Below w.heap.size w W → Calls Try.prog 85 #[L] W fun e w' => e = .returned (.bool true) ∧ w' = W) : Calls Try.prog 41 #[L, B, X] w fun e w' => e = .returned (.agg #[.int .i64 0, .int .i64 1, .int .i64 1]) ∧ Below w.heap.size w w' := by
  replace hN := hidI hN
  go_enter Try.func41, Try.ntmps41
  go_upto_region 1 with fail
  have hk_gr := blk_new w (.cells #[.int .i64 0, .int .i64 0, .int .i64 0] 73)
  have hbw := bl_alloc (Below.refl w.heap.size w) (.cells #[.int .i64 0, .int .i64 0, .int .i64 0] 73)
  have hN2 := hidI (hN.out _ hbw)
  generalize w.alloc (.cells #[.int .i64 0, .int .i64 0, .int .i64 0] 73) = W1 at *
  obtain ⟨gr, hgr⟩ : ∃ g, w.heap.size = g := ⟨_, rfl⟩
  have hwg : w.heap.size ≤ gr := by omega
  rw [hgr] at hk_gr
  rw [hgr]
  clear hgr
  go_wp2_with fail
  refine hN2.out.mono ?_
  rintro e W2 ⟨rfl, hW2⟩
  subst hW2
  have y0 : W2.cell? ⟨gr, 0, none⟩ = some (.int .i64 0) := blk_cell hk_gr 0 (by rfl)
  have y1 : W2.cell? ⟨gr, 1, none⟩ = some (.int .i64 0) := blk_cell hk_gr 1 (by rfl)
  have y2 : W2.cell? ⟨gr, 2, none⟩ = some (.int .i64 0) := blk_cell hk_gr 2 (by rfl)
  have z0 := blkf hk_gr 0
  have z1 := blkf hk_gr 1
  have z2 := blkf hk_gr 2
  go_wp2
  refine bodyPost_ret (results_cell_row rfl _ _ gr 73 #[.int .i64 0, .int .i64 1, .int .i64 1] (0, 0) _ rfl (blk_set (blk_set (blk_set hk_gr 0 (.int .i64 0)) 1 (.int .i64 1)) 2 (.int .i64 1)) Try.underlying73 rfl (by kernel_rfl)) rfl ?_
  exact ⟨rfl, bl_set (bl_set (bl_set hbw (p := ⟨gr, 0, none⟩) hwg (.int .i64 0)) (p := ⟨gr, 1, none⟩) hwg (.int .i64 1)) (p := ⟨gr, 2, none⟩) hwg (.int .i64 1)⟩
set_option maxHeartbeats 8000000 in
set_option maxRecDepth 100000 in
theorem ANone_walk (b : ByteArray) (lx : List Int) (ax : Option Addr) (cx : Nat) (w : World) :
    Calls Try.prog 9 #[.string b, .slice ax lx.length cx] w fun e w' => e = .returned (.bool true) ∧ Below w.heap.size w w' := by
  obtain ⟨w0, hw0⟩ : ∃ z : World, z = w := ⟨_, rfl⟩
  have hbw : Below w0.heap.size w0 w := by rw [hw0]; exact Below.refl _ _
  by_cases h1 : 60 < lx.length
  · have d1 : decide ((60 : Int) < (lx.length : Int)) = true := decide_eq_true (by omega)
    go_enter Try.func9, Try.ntmps9
    go_wp2_with fail
    refine (alive20_calls _).mono ?_
    rintro e wz ⟨rfl, hbz⟩
    replace hbw := bl_step hbw hbz
    subst hw0
    go_wp2
    go_ret
    exact ⟨rfl, hbw⟩
  have d1 : decide ((60 : Int) < (lx.length : Int)) = false := decide_eq_false (by omega)
  by_cases h2 : 300 < b.size
  · have d2 : decide ((300 : Int) < (b.size : Int)) = true := decide_eq_true (by omega)
    go_enter Try.func9, Try.ntmps9
    go_wp2_with fail
    refine (alive20_calls _).mono ?_
    rintro e wz ⟨rfl, hbz⟩
    replace hbw := bl_step hbw hbz
    subst hw0
    go_wp2
    go_ret
    exact ⟨rfl, hbw⟩
  have d2 : decide ((300 : Int) < (b.size : Int)) = false := decide_eq_false (by omega)
  go_enter Try.func9, Try.ntmps9
  go_upto_region 6 with fail
  have hk_gz := blk_alloc (blk_new w (.cells #[.pointer none, .int .i64 0, .int .i64 0, .int .i64 0, .int .i64 0, .int .i64 0, .slice none 0 0] 78)) (.cells #[.int .i64 0, .int .i64 1, .int .i64 1] 73)
  have hk_g7 : ((w.alloc (.cells #[.pointer none, .int .i64 0, .int .i64 0, .int .i64 0, .int .i64 0, .int .i64 0, .slice none 0 0] 78)).alloc (.cells #[.int .i64 0, .int .i64 1, .int .i64 1] 73)).heap[w.heap.size + 1]? = some (.cells #[.int .i64 0, .int .i64 1, .int .i64 1] 73) := by have h_ := blk_new (w.alloc (.cells #[.pointer none, .int .i64 0, .int .i64 0, .int .i64 0, .int .i64 0, .int .i64 0, .slice none 0 0] 78)) (.cells #[.int .i64 0, .int .i64 1, .int .i64 1] 73); simpa using h_
  replace hbw := bl_alloc (bl_alloc hbw (.cells #[.pointer none, .int .i64 0, .int .i64 0, .int .i64 0, .int .i64 0, .int .i64 0, .slice none 0 0] 78)) (.cells #[.int .i64 0, .int .i64 1, .int .i64 1] 73)
  generalize (w.alloc (.cells #[.pointer none, .int .i64 0, .int .i64 0, .int .i64 0, .int .i64 0, .int .i64 0, .slice none 0 0] 78)).alloc (.cells #[.int .i64 0, .int .i64 1, .int .i64 1] 73) = W2 at *
  generalize w.heap.size + 1 = g7 at *
  generalize w.heap.size = gz at *
  have hNz := hidI (aNone_zero gz _ _ _ _ _ _ W2 hk_gz)
  go_wp2_with fail
  refine (aReset_none _ _ (aNone_nil _)).mono ?_
  rintro e w3 ⟨rfl, hw3⟩
  subst hw3
  go_wp2_with fail
  refine (aReset_none _ _ hNz.out).mono ?_
  rintro e w4 ⟨rfl, hw4⟩
  subst hw4
  go_wp2_with fail
  refine (aCounts_none _ _ (aNone_nil _)).mono ?_
  rintro e w5 ⟨rfl, hw5⟩
  subst hw5
  go_wp2_with fail
  refine (aCounts_none _ _ hNz.out).mono ?_
  rintro e w6 ⟨rfl, hw6⟩
  subst hw6
  clear hNz
  go_upto_region 10 with fail
  obtain ⟨B0, hB0⟩ : ∃ B, B = w6.heap.size := ⟨_, rfl⟩
  have c0_hsz : B0 ≤ w6.heap.size := Nat.le_of_eq hB0
  have hw0B0 : w0.heap.size ≤ B0 := by rw [hB0]; exact hbw.size
  have c0_hle : w6.heap.size ≤ B0 := Nat.le_of_eq hB0.symm
  have c0_hk_gz := blk_drew hk_gz
  have c0_lt_gz : gz < B0 := by rw [hB0]; exact blk_lt hk_gz
  have c0_hk_g7 := blk_drew hk_g7
  have c0_lt_g7 : g7 < B0 := by rw [hB0]; exact blk_lt hk_g7
  have c0_hbw := bl_drew hbw
  clear hB0 hbw hk_gz hk_g7
  refine region_lin (n := 63) (st := ?st17) { R := [0, 1, 3, 3, 3, 31, 3, 127, 255, 511, 1023, 1023, 1023, 8191, 1023, 32767, 65535, 131071, 262143, 262143, 1048575, 262143, 4194303, 8388607, 16777215, 33554431, 33554431, 134217727, 33554431, 536870911, 1073741823, 2147483647, 4294967295, 8589934591, 4294967295, 34359738367, 68719476735, 4294967295, 206158430207, 549755813887, 4294967295, 1580547964927, 4398046511103, 4294967295, 17592186044415, 4294967295, 70368744177663, 4294967295, 281474976710655, 4294967295, 1125899906842623, 2251799813685247, 4503599627370495, 9007199254740991, 18014398509481983, 36028797018963967, 72057594037927935, 144115188075855871, 288230376151711743, 576460752303423487, 1152921504606846975, 2305843009213693951, 4611686018427387903], kill := [[], [], [], [], [], [], [], [], [], [], [], [], [], [], [], [], [], [], [], [], [], [], [], [], [], [], [], [], [], [], [], [], [], [], [], [], [], [], [], [], [], [], [], [], [], [], [], [], [], [], [], [], [], [], [], [], [], [], [], [], [], [], []], cls := [0, 0, 0, 0, 0, 0, 0, 0, 0, 0, 0, 0, 0, 0, 0, 0, 0, 0, 0, 0, 0, 0, 0, 0, 0, 0, 0, 0, 0, 0, 0, 0, 0, 0, 0, 0, 0, 0, 0, 0, 0, 0, 0, 0, 0, 0, 0, 0, 0, 0, 0, 0, 0, 0, 0, 0, 0, 0, 0, 0, 0, 0, 0], dst := [some 38, some 39, some 40, some 41, some 42, some 43, some 44, some 45, some 46, some 47, some 48, some 49, some 50, some 51, some 52, some 53, some 54, some 55, some 56, some 57, some 58, some 59, some 60, some 61, some 62, some 63, some 64, some 65, some 66, some 67, some 68, some 69, some 70, some 71, some 72, some 73, some 74, some 75, some 76, some 77, some 78, some 79, some 80, some 81, some 82, some 83, some 84, some 85, some 86, some 87, some 88, some 89, some 90, some 91, some 92, some 93, some 94, some 95, some 96, some 97, some 98, some 99, some 4], pre := [[], [0], [1], [1], [1], [1, 2, 3, 4], [1], [1, 5, 6], [1, 7], [8], [9], [9], [9], [9, 10, 11, 12], [9], [9, 13, 14], [9, 15], [16], [17], [17], [17, 18, 19], [17], [17, 20, 21], [17, 22], [23], [24], [24], [24, 25, 26], [24], [24, 27, 28], [24, 29], [30], [31], [31, 32], [31], [31, 34], [31, 33, 35], [31], [31, 37], [31, 36, 38], [31], [31, 40], [31, 39, 41], [31], [31, 42, 43], [31], [31, 44, 45], [31], [31, 46, 47], [31], [31, 48, 49], [31, 50], [31, 51], [52], [53], [53, 54], [53, 55], [53, 56], [53, 57], [53, 58], [53, 59], [53, 60], [61]], cov := [], fin := [62], locs := [], tgt := [none], abt := [none, none, none, none, none, none, none, none, none, none, none, none, none, none, none, none, none, none, none, none, none, none, none, none, none, none, none, none, none, none, none, none, none, none, none, none, none, none, none, none, none, none, none, none, none, none, none, none, none, none, none, none, none, none, none, none, none, none, none, none, none, none, none] }
    [.v [38] (fun vs => (vs.getD 0 undef) = .bool true),
     .v [39] (fun vs => (vs.getD 0 undef) = .bool true),
     .v [40] (fun vs => (vs.getD 0 undef) = .pointer none),
     .v [41] (fun vs => (vs.getD 0 undef) = .string b),
     .v [42] (fun vs => (vs.getD 0 undef) = .slice ax lx.length cx),
     .v [43] (fun vs => (vs.getD 0 undef) = .agg #[.int .i64 0, .int .i64 1, .int .i64 1]),
     .v [44] (fun vs => (vs.getD 0 undef) = .agg #[.int .i64 0, .int .i64 1, .int .i64 1]),
     .v [45] (fun vs => (vs.getD 0 undef) = .bool true),
     .v [46] (fun vs => (vs.getD 0 undef) = .bool true),
     .v [47] (fun vs => (vs.getD 0 undef) = .bool true),
     .v [48] (fun vs => (vs.getD 0 undef) = .pointer (some ⟨gz, 0, none⟩)),
     .v [49] (fun vs => (vs.getD 0 undef) = .string b),
     .v [50] (fun vs => (vs.getD 0 undef) = .slice ax lx.length cx),
     .v [51] (fun vs => (vs.getD 0 undef) = .agg #[.int .i64 0, .int .i64 1, .int .i64 1]),
     .v [52] (fun vs => (vs.getD 0 undef) = .agg #[.int .i64 0, .int .i64 1, .int .i64 1]),
     .v [53] (fun vs => (vs.getD 0 undef) = .bool true),
     .v [54] (fun vs => (vs.getD 0 undef) = .bool true),
     .v [55] (fun vs => (vs.getD 0 undef) = .bool true),
     .v [56] (fun vs => (vs.getD 0 undef) = .pointer none),
     .v [57] (fun vs => (vs.getD 0 undef) = .slice ax lx.length cx),
     .v [58] (fun vs => (vs.getD 0 undef) = .agg #[.int .i64 0, .int .i64 1, .int .i64 1]),
     .v [59] (fun vs => (vs.getD 0 undef) = .agg #[.int .i64 0, .int .i64 1, .int .i64 1]),
     .v [60] (fun vs => (vs.getD 0 undef) = .bool true),
     .v [61] (fun vs => (vs.getD 0 undef) = .bool true),
     .v [62] (fun vs => (vs.getD 0 undef) = .bool true),
     .v [63] (fun vs => (vs.getD 0 undef) = .pointer (some ⟨gz, 0, none⟩)),
     .v [64] (fun vs => (vs.getD 0 undef) = .slice ax lx.length cx),
     .v [65] (fun vs => (vs.getD 0 undef) = .agg #[.int .i64 0, .int .i64 1, .int .i64 1]),
     .v [66] (fun vs => (vs.getD 0 undef) = .agg #[.int .i64 0, .int .i64 1, .int .i64 1]),
     .v [67] (fun vs => (vs.getD 0 undef) = .bool true),
     .v [68] (fun vs => (vs.getD 0 undef) = .bool true),
     .v [69] (fun vs => (vs.getD 0 undef) = .bool true),
     .v [70] (fun vs => (vs.getD 0 undef) = .pointer none),
     .v [71] (fun vs => (vs.getD 0 undef) = .int .i64 0),
     .v [72] (fun vs => (vs.getD 0 undef) = .pointer (some ⟨gz, 0, none⟩)),
     .v [73] (fun vs => (vs.getD 0 undef) = .int .i64 0),
     .v [74] (fun vs => (vs.getD 0 undef) = .int .i64 0),
     .v [75] (fun vs => (vs.getD 0 undef) = .pointer none),
     .v [76] (fun vs => (vs.getD 0 undef) = .int .i64 0),
     .v [77] (fun vs => (vs.getD 0 undef) = .int .i64 0),
     .v [78] (fun vs => (vs.getD 0 undef) = .pointer (some ⟨gz, 0, none⟩)),
     .v [79] (fun vs => (vs.getD 0 undef) = .int .i64 0),
     .v [80] (fun vs => (vs.getD 0 undef) = .int .i64 0),
     .v [81] (fun vs => (vs.getD 0 undef) = .int .i64 0),
     .v [82] (fun vs => (vs.getD 0 undef) = .int .i64 0),
     .v [83] (fun vs => (vs.getD 0 undef) = .int .i64 0),
     .v [84] (fun vs => (vs.getD 0 undef) = .int .i64 0),
     .v [85] (fun vs => (vs.getD 0 undef) = .int .i64 0),
     .v [86] (fun vs => (vs.getD 0 undef) = .int .i64 0),
     .v [87] (fun vs => (vs.getD 0 undef) = .int .i64 0),
     .v [88] (fun vs => (vs.getD 0 undef) = .int .i64 0),
     .v [89] (fun vs => (vs.getD 0 undef) = .bool true),
     .v [90] (fun vs => (vs.getD 0 undef) = .bool true),
     .v [91] (fun vs => (vs.getD 0 undef) = .bool true),
     .v [92] (fun vs => (vs.getD 0 undef) = .pointer (some ⟨gz, 0, none⟩)),
     .v [93] (fun vs => (vs.getD 0 undef) = .pointer (some ⟨gz, 0, none⟩)),
     .v [94] (fun vs => (vs.getD 0 undef) = .pointer (some ⟨gz, 0, none⟩)),
     .v [95] (fun vs => (vs.getD 0 undef) = .pointer none),
     .v [96] (fun vs => (vs.getD 0 undef) = .agg #[.int .i64 2, .int .i64 0, .slice none 0 0]),
     .v [97] (fun vs => (vs.getD 0 undef) = .int .i64 2),
     .v [98] (fun vs => (vs.getD 0 undef) = .bool true),
     .v [99] (fun vs => (vs.getD 0 undef) = .bool true),
     .v [4] (fun vs => (vs.getD 0 undef) = .bool true)]
    (fun w => B0 ≤ w.heap.size ∧ w.heap[gz]? = some (.cells #[.pointer none, .int .i64 0, .int .i64 0, .int .i64 0, .int .i64 0, .int .i64 0, .slice none 0 0] 78 (0, 0)) ∧ gz < B0 ∧ w.heap[g7]? = some (.cells #[.int .i64 0, .int .i64 1, .int .i64 1] 73 (0, 0)) ∧ g7 < B0 ∧ Below w0.heap.size w0 w)
    (fun c => ([fun s w w' => Below w.heap.size w w'] : List ((Nat → Value) → World → World → Prop)).getD c (fun s w w' => w' = w))
    [4, 38, 39, 40, 41, 42, 43, 44, 45, 46, 47, 48, 49, 50, 51, 52, 53, 54, 55, 56, 57, 58, 59, 60, 61, 62, 63, 64, 65, 66, 67, 68, 69, 70, 71, 72, 73, 74, 75, 76, 77, 78, 79, 80, 81, 82, 83, 84, 85, 86, 87, 88, 89, 90, 91, 92, 93, 94, 95, 96, 97, 98, 99] (by kernel_rfl) ⟨by kernel_rfl, by kernel_rfl, by kernel_rfl, by kernel_rfl, by kernel_rfl, by kernel_rfl, by kernel_rfl, by kernel_rfl⟩ (fun s => ?_) ?_ ?_ ?_ ?_ ?_ (fun s w hC hA => ?_)
  rotate_left
  · simp only [fillS, List.foldl, List.setIfInBounds_toArray, List.set_cons_zero, List.set_cons_succ]; rfl
  · exact ⟨c0_hsz, c0_hk_gz, c0_lt_gz, c0_hk_g7, c0_lt_g7, c0_hbw⟩
  · intro c s w w' hE
    match c, hE with
    | 0, hE => exact Below.size hE
    | c + 1, hE => cases hE; exact Nat.le_refl _
  · rintro c s w w' ⟨hsz, hk_gz, lt_gz, hk_g7, lt_g7, hbw⟩ hE
    match c, hE with
    | 0, hE => replace hE : Below w.heap.size w w' := hE; exact ⟨Nat.le_trans hsz hE.size, bl_block hE hk_gz, lt_gz, bl_block hE hk_g7, lt_g7, bl_step hbw hE⟩
    | c + 1, hE => cases hE; exact ⟨hsz, hk_gz, lt_gz, hk_g7, lt_g7, hbw⟩
  · exact trivial
  · skip
    refine StepsP.cons ?_ ?_
    · intro Q s w hC hA K hK
      obtain ⟨hsz, hk_gz, lt_gz, hk_g7, lt_g7, hbw⟩ := hC
      clear hA
      refine guard_none (by rfl) ?_
      refine wp_call (N := some 38) (by rfl) Try.func37 (by kernel_rfl) #[] rfl (by rfl) ?_ ?_
      · show [] = []
        first | rfl | simp only []
      refine (alive20_calls _).mono ?_
      rintro e w1 ⟨rfl, hb⟩
      refine ⟨_, rfl, ?_⟩
      exact hK.out _ _ hb rfl (fun h => by cases h)
    refine StepsP.cons ?_ ?_
    · intro Q s w hC hA K hK
      clear hC
      obtain ⟨f0, -⟩ := hA
      replace f0 : (s 38) = .bool true := f0
      refine guard_none (by rfl) ?_
      refine wp_value (v := .bool true) (w1 := w) ?_ (hK.out _ w (Below.refl _ _) rfl (fun h => by cases h))
      try simp only [f0]
      go_simp
      try (first | done | rfl | (simp; done))
    refine StepsP.cons ?_ ?_
    · intro Q s w hC hA K hK
      clear hC
      obtain ⟨f1, -⟩ := hA
      replace f1 : (s 39) = .bool true := f1
      refine guard_on (d := 39) (want := true) (by rfl) (by rfl) ?_ ?_
      · exact f1
      refine wp_value (v := .pointer none) (w1 := w) ?_ (hK.out _ w (Below.refl _ _) rfl (fun h => by cases h))
      try simp only [f1]
      go_simp
      try (first | done | rfl | (simp; done))
    refine StepsP.cons ?_ ?_
    · intro Q s w hC hA K hK
      clear hC
      obtain ⟨f1, -⟩ := hA
      replace f1 : (s 39) = .bool true := f1
      refine guard_on (d := 39) (want := true) (by rfl) (by rfl) ?_ ?_
      · exact f1
      refine wp_value (v := .string b) (w1 := w) ?_ (hK.out _ w (Below.refl _ _) rfl (fun h => by cases h))
      try simp only [f1]
      go_simp
      try (first | done | rfl | (simp; done))
    refine StepsP.cons ?_ ?_
    · intro Q s w hC hA K hK
      clear hC
      obtain ⟨f1, -⟩ := hA
      replace f1 : (s 39) = .bool true := f1
      refine guard_on (d := 39) (want := true) (by rfl) (by rfl) ?_ ?_
      · exact f1
      refine wp_value (v := .slice ax lx.length cx) (w1 := w) ?_ (hK.out _ w (Below.refl _ _) rfl (fun h => by cases h))
      try simp only [f1]
      go_simp
      try (first | done | rfl | (simp; done))
    refine StepsP.cons ?_ ?_
    · intro Q s w hC hA K hK
      obtain ⟨hsz, hk_gz, lt_gz, hk_g7, lt_g7, hbw⟩ := hC
      obtain ⟨f1, f2, f3, f4, -⟩ := hA
      replace f1 : (s 39) = .bool true := f1
      replace f2 : (s 40) = .pointer none := f2
      replace f3 : (s 41) = .string b := f3
      replace f4 : (s 42) = .slice ax lx.length cx := f4
      refine guard_on (d := 39) (want := true) (by rfl) (by rfl) ?_ ?_
      · exact f1
      refine wp_call (N := some 43) (by rfl) Try.func38 (by kernel_rfl) #[.pointer none, .string b, .slice ax lx.length cx] rfl (by rfl) ?_ ?_
      · show [s 40, s 41, s 42] = [.pointer none, .string b, .slice ax lx.length cx]
        first | rfl | simp only [f1, f2, f3, f4]
      refine (aDecide_none _ _ _ _ (fun W h => aNone_nil W)).mono ?_
      rintro e w1 ⟨rfl, hb⟩
      refine ⟨_, rfl, ?_⟩
      exact hK.out _ _ hb rfl (fun h => by cases h)
    refine StepsP.cons ?_ ?_
    · intro Q s w hC hA K hK
      obtain ⟨hsz, hk_gz, lt_gz, hk_g7, lt_g7, hbw⟩ := hC
      obtain ⟨f1, -⟩ := hA
      replace f1 : (s 39) = .bool true := f1
      refine guard_on (d := 39) (want := true) (by rfl) (by rfl) ?_ ?_
      · exact f1
      have m0_g7 : w.cell? ⟨g7, 0, none⟩ = some (.int .i64 0) := blk_cell hk_g7 0 (by rfl)
      have m1_g7 : w.cell? ⟨g7, 1, none⟩ = some (.int .i64 1) := blk_cell hk_g7 1 (by rfl)
      have m2_g7 : w.cell? ⟨g7, 2, none⟩ = some (.int .i64 1) := blk_cell hk_g7 2 (by rfl)
      refine wp_value (v := .agg #[.int .i64 0, .int .i64 1, .int .i64 1]) (w1 := w) ?_ (hK.out _ w (Below.refl _ _) rfl (fun h => by cases h))
      try simp only [f1]
      go_simp
      try (first | done | rfl | (simp; done))
    refine StepsP.cons ?_ ?_
    · intro Q s w hC hA K hK
      clear hC
      obtain ⟨f1, f5, f6, -⟩ := hA
      replace f1 : (s 39) = .bool true := f1
      replace f5 : (s 43) = .agg #[.int .i64 0, .int .i64 1, .int .i64 1] := f5
      replace f6 : (s 44) = .agg #[.int .i64 0, .int .i64 1, .int .i64 1] := f6
      refine guard_on (d := 39) (want := true) (by rfl) (by rfl) ?_ ?_
      · exact f1
      refine wp_value (v := .bool true) (w1 := w) ?_ (hK.out _ w (Below.refl _ _) rfl (fun h => by cases h))
      try simp only [f1, f5, f6]
      go_simp
      try (first | done | rfl | (simp; done))
    refine StepsP.cons ?_ ?_
    · intro Q s w hC hA K hK
      clear hC
      obtain ⟨f1, f7, -⟩ := hA
      replace f1 : (s 39) = .bool true := f1
      replace f7 : (s 45) = .bool true := f7
      refine guard_none (by rfl) ?_
      refine wp_value (v := .bool true) (w1 := w) ?_ (hK.out _ w (Below.refl _ _) rfl (fun h => by cases h))
      try simp only [f1, f7]
      go_simp
      try (first | done | rfl | (simp; done))
    refine StepsP.cons ?_ ?_
    · intro Q s w hC hA K hK
      clear hC
      obtain ⟨f8, -⟩ := hA
      replace f8 : (s 46) = .bool true := f8
      refine guard_none (by rfl) ?_
      refine wp_value (v := .bool true) (w1 := w) ?_ (hK.out _ w (Below.refl _ _) rfl (fun h => by cases h))
      try simp only [f8]
      go_simp
      try (first | done | rfl | (simp; done))
    refine StepsP.cons ?_ ?_
    · intro Q s w hC hA K hK
      clear hC
      obtain ⟨f9, -⟩ := hA
      replace f9 : (s 47) = .bool true := f9
      refine guard_on (d := 47) (want := true) (by rfl) (by rfl) ?_ ?_
      · exact f9
      refine wp_value (v := .pointer (some ⟨gz, 0, none⟩)) (w1 := w) ?_ (hK.out _ w (Below.refl _ _) rfl (fun h => by cases h))
      try simp only [f9]
      go_simp
      try (first | done | rfl | (simp; done))
    refine StepsP.cons ?_ ?_
    · intro Q s w hC hA K hK
      clear hC
      obtain ⟨f9, -⟩ := hA
      replace f9 : (s 47) = .bool true := f9
      refine guard_on (d := 47) (want := true) (by rfl) (by rfl) ?_ ?_
      · exact f9
      refine wp_value (v := .string b) (w1 := w) ?_ (hK.out _ w (Below.refl _ _) rfl (fun h => by cases h))
      try simp only [f9]
      go_simp
      try (first | done | rfl | (simp; done))
    refine StepsP.cons ?_ ?_
    · intro Q s w hC hA K hK
      clear hC
      obtain ⟨f9, -⟩ := hA
      replace f9 : (s 47) = .bool true := f9
      refine guard_on (d := 47) (want := true) (by rfl) (by rfl) ?_ ?_
      · exact f9
      refine wp_value (v := .slice ax lx.length cx) (w1 := w) ?_ (hK.out _ w (Below.refl _ _) rfl (fun h => by cases h))
      try simp only [f9]
      go_simp
      try (first | done | rfl | (simp; done))
    refine StepsP.cons ?_ ?_
    · intro Q s w hC hA K hK
      obtain ⟨hsz, hk_gz, lt_gz, hk_g7, lt_g7, hbw⟩ := hC
      obtain ⟨f9, f10, f11, f12, -⟩ := hA
      replace f9 : (s 47) = .bool true := f9
      replace f10 : (s 48) = .pointer (some ⟨gz, 0, none⟩) := f10
      replace f11 : (s 49) = .string b := f11
      replace f12 : (s 50) = .slice ax lx.length cx := f12
      refine guard_on (d := 47) (want := true) (by rfl) (by rfl) ?_ ?_
      · exact f9
      refine wp_call (N := some 51) (by rfl) Try.func38 (by kernel_rfl) #[.pointer (some ⟨gz, 0, none⟩), .string b, .slice ax lx.length cx] rfl (by rfl) ?_ ?_
      · show [s 48, s 49, s 50] = [.pointer (some ⟨gz, 0, none⟩), .string b, .slice ax lx.length cx]
        first | rfl | simp only [f9, f10, f11, f12]
      refine (aDecide_none _ _ _ _ (fun W h => aNone_zero gz _ _ _ _ _ _ W (bl_block h hk_gz))).mono ?_
      rintro e w1 ⟨rfl, hb⟩
      refine ⟨_, rfl, ?_⟩
      exact hK.out _ _ hb rfl (fun h => by cases h)
    refine StepsP.cons ?_ ?_
    · intro Q s w hC hA K hK
      obtain ⟨hsz, hk_gz, lt_gz, hk_g7, lt_g7, hbw⟩ := hC
      obtain ⟨f9, -⟩ := hA
      replace f9 : (s 47) = .bool true := f9
      refine guard_on (d := 47) (want := true) (by rfl) (by rfl) ?_ ?_
      · exact f9
      have m0_g7 : w.cell? ⟨g7, 0, none⟩ = some (.int .i64 0) := blk_cell hk_g7 0 (by rfl)
      have m1_g7 : w.cell? ⟨g7, 1, none⟩ = some (.int .i64 1) := blk_cell hk_g7 1 (by rfl)
      have m2_g7 : w.cell? ⟨g7, 2, none⟩ = some (.int .i64 1) := blk_cell hk_g7 2 (by rfl)
      refine wp_value (v := .agg #[.int .i64 0, .int .i64 1, .int .i64 1]) (w1 := w) ?_ (hK.out _ w (Below.refl _ _) rfl (fun h => by cases h))
      try simp only [f9]
      go_simp
      try (first | done | rfl | (simp; done))
    refine StepsP.cons ?_ ?_
    · intro Q s w hC hA K hK
      clear hC
      obtain ⟨f9, f13, f14, -⟩ := hA
      replace f9 : (s 47) = .bool true := f9
      replace f13 : (s 51) = .agg #[.int .i64 0, .int .i64 1, .int .i64 1] := f13
      replace f14 : (s 52) = .agg #[.int .i64 0, .int .i64 1, .int .i64 1] := f14
      refine guard_on (d := 47) (want := true) (by rfl) (by rfl) ?_ ?_
      · exact f9
      refine wp_value (v := .bool true) (w1 := w) ?_ (hK.out _ w (Below.refl _ _) rfl (fun h => by cases h))
      try simp only [f9, f13, f14]
      go_simp
      try (first | done | rfl | (simp; done))
    refine StepsP.cons ?_ ?_
    · intro Q s w hC hA K hK
      clear hC
      obtain ⟨f9, f15, -⟩ := hA
      replace f9 : (s 47) = .bool true := f9
      replace f15 : (s 53) = .bool true := f15
      refine guard_none (by rfl) ?_
      refine wp_value (v := .bool true) (w1 := w) ?_ (hK.out _ w (Below.refl _ _) rfl (fun h => by cases h))
      try simp only [f9, f15]
      go_simp
      try (first | done | rfl | (simp; done))
    refine StepsP.cons ?_ ?_
    · intro Q s w hC hA K hK
      clear hC
      obtain ⟨f16, -⟩ := hA
      replace f16 : (s 54) = .bool true := f16
      refine guard_none (by rfl) ?_
      refine wp_value (v := .bool true) (w1 := w) ?_ (hK.out _ w (Below.refl _ _) rfl (fun h => by cases h))
      try simp only [f16]
      go_simp
      try (first | done | rfl | (simp; done))
    refine StepsP.cons ?_ ?_
    · intro Q s w hC hA K hK
      clear hC
      obtain ⟨f17, -⟩ := hA
      replace f17 : (s 55) = .bool true := f17
      refine guard_on (d := 55) (want := true) (by rfl) (by rfl) ?_ ?_
      · exact f17
      refine wp_value (v := .pointer none) (w1 := w) ?_ (hK.out _ w (Below.refl _ _) rfl (fun h => by cases h))
      try simp only [f17]
      go_simp
      try (first | done | rfl | (simp; done))
    refine StepsP.cons ?_ ?_
    · intro Q s w hC hA K hK
      clear hC
      obtain ⟨f17, -⟩ := hA
      replace f17 : (s 55) = .bool true := f17
      refine guard_on (d := 55) (want := true) (by rfl) (by rfl) ?_ ?_
      · exact f17
      refine wp_value (v := .slice ax lx.length cx) (w1 := w) ?_ (hK.out _ w (Below.refl _ _) rfl (fun h => by cases h))
      try simp only [f17]
      go_simp
      try (first | done | rfl | (simp; done))
    refine StepsP.cons ?_ ?_
    · intro Q s w hC hA K hK
      obtain ⟨hsz, hk_gz, lt_gz, hk_g7, lt_g7, hbw⟩ := hC
      obtain ⟨f17, f18, f19, -⟩ := hA
      replace f17 : (s 55) = .bool true := f17
      replace f18 : (s 56) = .pointer none := f18
      replace f19 : (s 57) = .slice ax lx.length cx := f19
      refine guard_on (d := 55) (want := true) (by rfl) (by rfl) ?_ ?_
      · exact f17
      refine wp_call (N := some 58) (by rfl) Try.func41 (by kernel_rfl) #[.pointer none, .int .i64 1, .slice ax lx.length cx] rfl (by rfl) ?_ ?_
      · show [s 56, .int .i64 1, s 57] = [.pointer none, .int .i64 1, .slice ax lx.length cx]
        first | rfl | simp only [f17, f18, f19]
      refine (aForce_none _ _ _ _ (fun W h => aNone_nil W)).mono ?_
      rintro e w1 ⟨rfl, hb⟩
      refine ⟨_, rfl, ?_⟩
      exact hK.out _ _ hb rfl (fun h => by cases h)
    refine StepsP.cons ?_ ?_
    · intro Q s w hC hA K hK
      obtain ⟨hsz, hk_gz, lt_gz, hk_g7, lt_g7, hbw⟩ := hC
      obtain ⟨f17, -⟩ := hA
      replace f17 : (s 55) = .bool true := f17
      refine guard_on (d := 55) (want := true) (by rfl) (by rfl) ?_ ?_
      · exact f17
      have m0_g7 : w.cell? ⟨g7, 0, none⟩ = some (.int .i64 0) := blk_cell hk_g7 0 (by rfl)
      have m1_g7 : w.cell? ⟨g7, 1, none⟩ = some (.int .i64 1) := blk_cell hk_g7 1 (by rfl)
      have m2_g7 : w.cell? ⟨g7, 2, none⟩ = some (.int .i64 1) := blk_cell hk_g7 2 (by rfl)
      refine wp_value (v := .agg #[.int .i64 0, .int .i64 1, .int .i64 1]) (w1 := w) ?_ (hK.out _ w (Below.refl _ _) rfl (fun h => by cases h))
      try simp only [f17]
      go_simp
      try (first | done | rfl | (simp; done))
    refine StepsP.cons ?_ ?_
    · intro Q s w hC hA K hK
      clear hC
      obtain ⟨f17, f20, f21, -⟩ := hA
      replace f17 : (s 55) = .bool true := f17
      replace f20 : (s 58) = .agg #[.int .i64 0, .int .i64 1, .int .i64 1] := f20
      replace f21 : (s 59) = .agg #[.int .i64 0, .int .i64 1, .int .i64 1] := f21
      refine guard_on (d := 55) (want := true) (by rfl) (by rfl) ?_ ?_
      · exact f17
      refine wp_value (v := .bool true) (w1 := w) ?_ (hK.out _ w (Below.refl _ _) rfl (fun h => by cases h))
      try simp only [f17, f20, f21]
      go_simp
      try (first | done | rfl | (simp; done))
    refine StepsP.cons ?_ ?_
    · intro Q s w hC hA K hK
      clear hC
      obtain ⟨f17, f22, -⟩ := hA
      replace f17 : (s 55) = .bool true := f17
      replace f22 : (s 60) = .bool true := f22
      refine guard_none (by rfl) ?_
      refine wp_value (v := .bool true) (w1 := w) ?_ (hK.out _ w (Below.refl _ _) rfl (fun h => by cases h))
      try simp only [f17, f22]
      go_simp
      try (first | done | rfl | (simp; done))
    refine StepsP.cons ?_ ?_
    · intro Q s w hC hA K hK
      clear hC
      obtain ⟨f23, -⟩ := hA
      replace f23 : (s 61) = .bool true := f23
      refine guard_none (by rfl) ?_
      refine wp_value (v := .bool true) (w1 := w) ?_ (hK.out _ w (Below.refl _ _) rfl (fun h => by cases h))
      try simp only [f23]
      go_simp
      try (first | done | rfl | (simp; done))
    refine StepsP.cons ?_ ?_
    · intro Q s w hC hA K hK
      clear hC
      obtain ⟨f24, -⟩ := hA
      replace f24 : (s 62) = .bool true := f24
      refine guard_on (d := 62) (want := true) (by rfl) (by rfl) ?_ ?_
      · exact f24
      refine wp_value (v := .pointer (some ⟨gz, 0, none⟩)) (w1 := w) ?_ (hK.out _ w (Below.refl _ _) rfl (fun h => by cases h))
      try simp only [f24]
      go_simp
      try (first | done | rfl | (simp; done))
    refine StepsP.cons ?_ ?_
    · intro Q s w hC hA K hK
      clear hC
      obtain ⟨f24, -⟩ := hA
      replace f24 : (s 62) = .bool true := f24
      refine guard_on (d := 62) (want := true) (by rfl) (by rfl) ?_ ?_
      · exact f24
      refine wp_value (v := .slice ax lx.length cx) (w1 := w) ?_ (hK.out _ w (Below.refl _ _) rfl (fun h => by cases h))
      try simp only [f24]
      go_simp
      try (first | done | rfl | (simp; done))
    refine StepsP.cons ?_ ?_
    · intro Q s w hC hA K hK
      obtain ⟨hsz, hk_gz, lt_gz, hk_g7, lt_g7, hbw⟩ := hC
      obtain ⟨f24, f25, f26, -⟩ := hA
      replace f24 : (s 62) = .bool true := f24
      replace f25 : (s 63) = .pointer (some ⟨gz, 0, none⟩) := f25
      replace f26 : (s 64) = .slice ax lx.length cx := f26
      refine guard_on (d := 62) (want := true) (by rfl) (by rfl) ?_ ?_
      · exact f24
      refine wp_call (N := some 65) (by rfl) Try.func41 (by kernel_rfl) #[.pointer (some ⟨gz, 0, none⟩), .int .i64 0, .slice ax lx.length cx] rfl (by rfl) ?_ ?_
      · show [s 63, .int .i64 0, s 64] = [.pointer (some ⟨gz, 0, none⟩), .int .i64 0, .slice ax lx.length cx]
        first | rfl | simp only [f24, f25, f26]
      refine (aForce_none _ _ _ _ (fun W h => aNone_zero gz _ _ _ _ _ _ W (bl_block h hk_gz))).mono ?_
      rintro e w1 ⟨rfl, hb⟩
      refine ⟨_, rfl, ?_⟩
      exact hK.out _ _ hb rfl (fun h => by cases h)
    refine StepsP.cons ?_ ?_
    · intro Q s w hC hA K hK
      obtain ⟨hsz, hk_gz, lt_gz, hk_g7, lt_g7, hbw⟩ := hC
      obtain ⟨f24, -⟩ := hA
      replace f24 : (s 62) = .bool true := f24
      refine guard_on (d := 62) (want := true) (by rfl) (by rfl) ?_ ?_
      · exact f24
      have m0_g7 : w.cell? ⟨g7, 0, none⟩ = some (.int .i64 0) := blk_cell hk_g7 0 (by rfl)
      have m1_g7 : w.cell? ⟨g7, 1, none⟩ = some (.int .i64 1) := blk_cell hk_g7 1 (by rfl)
      have m2_g7 : w.cell? ⟨g7, 2, none⟩ = some (.int .i64 1) := blk_cell hk_g7 2 (by rfl)
      refine wp_value (v := .agg #[.int .i64 0, .int .i64 1, .int .i64 1]) (w1 := w) ?_ (hK.out _ w (Below.refl _ _) rfl (fun h => by cases h))
      try simp only [f24]
      go_simp
      try (first | done | rfl | (simp; done))
    refine StepsP.cons ?_ ?_
    · intro Q s w hC hA K hK
      clear hC
      obtain ⟨f24, f27, f28, -⟩ := hA
      replace f24 : (s 62) = .bool true := f24
      replace f27 : (s 65) = .agg #[.int .i64 0, .int .i64 1, .int .i64 1] := f27
      replace f28 : (s 66) = .agg #[.int .i64 0, .int .i64 1, .int .i64 1] := f28
      refine guard_on (d := 62) (want := true) (by rfl) (by rfl) ?_ ?_
      · exact f24
      refine wp_value (v := .bool true) (w1 := w) ?_ (hK.out _ w (Below.refl _ _) rfl (fun h => by cases h))
      try simp only [f24, f27, f28]
      go_simp
      try (first | done | rfl | (simp; done))
    refine StepsP.cons ?_ ?_
    · intro Q s w hC hA K hK
      clear hC
      obtain ⟨f24, f29, -⟩ := hA
      replace f24 : (s 62) = .bool true := f24
      replace f29 : (s 67) = .bool true := f29
      refine guard_none (by rfl) ?_
      refine wp_value (v := .bool true) (w1 := w) ?_ (hK.out _ w (Below.refl _ _) rfl (fun h => by cases h))
      try simp only [f24, f29]
      go_simp
      try (first | done | rfl | (simp; done))
    refine StepsP.cons ?_ ?_
    · intro Q s w hC hA K hK
      clear hC
      obtain ⟨f30, -⟩ := hA
      replace f30 : (s 68) = .bool true := f30
      refine guard_none (by rfl) ?_
      refine wp_value (v := .bool true) (w1 := w) ?_ (hK.out _ w (Below.refl _ _) rfl (fun h => by cases h))
      try simp only [f30]
      go_simp
      try (first | done | rfl | (simp; done))
    refine StepsP.cons ?_ ?_
    · intro Q s w hC hA K hK
      clear hC
      obtain ⟨f31, -⟩ := hA
      replace f31 : (s 69) = .bool true := f31
      refine guard_on (d := 69) (want := true) (by rfl) (by rfl) ?_ ?_
      · exact f31
      refine wp_value (v := .pointer none) (w1 := w) ?_ (hK.out _ w (Below.refl _ _) rfl (fun h => by cases h))
      try simp only [f31]
      go_simp
      try (first | done | rfl | (simp; done))
    refine StepsP.cons ?_ ?_
    · intro Q s w hC hA K hK
      obtain ⟨hsz, hk_gz, lt_gz, hk_g7, lt_g7, hbw⟩ := hC
      obtain ⟨f31, f32, -⟩ := hA
      replace f31 : (s 69) = .bool true := f31
      replace f32 : (s 70) = .pointer none := f32
      refine guard_on (d := 69) (want := true) (by rfl) (by rfl) ?_ ?_
      · exact f31
      refine wp_call (N := some 71) (by rfl) Try.func42 (by kernel_rfl) #[.pointer none] rfl (by rfl) ?_ ?_
      · show [s 70] = [.pointer none]
        first | rfl | simp only [f31, f32]
      refine (aSource_none _ _ (aNone_nil _)).mono ?_
      rintro e w1 ⟨rfl, rfl⟩
      refine ⟨_, rfl, ?_⟩
      exact hK.out _ _ (Below.refl _ _) rfl (fun h => by cases h)
    refine StepsP.cons ?_ ?_
    · intro Q s w hC hA K hK
      clear hC
      obtain ⟨f31, -⟩ := hA
      replace f31 : (s 69) = .bool true := f31
      refine guard_on (d := 69) (want := true) (by rfl) (by rfl) ?_ ?_
      · exact f31
      refine wp_value (v := .pointer (some ⟨gz, 0, none⟩)) (w1 := w) ?_ (hK.out _ w (Below.refl _ _) rfl (fun h => by cases h))
      try simp only [f31]
      go_simp
      try (first | done | rfl | (simp; done))
    refine StepsP.cons ?_ ?_
    · intro Q s w hC hA K hK
      obtain ⟨hsz, hk_gz, lt_gz, hk_g7, lt_g7, hbw⟩ := hC
      obtain ⟨f31, f34, -⟩ := hA
      replace f31 : (s 69) = .bool true := f31
      replace f34 : (s 72) = .pointer (some ⟨gz, 0, none⟩) := f34
      refine guard_on (d := 69) (want := true) (by rfl) (by rfl) ?_ ?_
      · exact f31
      refine wp_call (N := some 73) (by rfl) Try.func42 (by kernel_rfl) #[.pointer (some ⟨gz, 0, none⟩)] rfl (by rfl) ?_ ?_
      · show [s 72] = [.pointer (some ⟨gz, 0, none⟩)]
        first | rfl | simp only [f31, f34]
      refine (aSource_none _ _ (aNone_zero gz _ _ _ _ _ _ _ hk_gz)).mono ?_
      rintro e w1 ⟨rfl, rfl⟩
      refine ⟨_, rfl, ?_⟩
      exact hK.out _ _ (Below.refl _ _) rfl (fun h => by cases h)
    refine StepsP.cons ?_ ?_
    · intro Q s w hC hA K hK
      clear hC
      obtain ⟨f31, f33, f35, -⟩ := hA
      replace f31 : (s 69) = .bool true := f31
      replace f33 : (s 71) = .int .i64 0 := f33
      replace f35 : (s 73) = .int .i64 0 := f35
      refine guard_on (d := 69) (want := true) (by rfl) (by rfl) ?_ ?_
      · exact f31
      refine wp_value (v := .int .i64 0) (w1 := w) ?_ (hK.out _ w (Below.refl _ _) rfl (fun h => by cases h))
      try simp only [f31, f33, f35]
      go_simp
      try (first | done | rfl | (simp; done))
    refine StepsP.cons ?_ ?_
    · intro Q s w hC hA K hK
      clear hC
      obtain ⟨f31, -⟩ := hA
      replace f31 : (s 69) = .bool true := f31
      refine guard_on (d := 69) (want := true) (by rfl) (by rfl) ?_ ?_
      · exact f31
      refine wp_value (v := .pointer none) (w1 := w) ?_ (hK.out _ w (Below.refl _ _) rfl (fun h => by cases h))
      try simp only [f31]
      go_simp
      try (first | done | rfl | (simp; done))
    refine StepsP.cons ?_ ?_
    · intro Q s w hC hA K hK
      obtain ⟨hsz, hk_gz, lt_gz, hk_g7, lt_g7, hbw⟩ := hC
      obtain ⟨f31, f37, -⟩ := hA
      replace f31 : (s 69) = .bool true := f31
      replace f37 : (s 75) = .pointer none := f37
      refine guard_on (d := 69) (want := true) (by rfl) (by rfl) ?_ ?_
      · exact f31
      refine wp_call (N := some 76) (by rfl) Try.func43 (by kernel_rfl) #[.pointer none] rfl (by rfl) ?_ ?_
      · show [s 75] = [.pointer none]
        first | rfl | simp only [f31, f37]
      refine (aSince_none _ _ (aNone_nil _)).mono ?_
      rintro e w1 ⟨rfl, rfl⟩
      refine ⟨_, rfl, ?_⟩
      exact hK.out _ _ (Below.refl _ _) rfl (fun h => by cases h)
    refine StepsP.cons ?_ ?_
    · intro Q s w hC hA K hK
      clear hC
      obtain ⟨f31, f36, f38, -⟩ := hA
      replace f31 : (s 69) = .bool true := f31
      replace f36 : (s 74) = .int .i64 0 := f36
      replace f38 : (s 76) = .int .i64 0 := f38
      refine guard_on (d := 69) (want := true) (by rfl) (by rfl) ?_ ?_
      · exact f31
      refine wp_value (v := .int .i64 0) (w1 := w) ?_ (hK.out _ w (Below.refl _ _) rfl (fun h => by cases h))
      try simp only [f31, f36, f38]
      go_simp
      try (first | done | rfl | (simp; done))
    refine StepsP.cons ?_ ?_
    · intro Q s w hC hA K hK
      clear hC
      obtain ⟨f31, -⟩ := hA
      replace f31 : (s 69) = .bool true := f31
      refine guard_on (d := 69) (want := true) (by rfl) (by rfl) ?_ ?_
      · exact f31
      refine wp_value (v := .pointer (some ⟨gz, 0, none⟩)) (w1 := w) ?_ (hK.out _ w (Below.refl _ _) rfl (fun h => by cases h))
      try simp only [f31]
      go_simp
      try (first | done | rfl | (simp; done))
    refine StepsP.cons ?_ ?_
    · intro Q s w hC hA K hK
      obtain ⟨hsz, hk_gz, lt_gz, hk_g7, lt_g7, hbw⟩ := hC
      obtain ⟨f31, f40, -⟩ := hA
      replace f31 : (s 69) = .bool true := f31
      replace f40 : (s 78) = .pointer (some ⟨gz, 0, none⟩) := f40
      refine guard_on (d := 69) (want := true) (by rfl) (by rfl) ?_ ?_
      · exact f31
      refine wp_call (N := some 79) (by rfl) Try.func43 (by kernel_rfl) #[.pointer (some ⟨gz, 0, none⟩)] rfl (by rfl) ?_ ?_
      · show [s 78] = [.pointer (some ⟨gz, 0, none⟩)]
        first | rfl | simp only [f31, f40]
      refine (aSince_none _ _ (aNone_zero gz _ _ _ _ _ _ _ hk_gz)).mono ?_
      rintro e w1 ⟨rfl, rfl⟩
      refine ⟨_, rfl, ?_⟩
      exact hK.out _ _ (Below.refl _ _) rfl (fun h => by cases h)
    refine StepsP.cons ?_ ?_
    · intro Q s w hC hA K hK
      clear hC
      obtain ⟨f31, f39, f41, -⟩ := hA
      replace f31 : (s 69) = .bool true := f31
      replace f39 : (s 77) = .int .i64 0 := f39
      replace f41 : (s 79) = .int .i64 0 := f41
      refine guard_on (d := 69) (want := true) (by rfl) (by rfl) ?_ ?_
      · exact f31
      refine wp_value (v := .int .i64 0) (w1 := w) ?_ (hK.out _ w (Below.refl _ _) rfl (fun h => by cases h))
      try simp only [f31, f39, f41]
      go_simp
      try (first | done | rfl | (simp; done))
    refine StepsP.cons ?_ ?_
    · intro Q s w hC hA K hK
      clear hC
      obtain ⟨f31, -⟩ := hA
      replace f31 : (s 69) = .bool true := f31
      refine guard_on (d := 69) (want := true) (by rfl) (by rfl) ?_ ?_
      · exact f31
      refine wp_value (v := .int .i64 0) (w1 := w) ?_ (hK.out _ w (Below.refl _ _) rfl (fun h => by cases h))
      try simp only [f31]
      go_simp
      try (first | done | rfl | (simp; done))
    refine StepsP.cons ?_ ?_
    · intro Q s w hC hA K hK
      clear hC
      obtain ⟨f31, f42, f43, -⟩ := hA
      replace f31 : (s 69) = .bool true := f31
      replace f42 : (s 80) = .int .i64 0 := f42
      replace f43 : (s 81) = .int .i64 0 := f43
      refine guard_on (d := 69) (want := true) (by rfl) (by rfl) ?_ ?_
      · exact f31
      refine wp_value (v := .int .i64 0) (w1 := w) ?_ (hK.out _ w (Below.refl _ _) rfl (fun h => by cases h))
      try simp only [f31, f42, f43]
      go_simp
      try (first | done | rfl | (simp; done))
    refine StepsP.cons ?_ ?_
    · intro Q s w hC hA K hK
      clear hC
      obtain ⟨f31, -⟩ := hA
      replace f31 : (s 69) = .bool true := f31
      refine guard_on (d := 69) (want := true) (by rfl) (by rfl) ?_ ?_
      · exact f31
      refine wp_value (v := .int .i64 0) (w1 := w) ?_ (hK.out _ w (Below.refl _ _) rfl (fun h => by cases h))
      try simp only [f31]
      go_simp
      try (first | done | rfl | (simp; done))
    refine StepsP.cons ?_ ?_
    · intro Q s w hC hA K hK
      clear hC
      obtain ⟨f31, f44, f45, -⟩ := hA
      replace f31 : (s 69) = .bool true := f31
      replace f44 : (s 82) = .int .i64 0 := f44
      replace f45 : (s 83) = .int .i64 0 := f45
      refine guard_on (d := 69) (want := true) (by rfl) (by rfl) ?_ ?_
      · exact f31
      refine wp_value (v := .int .i64 0) (w1 := w) ?_ (hK.out _ w (Below.refl _ _) rfl (fun h => by cases h))
      try simp only [f31, f44, f45]
      go_simp
      try (first | done | rfl | (simp; done))
    refine StepsP.cons ?_ ?_
    · intro Q s w hC hA K hK
      clear hC
      obtain ⟨f31, -⟩ := hA
      replace f31 : (s 69) = .bool true := f31
      refine guard_on (d := 69) (want := true) (by rfl) (by rfl) ?_ ?_
      · exact f31
      refine wp_value (v := .int .i64 0) (w1 := w) ?_ (hK.out _ w (Below.refl _ _) rfl (fun h => by cases h))
      try simp only [f31]
      go_simp
      try (first | done | rfl | (simp; done))
    refine StepsP.cons ?_ ?_
    · intro Q s w hC hA K hK
      clear hC
      obtain ⟨f31, f46, f47, -⟩ := hA
      replace f31 : (s 69) = .bool true := f31
      replace f46 : (s 84) = .int .i64 0 := f46
      replace f47 : (s 85) = .int .i64 0 := f47
      refine guard_on (d := 69) (want := true) (by rfl) (by rfl) ?_ ?_
      · exact f31
      refine wp_value (v := .int .i64 0) (w1 := w) ?_ (hK.out _ w (Below.refl _ _) rfl (fun h => by cases h))
      try simp only [f31, f46, f47]
      go_simp
      try (first | done | rfl | (simp; done))
    refine StepsP.cons ?_ ?_
    · intro Q s w hC hA K hK
      clear hC
      obtain ⟨f31, -⟩ := hA
      replace f31 : (s 69) = .bool true := f31
      refine guard_on (d := 69) (want := true) (by rfl) (by rfl) ?_ ?_
      · exact f31
      refine wp_value (v := .int .i64 0) (w1 := w) ?_ (hK.out _ w (Below.refl _ _) rfl (fun h => by cases h))
      try simp only [f31]
      go_simp
      try (first | done | rfl | (simp; done))
    refine StepsP.cons ?_ ?_
    · intro Q s w hC hA K hK
      clear hC
      obtain ⟨f31, f48, f49, -⟩ := hA
      replace f31 : (s 69) = .bool true := f31
      replace f48 : (s 86) = .int .i64 0 := f48
      replace f49 : (s 87) = .int .i64 0 := f49
      refine guard_on (d := 69) (want := true) (by rfl) (by rfl) ?_ ?_
      · exact f31
      refine wp_value (v := .int .i64 0) (w1 := w) ?_ (hK.out _ w (Below.refl _ _) rfl (fun h => by cases h))
      try simp only [f31, f48, f49]
      go_simp
      try (first | done | rfl | (simp; done))
    refine StepsP.cons ?_ ?_
    · intro Q s w hC hA K hK
      clear hC
      obtain ⟨f31, f50, -⟩ := hA
      replace f31 : (s 69) = .bool true := f31
      replace f50 : (s 88) = .int .i64 0 := f50
      refine guard_on (d := 69) (want := true) (by rfl) (by rfl) ?_ ?_
      · exact f31
      refine wp_value (v := .bool true) (w1 := w) ?_ (hK.out _ w (Below.refl _ _) rfl (fun h => by cases h))
      try simp only [f31, f50]
      go_simp
      try (first | done | rfl | (simp; done))
    refine StepsP.cons ?_ ?_
    · intro Q s w hC hA K hK
      clear hC
      obtain ⟨f31, f51, -⟩ := hA
      replace f31 : (s 69) = .bool true := f31
      replace f51 : (s 89) = .bool true := f51
      refine guard_none (by rfl) ?_
      refine wp_value (v := .bool true) (w1 := w) ?_ (hK.out _ w (Below.refl _ _) rfl (fun h => by cases h))
      try simp only [f31, f51]
      go_simp
      try (first | done | rfl | (simp; done))
    refine StepsP.cons ?_ ?_
    · intro Q s w hC hA K hK
      clear hC
      obtain ⟨f52, -⟩ := hA
      replace f52 : (s 90) = .bool true := f52
      refine guard_none (by rfl) ?_
      refine wp_value (v := .bool true) (w1 := w) ?_ (hK.out _ w (Below.refl _ _) rfl (fun h => by cases h))
      try simp only [f52]
      go_simp
      try (first | done | rfl | (simp; done))
    refine StepsP.cons ?_ ?_
    · intro Q s w hC hA K hK
      clear hC
      obtain ⟨f53, -⟩ := hA
      replace f53 : (s 91) = .bool true := f53
      refine guard_on (d := 91) (want := true) (by rfl) (by rfl) ?_ ?_
      · exact f53
      refine wp_value (v := .pointer (some ⟨gz, 0, none⟩)) (w1 := w) ?_ (hK.out _ w (Below.refl _ _) rfl (fun h => by cases h))
      try simp only [f53]
      go_simp
      try (first | done | rfl | (simp; done))
    refine StepsP.cons ?_ ?_
    · intro Q s w hC hA K hK
      clear hC
      obtain ⟨f53, f54, -⟩ := hA
      replace f53 : (s 91) = .bool true := f53
      replace f54 : (s 92) = .pointer (some ⟨gz, 0, none⟩) := f54
      refine guard_on (d := 91) (want := true) (by rfl) (by rfl) ?_ ?_
      · exact f53
      refine wp_value (v := .pointer (some ⟨gz, 0, none⟩)) (w1 := w) ?_ (hK.out _ w (Below.refl _ _) rfl (fun h => by cases h))
      try simp only [f53, f54]
      go_simp
      try (first | done | rfl | (simp; done))
    refine StepsP.cons ?_ ?_
    · intro Q s w hC hA K hK
      clear hC
      obtain ⟨f53, f55, -⟩ := hA
      replace f53 : (s 91) = .bool true := f53
      replace f55 : (s 93) = .pointer (some ⟨gz, 0, none⟩) := f55
      refine guard_on (d := 91) (want := true) (by rfl) (by rfl) ?_ ?_
      · exact f53
      refine wp_value (v := .pointer (some ⟨gz, 0, none⟩)) (w1 := w) ?_ (hK.out _ w (Below.refl _ _) rfl (fun h => by cases h))
      try simp only [f53, f55]
      go_simp
      try (first | done | rfl | (simp; done))
    refine StepsP.cons ?_ ?_
    · intro Q s w hC hA K hK
      obtain ⟨hsz, hk_gz, lt_gz, hk_g7, lt_g7, hbw⟩ := hC
      obtain ⟨f53, f56, -⟩ := hA
      replace f53 : (s 91) = .bool true := f53
      replace f56 : (s 94) = .pointer (some ⟨gz, 0, none⟩) := f56
      refine guard_on (d := 91) (want := true) (by rfl) (by rfl) ?_ ?_
      · exact f53
      have m0_gz : w.cell? ⟨gz, 0, none⟩ = some (.pointer none) := blk_cell hk_gz 0 (by rfl)
      have m1_gz : w.cell? ⟨gz, 1, none⟩ = some (.int .i64 0) := blk_cell hk_gz 1 (by rfl)
      have m2_gz : w.cell? ⟨gz, 2, none⟩ = some (.int .i64 0) := blk_cell hk_gz 2 (by rfl)
      have m3_gz : w.cell? ⟨gz, 3, none⟩ = some (.int .i64 0) := blk_cell hk_gz 3 (by rfl)
      have m4_gz : w.cell? ⟨gz, 4, none⟩ = some (.int .i64 0) := blk_cell hk_gz 4 (by rfl)
      have m5_gz : w.cell? ⟨gz, 5, none⟩ = some (.int .i64 0) := blk_cell hk_gz 5 (by rfl)
      have m6_gz : w.cell? ⟨gz, 6, none⟩ = some (.slice none 0 0) := blk_cell hk_gz 6 (by rfl)
      refine wp_value (v := .pointer none) (w1 := w) ?_ (hK.out _ w (Below.refl _ _) rfl (fun h => by cases h))
      try simp only [f53, f56]
      go_simp
      try (first | done | rfl | (simp; done))
    refine StepsP.cons ?_ ?_
    · intro Q s w hC hA K hK
      obtain ⟨hsz, hk_gz, lt_gz, hk_g7, lt_g7, hbw⟩ := hC
      obtain ⟨f53, f57, -⟩ := hA
      replace f53 : (s 91) = .bool true := f53
      replace f57 : (s 95) = .pointer none := f57
      refine guard_on (d := 91) (want := true) (by rfl) (by rfl) ?_ ?_
      · exact f53
      refine wp_call (N := some 96) (by rfl) Try.func31 (by kernel_rfl) #[.pointer none, .int .i64 1] rfl (by rfl) ?_ ?_
      · show [s 95, .int .i64 1] = [.pointer none, .int .i64 1]
        first | rfl | simp only [f53, f57]
      refine (Prove_nil _ _).mono ?_
      rintro e w1 ⟨rfl, hb⟩
      refine ⟨_, rfl, ?_⟩
      exact hK.out _ _ hb rfl (fun h => by cases h)
    refine StepsP.cons ?_ ?_
    · intro Q s w hC hA K hK
      clear hC
      obtain ⟨f53, f58, -⟩ := hA
      replace f53 : (s 91) = .bool true := f53
      replace f58 : (s 96) = .agg #[.int .i64 2, .int .i64 0, .slice none 0 0] := f58
      refine guard_on (d := 91) (want := true) (by rfl) (by rfl) ?_ ?_
      · exact f53
      refine wp_value (v := .int .i64 2) (w1 := w) ?_ (hK.out _ w (Below.refl _ _) rfl (fun h => by cases h))
      try simp only [f53, f58]
      go_simp
      try (first | done | rfl | (simp; done))
    refine StepsP.cons ?_ ?_
    · intro Q s w hC hA K hK
      clear hC
      obtain ⟨f53, f59, -⟩ := hA
      replace f53 : (s 91) = .bool true := f53
      replace f59 : (s 97) = .int .i64 2 := f59
      refine guard_on (d := 91) (want := true) (by rfl) (by rfl) ?_ ?_
      · exact f53
      refine wp_value (v := .bool true) (w1 := w) ?_ (hK.out _ w (Below.refl _ _) rfl (fun h => by cases h))
      try simp only [f53, f59]
      go_simp
      try (first | done | rfl | (simp; done))
    refine StepsP.cons ?_ ?_
    · intro Q s w hC hA K hK
      clear hC
      obtain ⟨f53, f60, -⟩ := hA
      replace f53 : (s 91) = .bool true := f53
      replace f60 : (s 98) = .bool true := f60
      refine guard_none (by rfl) ?_
      refine wp_value (v := .bool true) (w1 := w) ?_ (hK.out _ w (Below.refl _ _) rfl (fun h => by cases h))
      try simp only [f53, f60]
      go_simp
      try (first | done | rfl | (simp; done))
    refine StepsP.cons ?_ ?_
    · intro Q s w hC hA K hK
      clear hC
      obtain ⟨f61, -⟩ := hA
      replace f61 : (s 99) = .bool true := f61
      refine guard_none (by rfl) ?_
      refine wp_value (v := .bool true) (w1 := w) ?_ (hK.out _ w (Below.refl _ _) rfl (fun h => by cases h))
      try simp only [f61]
      go_simp
      try (first | done | rfl | (simp; done))
    exact StepsP.nil
  obtain ⟨hsz, hk_gz, lt_gz, hk_g7, lt_g7, hbw⟩ := hC
  obtain ⟨f62, -⟩ := hA
  replace f62 : (s 4) = .bool true := f62
  refine act_eq (b' := ?b17) ?h17 ?q17
  case h17 => simp only [f62]; rfl
  go_wp2
  go_ret
  subst hw0
  exact ⟨rfl, hbw⟩
end Go.Proofs.Ythdaidmjjcmccaa
