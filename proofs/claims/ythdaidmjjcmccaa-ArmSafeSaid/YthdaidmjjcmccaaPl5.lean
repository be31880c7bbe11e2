/- Proved here: lemmas and contracts (what a function of the program computes) that the proofs of the laws of this seat lean on. Conditions: as each theorem states. -/
import Derived.Test.YthdaidmjjcmccaaPl4
set_option linter.unusedVariables false
set_option linter.unusedSimpArgs false
namespace Go.Proofs.Ythdaidmjjcmccaa
open Go.RowKit Go.Pk Go.Proofs.YthdaidmjjcmccaaW.PrintLast
set_option maxHeartbeats 8000000 in
set_option maxRecDepth 100000 in
theorem long_calls (q : PA) (p : Pl) (w : World) (hq : q.rd w p) : Calls Try.prog 55 #[.agg (q.cells p).toArray] w fun e w' => e = .returned (.bool (longP p)) ∧ Below w.heap.size w w' := by
  obtain ⟨aA, cA, aB, cB, aW, cW, aI, cI, aS, cS, aG, cG⟩ := q
  obtain ⟨hA, -, -, -, -, -, -, -, -, -, -, -⟩ := hq
  simp only [] at hA
  unfold PA.cells
  obtain ⟨il, hil⟩ : ∃ z, p.inp.lo = z := ⟨_, rfl⟩
  obtain ⟨ih, hih⟩ : ∃ z, p.inp.hi = z := ⟨_, rfl⟩
  obtain ⟨bi, hbi⟩ : ∃ z, p.bias = z := ⟨_, rfl⟩
  simp only [hil, hih, hbi]
  go_enter Try.func55, Try.ntmps55
  go_upto_region 1 with fail
  have hk_g1 := blk_new w (.cells #[.slice aA p.A.length cA, .slice aB p.B.length cB, .int .i64 il, .int .i64 ih, .slice aW p.W.length cW, .slice aI p.Inv.length cI, .slice aS p.Safe.length cS, .slice aG p.gain.length cG, .int .i64 bi] 28)
  have hbw := bl_alloc (Below.refl w.heap.size w) (.cells #[.slice aA p.A.length cA, .slice aB p.B.length cB, .int .i64 il, .int .i64 ih, .slice aW p.W.length cW, .slice aI p.Inv.length cI, .slice aS p.Safe.length cS, .slice aG p.gain.length cG, .int .i64 bi] 28)
  generalize w.alloc (.cells #[.slice aA p.A.length cA, .slice aB p.B.length cB, .int .i64 il, .int .i64 ih, .slice aW p.W.length cW, .slice aI p.Inv.length cI, .slice aS p.Safe.length cS, .slice aG p.gain.length cG, .int .i64 bi] 28) = W1 at *
  obtain ⟨w0, hw0⟩ : ∃ z : World, z = w := ⟨_, rfl⟩
  rw [← hw0] at hbw hA
  obtain ⟨g1, hg1⟩ : ∃ g, w.heap.size = g := ⟨_, rfl⟩
  rw [hg1] at hk_g1
  rw [hg1]
  clear hg1
  have y1 : W1.cell? ⟨g1, 1, none⟩ = some (.slice aB p.B.length cB) := blk_cell hk_g1 1 (by rfl)
  go_upto_region 2 with fail
  have hk_g3 := blk_new W1 (.cells #[.int .i64 (p.B.length : Int)] 3)
  replace hk_g1 := blk_alloc hk_g1 (.cells #[.int .i64 (p.B.length : Int)] 3)
  replace hbw := bl_alloc hbw (.cells #[.int .i64 (p.B.length : Int)] 3)
  clear y1
  generalize W1.alloc (.cells #[.int .i64 (p.B.length : Int)] 3) = W2 at *
  generalize W1.heap.size = g3 at *
  have hfin : (((((((decide (1 ≤ (p.B.length : Int)) && decide ((p.B.length : Int) ≤ 3)) && ((p.A.length : Int) == (p.B.length : Int))) && !(p.A.any fun x => ((x.length : Int) != (p.B.length : Int)))) && ((p.W.length : Int) == (p.B.length : Int))) && ((p.Inv.length : Int) == (p.B.length : Int))) && ((p.Safe.length : Int) == (p.B.length : Int))) && ((p.gain.length : Int) == (p.B.length : Int))) = longP p := by
    unfold longP
    have e : (p.A.any fun l => decide (l.length ≠ p.B.length)) = (p.A.any fun x => ((x.length : Int) != (p.B.length : Int))) := by congr 1; funext l; rw [Bool.eq_iff_iff]; simp; omega
    rw [e]
    have f : ∀ a b : Nat, decide (a = b) = ((a : Int) == (b : Int)) := by intro a b; rw [Bool.eq_iff_iff]; simp; omega
    have g1 : decide (1 ≤ (p.B.length : Int)) = decide (1 ≤ p.B.length) := by rw [Bool.eq_iff_iff]; simp; omega
    have g2 : decide ((p.B.length : Int) ≤ 3) = decide (p.B.length ≤ 3) := by rw [Bool.eq_iff_iff]; simp; omega
    rw [g1, g2, f, f, f, f, f]
  obtain ⟨b0, hb0⟩ : ∃ b, Hid ((decide (1 ≤ (p.B.length : Int))) = b) := ⟨_, rfl⟩
  obtain ⟨b1, hb1⟩ : ∃ b, Hid ((decide ((p.B.length : Int) ≤ 3)) = b) := ⟨_, rfl⟩
  obtain ⟨b2, hb2⟩ : ∃ b, Hid ((((p.A.length : Int) == (p.B.length : Int))) = b) := ⟨_, rfl⟩
  obtain ⟨b3, hb3⟩ : ∃ b, Hid (((p.A.any fun x => ((x.length : Int) != (p.B.length : Int)))) = b) := ⟨_, rfl⟩
  obtain ⟨b4, hb4⟩ : ∃ b, Hid ((((p.W.length : Int) == (p.B.length : Int))) = b) := ⟨_, rfl⟩
  obtain ⟨b5, hb5⟩ : ∃ b, Hid ((((p.Inv.length : Int) == (p.B.length : Int))) = b) := ⟨_, rfl⟩
  obtain ⟨b6, hb6⟩ : ∃ b, Hid ((((p.Safe.length : Int) == (p.B.length : Int))) = b) := ⟨_, rfl⟩
  obtain ⟨b7, hb7⟩ : ∃ b, Hid ((((p.gain.length : Int) == (p.B.length : Int))) = b) := ⟨_, rfl⟩
  rw [hb0.out, hb1.out, hb2.out, hb3.out, hb4.out, hb5.out, hb6.out, hb7.out] at hfin
  replace hfin := hidI hfin
  obtain ⟨B0, hB0⟩ : ∃ B, B = W2.heap.size := ⟨_, rfl⟩
  have c0_hsz : B0 ≤ W2.heap.size := Nat.le_of_eq hB0
  have hw0B0 : w0.heap.size ≤ B0 := by rw [hB0]; exact hbw.size
  have c0_hle : W2.heap.size ≤ B0 := Nat.le_of_eq hB0.symm
  have c0_hk_g1 := hk_g1
  have c0_lt_g1 : g1 < B0 := by rw [hB0]; exact blk_lt hk_g1
  have c0_hk_g3 := hk_g3
  have c0_lt_g3 : g3 < B0 := by rw [hB0]; exact blk_lt hk_g3
  have c0_hbw := hbw
  clear hB0 hbw hk_g1 hk_g3
  refine region_lin (n := 49) (st := ?st4) { R := [0, 1, 3, 7, 15, 31, 63, 127, 255, 511, 127, 2047, 4095, 8191, 16383, 32767, 16383, 131071, 262143, 524287, 1048575, 2097151, 4194303, 8388607, 2097151, 33554431, 67108863, 134217727, 268435455, 536870911, 1073741823, 268435455, 4294967295, 8589934591, 17179869183, 34359738367, 68719476735, 137438953471, 34359738367, 549755813887, 1099511627775, 2199023255551, 4398046511103, 8796093022207, 17592186044415, 4398046511103, 70368744177663, 140737488355327, 281474976710655], kill := [[], [], [], [], [], [], [], [], [], [], [], [], [], [], [], [], [], [], [], [], [], [], [], [], [], [], [], [], [], [], [], [], [], [], [], [], [], [], [], [], [], [], [], [], [], [], [], [], []], cls := [0, 0, 0, 0, 0, 0, 0, 0, 0, 0, 0, 0, 0, 0, 0, 0, 0, 0, 0, 0, 0, 0, 0, 0, 0, 0, 0, 0, 0, 0, 0, 0, 0, 0, 0, 0, 0, 0, 0, 0, 0, 0, 0, 0, 0, 0, 0, 0, 0], dst := [some 7, some 8, some 9, some 10, some 11, some 12, some 13, some 14, some 15, some 16, some 17, some 18, some 19, some 20, some 21, some 22, some 23, some 24, some 25, some 26, some 27, some 28, some 29, some 30, some 31, some 32, some 33, some 34, some 35, some 36, some 37, some 38, some 39, some 40, some 41, some 42, some 43, some 44, some 45, some 46, some 47, some 48, some 49, some 50, some 51, some 52, some 53, some 54, some 2], pre := [[], [0], [1], [2], [2, 3], [2, 4], [5], [6], [6, 7], [6, 8], [6], [6, 9, 10], [6, 11], [12], [13], [13, 14], [13], [13, 15, 16], [13, 17], [13, 18], [19], [20], [20, 21], [20, 22], [20], [20, 23, 24], [20, 25], [26], [27], [27, 28], [27, 29], [27], [27, 30, 31], [27, 32], [33], [34], [34, 35], [34, 36], [34], [34, 37, 38], [34, 39], [40], [41], [41, 42], [41, 43], [41], [41, 44, 45], [41, 46], [47]], cov := [], fin := [48], locs := [], tgt := [none], abt := [none, none, none, none, none, none, none, none, none, none, none, none, none, none, none, none, none, none, none, none, none, none, none, none, none, none, none, none, none, none, none, none, none, none, none, none, none, none, none, none, none, none, none, none, none, none, none, none, none] }
    [.v [7] (fun vs => (vs.getD 0 undef) = .int .i64 (p.B.length : Int)),
     .v [8] (fun vs => (vs.getD 0 undef) = .bool b0),
     .v [9] (fun vs => (vs.getD 0 undef) = .bool b0),
     .v [10] (fun vs => (b0 = true → (vs.getD 0 undef) = .int .i64 (p.B.length : Int)) ∧ (b0 = false → (vs.getD 0 undef) = undef)),
     .v [11] (fun vs => (b0 = true → (vs.getD 0 undef) = .bool b1) ∧ (b0 = false → (vs.getD 0 undef) = undef)),
     .v [12] (fun vs => (vs.getD 0 undef) = .bool (b0 && b1)),
     .v [13] (fun vs => (vs.getD 0 undef) = .bool (b0 && b1)),
     .v [14] (fun vs => ((b0 && b1) = true → (vs.getD 0 undef) = .pointer (some ⟨g1, 0, none⟩)) ∧ ((b0 && b1) = false → (vs.getD 0 undef) = undef)),
     .v [15] (fun vs => ((b0 && b1) = true → (vs.getD 0 undef) = .slice aA p.A.length cA) ∧ ((b0 && b1) = false → (vs.getD 0 undef) = undef)),
     .v [16] (fun vs => ((b0 && b1) = true → (vs.getD 0 undef) = .int .i64 (p.A.length : Int)) ∧ ((b0 && b1) = false → (vs.getD 0 undef) = undef)),
     .v [17] (fun vs => ((b0 && b1) = true → (vs.getD 0 undef) = .int .i64 (p.B.length : Int)) ∧ ((b0 && b1) = false → (vs.getD 0 undef) = undef)),
     .v [18] (fun vs => ((b0 && b1) = true → (vs.getD 0 undef) = .bool b2) ∧ ((b0 && b1) = false → (vs.getD 0 undef) = undef)),
     .v [19] (fun vs => (vs.getD 0 undef) = .bool ((b0 && b1) && b2)),
     .v [20] (fun vs => (vs.getD 0 undef) = .bool ((b0 && b1) && b2)),
     .v [21] (fun vs => (((b0 && b1) && b2) = true → (vs.getD 0 undef) = .pointer (some ⟨g1, 0, none⟩)) ∧ (((b0 && b1) && b2) = false → (vs.getD 0 undef) = undef)),
     .v [22] (fun vs => (((b0 && b1) && b2) = true → (vs.getD 0 undef) = .slice aA p.A.length cA) ∧ (((b0 && b1) && b2) = false → (vs.getD 0 undef) = undef)),
     .v [23] (fun vs => (((b0 && b1) && b2) = true → (vs.getD 0 undef) = .func (.func 96) #[] #[.pointer (some ⟨g3, 0, none⟩)]) ∧ (((b0 && b1) && b2) = false → (vs.getD 0 undef) = undef)),
     .v [24] (fun vs => (((b0 && b1) && b2) = true → (vs.getD 0 undef) = .bool b3) ∧ (((b0 && b1) && b2) = false → (vs.getD 0 undef) = undef)),
     .v [25] (fun vs => (((b0 && b1) && b2) = true → (vs.getD 0 undef) = .bool (!b3)) ∧ (((b0 && b1) && b2) = false → (vs.getD 0 undef) = undef)),
     .v [26] (fun vs => (vs.getD 0 undef) = .bool (((b0 && b1) && b2) && (!b3))),
     .v [27] (fun vs => (vs.getD 0 undef) = .bool (((b0 && b1) && b2) && (!b3))),
     .v [28] (fun vs => ((((b0 && b1) && b2) && (!b3)) = true → (vs.getD 0 undef) = .pointer (some ⟨g1, 4, none⟩)) ∧ ((((b0 && b1) && b2) && (!b3)) = false → (vs.getD 0 undef) = undef)),
     .v [29] (fun vs => ((((b0 && b1) && b2) && (!b3)) = true → (vs.getD 0 undef) = .slice aW p.W.length cW) ∧ ((((b0 && b1) && b2) && (!b3)) = false → (vs.getD 0 undef) = undef)),
     .v [30] (fun vs => ((((b0 && b1) && b2) && (!b3)) = true → (vs.getD 0 undef) = .int .i64 (p.W.length : Int)) ∧ ((((b0 && b1) && b2) && (!b3)) = false → (vs.getD 0 undef) = undef)),
     .v [31] (fun vs => ((((b0 && b1) && b2) && (!b3)) = true → (vs.getD 0 undef) = .int .i64 (p.B.length : Int)) ∧ ((((b0 && b1) && b2) && (!b3)) = false → (vs.getD 0 undef) = undef)),
     .v [32] (fun vs => ((((b0 && b1) && b2) && (!b3)) = true → (vs.getD 0 undef) = .bool b4) ∧ ((((b0 && b1) && b2) && (!b3)) = false → (vs.getD 0 undef) = undef)),
     .v [33] (fun vs => (vs.getD 0 undef) = .bool ((((b0 && b1) && b2) && (!b3)) && b4)),
     .v [34] (fun vs => (vs.getD 0 undef) = .bool ((((b0 && b1) && b2) && (!b3)) && b4)),
     .v [35] (fun vs => (((((b0 && b1) && b2) && (!b3)) && b4) = true → (vs.getD 0 undef) = .pointer (some ⟨g1, 5, none⟩)) ∧ (((((b0 && b1) && b2) && (!b3)) && b4) = false → (vs.getD 0 undef) = undef)),
     .v [36] (fun vs => (((((b0 && b1) && b2) && (!b3)) && b4) = true → (vs.getD 0 undef) = .slice aI p.Inv.length cI) ∧ (((((b0 && b1) && b2) && (!b3)) && b4) = false → (vs.getD 0 undef) = undef)),
     .v [37] (fun vs => (((((b0 && b1) && b2) && (!b3)) && b4) = true → (vs.getD 0 undef) = .int .i64 (p.Inv.length : Int)) ∧ (((((b0 && b1) && b2) && (!b3)) && b4) = false → (vs.getD 0 undef) = undef)),
     .v [38] (fun vs => (((((b0 && b1) && b2) && (!b3)) && b4) = true → (vs.getD 0 undef) = .int .i64 (p.B.length : Int)) ∧ (((((b0 && b1) && b2) && (!b3)) && b4) = false → (vs.getD 0 undef) = undef)),
     .v [39] (fun vs => (((((b0 && b1) && b2) && (!b3)) && b4) = true → (vs.getD 0 undef) = .bool b5) ∧ (((((b0 && b1) && b2) && (!b3)) && b4) = false → (vs.getD 0 undef) = undef)),
     .v [40] (fun vs => (vs.getD 0 undef) = .bool (((((b0 && b1) && b2) && (!b3)) && b4) && b5)),
     .v [41] (fun vs => (vs.getD 0 undef) = .bool (((((b0 && b1) && b2) && (!b3)) && b4) && b5)),
     .v [42] (fun vs => ((((((b0 && b1) && b2) && (!b3)) && b4) && b5) = true → (vs.getD 0 undef) = .pointer (some ⟨g1, 6, none⟩)) ∧ ((((((b0 && b1) && b2) && (!b3)) && b4) && b5) = false → (vs.getD 0 undef) = undef)),
     .v [43] (fun vs => ((((((b0 && b1) && b2) && (!b3)) && b4) && b5) = true → (vs.getD 0 undef) = .slice aS p.Safe.length cS) ∧ ((((((b0 && b1) && b2) && (!b3)) && b4) && b5) = false → (vs.getD 0 undef) = undef)),
     .v [44] (fun vs => ((((((b0 && b1) && b2) && (!b3)) && b4) && b5) = true → (vs.getD 0 undef) = .int .i64 (p.Safe.length : Int)) ∧ ((((((b0 && b1) && b2) && (!b3)) && b4) && b5) = false → (vs.getD 0 undef) = undef)),
     .v [45] (fun vs => ((((((b0 && b1) && b2) && (!b3)) && b4) && b5) = true → (vs.getD 0 undef) = .int .i64 (p.B.length : Int)) ∧ ((((((b0 && b1) && b2) && (!b3)) && b4) && b5) = false → (vs.getD 0 undef) = undef)),
     .v [46] (fun vs => ((((((b0 && b1) && b2) && (!b3)) && b4) && b5) = true → (vs.getD 0 undef) = .bool b6) ∧ ((((((b0 && b1) && b2) && (!b3)) && b4) && b5) = false → (vs.getD 0 undef) = undef)),
     .v [47] (fun vs => (vs.getD 0 undef) = .bool ((((((b0 && b1) && b2) && (!b3)) && b4) && b5) && b6)),
     .v [48] (fun vs => (vs.getD 0 undef) = .bool ((((((b0 && b1) && b2) && (!b3)) && b4) && b5) && b6)),
     .v [49] (fun vs => (((((((b0 && b1) && b2) && (!b3)) && b4) && b5) && b6) = true → (vs.getD 0 undef) = .pointer (some ⟨g1, 7, none⟩)) ∧ (((((((b0 && b1) && b2) && (!b3)) && b4) && b5) && b6) = false → (vs.getD 0 undef) = undef)),
     .v [50] (fun vs => (((((((b0 && b1) && b2) && (!b3)) && b4) && b5) && b6) = true → (vs.getD 0 undef) = .slice aG p.gain.length cG) ∧ (((((((b0 && b1) && b2) && (!b3)) && b4) && b5) && b6) = false → (vs.getD 0 undef) = undef)),
     .v [51] (fun vs => (((((((b0 && b1) && b2) && (!b3)) && b4) && b5) && b6) = true → (vs.getD 0 undef) = .int .i64 (p.gain.length : Int)) ∧ (((((((b0 && b1) && b2) && (!b3)) && b4) && b5) && b6) = false → (vs.getD 0 undef) = undef)),
     .v [52] (fun vs => (((((((b0 && b1) && b2) && (!b3)) && b4) && b5) && b6) = true → (vs.getD 0 undef) = .int .i64 (p.B.length : Int)) ∧ (((((((b0 && b1) && b2) && (!b3)) && b4) && b5) && b6) = false → (vs.getD 0 undef) = undef)),
     .v [53] (fun vs => (((((((b0 && b1) && b2) && (!b3)) && b4) && b5) && b6) = true → (vs.getD 0 undef) = .bool b7) ∧ (((((((b0 && b1) && b2) && (!b3)) && b4) && b5) && b6) = false → (vs.getD 0 undef) = undef)),
     .v [54] (fun vs => (vs.getD 0 undef) = .bool (((((((b0 && b1) && b2) && (!b3)) && b4) && b5) && b6) && b7)),
     .v [2] (fun vs => (vs.getD 0 undef) = .bool (((((((b0 && b1) && b2) && (!b3)) && b4) && b5) && b6) && b7))]
    (fun w => B0 ≤ w.heap.size ∧ w.heap[g1]? = some (.cells #[.slice aA p.A.length cA, .slice aB p.B.length cB, .int .i64 il, .int .i64 ih, .slice aW p.W.length cW, .slice aI p.Inv.length cI, .slice aS p.Safe.length cS, .slice aG p.gain.length cG, .int .i64 bi] 28 (0, 0)) ∧ g1 < B0 ∧ w.heap[g3]? = some (.cells #[.int .i64 (p.B.length : Int)] 3 (0, 0)) ∧ g3 < B0 ∧ Below w0.heap.size w0 w)
    (fun c => ([fun s w w' => Below w.heap.size w w'] : List ((Nat → Value) → World → World → Prop)).getD c (fun s w w' => w' = w))
    [2, 7, 8, 9, 10, 11, 12, 13, 14, 15, 16, 17, 18, 19, 20, 21, 22, 23, 24, 25, 26, 27, 28, 29, 30, 31, 32, 33, 34, 35, 36, 37, 38, 39, 40, 41, 42, 43, 44, 45, 46, 47, 48, 49, 50, 51, 52, 53, 54] (by kernel_rfl) ⟨by kernel_rfl, by kernel_rfl, by kernel_rfl, by kernel_rfl, by kernel_rfl, by kernel_rfl, by kernel_rfl, by kernel_rfl⟩ (fun s => ?_) ?_ ?_ ?_ ?_ ?_ (fun s w hC hA => ?_)
  rotate_left
  · simp only [fillS, List.foldl, List.setIfInBounds_toArray, List.set_cons_zero, List.set_cons_succ]; rfl
  · exact ⟨c0_hsz, c0_hk_g1, c0_lt_g1, c0_hk_g3, c0_lt_g3, c0_hbw⟩
  · intro c s w w' hE
    match c, hE with
    | 0, hE => exact Below.size hE
    | c + 1, hE => cases hE; exact Nat.le_refl _
  · rintro c s w w' ⟨hsz, hk_g1, lt_g1, hk_g3, lt_g3, hbw⟩ hE
    match c, hE with
    | 0, hE => replace hE : Below w.heap.size w w' := hE; exact ⟨Nat.le_trans hsz hE.size, bl_block hE hk_g1, lt_g1, bl_block hE hk_g3, lt_g3, bl_step hbw hE⟩
    | c + 1, hE => cases hE; exact ⟨hsz, hk_g1, lt_g1, hk_g3, lt_g3, hbw⟩
  · exact trivial
  · skip
    refine StepsP.cons ?_ ?_
    · intro Q s w hC hA K hK
      obtain ⟨hsz, hk_g1, lt_g1, hk_g3, lt_g3, hbw⟩ := hC
      clear hA
      refine guard_none (by rfl) ?_
      have m0_g3 : w.cell? ⟨g3, 0, none⟩ = some (.int .i64 (p.B.length : Int)) := blk_cell hk_g3 0 (by rfl)
      refine wp_value (v := .int .i64 (p.B.length : Int)) (w1 := w) ?_ (hK.out _ w (Below.refl _ _) rfl (fun h => by cases h))
      go_simp
      try (first | done | rfl | (simp; done))
    refine StepsP.cons ?_ ?_
    · intro Q s w hC hA K hK
      clear hC
      obtain ⟨f0, -⟩ := hA
      replace f0 : (s 7) = .int .i64 (p.B.length : Int) := f0
      refine guard_none (by rfl) ?_
      refine wp_value (v := .bool b0) (w1 := w) ?_ (hK.out _ w (Below.refl _ _) rfl (fun h => by cases h))
      try simp only [f0]
      go_simp
      first | done | exact hb0.out | (simp [hb0.out]; done) | (rw [hb0.out]; done)
    refine StepsP.cons ?_ ?_
    · intro Q s w hC hA K hK
      clear hC
      obtain ⟨f1, -⟩ := hA
      replace f1 : (s 8) = .bool b0 := f1
      refine guard_none (by rfl) ?_
      refine wp_value (v := .bool b0) (w1 := w) ?_ (hK.out _ w (Below.refl _ _) rfl (fun h => by cases h))
      try simp only [f1]
      go_simp
      try (first | done | rfl | (simp; done))
    refine StepsP.cons ?_ ?_
    · intro Q s w hC hA K hK
      obtain ⟨hsz, hk_g1, lt_g1, hk_g3, lt_g3, hbw⟩ := hC
      obtain ⟨f2, -⟩ := hA
      replace f2 : (s 9) = .bool b0 := f2
      cases hc : b0
      · refine guard_off (d := 9) (want := true) (by rfl) (by rfl) ?_ ?_
        · show s 9 ≠ .bool true
          · intro h_
            rw [f2] at h_; injection h_ with h_; rw [Bool.eq_false_iff] at hc; exact hc (by (first | (simp only [h_, Bool.and_true, Bool.true_and, Bool.not_true, Bool.not_false, Bool.and_self]; done) | simp_all))
        exact hK.out _ w (Below.refl _ _) ⟨fun h_ => (by rw [hc] at h_; cases h_), fun _ => rfl⟩ (fun _ g h => by cases h)
      · refine guard_on (d := 9) (want := true) (by rfl) (by rfl) ?_ ?_
        · exact (f2).trans (by rw [show b0 = true by (first | (simp only [Bool.and_eq_true, Bool.not_eq_true', Bool.not_eq_false'] at hc; simp only [hc, Bool.and_true, Bool.true_and, Bool.not_true, Bool.not_false, Bool.and_self]; done) | (simp only [hc, Bool.and_true, Bool.true_and, Bool.not_true, Bool.not_false, Bool.and_self]; done) | simp_all)])
        have m0_g3 : w.cell? ⟨g3, 0, none⟩ = some (.int .i64 (p.B.length : Int)) := blk_cell hk_g3 0 (by rfl)
        refine wp_value (v := .int .i64 (p.B.length : Int)) (w1 := w) ?_ (hK.out _ w (Below.refl _ _) ⟨fun _ => rfl, fun h_ => (by rw [hc] at h_; cases h_)⟩ (fun h => by cases h))
        try simp only [f2]
        go_simp
        try (first | done | rfl | (simp; done))
    refine StepsP.cons ?_ ?_
    · intro Q s w hC hA K hK
      clear hC
      obtain ⟨f2, f3, -⟩ := hA
      replace f2 : (s 9) = .bool b0 := f2
      replace f3 : (b0 = true → (s 10) = .int .i64 (p.B.length : Int)) ∧ (b0 = false → (s 10) = undef) := f3
      cases hc : b0
      · refine guard_off (d := 9) (want := true) (by rfl) (by rfl) ?_ ?_
        · show s 9 ≠ .bool true
          · intro h_
            rw [f2] at h_; injection h_ with h_; rw [Bool.eq_false_iff] at hc; exact hc (by (first | (simp only [h_, Bool.and_true, Bool.true_and, Bool.not_true, Bool.not_false, Bool.and_self]; done) | simp_all))
        exact hK.out _ w (Below.refl _ _) ⟨fun h_ => (by rw [hc] at h_; cases h_), fun _ => rfl⟩ (fun _ g h => by cases h)
      · refine guard_on (d := 9) (want := true) (by rfl) (by rfl) ?_ ?_
        · exact (f2).trans (by rw [show b0 = true by (first | (simp only [Bool.and_eq_true, Bool.not_eq_true', Bool.not_eq_false'] at hc; simp only [hc, Bool.and_true, Bool.true_and, Bool.not_true, Bool.not_false, Bool.and_self]; done) | (simp only [hc, Bool.and_true, Bool.true_and, Bool.not_true, Bool.not_false, Bool.and_self]; done) | simp_all)])
        replace f3 := f3.1 (by exact hc)
        refine wp_value (v := .bool b1) (w1 := w) ?_ (hK.out _ w (Below.refl _ _) ⟨fun _ => rfl, fun h_ => (by rw [hc] at h_; cases h_)⟩ (fun h => by cases h))
        try simp only [f2, f3]
        go_simp
        first | done | exact hb1.out | (simp [hb1.out]; done) | (rw [hb1.out]; done)
    refine StepsP.cons ?_ ?_
    · intro Q s w hC hA K hK
      clear hC
      obtain ⟨f2, f4, -⟩ := hA
      replace f2 : (s 9) = .bool b0 := f2
      replace f4 : (b0 = true → (s 11) = .bool b1) ∧ (b0 = false → (s 11) = undef) := f4
      refine guard_none (by rfl) ?_
      refine wp_value (v := .bool (b0 && b1)) (w1 := w) ?_ (hK.out _ w (Below.refl _ _) rfl (fun h => by cases h))
      cases ht : b0
      · skip
        have hct_ : s 9 = .bool false := by rw [f2, ht]
        simp only [hct_]
        go_simp
        try simp
      · have hy_ := f4.1 (by first | (simp only [Bool.and_eq_true, Bool.not_eq_true', Bool.not_eq_false'] at hc ht; simp only [hc, ht, Bool.and_true, Bool.true_and, Bool.not_true, Bool.not_false, Bool.and_self]; done) | (simp only [Bool.and_eq_true, Bool.not_eq_true', Bool.not_eq_false'] at ht; simp only [ht, Bool.and_true, Bool.true_and, Bool.not_true, Bool.not_false, Bool.and_self]; done) | (simp only [ht, Bool.and_true, Bool.true_and, Bool.not_true, Bool.not_false, Bool.and_self]; done) | simp_all)
        have hct_ : s 9 = .bool true := by rw [f2, ht]
        simp only [hct_, hy_]
        go_simp
        try simp
    refine StepsP.cons ?_ ?_
    · intro Q s w hC hA K hK
      clear hC
      obtain ⟨f5, -⟩ := hA
      replace f5 : (s 12) = .bool (b0 && b1) := f5
      refine guard_none (by rfl) ?_
      refine wp_value (v := .bool (b0 && b1)) (w1 := w) ?_ (hK.out _ w (Below.refl _ _) rfl (fun h => by cases h))
      try simp only [f5]
      go_simp
      try (first | done | rfl | (simp; done))
    refine StepsP.cons ?_ ?_
    · intro Q s w hC hA K hK
      clear hC
      obtain ⟨f6, -⟩ := hA
      replace f6 : (s 13) = .bool (b0 && b1) := f6
      cases hc : (b0 && b1)
      · refine guard_off (d := 13) (want := true) (by rfl) (by rfl) ?_ ?_
        · show s 13 ≠ .bool true
          · intro h_
            rw [f6] at h_; injection h_ with h_; rw [Bool.eq_false_iff] at hc; exact hc (by (first | (simp only [h_, Bool.and_true, Bool.true_and, Bool.not_true, Bool.not_false, Bool.and_self]; done) | simp_all))
        exact hK.out _ w (Below.refl _ _) ⟨fun h_ => (by rw [hc] at h_; cases h_), fun _ => rfl⟩ (fun _ g h => by cases h)
      · refine guard_on (d := 13) (want := true) (by rfl) (by rfl) ?_ ?_
        · exact (f6).trans (by rw [show (b0 && b1) = true by (first | (simp only [Bool.and_eq_true, Bool.not_eq_true', Bool.not_eq_false'] at hc; simp only [hc, Bool.and_true, Bool.true_and, Bool.not_true, Bool.not_false, Bool.and_self]; done) | (simp only [hc, Bool.and_true, Bool.true_and, Bool.not_true, Bool.not_false, Bool.and_self]; done) | simp_all)])
        refine wp_value (v := .pointer (some ⟨g1, 0, none⟩)) (w1 := w) ?_ (hK.out _ w (Below.refl _ _) ⟨fun _ => rfl, fun h_ => (by rw [hc] at h_; cases h_)⟩ (fun h => by cases h))
        try simp only [f6]
        go_simp
        try (first | done | rfl | (simp; done))
    refine StepsP.cons ?_ ?_
    · intro Q s w hC hA K hK
      obtain ⟨hsz, hk_g1, lt_g1, hk_g3, lt_g3, hbw⟩ := hC
      obtain ⟨f6, f7, -⟩ := hA
      replace f6 : (s 13) = .bool (b0 && b1) := f6
      replace f7 : ((b0 && b1) = true → (s 14) = .pointer (some ⟨g1, 0, none⟩)) ∧ ((b0 && b1) = false → (s 14) = undef) := f7
      cases hc : (b0 && b1)
      · refine guard_off (d := 13) (want := true) (by rfl) (by rfl) ?_ ?_
        · show s 13 ≠ .bool true
          · intro h_
            rw [f6] at h_; injection h_ with h_; rw [Bool.eq_false_iff] at hc; exact hc (by (first | (simp only [h_, Bool.and_true, Bool.true_and, Bool.not_true, Bool.not_false, Bool.and_self]; done) | simp_all))
        exact hK.out _ w (Below.refl _ _) ⟨fun h_ => (by rw [hc] at h_; cases h_), fun _ => rfl⟩ (fun _ g h => by cases h)
      · refine guard_on (d := 13) (want := true) (by rfl) (by rfl) ?_ ?_
        · exact (f6).trans (by rw [show (b0 && b1) = true by (first | (simp only [Bool.and_eq_true, Bool.not_eq_true', Bool.not_eq_false'] at hc; simp only [hc, Bool.and_true, Bool.true_and, Bool.not_true, Bool.not_false, Bool.and_self]; done) | (simp only [hc, Bool.and_true, Bool.true_and, Bool.not_true, Bool.not_false, Bool.and_self]; done) | simp_all)])
        replace f7 := f7.1 (by exact hc)
        have m0_g1 : w.cell? ⟨g1, 0, none⟩ = some (.slice aA p.A.length cA) := blk_cell hk_g1 0 (by rfl)
        have m1_g1 : w.cell? ⟨g1, 1, none⟩ = some (.slice aB p.B.length cB) := blk_cell hk_g1 1 (by rfl)
        have m2_g1 : w.cell? ⟨g1, 2, none⟩ = some (.int .i64 il) := blk_cell hk_g1 2 (by rfl)
        have m3_g1 : w.cell? ⟨g1, 3, none⟩ = some (.int .i64 ih) := blk_cell hk_g1 3 (by rfl)
        have m4_g1 : w.cell? ⟨g1, 4, none⟩ = some (.slice aW p.W.length cW) := blk_cell hk_g1 4 (by rfl)
        have m5_g1 : w.cell? ⟨g1, 5, none⟩ = some (.slice aI p.Inv.length cI) := blk_cell hk_g1 5 (by rfl)
        have m6_g1 : w.cell? ⟨g1, 6, none⟩ = some (.slice aS p.Safe.length cS) := blk_cell hk_g1 6 (by rfl)
        have m7_g1 : w.cell? ⟨g1, 7, none⟩ = some (.slice aG p.gain.length cG) := blk_cell hk_g1 7 (by rfl)
        have m8_g1 : w.cell? ⟨g1, 8, none⟩ = some (.int .i64 bi) := blk_cell hk_g1 8 (by rfl)
        refine wp_value (v := .slice aA p.A.length cA) (w1 := w) ?_ (hK.out _ w (Below.refl _ _) ⟨fun _ => rfl, fun h_ => (by rw [hc] at h_; cases h_)⟩ (fun h => by cases h))
        try simp only [f6, f7]
        go_simp
        try (first | done | rfl | (simp; done))
    refine StepsP.cons ?_ ?_
    · intro Q s w hC hA K hK
      clear hC
      obtain ⟨f6, f8, -⟩ := hA
      replace f6 : (s 13) = .bool (b0 && b1) := f6
      replace f8 : ((b0 && b1) = true → (s 15) = .slice aA p.A.length cA) ∧ ((b0 && b1) = false → (s 15) = undef) := f8
      cases hc : (b0 && b1)
      · refine guard_off (d := 13) (want := true) (by rfl) (by rfl) ?_ ?_
        · show s 13 ≠ .bool true
          · intro h_
            rw [f6] at h_; injection h_ with h_; rw [Bool.eq_false_iff] at hc; exact hc (by (first | (simp only [h_, Bool.and_true, Bool.true_and, Bool.not_true, Bool.not_false, Bool.and_self]; done) | simp_all))
        exact hK.out _ w (Below.refl _ _) ⟨fun h_ => (by rw [hc] at h_; cases h_), fun _ => rfl⟩ (fun _ g h => by cases h)
      · refine guard_on (d := 13) (want := true) (by rfl) (by rfl) ?_ ?_
        · exact (f6).trans (by rw [show (b0 && b1) = true by (first | (simp only [Bool.and_eq_true, Bool.not_eq_true', Bool.not_eq_false'] at hc; simp only [hc, Bool.and_true, Bool.true_and, Bool.not_true, Bool.not_false, Bool.and_self]; done) | (simp only [hc, Bool.and_true, Bool.true_and, Bool.not_true, Bool.not_false, Bool.and_self]; done) | simp_all)])
        replace f8 := f8.1 (by exact hc)
        refine wp_value (v := .int .i64 (p.A.length : Int)) (w1 := w) ?_ (hK.out _ w (Below.refl _ _) ⟨fun _ => rfl, fun h_ => (by rw [hc] at h_; cases h_)⟩ (fun h => by cases h))
        try simp only [f6, f8]
        go_simp
        try (first | done | rfl | (simp; done))
    refine StepsP.cons ?_ ?_
    · intro Q s w hC hA K hK
      obtain ⟨hsz, hk_g1, lt_g1, hk_g3, lt_g3, hbw⟩ := hC
      obtain ⟨f6, -⟩ := hA
      replace f6 : (s 13) = .bool (b0 && b1) := f6
      cases hc : (b0 && b1)
      · refine guard_off (d := 13) (want := true) (by rfl) (by rfl) ?_ ?_
        · show s 13 ≠ .bool true
          · intro h_
            rw [f6] at h_; injection h_ with h_; rw [Bool.eq_false_iff] at hc; exact hc (by (first | (simp only [h_, Bool.and_true, Bool.true_and, Bool.not_true, Bool.not_false, Bool.and_self]; done) | simp_all))
        exact hK.out _ w (Below.refl _ _) ⟨fun h_ => (by rw [hc] at h_; cases h_), fun _ => rfl⟩ (fun _ g h => by cases h)
      · refine guard_on (d := 13) (want := true) (by rfl) (by rfl) ?_ ?_
        · exact (f6).trans (by rw [show (b0 && b1) = true by (first | (simp only [Bool.and_eq_true, Bool.not_eq_true', Bool.not_eq_false'] at hc; simp only [hc, Bool.and_true, Bool.true_and, Bool.not_true, Bool.not_false, Bool.and_self]; done) | (simp only [hc, Bool.and_true, Bool.true_and, Bool.not_true, Bool.not_false, Bool.and_self]; done) | simp_all)])
        have m0_g3 : w.cell? ⟨g3, 0, none⟩ = some (.int .i64 (p.B.length : Int)) := blk_cell hk_g3 0 (by rfl)
        refine wp_value (v := .int .i64 (p.B.length : Int)) (w1 := w) ?_ (hK.out _ w (Below.refl _ _) ⟨fun _ => rfl, fun h_ => (by rw [hc] at h_; cases h_)⟩ (fun h => by cases h))
        try simp only [f6]
        go_simp
        try (first | done | rfl | (simp; done))
    refine StepsP.cons ?_ ?_
    · intro Q s w hC hA K hK
      clear hC
      obtain ⟨f6, f9, f10, -⟩ := hA
      replace f6 : (s 13) = .bool (b0 && b1) := f6
      replace f9 : ((b0 && b1) = true → (s 16) = .int .i64 (p.A.length : Int)) ∧ ((b0 && b1) = false → (s 16) = undef) := f9
      replace f10 : ((b0 && b1) = true → (s 17) = .int .i64 (p.B.length : Int)) ∧ ((b0 && b1) = false → (s 17) = undef) := f10
      cases hc : (b0 && b1)
      · refine guard_off (d := 13) (want := true) (by rfl) (by rfl) ?_ ?_
        · show s 13 ≠ .bool true
          · intro h_
            rw [f6] at h_; injection h_ with h_; rw [Bool.eq_false_iff] at hc; exact hc (by (first | (simp only [h_, Bool.and_true, Bool.true_and, Bool.not_true, Bool.not_false, Bool.and_self]; done) | simp_all))
        exact hK.out _ w (Below.refl _ _) ⟨fun h_ => (by rw [hc] at h_; cases h_), fun _ => rfl⟩ (fun _ g h => by cases h)
      · refine guard_on (d := 13) (want := true) (by rfl) (by rfl) ?_ ?_
        · exact (f6).trans (by rw [show (b0 && b1) = true by (first | (simp only [Bool.and_eq_true, Bool.not_eq_true', Bool.not_eq_false'] at hc; simp only [hc, Bool.and_true, Bool.true_and, Bool.not_true, Bool.not_false, Bool.and_self]; done) | (simp only [hc, Bool.and_true, Bool.true_and, Bool.not_true, Bool.not_false, Bool.and_self]; done) | simp_all)])
        replace f9 := f9.1 (by exact hc)
        replace f10 := f10.1 (by exact hc)
        refine wp_value (v := .bool b2) (w1 := w) ?_ (hK.out _ w (Below.refl _ _) ⟨fun _ => rfl, fun h_ => (by rw [hc] at h_; cases h_)⟩ (fun h => by cases h))
        try simp only [f6, f9, f10]
        go_simp
        first | done | exact hb2.out | (simp [hb2.out]; done) | (rw [hb2.out]; done)
    refine StepsP.cons ?_ ?_
    · intro Q s w hC hA K hK
      clear hC
      obtain ⟨f6, f11, -⟩ := hA
      replace f6 : (s 13) = .bool (b0 && b1) := f6
      replace f11 : ((b0 && b1) = true → (s 18) = .bool b2) ∧ ((b0 && b1) = false → (s 18) = undef) := f11
      refine guard_none (by rfl) ?_
      refine wp_value (v := .bool ((b0 && b1) && b2)) (w1 := w) ?_ (hK.out _ w (Below.refl _ _) rfl (fun h => by cases h))
      cases ht : (b0 && b1)
      · skip
        have hct_ : s 13 = .bool false := by rw [f6, ht]
        simp only [hct_]
        go_simp
        try simp
      · have hy_ := f11.1 (by first | (simp only [Bool.and_eq_true, Bool.not_eq_true', Bool.not_eq_false'] at hc ht; simp only [hc, ht, Bool.and_true, Bool.true_and, Bool.not_true, Bool.not_false, Bool.and_self]; done) | (simp only [Bool.and_eq_true, Bool.not_eq_true', Bool.not_eq_false'] at ht; simp only [ht, Bool.and_true, Bool.true_and, Bool.not_true, Bool.not_false, Bool.and_self]; done) | (simp only [ht, Bool.and_true, Bool.true_and, Bool.not_true, Bool.not_false, Bool.and_self]; done) | simp_all)
        have hct_ : s 13 = .bool true := by rw [f6, ht]
        simp only [hct_, hy_]
        go_simp
        try simp
    refine StepsP.cons ?_ ?_
    · intro Q s w hC hA K hK
      clear hC
      obtain ⟨f12, -⟩ := hA
      replace f12 : (s 19) = .bool ((b0 && b1) && b2) := f12
      refine guard_none (by rfl) ?_
      refine wp_value (v := .bool ((b0 && b1) && b2)) (w1 := w) ?_ (hK.out _ w (Below.refl _ _) rfl (fun h => by cases h))
      try simp only [f12]
      go_simp
      try (first | done | rfl | (simp; done))
    refine StepsP.cons ?_ ?_
    · intro Q s w hC hA K hK
      clear hC
      obtain ⟨f13, -⟩ := hA
      replace f13 : (s 20) = .bool ((b0 && b1) && b2) := f13
      cases hc : ((b0 && b1) && b2)
      · refine guard_off (d := 20) (want := true) (by rfl) (by rfl) ?_ ?_
        · show s 20 ≠ .bool true
          · intro h_
            rw [f13] at h_; injection h_ with h_; rw [Bool.eq_false_iff] at hc; exact hc (by (first | (simp only [h_, Bool.and_true, Bool.true_and, Bool.not_true, Bool.not_false, Bool.and_self]; done) | simp_all))
        exact hK.out _ w (Below.refl _ _) ⟨fun h_ => (by rw [hc] at h_; cases h_), fun _ => rfl⟩ (fun _ g h => by cases h)
      · refine guard_on (d := 20) (want := true) (by rfl) (by rfl) ?_ ?_
        · exact (f13).trans (by rw [show ((b0 && b1) && b2) = true by (first | (simp only [Bool.and_eq_true, Bool.not_eq_true', Bool.not_eq_false'] at hc; simp only [hc, Bool.and_true, Bool.true_and, Bool.not_true, Bool.not_false, Bool.and_self]; done) | (simp only [hc, Bool.and_true, Bool.true_and, Bool.not_true, Bool.not_false, Bool.and_self]; done) | simp_all)])
        refine wp_value (v := .pointer (some ⟨g1, 0, none⟩)) (w1 := w) ?_ (hK.out _ w (Below.refl _ _) ⟨fun _ => rfl, fun h_ => (by rw [hc] at h_; cases h_)⟩ (fun h => by cases h))
        try simp only [f13]
        go_simp
        try (first | done | rfl | (simp; done))
    refine StepsP.cons ?_ ?_
    · intro Q s w hC hA K hK
      obtain ⟨hsz, hk_g1, lt_g1, hk_g3, lt_g3, hbw⟩ := hC
      obtain ⟨f13, f14, -⟩ := hA
      replace f13 : (s 20) = .bool ((b0 && b1) && b2) := f13
      replace f14 : (((b0 && b1) && b2) = true → (s 21) = .pointer (some ⟨g1, 0, none⟩)) ∧ (((b0 && b1) && b2) = false → (s 21) = undef) := f14
      cases hc : ((b0 && b1) && b2)
      · refine guard_off (d := 20) (want := true) (by rfl) (by rfl) ?_ ?_
        · show s 20 ≠ .bool true
          · intro h_
            rw [f13] at h_; injection h_ with h_; rw [Bool.eq_false_iff] at hc; exact hc (by (first | (simp only [h_, Bool.and_true, Bool.true_and, Bool.not_true, Bool.not_false, Bool.and_self]; done) | simp_all))
        exact hK.out _ w (Below.refl _ _) ⟨fun h_ => (by rw [hc] at h_; cases h_), fun _ => rfl⟩ (fun _ g h => by cases h)
      · refine guard_on (d := 20) (want := true) (by rfl) (by rfl) ?_ ?_
        · exact (f13).trans (by rw [show ((b0 && b1) && b2) = true by (first | (simp only [Bool.and_eq_true, Bool.not_eq_true', Bool.not_eq_false'] at hc; simp only [hc, Bool.and_true, Bool.true_and, Bool.not_true, Bool.not_false, Bool.and_self]; done) | (simp only [hc, Bool.and_true, Bool.true_and, Bool.not_true, Bool.not_false, Bool.and_self]; done) | simp_all)])
        replace f14 := f14.1 (by exact hc)
        have m0_g1 : w.cell? ⟨g1, 0, none⟩ = some (.slice aA p.A.length cA) := blk_cell hk_g1 0 (by rfl)
        have m1_g1 : w.cell? ⟨g1, 1, none⟩ = some (.slice aB p.B.length cB) := blk_cell hk_g1 1 (by rfl)
        have m2_g1 : w.cell? ⟨g1, 2, none⟩ = some (.int .i64 il) := blk_cell hk_g1 2 (by rfl)
        have m3_g1 : w.cell? ⟨g1, 3, none⟩ = some (.int .i64 ih) := blk_cell hk_g1 3 (by rfl)
        have m4_g1 : w.cell? ⟨g1, 4, none⟩ = some (.slice aW p.W.length cW) := blk_cell hk_g1 4 (by rfl)
        have m5_g1 : w.cell? ⟨g1, 5, none⟩ = some (.slice aI p.Inv.length cI) := blk_cell hk_g1 5 (by rfl)
        have m6_g1 : w.cell? ⟨g1, 6, none⟩ = some (.slice aS p.Safe.length cS) := blk_cell hk_g1 6 (by rfl)
        have m7_g1 : w.cell? ⟨g1, 7, none⟩ = some (.slice aG p.gain.length cG) := blk_cell hk_g1 7 (by rfl)
        have m8_g1 : w.cell? ⟨g1, 8, none⟩ = some (.int .i64 bi) := blk_cell hk_g1 8 (by rfl)
        refine wp_value (v := .slice aA p.A.length cA) (w1 := w) ?_ (hK.out _ w (Below.refl _ _) ⟨fun _ => rfl, fun h_ => (by rw [hc] at h_; cases h_)⟩ (fun h => by cases h))
        try simp only [f13, f14]
        go_simp
        try (first | done | rfl | (simp; done))
    refine StepsP.cons ?_ ?_
    · intro Q s w hC hA K hK
      clear hC
      obtain ⟨f13, -⟩ := hA
      replace f13 : (s 20) = .bool ((b0 && b1) && b2) := f13
      cases hc : ((b0 && b1) && b2)
      · refine guard_off (d := 20) (want := true) (by rfl) (by rfl) ?_ ?_
        · show s 20 ≠ .bool true
          · intro h_
            rw [f13] at h_; injection h_ with h_; rw [Bool.eq_false_iff] at hc; exact hc (by (first | (simp only [h_, Bool.and_true, Bool.true_and, Bool.not_true, Bool.not_false, Bool.and_self]; done) | simp_all))
        exact hK.out _ w (Below.refl _ _) ⟨fun h_ => (by rw [hc] at h_; cases h_), fun _ => rfl⟩ (fun _ g h => by cases h)
      · refine guard_on (d := 20) (want := true) (by rfl) (by rfl) ?_ ?_
        · exact (f13).trans (by rw [show ((b0 && b1) && b2) = true by (first | (simp only [Bool.and_eq_true, Bool.not_eq_true', Bool.not_eq_false'] at hc; simp only [hc, Bool.and_true, Bool.true_and, Bool.not_true, Bool.not_false, Bool.and_self]; done) | (simp only [hc, Bool.and_true, Bool.true_and, Bool.not_true, Bool.not_false, Bool.and_self]; done) | simp_all)])
        refine wp_value (v := .func (.func 96) #[] #[.pointer (some ⟨g3, 0, none⟩)]) (w1 := w) ?_ (hK.out _ w (Below.refl _ _) ⟨fun _ => rfl, fun h_ => (by rw [hc] at h_; cases h_)⟩ (fun h => by cases h))
        try simp only [f13]
        go_simp
        try (first | done | rfl | (simp; done))
    refine StepsP.cons ?_ ?_
    · intro Q s w hC hA K hK
      obtain ⟨hsz, hk_g1, lt_g1, hk_g3, lt_g3, hbw⟩ := hC
      obtain ⟨f13, f15, f16, -⟩ := hA
      replace f13 : (s 20) = .bool ((b0 && b1) && b2) := f13
      replace f15 : (((b0 && b1) && b2) = true → (s 22) = .slice aA p.A.length cA) ∧ (((b0 && b1) && b2) = false → (s 22) = undef) := f15
      replace f16 : (((b0 && b1) && b2) = true → (s 23) = .func (.func 96) #[] #[.pointer (some ⟨g3, 0, none⟩)]) ∧ (((b0 && b1) && b2) = false → (s 23) = undef) := f16
      cases hc : ((b0 && b1) && b2)
      · refine guard_off (d := 20) (want := true) (by rfl) (by rfl) ?_ ?_
        · show s 20 ≠ .bool true
          · intro h_
            rw [f13] at h_; injection h_ with h_; rw [Bool.eq_false_iff] at hc; exact hc (by (first | (simp only [h_, Bool.and_true, Bool.true_and, Bool.not_true, Bool.not_false, Bool.and_self]; done) | simp_all))
        exact hK.out _ w (Below.refl _ _) ⟨fun h_ => (by rw [hc] at h_; cases h_), fun _ => rfl⟩ (fun _ g h => by cases h)
      · refine guard_on (d := 20) (want := true) (by rfl) (by rfl) ?_ ?_
        · exact (f13).trans (by rw [show ((b0 && b1) && b2) = true by (first | (simp only [Bool.and_eq_true, Bool.not_eq_true', Bool.not_eq_false'] at hc; simp only [hc, Bool.and_true, Bool.true_and, Bool.not_true, Bool.not_false, Bool.and_self]; done) | (simp only [hc, Bool.and_true, Bool.true_and, Bool.not_true, Bool.not_false, Bool.and_self]; done) | simp_all)])
        replace f15 := f15.1 (by exact hc)
        replace f16 := f16.1 (by exact hc)
        refine wp_call (N := some 24) (by rfl) Try.func95 (by kernel_rfl) #[.slice aA p.A.length cA, .func (.func 96) #[] #[.pointer (some ⟨g3, 0, none⟩)]] rfl (by rfl) ?_ ?_
        · show [s 22, s 23] = [.slice aA p.A.length cA, .func (.func 96) #[] #[.pointer (some ⟨g3, 0, none⟩)]]
          first | rfl | simp only [f13, f15, f16]
        refine (ContainsR_calls aA p.A cA g3 (p.B.length : Int) _ (hA.below hbw) hk_g3).mono ?_
        rintro e w1 ⟨rfl, hb⟩
        refine ⟨_, rfl, ?_⟩
        rw [hb3.out]
        exact hK.out _ _ hb ⟨fun _ => rfl, fun h_ => (by rw [hc] at h_; cases h_)⟩ (fun h => by cases h)
    refine StepsP.cons ?_ ?_
    · intro Q s w hC hA K hK
      clear hC
      obtain ⟨f13, f17, -⟩ := hA
      replace f13 : (s 20) = .bool ((b0 && b1) && b2) := f13
      replace f17 : (((b0 && b1) && b2) = true → (s 24) = .bool b3) ∧ (((b0 && b1) && b2) = false → (s 24) = undef) := f17
      cases hc : ((b0 && b1) && b2)
      · refine guard_off (d := 20) (want := true) (by rfl) (by rfl) ?_ ?_
        · show s 20 ≠ .bool true
          · intro h_
            rw [f13] at h_; injection h_ with h_; rw [Bool.eq_false_iff] at hc; exact hc (by (first | (simp only [h_, Bool.and_true, Bool.true_and, Bool.not_true, Bool.not_false, Bool.and_self]; done) | simp_all))
        exact hK.out _ w (Below.refl _ _) ⟨fun h_ => (by rw [hc] at h_; cases h_), fun _ => rfl⟩ (fun _ g h => by cases h)
      · refine guard_on (d := 20) (want := true) (by rfl) (by rfl) ?_ ?_
        · exact (f13).trans (by rw [show ((b0 && b1) && b2) = true by (first | (simp only [Bool.and_eq_true, Bool.not_eq_true', Bool.not_eq_false'] at hc; simp only [hc, Bool.and_true, Bool.true_and, Bool.not_true, Bool.not_false, Bool.and_self]; done) | (simp only [hc, Bool.and_true, Bool.true_and, Bool.not_true, Bool.not_false, Bool.and_self]; done) | simp_all)])
        replace f17 := f17.1 (by exact hc)
        refine wp_value (v := .bool (!b3)) (w1 := w) ?_ (hK.out _ w (Below.refl _ _) ⟨fun _ => rfl, fun h_ => (by rw [hc] at h_; cases h_)⟩ (fun h => by cases h))
        try simp only [f13, f17]
        go_simp
        try (first | done | rfl | (simp; done))
    refine StepsP.cons ?_ ?_
    · intro Q s w hC hA K hK
      clear hC
      obtain ⟨f13, f18, -⟩ := hA
      replace f13 : (s 20) = .bool ((b0 && b1) && b2) := f13
      replace f18 : (((b0 && b1) && b2) = true → (s 25) = .bool (!b3)) ∧ (((b0 && b1) && b2) = false → (s 25) = undef) := f18
      refine guard_none (by rfl) ?_
      refine wp_value (v := .bool (((b0 && b1) && b2) && (!b3))) (w1 := w) ?_ (hK.out _ w (Below.refl _ _) rfl (fun h => by cases h))
      cases ht : ((b0 && b1) && b2)
      · skip
        have hct_ : s 20 = .bool false := by rw [f13, ht]
        simp only [hct_]
        go_simp
        try simp
      · have hy_ := f18.1 (by first | (simp only [Bool.and_eq_true, Bool.not_eq_true', Bool.not_eq_false'] at hc ht; simp only [hc, ht, Bool.and_true, Bool.true_and, Bool.not_true, Bool.not_false, Bool.and_self]; done) | (simp only [Bool.and_eq_true, Bool.not_eq_true', Bool.not_eq_false'] at ht; simp only [ht, Bool.and_true, Bool.true_and, Bool.not_true, Bool.not_false, Bool.and_self]; done) | (simp only [ht, Bool.and_true, Bool.true_and, Bool.not_true, Bool.not_false, Bool.and_self]; done) | simp_all)
        have hct_ : s 20 = .bool true := by rw [f13, ht]
        simp only [hct_, hy_]
        go_simp
        try simp
    refine StepsP.cons ?_ ?_
    · intro Q s w hC hA K hK
      clear hC
      obtain ⟨f19, -⟩ := hA
      replace f19 : (s 26) = .bool (((b0 && b1) && b2) && (!b3)) := f19
      refine guard_none (by rfl) ?_
      refine wp_value (v := .bool (((b0 && b1) && b2) && (!b3))) (w1 := w) ?_ (hK.out _ w (Below.refl _ _) rfl (fun h => by cases h))
      try simp only [f19]
      go_simp
      try (first | done | rfl | (simp; done))
    refine StepsP.cons ?_ ?_
    · intro Q s w hC hA K hK
      clear hC
      obtain ⟨f20, -⟩ := hA
      replace f20 : (s 27) = .bool (((b0 && b1) && b2) && (!b3)) := f20
      cases hc : (((b0 && b1) && b2) && (!b3))
      · refine guard_off (d := 27) (want := true) (by rfl) (by rfl) ?_ ?_
        · show s 27 ≠ .bool true
          · intro h_
            rw [f20] at h_; injection h_ with h_; rw [Bool.eq_false_iff] at hc; exact hc (by (first | (simp only [h_, Bool.and_true, Bool.true_and, Bool.not_true, Bool.not_false, Bool.and_self]; done) | simp_all))
        exact hK.out _ w (Below.refl _ _) ⟨fun h_ => (by rw [hc] at h_; cases h_), fun _ => rfl⟩ (fun _ g h => by cases h)
      · refine guard_on (d := 27) (want := true) (by rfl) (by rfl) ?_ ?_
        · exact (f20).trans (by rw [show (((b0 && b1) && b2) && (!b3)) = true by (first | (simp only [Bool.and_eq_true, Bool.not_eq_true', Bool.not_eq_false'] at hc; simp only [hc, Bool.and_true, Bool.true_and, Bool.not_true, Bool.not_false, Bool.and_self]; done) | (simp only [hc, Bool.and_true, Bool.true_and, Bool.not_true, Bool.not_false, Bool.and_self]; done) | simp_all)])
        refine wp_value (v := .pointer (some ⟨g1, 4, none⟩)) (w1 := w) ?_ (hK.out _ w (Below.refl _ _) ⟨fun _ => rfl, fun h_ => (by rw [hc] at h_; cases h_)⟩ (fun h => by cases h))
        try simp only [f20]
        go_simp
        try (first | done | rfl | (simp; done))
    refine StepsP.cons ?_ ?_
    · intro Q s w hC hA K hK
      obtain ⟨hsz, hk_g1, lt_g1, hk_g3, lt_g3, hbw⟩ := hC
      obtain ⟨f20, f21, -⟩ := hA
      replace f20 : (s 27) = .bool (((b0 && b1) && b2) && (!b3)) := f20
      replace f21 : ((((b0 && b1) && b2) && (!b3)) = true → (s 28) = .pointer (some ⟨g1, 4, none⟩)) ∧ ((((b0 && b1) && b2) && (!b3)) = false → (s 28) = undef) := f21
      cases hc : (((b0 && b1) && b2) && (!b3))
      · refine guard_off (d := 27) (want := true) (by rfl) (by rfl) ?_ ?_
        · show s 27 ≠ .bool true
          · intro h_
            rw [f20] at h_; injection h_ with h_; rw [Bool.eq_false_iff] at hc; exact hc (by (first | (simp only [h_, Bool.and_true, Bool.true_and, Bool.not_true, Bool.not_false, Bool.and_self]; done) | simp_all))
        exact hK.out _ w (Below.refl _ _) ⟨fun h_ => (by rw [hc] at h_; cases h_), fun _ => rfl⟩ (fun _ g h => by cases h)
      · refine guard_on (d := 27) (want := true) (by rfl) (by rfl) ?_ ?_
        · exact (f20).trans (by rw [show (((b0 && b1) && b2) && (!b3)) = true by (first | (simp only [Bool.and_eq_true, Bool.not_eq_true', Bool.not_eq_false'] at hc; simp only [hc, Bool.and_true, Bool.true_and, Bool.not_true, Bool.not_false, Bool.and_self]; done) | (simp only [hc, Bool.and_true, Bool.true_and, Bool.not_true, Bool.not_false, Bool.and_self]; done) | simp_all)])
        replace f21 := f21.1 (by exact hc)
        have m0_g1 : w.cell? ⟨g1, 0, none⟩ = some (.slice aA p.A.length cA) := blk_cell hk_g1 0 (by rfl)
        have m1_g1 : w.cell? ⟨g1, 1, none⟩ = some (.slice aB p.B.length cB) := blk_cell hk_g1 1 (by rfl)
        have m2_g1 : w.cell? ⟨g1, 2, none⟩ = some (.int .i64 il) := blk_cell hk_g1 2 (by rfl)
        have m3_g1 : w.cell? ⟨g1, 3, none⟩ = some (.int .i64 ih) := blk_cell hk_g1 3 (by rfl)
        have m4_g1 : w.cell? ⟨g1, 4, none⟩ = some (.slice aW p.W.length cW) := blk_cell hk_g1 4 (by rfl)
        have m5_g1 : w.cell? ⟨g1, 5, none⟩ = some (.slice aI p.Inv.length cI) := blk_cell hk_g1 5 (by rfl)
        have m6_g1 : w.cell? ⟨g1, 6, none⟩ = some (.slice aS p.Safe.length cS) := blk_cell hk_g1 6 (by rfl)
        have m7_g1 : w.cell? ⟨g1, 7, none⟩ = some (.slice aG p.gain.length cG) := blk_cell hk_g1 7 (by rfl)
        have m8_g1 : w.cell? ⟨g1, 8, none⟩ = some (.int .i64 bi) := blk_cell hk_g1 8 (by rfl)
        refine wp_value (v := .slice aW p.W.length cW) (w1 := w) ?_ (hK.out _ w (Below.refl _ _) ⟨fun _ => rfl, fun h_ => (by rw [hc] at h_; cases h_)⟩ (fun h => by cases h))
        try simp only [f20, f21]
        go_simp
        try (first | done | rfl | (simp; done))
    refine StepsP.cons ?_ ?_
    · intro Q s w hC hA K hK
      clear hC
      obtain ⟨f20, f22, -⟩ := hA
      replace f20 : (s 27) = .bool (((b0 && b1) && b2) && (!b3)) := f20
      replace f22 : ((((b0 && b1) && b2) && (!b3)) = true → (s 29) = .slice aW p.W.length cW) ∧ ((((b0 && b1) && b2) && (!b3)) = false → (s 29) = undef) := f22
      cases hc : (((b0 && b1) && b2) && (!b3))
      · refine guard_off (d := 27) (want := true) (by rfl) (by rfl) ?_ ?_
        · show s 27 ≠ .bool true
          · intro h_
            rw [f20] at h_; injection h_ with h_; rw [Bool.eq_false_iff] at hc; exact hc (by (first | (simp only [h_, Bool.and_true, Bool.true_and, Bool.not_true, Bool.not_false, Bool.and_self]; done) | simp_all))
        exact hK.out _ w (Below.refl _ _) ⟨fun h_ => (by rw [hc] at h_; cases h_), fun _ => rfl⟩ (fun _ g h => by cases h)
      · refine guard_on (d := 27) (want := true) (by rfl) (by rfl) ?_ ?_
        · exact (f20).trans (by rw [show (((b0 && b1) && b2) && (!b3)) = true by (first | (simp only [Bool.and_eq_true, Bool.not_eq_true', Bool.not_eq_false'] at hc; simp only [hc, Bool.and_true, Bool.true_and, Bool.not_true, Bool.not_false, Bool.and_self]; done) | (simp only [hc, Bool.and_true, Bool.true_and, Bool.not_true, Bool.not_false, Bool.and_self]; done) | simp_all)])
        replace f22 := f22.1 (by exact hc)
        refine wp_value (v := .int .i64 (p.W.length : Int)) (w1 := w) ?_ (hK.out _ w (Below.refl _ _) ⟨fun _ => rfl, fun h_ => (by rw [hc] at h_; cases h_)⟩ (fun h => by cases h))
        try simp only [f20, f22]
        go_simp
        try (first | done | rfl | (simp; done))
    refine StepsP.cons ?_ ?_
    · intro Q s w hC hA K hK
      obtain ⟨hsz, hk_g1, lt_g1, hk_g3, lt_g3, hbw⟩ := hC
      obtain ⟨f20, -⟩ := hA
      replace f20 : (s 27) = .bool (((b0 && b1) && b2) && (!b3)) := f20
      cases hc : (((b0 && b1) && b2) && (!b3))
      · refine guard_off (d := 27) (want := true) (by rfl) (by rfl) ?_ ?_
        · show s 27 ≠ .bool true
          · intro h_
            rw [f20] at h_; injection h_ with h_; rw [Bool.eq_false_iff] at hc; exact hc (by (first | (simp only [h_, Bool.and_true, Bool.true_and, Bool.not_true, Bool.not_false, Bool.and_self]; done) | simp_all))
        exact hK.out _ w (Below.refl _ _) ⟨fun h_ => (by rw [hc] at h_; cases h_), fun _ => rfl⟩ (fun _ g h => by cases h)
      · refine guard_on (d := 27) (want := true) (by rfl) (by rfl) ?_ ?_
        · exact (f20).trans (by rw [show (((b0 && b1) && b2) && (!b3)) = true by (first | (simp only [Bool.and_eq_true, Bool.not_eq_true', Bool.not_eq_false'] at hc; simp only [hc, Bool.and_true, Bool.true_and, Bool.not_true, Bool.not_false, Bool.and_self]; done) | (simp only [hc, Bool.and_true, Bool.true_and, Bool.not_true, Bool.not_false, Bool.and_self]; done) | simp_all)])
        have m0_g3 : w.cell? ⟨g3, 0, none⟩ = some (.int .i64 (p.B.length : Int)) := blk_cell hk_g3 0 (by rfl)
        refine wp_value (v := .int .i64 (p.B.length : Int)) (w1 := w) ?_ (hK.out _ w (Below.refl _ _) ⟨fun _ => rfl, fun h_ => (by rw [hc] at h_; cases h_)⟩ (fun h => by cases h))
        try simp only [f20]
        go_simp
        try (first | done | rfl | (simp; done))
    refine StepsP.cons ?_ ?_
    · intro Q s w hC hA K hK
      clear hC
      obtain ⟨f20, f23, f24, -⟩ := hA
      replace f20 : (s 27) = .bool (((b0 && b1) && b2) && (!b3)) := f20
      replace f23 : ((((b0 && b1) && b2) && (!b3)) = true → (s 30) = .int .i64 (p.W.length : Int)) ∧ ((((b0 && b1) && b2) && (!b3)) = false → (s 30) = undef) := f23
      replace f24 : ((((b0 && b1) && b2) && (!b3)) = true → (s 31) = .int .i64 (p.B.length : Int)) ∧ ((((b0 && b1) && b2) && (!b3)) = false → (s 31) = undef) := f24
      cases hc : (((b0 && b1) && b2) && (!b3))
      · refine guard_off (d := 27) (want := true) (by rfl) (by rfl) ?_ ?_
        · show s 27 ≠ .bool true
          · intro h_
            rw [f20] at h_; injection h_ with h_; rw [Bool.eq_false_iff] at hc; exact hc (by (first | (simp only [h_, Bool.and_true, Bool.true_and, Bool.not_true, Bool.not_false, Bool.and_self]; done) | simp_all))
        exact hK.out _ w (Below.refl _ _) ⟨fun h_ => (by rw [hc] at h_; cases h_), fun _ => rfl⟩ (fun _ g h => by cases h)
      · refine guard_on (d := 27) (want := true) (by rfl) (by rfl) ?_ ?_
        · exact (f20).trans (by rw [show (((b0 && b1) && b2) && (!b3)) = true by (first | (simp only [Bool.and_eq_true, Bool.not_eq_true', Bool.not_eq_false'] at hc; simp only [hc, Bool.and_true, Bool.true_and, Bool.not_true, Bool.not_false, Bool.and_self]; done) | (simp only [hc, Bool.and_true, Bool.true_and, Bool.not_true, Bool.not_false, Bool.and_self]; done) | simp_all)])
        replace f23 := f23.1 (by exact hc)
        replace f24 := f24.1 (by exact hc)
        refine wp_value (v := .bool b4) (w1 := w) ?_ (hK.out _ w (Below.refl _ _) ⟨fun _ => rfl, fun h_ => (by rw [hc] at h_; cases h_)⟩ (fun h => by cases h))
        try simp only [f20, f23, f24]
        go_simp
        first | done | exact hb4.out | (simp [hb4.out]; done) | (rw [hb4.out]; done)
    refine StepsP.cons ?_ ?_
    · intro Q s w hC hA K hK
      clear hC
      obtain ⟨f20, f25, -⟩ := hA
      replace f20 : (s 27) = .bool (((b0 && b1) && b2) && (!b3)) := f20
      replace f25 : ((((b0 && b1) && b2) && (!b3)) = true → (s 32) = .bool b4) ∧ ((((b0 && b1) && b2) && (!b3)) = false → (s 32) = undef) := f25
      refine guard_none (by rfl) ?_
      refine wp_value (v := .bool ((((b0 && b1) && b2) && (!b3)) && b4)) (w1 := w) ?_ (hK.out _ w (Below.refl _ _) rfl (fun h => by cases h))
      cases ht : (((b0 && b1) && b2) && (!b3))
      · skip
        have hct_ : s 27 = .bool false := by rw [f20, ht]
        simp only [hct_]
        go_simp
        try simp
      · have hy_ := f25.1 (by first | (simp only [Bool.and_eq_true, Bool.not_eq_true', Bool.not_eq_false'] at hc ht; simp only [hc, ht, Bool.and_true, Bool.true_and, Bool.not_true, Bool.not_false, Bool.and_self]; done) | (simp only [Bool.and_eq_true, Bool.not_eq_true', Bool.not_eq_false'] at ht; simp only [ht, Bool.and_true, Bool.true_and, Bool.not_true, Bool.not_false, Bool.and_self]; done) | (simp only [ht, Bool.and_true, Bool.true_and, Bool.not_true, Bool.not_false, Bool.and_self]; done) | simp_all)
        have hct_ : s 27 = .bool true := by rw [f20, ht]
        simp only [hct_, hy_]
        go_simp
        try simp
    refine StepsP.cons ?_ ?_
    · intro Q s w hC hA K hK
      clear hC
      obtain ⟨f26, -⟩ := hA
      replace f26 : (s 33) = .bool ((((b0 && b1) && b2) && (!b3)) && b4) := f26
      refine guard_none (by rfl) ?_
      refine wp_value (v := .bool ((((b0 && b1) && b2) && (!b3)) && b4)) (w1 := w) ?_ (hK.out _ w (Below.refl _ _) rfl (fun h => by cases h))
      try simp only [f26]
      go_simp
      try (first | done | rfl | (simp; done))
    refine StepsP.cons ?_ ?_
    · intro Q s w hC hA K hK
      clear hC
      obtain ⟨f27, -⟩ := hA
      replace f27 : (s 34) = .bool ((((b0 && b1) && b2) && (!b3)) && b4) := f27
      cases hc : ((((b0 && b1) && b2) && (!b3)) && b4)
      · refine guard_off (d := 34) (want := true) (by rfl) (by rfl) ?_ ?_
        · show s 34 ≠ .bool true
          · intro h_
            rw [f27] at h_; injection h_ with h_; rw [Bool.eq_false_iff] at hc; exact hc (by (first | (simp only [h_, Bool.and_true, Bool.true_and, Bool.not_true, Bool.not_false, Bool.and_self]; done) | simp_all))
        exact hK.out _ w (Below.refl _ _) ⟨fun h_ => (by rw [hc] at h_; cases h_), fun _ => rfl⟩ (fun _ g h => by cases h)
      · refine guard_on (d := 34) (want := true) (by rfl) (by rfl) ?_ ?_
        · exact (f27).trans (by rw [show ((((b0 && b1) && b2) && (!b3)) && b4) = true by (first | (simp only [Bool.and_eq_true, Bool.not_eq_true', Bool.not_eq_false'] at hc; simp only [hc, Bool.and_true, Bool.true_and, Bool.not_true, Bool.not_false, Bool.and_self]; done) | (simp only [hc, Bool.and_true, Bool.true_and, Bool.not_true, Bool.not_false, Bool.and_self]; done) | simp_all)])
        refine wp_value (v := .pointer (some ⟨g1, 5, none⟩)) (w1 := w) ?_ (hK.out _ w (Below.refl _ _) ⟨fun _ => rfl, fun h_ => (by rw [hc] at h_; cases h_)⟩ (fun h => by cases h))
        try simp only [f27]
        go_simp
        try (first | done | rfl | (simp; done))
    refine StepsP.cons ?_ ?_
    · intro Q s w hC hA K hK
      obtain ⟨hsz, hk_g1, lt_g1, hk_g3, lt_g3, hbw⟩ := hC
      obtain ⟨f27, f28, -⟩ := hA
      replace f27 : (s 34) = .bool ((((b0 && b1) && b2) && (!b3)) && b4) := f27
      replace f28 : (((((b0 && b1) && b2) && (!b3)) && b4) = true → (s 35) = .pointer (some ⟨g1, 5, none⟩)) ∧ (((((b0 && b1) && b2) && (!b3)) && b4) = false → (s 35) = undef) := f28
      cases hc : ((((b0 && b1) && b2) && (!b3)) && b4)
      · refine guard_off (d := 34) (want := true) (by rfl) (by rfl) ?_ ?_
        · show s 34 ≠ .bool true
          · intro h_
            rw [f27] at h_; injection h_ with h_; rw [Bool.eq_false_iff] at hc; exact hc (by (first | (simp only [h_, Bool.and_true, Bool.true_and, Bool.not_true, Bool.not_false, Bool.and_self]; done) | simp_all))
        exact hK.out _ w (Below.refl _ _) ⟨fun h_ => (by rw [hc] at h_; cases h_), fun _ => rfl⟩ (fun _ g h => by cases h)
      · refine guard_on (d := 34) (want := true) (by rfl) (by rfl) ?_ ?_
        · exact (f27).trans (by rw [show ((((b0 && b1) && b2) && (!b3)) && b4) = true by (first | (simp only [Bool.and_eq_true, Bool.not_eq_true', Bool.not_eq_false'] at hc; simp only [hc, Bool.and_true, Bool.true_and, Bool.not_true, Bool.not_false, Bool.and_self]; done) | (simp only [hc, Bool.and_true, Bool.true_and, Bool.not_true, Bool.not_false, Bool.and_self]; done) | simp_all)])
        replace f28 := f28.1 (by exact hc)
        have m0_g1 : w.cell? ⟨g1, 0, none⟩ = some (.slice aA p.A.length cA) := blk_cell hk_g1 0 (by rfl)
        have m1_g1 : w.cell? ⟨g1, 1, none⟩ = some (.slice aB p.B.length cB) := blk_cell hk_g1 1 (by rfl)
        have m2_g1 : w.cell? ⟨g1, 2, none⟩ = some (.int .i64 il) := blk_cell hk_g1 2 (by rfl)
        have m3_g1 : w.cell? ⟨g1, 3, none⟩ = some (.int .i64 ih) := blk_cell hk_g1 3 (by rfl)
        have m4_g1 : w.cell? ⟨g1, 4, none⟩ = some (.slice aW p.W.length cW) := blk_cell hk_g1 4 (by rfl)
        have m5_g1 : w.cell? ⟨g1, 5, none⟩ = some (.slice aI p.Inv.length cI) := blk_cell hk_g1 5 (by rfl)
        have m6_g1 : w.cell? ⟨g1, 6, none⟩ = some (.slice aS p.Safe.length cS) := blk_cell hk_g1 6 (by rfl)
        have m7_g1 : w.cell? ⟨g1, 7, none⟩ = some (.slice aG p.gain.length cG) := blk_cell hk_g1 7 (by rfl)
        have m8_g1 : w.cell? ⟨g1, 8, none⟩ = some (.int .i64 bi) := blk_cell hk_g1 8 (by rfl)
        refine wp_value (v := .slice aI p.Inv.length cI) (w1 := w) ?_ (hK.out _ w (Below.refl _ _) ⟨fun _ => rfl, fun h_ => (by rw [hc] at h_; cases h_)⟩ (fun h => by cases h))
        try simp only [f27, f28]
        go_simp
        try (first | done | rfl | (simp; done))
    refine StepsP.cons ?_ ?_
    · intro Q s w hC hA K hK
      clear hC
      obtain ⟨f27, f29, -⟩ := hA
      replace f27 : (s 34) = .bool ((((b0 && b1) && b2) && (!b3)) && b4) := f27
      replace f29 : (((((b0 && b1) && b2) && (!b3)) && b4) = true → (s 36) = .slice aI p.Inv.length cI) ∧ (((((b0 && b1) && b2) && (!b3)) && b4) = false → (s 36) = undef) := f29
      cases hc : ((((b0 && b1) && b2) && (!b3)) && b4)
      · refine guard_off (d := 34) (want := true) (by rfl) (by rfl) ?_ ?_
        · show s 34 ≠ .bool true
          · intro h_
            rw [f27] at h_; injection h_ with h_; rw [Bool.eq_false_iff] at hc; exact hc (by (first | (simp only [h_, Bool.and_true, Bool.true_and, Bool.not_true, Bool.not_false, Bool.and_self]; done) | simp_all))
        exact hK.out _ w (Below.refl _ _) ⟨fun h_ => (by rw [hc] at h_; cases h_), fun _ => rfl⟩ (fun _ g h => by cases h)
      · refine guard_on (d := 34) (want := true) (by rfl) (by rfl) ?_ ?_
        · exact (f27).trans (by rw [show ((((b0 && b1) && b2) && (!b3)) && b4) = true by (first | (simp only [Bool.and_eq_true, Bool.not_eq_true', Bool.not_eq_false'] at hc; simp only [hc, Bool.and_true, Bool.true_and, Bool.not_true, Bool.not_false, Bool.and_self]; done) | (simp only [hc, Bool.and_true, Bool.true_and, Bool.not_true, Bool.not_false, Bool.and_self]; done) | simp_all)])
        replace f29 := f29.1 (by exact hc)
        refine wp_value (v := .int .i64 (p.Inv.length : Int)) (w1 := w) ?_ (hK.out _ w (Below.refl _ _) ⟨fun _ => rfl, fun h_ => (by rw [hc] at h_; cases h_)⟩ (fun h => by cases h))
        try simp only [f27, f29]
        go_simp
        try (first | done | rfl | (simp; done))
    refine StepsP.cons ?_ ?_
    · intro Q s w hC hA K hK
      obtain ⟨hsz, hk_g1, lt_g1, hk_g3, lt_g3, hbw⟩ := hC
      obtain ⟨f27, -⟩ := hA
      replace f27 : (s 34) = .bool ((((b0 && b1) && b2) && (!b3)) && b4) := f27
      cases hc : ((((b0 && b1) && b2) && (!b3)) && b4)
      · refine guard_off (d := 34) (want := true) (by rfl) (by rfl) ?_ ?_
        · show s 34 ≠ .bool true
          · intro h_
            rw [f27] at h_; injection h_ with h_; rw [Bool.eq_false_iff] at hc; exact hc (by (first | (simp only [h_, Bool.and_true, Bool.true_and, Bool.not_true, Bool.not_false, Bool.and_self]; done) | simp_all))
        exact hK.out _ w (Below.refl _ _) ⟨fun h_ => (by rw [hc] at h_; cases h_), fun _ => rfl⟩ (fun _ g h => by cases h)
      · refine guard_on (d := 34) (want := true) (by rfl) (by rfl) ?_ ?_
        · exact (f27).trans (by rw [show ((((b0 && b1) && b2) && (!b3)) && b4) = true by (first | (simp only [Bool.and_eq_true, Bool.not_eq_true', Bool.not_eq_false'] at hc; simp only [hc, Bool.and_true, Bool.true_and, Bool.not_true, Bool.not_false, Bool.and_self]; done) | (simp only [hc, Bool.and_true, Bool.true_and, Bool.not_true, Bool.not_false, Bool.and_self]; done) | simp_all)])
        have m0_g3 : w.cell? ⟨g3, 0, none⟩ = some (.int .i64 (p.B.length : Int)) := blk_cell hk_g3 0 (by rfl)
        refine wp_value (v := .int .i64 (p.B.length : Int)) (w1 := w) ?_ (hK.out _ w (Below.refl _ _) ⟨fun _ => rfl, fun h_ => (by rw [hc] at h_; cases h_)⟩ (fun h => by cases h))
        try simp only [f27]
        go_simp
        try (first | done | rfl | (simp; done))
    refine StepsP.cons ?_ ?_
    · intro Q s w hC hA K hK
      clear hC
      obtain ⟨f27, f30, f31, -⟩ := hA
      replace f27 : (s 34) = .bool ((((b0 && b1) && b2) && (!b3)) && b4) := f27
      replace f30 : (((((b0 && b1) && b2) && (!b3)) && b4) = true → (s 37) = .int .i64 (p.Inv.length : Int)) ∧ (((((b0 && b1) && b2) && (!b3)) && b4) = false → (s 37) = undef) := f30
      replace f31 : (((((b0 && b1) && b2) && (!b3)) && b4) = true → (s 38) = .int .i64 (p.B.length : Int)) ∧ (((((b0 && b1) && b2) && (!b3)) && b4) = false → (s 38) = undef) := f31
      cases hc : ((((b0 && b1) && b2) && (!b3)) && b4)
      · refine guard_off (d := 34) (want := true) (by rfl) (by rfl) ?_ ?_
        · show s 34 ≠ .bool true
          · intro h_
            rw [f27] at h_; injection h_ with h_; rw [Bool.eq_false_iff] at hc; exact hc (by (first | (simp only [h_, Bool.and_true, Bool.true_and, Bool.not_true, Bool.not_false, Bool.and_self]; done) | simp_all))
        exact hK.out _ w (Below.refl _ _) ⟨fun h_ => (by rw [hc] at h_; cases h_), fun _ => rfl⟩ (fun _ g h => by cases h)
      · refine guard_on (d := 34) (want := true) (by rfl) (by rfl) ?_ ?_
        · exact (f27).trans (by rw [show ((((b0 && b1) && b2) && (!b3)) && b4) = true by (first | (simp only [Bool.and_eq_true, Bool.not_eq_true', Bool.not_eq_false'] at hc; simp only [hc, Bool.and_true, Bool.true_and, Bool.not_true, Bool.not_false, Bool.and_self]; done) | (simp only [hc, Bool.and_true, Bool.true_and, Bool.not_true, Bool.not_false, Bool.and_self]; done) | simp_all)])
        replace f30 := f30.1 (by exact hc)
        replace f31 := f31.1 (by exact hc)
        refine wp_value (v := .bool b5) (w1 := w) ?_ (hK.out _ w (Below.refl _ _) ⟨fun _ => rfl, fun h_ => (by rw [hc] at h_; cases h_)⟩ (fun h => by cases h))
        try simp only [f27, f30, f31]
        go_simp
        first | done | exact hb5.out | (simp [hb5.out]; done) | (rw [hb5.out]; done)
    refine StepsP.cons ?_ ?_
    · intro Q s w hC hA K hK
      clear hC
      obtain ⟨f27, f32, -⟩ := hA
      replace f27 : (s 34) = .bool ((((b0 && b1) && b2) && (!b3)) && b4) := f27
      replace f32 : (((((b0 && b1) && b2) && (!b3)) && b4) = true → (s 39) = .bool b5) ∧ (((((b0 && b1) && b2) && (!b3)) && b4) = false → (s 39) = undef) := f32
      refine guard_none (by rfl) ?_
      refine wp_value (v := .bool (((((b0 && b1) && b2) && (!b3)) && b4) && b5)) (w1 := w) ?_ (hK.out _ w (Below.refl _ _) rfl (fun h => by cases h))
      cases ht : ((((b0 && b1) && b2) && (!b3)) && b4)
      · skip
        have hct_ : s 34 = .bool false := by rw [f27, ht]
        simp only [hct_]
        go_simp
        try simp
      · have hy_ := f32.1 (by first | (simp only [Bool.and_eq_true, Bool.not_eq_true', Bool.not_eq_false'] at hc ht; simp only [hc, ht, Bool.and_true, Bool.true_and, Bool.not_true, Bool.not_false, Bool.and_self]; done) | (simp only [Bool.and_eq_true, Bool.not_eq_true', Bool.not_eq_false'] at ht; simp only [ht, Bool.and_true, Bool.true_and, Bool.not_true, Bool.not_false, Bool.and_self]; done) | (simp only [ht, Bool.and_true, Bool.true_and, Bool.not_true, Bool.not_false, Bool.and_self]; done) | simp_all)
        have hct_ : s 34 = .bool true := by rw [f27, ht]
        simp only [hct_, hy_]
        go_simp
        try simp
    refine StepsP.cons ?_ ?_
    · intro Q s w hC hA K hK
      clear hC
      obtain ⟨f33, -⟩ := hA
      replace f33 : (s 40) = .bool (((((b0 && b1) && b2) && (!b3)) && b4) && b5) := f33
      refine guard_none (by rfl) ?_
      refine wp_value (v := .bool (((((b0 && b1) && b2) && (!b3)) && b4) && b5)) (w1 := w) ?_ (hK.out _ w (Below.refl _ _) rfl (fun h => by cases h))
      try simp only [f33]
      go_simp
      try (first | done | rfl | (simp; done))
    refine StepsP.cons ?_ ?_
    · intro Q s w hC hA K hK
      clear hC
      obtain ⟨f34, -⟩ := hA
      replace f34 : (s 41) = .bool (((((b0 && b1) && b2) && (!b3)) && b4) && b5) := f34
      cases hc : (((((b0 && b1) && b2) && (!b3)) && b4) && b5)
      · refine guard_off (d := 41) (want := true) (by rfl) (by rfl) ?_ ?_
        · show s 41 ≠ .bool true
          · intro h_
            rw [f34] at h_; injection h_ with h_; rw [Bool.eq_false_iff] at hc; exact hc (by (first | (simp only [h_, Bool.and_true, Bool.true_and, Bool.not_true, Bool.not_false, Bool.and_self]; done) | simp_all))
        exact hK.out _ w (Below.refl _ _) ⟨fun h_ => (by rw [hc] at h_; cases h_), fun _ => rfl⟩ (fun _ g h => by cases h)
      · refine guard_on (d := 41) (want := true) (by rfl) (by rfl) ?_ ?_
        · exact (f34).trans (by rw [show (((((b0 && b1) && b2) && (!b3)) && b4) && b5) = true by (first | (simp only [Bool.and_eq_true, Bool.not_eq_true', Bool.not_eq_false'] at hc; simp only [hc, Bool.and_true, Bool.true_and, Bool.not_true, Bool.not_false, Bool.and_self]; done) | (simp only [hc, Bool.and_true, Bool.true_and, Bool.not_true, Bool.not_false, Bool.and_self]; done) | simp_all)])
        refine wp_value (v := .pointer (some ⟨g1, 6, none⟩)) (w1 := w) ?_ (hK.out _ w (Below.refl _ _) ⟨fun _ => rfl, fun h_ => (by rw [hc] at h_; cases h_)⟩ (fun h => by cases h))
        try simp only [f34]
        go_simp
        try (first | done | rfl | (simp; done))
    refine StepsP.cons ?_ ?_
    · intro Q s w hC hA K hK
      obtain ⟨hsz, hk_g1, lt_g1, hk_g3, lt_g3, hbw⟩ := hC
      obtain ⟨f34, f35, -⟩ := hA
      replace f34 : (s 41) = .bool (((((b0 && b1) && b2) && (!b3)) && b4) && b5) := f34
      replace f35 : ((((((b0 && b1) && b2) && (!b3)) && b4) && b5) = true → (s 42) = .pointer (some ⟨g1, 6, none⟩)) ∧ ((((((b0 && b1) && b2) && (!b3)) && b4) && b5) = false → (s 42) = undef) := f35
      cases hc : (((((b0 && b1) && b2) && (!b3)) && b4) && b5)
      · refine guard_off (d := 41) (want := true) (by rfl) (by rfl) ?_ ?_
        · show s 41 ≠ .bool true
          · intro h_
            rw [f34] at h_; injection h_ with h_; rw [Bool.eq_false_iff] at hc; exact hc (by (first | (simp only [h_, Bool.and_true, Bool.true_and, Bool.not_true, Bool.not_false, Bool.and_self]; done) | simp_all))
        exact hK.out _ w (Below.refl _ _) ⟨fun h_ => (by rw [hc] at h_; cases h_), fun _ => rfl⟩ (fun _ g h => by cases h)
      · refine guard_on (d := 41) (want := true) (by rfl) (by rfl) ?_ ?_
        · exact (f34).trans (by rw [show (((((b0 && b1) && b2) && (!b3)) && b4) && b5) = true by (first | (simp only [Bool.and_eq_true, Bool.not_eq_true', Bool.not_eq_false'] at hc; simp only [hc, Bool.and_true, Bool.true_and, Bool.not_true, Bool.not_false, Bool.and_self]; done) | (simp only [hc, Bool.and_true, Bool.true_and, Bool.not_true, Bool.not_false, Bool.and_self]; done) | simp_all)])
        replace f35 := f35.1 (by exact hc)
        have m0_g1 : w.cell? ⟨g1, 0, none⟩ = some (.slice aA p.A.length cA) := blk_cell hk_g1 0 (by rfl)
        have m1_g1 : w.cell? ⟨g1, 1, none⟩ = some (.slice aB p.B.length cB) := blk_cell hk_g1 1 (by rfl)
        have m2_g1 : w.cell? ⟨g1, 2, none⟩ = some (.int .i64 il) := blk_cell hk_g1 2 (by rfl)
        have m3_g1 : w.cell? ⟨g1, 3, none⟩ = some (.int .i64 ih) := blk_cell hk_g1 3 (by rfl)
        have m4_g1 : w.cell? ⟨g1, 4, none⟩ = some (.slice aW p.W.length cW) := blk_cell hk_g1 4 (by rfl)
        have m5_g1 : w.cell? ⟨g1, 5, none⟩ = some (.slice aI p.Inv.length cI) := blk_cell hk_g1 5 (by rfl)
        have m6_g1 : w.cell? ⟨g1, 6, none⟩ = some (.slice aS p.Safe.length cS) := blk_cell hk_g1 6 (by rfl)
        have m7_g1 : w.cell? ⟨g1, 7, none⟩ = some (.slice aG p.gain.length cG) := blk_cell hk_g1 7 (by rfl)
        have m8_g1 : w.cell? ⟨g1, 8, none⟩ = some (.int .i64 bi) := blk_cell hk_g1 8 (by rfl)
        refine wp_value (v := .slice aS p.Safe.length cS) (w1 := w) ?_ (hK.out _ w (Below.refl _ _) ⟨fun _ => rfl, fun h_ => (by rw [hc] at h_; cases h_)⟩ (fun h => by cases h))
        try simp only [f34, f35]
        go_simp
        try (first | done | rfl | (simp; done))
    refine StepsP.cons ?_ ?_
    · intro Q s w hC hA K hK
      clear hC
      obtain ⟨f34, f36, -⟩ := hA
      replace f34 : (s 41) = .bool (((((b0 && b1) && b2) && (!b3)) && b4) && b5) := f34
      replace f36 : ((((((b0 && b1) && b2) && (!b3)) && b4) && b5) = true → (s 43) = .slice aS p.Safe.length cS) ∧ ((((((b0 && b1) && b2) && (!b3)) && b4) && b5) = false → (s 43) = undef) := f36
      cases hc : (((((b0 && b1) && b2) && (!b3)) && b4) && b5)
      · refine guard_off (d := 41) (want := true) (by rfl) (by rfl) ?_ ?_
        · show s 41 ≠ .bool true
          · intro h_
            rw [f34] at h_; injection h_ with h_; rw [Bool.eq_false_iff] at hc; exact hc (by (first | (simp only [h_, Bool.and_true, Bool.true_and, Bool.not_true, Bool.not_false, Bool.and_self]; done) | simp_all))
        exact hK.out _ w (Below.refl _ _) ⟨fun h_ => (by rw [hc] at h_; cases h_), fun _ => rfl⟩ (fun _ g h => by cases h)
      · refine guard_on (d := 41) (want := true) (by rfl) (by rfl) ?_ ?_
        · exact (f34).trans (by rw [show (((((b0 && b1) && b2) && (!b3)) && b4) && b5) = true by (first | (simp only [Bool.and_eq_true, Bool.not_eq_true', Bool.not_eq_false'] at hc; simp only [hc, Bool.and_true, Bool.true_and, Bool.not_true, Bool.not_false, Bool.and_self]; done) | (simp only [hc, Bool.and_true, Bool.true_and, Bool.not_true, Bool.not_false, Bool.and_self]; done) | simp_all)])
        replace f36 := f36.1 (by exact hc)
        refine wp_value (v := .int .i64 (p.Safe.length : Int)) (w1 := w) ?_ (hK.out _ w (Below.refl _ _) ⟨fun _ => rfl, fun h_ => (by rw [hc] at h_; cases h_)⟩ (fun h => by cases h))
        try simp only [f34, f36]
        go_simp
        try (first | done | rfl | (simp; done))
    refine StepsP.cons ?_ ?_
    · intro Q s w hC hA K hK
      obtain ⟨hsz, hk_g1, lt_g1, hk_g3, lt_g3, hbw⟩ := hC
      obtain ⟨f34, -⟩ := hA
      replace f34 : (s 41) = .bool (((((b0 && b1) && b2) && (!b3)) && b4) && b5) := f34
      cases hc : (((((b0 && b1) && b2) && (!b3)) && b4) && b5)
      · refine guard_off (d := 41) (want := true) (by rfl) (by rfl) ?_ ?_
        · show s 41 ≠ .bool true
          · intro h_
            rw [f34] at h_; injection h_ with h_; rw [Bool.eq_false_iff] at hc; exact hc (by (first | (simp only [h_, Bool.and_true, Bool.true_and, Bool.not_true, Bool.not_false, Bool.and_self]; done) | simp_all))
        exact hK.out _ w (Below.refl _ _) ⟨fun h_ => (by rw [hc] at h_; cases h_), fun _ => rfl⟩ (fun _ g h => by cases h)
      · refine guard_on (d := 41) (want := true) (by rfl) (by rfl) ?_ ?_
        · exact (f34).trans (by rw [show (((((b0 && b1) && b2) && (!b3)) && b4) && b5) = true by (first | (simp only [Bool.and_eq_true, Bool.not_eq_true', Bool.not_eq_false'] at hc; simp only [hc, Bool.and_true, Bool.true_and, Bool.not_true, Bool.not_false, Bool.and_self]; done) | (simp only [hc, Bool.and_true, Bool.true_and, Bool.not_true, Bool.not_false, Bool.and_self]; done) | simp_all)])
        have m0_g3 : w.cell? ⟨g3, 0, none⟩ = some (.int .i64 (p.B.length : Int)) := blk_cell hk_g3 0 (by rfl)
        refine wp_value (v := .int .i64 (p.B.length : Int)) (w1 := w) ?_ (hK.out _ w (Below.refl _ _) ⟨fun _ => rfl, fun h_ => (by rw [hc] at h_; cases h_)⟩ (fun h => by cases h))
        try simp only [f34]
        go_simp
        try (first | done | rfl | (simp; done))
    refine StepsP.cons ?_ ?_
    · intro Q s w hC hA K hK
      clear hC
      obtain ⟨f34, f37, f38, -⟩ := hA
      replace f34 : (s 41) = .bool (((((b0 && b1) && b2) && (!b3)) && b4) && b5) := f34
      replace f37 : ((((((b0 && b1) && b2) && (!b3)) && b4) && b5) = true → (s 44) = .int .i64 (p.Safe.length : Int)) ∧ ((((((b0 && b1) && b2) && (!b3)) && b4) && b5) = false → (s 44) = undef) := f37
      replace f38 : ((((((b0 && b1) && b2) && (!b3)) && b4) && b5) = true → (s 45) = .int .i64 (p.B.length : Int)) ∧ ((((((b0 && b1) && b2) && (!b3)) && b4) && b5) = false → (s 45) = undef) := f38
      cases hc : (((((b0 && b1) && b2) && (!b3)) && b4) && b5)
      · refine guard_off (d := 41) (want := true) (by rfl) (by rfl) ?_ ?_
        · show s 41 ≠ .bool true
          · intro h_
            rw [f34] at h_; injection h_ with h_; rw [Bool.eq_false_iff] at hc; exact hc (by (first | (simp only [h_, Bool.and_true, Bool.true_and, Bool.not_true, Bool.not_false, Bool.and_self]; done) | simp_all))
        exact hK.out _ w (Below.refl _ _) ⟨fun h_ => (by rw [hc] at h_; cases h_), fun _ => rfl⟩ (fun _ g h => by cases h)
      · refine guard_on (d := 41) (want := true) (by rfl) (by rfl) ?_ ?_
        · exact (f34).trans (by rw [show (((((b0 && b1) && b2) && (!b3)) && b4) && b5) = true by (first | (simp only [Bool.and_eq_true, Bool.not_eq_true', Bool.not_eq_false'] at hc; simp only [hc, Bool.and_true, Bool.true_and, Bool.not_true, Bool.not_false, Bool.and_self]; done) | (simp only [hc, Bool.and_true, Bool.true_and, Bool.not_true, Bool.not_false, Bool.and_self]; done) | simp_all)])
        replace f37 := f37.1 (by exact hc)
        replace f38 := f38.1 (by exact hc)
        refine wp_value (v := .bool b6) (w1 := w) ?_ (hK.out _ w (Below.refl _ _) ⟨fun _ => rfl, fun h_ => (by rw [hc] at h_; cases h_)⟩ (fun h => by cases h))
        try simp only [f34, f37, f38]
        go_simp
        first | done | exact hb6.out | (simp [hb6.out]; done) | (rw [hb6.out]; done)
    refine StepsP.cons ?_ ?_
    · intro Q s w hC hA K hK
      clear hC
      obtain ⟨f34, f39, -⟩ := hA
      replace f34 : (s 41) = .bool (((((b0 && b1) && b2) && (!b3)) && b4) && b5) := f34
      replace f39 : ((((((b0 && b1) && b2) && (!b3)) && b4) && b5) = true → (s 46) = .bool b6) ∧ ((((((b0 && b1) && b2) && (!b3)) && b4) && b5) = false → (s 46) = undef) := f39
      refine guard_none (by rfl) ?_
      refine wp_value (v := .bool ((((((b0 && b1) && b2) && (!b3)) && b4) && b5) && b6)) (w1 := w) ?_ (hK.out _ w (Below.refl _ _) rfl (fun h => by cases h))
      cases ht : (((((b0 && b1) && b2) && (!b3)) && b4) && b5)
      · skip
        have hct_ : s 41 = .bool false := by rw [f34, ht]
        simp only [hct_]
        go_simp
        try simp
      · have hy_ := f39.1 (by first | (simp only [Bool.and_eq_true, Bool.not_eq_true', Bool.not_eq_false'] at hc ht; simp only [hc, ht, Bool.and_true, Bool.true_and, Bool.not_true, Bool.not_false, Bool.and_self]; done) | (simp only [Bool.and_eq_true, Bool.not_eq_true', Bool.not_eq_false'] at ht; simp only [ht, Bool.and_true, Bool.true_and, Bool.not_true, Bool.not_false, Bool.and_self]; done) | (simp only [ht, Bool.and_true, Bool.true_and, Bool.not_true, Bool.not_false, Bool.and_self]; done) | simp_all)
        have hct_ : s 41 = .bool true := by rw [f34, ht]
        simp only [hct_, hy_]
        go_simp
        try simp
    refine StepsP.cons ?_ ?_
    · intro Q s w hC hA K hK
      clear hC
      obtain ⟨f40, -⟩ := hA
      replace f40 : (s 47) = .bool ((((((b0 && b1) && b2) && (!b3)) && b4) && b5) && b6) := f40
      refine guard_none (by rfl) ?_
      refine wp_value (v := .bool ((((((b0 && b1) && b2) && (!b3)) && b4) && b5) && b6)) (w1 := w) ?_ (hK.out _ w (Below.refl _ _) rfl (fun h => by cases h))
      try simp only [f40]
      go_simp
      try (first | done | rfl | (simp; done))
    refine StepsP.cons ?_ ?_
    · intro Q s w hC hA K hK
      clear hC
      obtain ⟨f41, -⟩ := hA
      replace f41 : (s 48) = .bool ((((((b0 && b1) && b2) && (!b3)) && b4) && b5) && b6) := f41
      cases hc : ((((((b0 && b1) && b2) && (!b3)) && b4) && b5) && b6)
      · refine guard_off (d := 48) (want := true) (by rfl) (by rfl) ?_ ?_
        · show s 48 ≠ .bool true
          · intro h_
            rw [f41] at h_; injection h_ with h_; rw [Bool.eq_false_iff] at hc; exact hc (by (first | (simp only [h_, Bool.and_true, Bool.true_and, Bool.not_true, Bool.not_false, Bool.and_self]; done) | simp_all))
        exact hK.out _ w (Below.refl _ _) ⟨fun h_ => (by rw [hc] at h_; cases h_), fun _ => rfl⟩ (fun _ g h => by cases h)
      · refine guard_on (d := 48) (want := true) (by rfl) (by rfl) ?_ ?_
        · exact (f41).trans (by rw [show ((((((b0 && b1) && b2) && (!b3)) && b4) && b5) && b6) = true by (first | (simp only [Bool.and_eq_true, Bool.not_eq_true', Bool.not_eq_false'] at hc; simp only [hc, Bool.and_true, Bool.true_and, Bool.not_true, Bool.not_false, Bool.and_self]; done) | (simp only [hc, Bool.and_true, Bool.true_and, Bool.not_true, Bool.not_false, Bool.and_self]; done) | simp_all)])
        refine wp_value (v := .pointer (some ⟨g1, 7, none⟩)) (w1 := w) ?_ (hK.out _ w (Below.refl _ _) ⟨fun _ => rfl, fun h_ => (by rw [hc] at h_; cases h_)⟩ (fun h => by cases h))
        try simp only [f41]
        go_simp
        try (first | done | rfl | (simp; done))
    refine StepsP.cons ?_ ?_
    · intro Q s w hC hA K hK
      obtain ⟨hsz, hk_g1, lt_g1, hk_g3, lt_g3, hbw⟩ := hC
      obtain ⟨f41, f42, -⟩ := hA
      replace f41 : (s 48) = .bool ((((((b0 && b1) && b2) && (!b3)) && b4) && b5) && b6) := f41
      replace f42 : (((((((b0 && b1) && b2) && (!b3)) && b4) && b5) && b6) = true → (s 49) = .pointer (some ⟨g1, 7, none⟩)) ∧ (((((((b0 && b1) && b2) && (!b3)) && b4) && b5) && b6) = false → (s 49) = undef) := f42
      cases hc : ((((((b0 && b1) && b2) && (!b3)) && b4) && b5) && b6)
      · refine guard_off (d := 48) (want := true) (by rfl) (by rfl) ?_ ?_
        · show s 48 ≠ .bool true
          · intro h_
            rw [f41] at h_; injection h_ with h_; rw [Bool.eq_false_iff] at hc; exact hc (by (first | (simp only [h_, Bool.and_true, Bool.true_and, Bool.not_true, Bool.not_false, Bool.and_self]; done) | simp_all))
        exact hK.out _ w (Below.refl _ _) ⟨fun h_ => (by rw [hc] at h_; cases h_), fun _ => rfl⟩ (fun _ g h => by cases h)
      · refine guard_on (d := 48) (want := true) (by rfl) (by rfl) ?_ ?_
        · exact (f41).trans (by rw [show ((((((b0 && b1) && b2) && (!b3)) && b4) && b5) && b6) = true by (first | (simp only [Bool.and_eq_true, Bool.not_eq_true', Bool.not_eq_false'] at hc; simp only [hc, Bool.and_true, Bool.true_and, Bool.not_true, Bool.not_false, Bool.and_self]; done) | (simp only [hc, Bool.and_true, Bool.true_and, Bool.not_true, Bool.not_false, Bool.and_self]; done) | simp_all)])
        replace f42 := f42.1 (by exact hc)
        have m0_g1 : w.cell? ⟨g1, 0, none⟩ = some (.slice aA p.A.length cA) := blk_cell hk_g1 0 (by rfl)
        have m1_g1 : w.cell? ⟨g1, 1, none⟩ = some (.slice aB p.B.length cB) := blk_cell hk_g1 1 (by rfl)
        have m2_g1 : w.cell? ⟨g1, 2, none⟩ = some (.int .i64 il) := blk_cell hk_g1 2 (by rfl)
        have m3_g1 : w.cell? ⟨g1, 3, none⟩ = some (.int .i64 ih) := blk_cell hk_g1 3 (by rfl)
        have m4_g1 : w.cell? ⟨g1, 4, none⟩ = some (.slice aW p.W.length cW) := blk_cell hk_g1 4 (by rfl)
        have m5_g1 : w.cell? ⟨g1, 5, none⟩ = some (.slice aI p.Inv.length cI) := blk_cell hk_g1 5 (by rfl)
        have m6_g1 : w.cell? ⟨g1, 6, none⟩ = some (.slice aS p.Safe.length cS) := blk_cell hk_g1 6 (by rfl)
        have m7_g1 : w.cell? ⟨g1, 7, none⟩ = some (.slice aG p.gain.length cG) := blk_cell hk_g1 7 (by rfl)
        have m8_g1 : w.cell? ⟨g1, 8, none⟩ = some (.int .i64 bi) := blk_cell hk_g1 8 (by rfl)
        refine wp_value (v := .slice aG p.gain.length cG) (w1 := w) ?_ (hK.out _ w (Below.refl _ _) ⟨fun _ => rfl, fun h_ => (by rw [hc] at h_; cases h_)⟩ (fun h => by cases h))
        try simp only [f41, f42]
        go_simp
        try (first | done | rfl | (simp; done))
    refine StepsP.cons ?_ ?_
    · intro Q s w hC hA K hK
      clear hC
      obtain ⟨f41, f43, -⟩ := hA
      replace f41 : (s 48) = .bool ((((((b0 && b1) && b2) && (!b3)) && b4) && b5) && b6) := f41
      replace f43 : (((((((b0 && b1) && b2) && (!b3)) && b4) && b5) && b6) = true → (s 50) = .slice aG p.gain.length cG) ∧ (((((((b0 && b1) && b2) && (!b3)) && b4) && b5) && b6) = false → (s 50) = undef) := f43
      cases hc : ((((((b0 && b1) && b2) && (!b3)) && b4) && b5) && b6)
      · refine guard_off (d := 48) (want := true) (by rfl) (by rfl) ?_ ?_
        · show s 48 ≠ .bool true
          · intro h_
            rw [f41] at h_; injection h_ with h_; rw [Bool.eq_false_iff] at hc; exact hc (by (first | (simp only [h_, Bool.and_true, Bool.true_and, Bool.not_true, Bool.not_false, Bool.and_self]; done) | simp_all))
        exact hK.out _ w (Below.refl _ _) ⟨fun h_ => (by rw [hc] at h_; cases h_), fun _ => rfl⟩ (fun _ g h => by cases h)
      · refine guard_on (d := 48) (want := true) (by rfl) (by rfl) ?_ ?_
        · exact (f41).trans (by rw [show ((((((b0 && b1) && b2) && (!b3)) && b4) && b5) && b6) = true by (first | (simp only [Bool.and_eq_true, Bool.not_eq_true', Bool.not_eq_false'] at hc; simp only [hc, Bool.and_true, Bool.true_and, Bool.not_true, Bool.not_false, Bool.and_self]; done) | (simp only [hc, Bool.and_true, Bool.true_and, Bool.not_true, Bool.not_false, Bool.and_self]; done) | simp_all)])
        replace f43 := f43.1 (by exact hc)
        refine wp_value (v := .int .i64 (p.gain.length : Int)) (w1 := w) ?_ (hK.out _ w (Below.refl _ _) ⟨fun _ => rfl, fun h_ => (by rw [hc] at h_; cases h_)⟩ (fun h => by cases h))
        try simp only [f41, f43]
        go_simp
        try (first | done | rfl | (simp; done))
    refine StepsP.cons ?_ ?_
    · intro Q s w hC hA K hK
      obtain ⟨hsz, hk_g1, lt_g1, hk_g3, lt_g3, hbw⟩ := hC
      obtain ⟨f41, -⟩ := hA
      replace f41 : (s 48) = .bool ((((((b0 && b1) && b2) && (!b3)) && b4) && b5) && b6) := f41
      cases hc : ((((((b0 && b1) && b2) && (!b3)) && b4) && b5) && b6)
      · refine guard_off (d := 48) (want := true) (by rfl) (by rfl) ?_ ?_
        · show s 48 ≠ .bool true
          · intro h_
            rw [f41] at h_; injection h_ with h_; rw [Bool.eq_false_iff] at hc; exact hc (by (first | (simp only [h_, Bool.and_true, Bool.true_and, Bool.not_true, Bool.not_false, Bool.and_self]; done) | simp_all))
        exact hK.out _ w (Below.refl _ _) ⟨fun h_ => (by rw [hc] at h_; cases h_), fun _ => rfl⟩ (fun _ g h => by cases h)
      · refine guard_on (d := 48) (want := true) (by rfl) (by rfl) ?_ ?_
        · exact (f41).trans (by rw [show ((((((b0 && b1) && b2) && (!b3)) && b4) && b5) && b6) = true by (first | (simp only [Bool.and_eq_true, Bool.not_eq_true', Bool.not_eq_false'] at hc; simp only [hc, Bool.and_true, Bool.true_and, Bool.not_true, Bool.not_false, Bool.and_self]; done) | (simp only [hc, Bool.and_true, Bool.true_and, Bool.not_true, Bool.not_false, Bool.and_self]; done) | simp_all)])
        have m0_g3 : w.cell? ⟨g3, 0, none⟩ = some (.int .i64 (p.B.length : Int)) := blk_cell hk_g3 0 (by rfl)
        refine wp_value (v := .int .i64 (p.B.length : Int)) (w1 := w) ?_ (hK.out _ w (Below.refl _ _) ⟨fun _ => rfl, fun h_ => (by rw [hc] at h_; cases h_)⟩ (fun h => by cases h))
        try simp only [f41]
        go_simp
        try (first | done | rfl | (simp; done))
    refine StepsP.cons ?_ ?_
    · intro Q s w hC hA K hK
      clear hC
      obtain ⟨f41, f44, f45, -⟩ := hA
      replace f41 : (s 48) = .bool ((((((b0 && b1) && b2) && (!b3)) && b4) && b5) && b6) := f41
      replace f44 : (((((((b0 && b1) && b2) && (!b3)) && b4) && b5) && b6) = true → (s 51) = .int .i64 (p.gain.length : Int)) ∧ (((((((b0 && b1) && b2) && (!b3)) && b4) && b5) && b6) = false → (s 51) = undef) := f44
      replace f45 : (((((((b0 && b1) && b2) && (!b3)) && b4) && b5) && b6) = true → (s 52) = .int .i64 (p.B.length : Int)) ∧ (((((((b0 && b1) && b2) && (!b3)) && b4) && b5) && b6) = false → (s 52) = undef) := f45
      cases hc : ((((((b0 && b1) && b2) && (!b3)) && b4) && b5) && b6)
      · refine guard_off (d := 48) (want := true) (by rfl) (by rfl) ?_ ?_
        · show s 48 ≠ .bool true
          · intro h_
            rw [f41] at h_; injection h_ with h_; rw [Bool.eq_false_iff] at hc; exact hc (by (first | (simp only [h_, Bool.and_true, Bool.true_and, Bool.not_true, Bool.not_false, Bool.and_self]; done) | simp_all))
        exact hK.out _ w (Below.refl _ _) ⟨fun h_ => (by rw [hc] at h_; cases h_), fun _ => rfl⟩ (fun _ g h => by cases h)
      · refine guard_on (d := 48) (want := true) (by rfl) (by rfl) ?_ ?_
        · exact (f41).trans (by rw [show ((((((b0 && b1) && b2) && (!b3)) && b4) && b5) && b6) = true by (first | (simp only [Bool.and_eq_true, Bool.not_eq_true', Bool.not_eq_false'] at hc; simp only [hc, Bool.and_true, Bool.true_and, Bool.not_true, Bool.not_false, Bool.and_self]; done) | (simp only [hc, Bool.and_true, Bool.true_and, Bool.not_true, Bool.not_false, Bool.and_self]; done) | simp_all)])
        replace f44 := f44.1 (by exact hc)
        replace f45 := f45.1 (by exact hc)
        refine wp_value (v := .bool b7) (w1 := w) ?_ (hK.out _ w (Below.refl _ _) ⟨fun _ => rfl, fun h_ => (by rw [hc] at h_; cases h_)⟩ (fun h => by cases h))
        try simp only [f41, f44, f45]
        go_simp
        first | done | exact hb7.out | (simp [hb7.out]; done) | (rw [hb7.out]; done)
    refine StepsP.cons ?_ ?_
    · intro Q s w hC hA K hK
      clear hC
      obtain ⟨f41, f46, -⟩ := hA
      replace f41 : (s 48) = .bool ((((((b0 && b1) && b2) && (!b3)) && b4) && b5) && b6) := f41
      replace f46 : (((((((b0 && b1) && b2) && (!b3)) && b4) && b5) && b6) = true → (s 53) = .bool b7) ∧ (((((((b0 && b1) && b2) && (!b3)) && b4) && b5) && b6) = false → (s 53) = undef) := f46
      refine guard_none (by rfl) ?_
      refine wp_value (v := .bool (((((((b0 && b1) && b2) && (!b3)) && b4) && b5) && b6) && b7)) (w1 := w) ?_ (hK.out _ w (Below.refl _ _) rfl (fun h => by cases h))
      cases ht : ((((((b0 && b1) && b2) && (!b3)) && b4) && b5) && b6)
      · skip
        have hct_ : s 48 = .bool false := by rw [f41, ht]
        simp only [hct_]
        go_simp
        try simp
      · have hy_ := f46.1 (by first | (simp only [Bool.and_eq_true, Bool.not_eq_true', Bool.not_eq_false'] at hc ht; simp only [hc, ht, Bool.and_true, Bool.true_and, Bool.not_true, Bool.not_false, Bool.and_self]; done) | (simp only [Bool.and_eq_true, Bool.not_eq_true', Bool.not_eq_false'] at ht; simp only [ht, Bool.and_true, Bool.true_and, Bool.not_true, Bool.not_false, Bool.and_self]; done) | (simp only [ht, Bool.and_true, Bool.true_and, Bool.not_true, Bool.not_false, Bool.and_self]; done) | simp_all)
        have hct_ : s 48 = .bool true := by rw [f41, ht]
        simp only [hct_, hy_]
        go_simp
        try simp
    refine StepsP.cons ?_ ?_
    · intro Q s w hC hA K hK
      clear hC
      obtain ⟨f47, -⟩ := hA
      replace f47 : (s 54) = .bool (((((((b0 && b1) && b2) && (!b3)) && b4) && b5) && b6) && b7) := f47
      refine guard_none (by rfl) ?_
      refine wp_value (v := .bool (((((((b0 && b1) && b2) && (!b3)) && b4) && b5) && b6) && b7)) (w1 := w) ?_ (hK.out _ w (Below.refl _ _) rfl (fun h => by cases h))
      try simp only [f47]
      go_simp
      try (first | done | rfl | (simp; done))
    exact StepsP.nil
  obtain ⟨hsz, hk_g1, lt_g1, hk_g3, lt_g3, hbw⟩ := hC
  obtain ⟨f48, -⟩ := hA
  replace f48 : (s 2) = .bool (((((((b0 && b1) && b2) && (!b3)) && b4) && b5) && b6) && b7) := f48
  refine act_eq (b' := ?b4) ?h4 ?q4
  case h4 => simp only [f48]; rfl
  subst hw0
  go_wp2
  go_ret
  exact ⟨by rw [← hfin.out]; rfl, hbw⟩
end Go.Proofs.Ythdaidmjjcmccaa
