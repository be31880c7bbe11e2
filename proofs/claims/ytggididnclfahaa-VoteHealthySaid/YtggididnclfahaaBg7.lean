/- Proved here: lemmas and contracts (what a function of the program computes) that the proofs of the laws of this seat lean on. Conditions: as each theorem states. -/
import Derived.Test.YtggididnclfahaaBg6
set_option linter.unusedVariables false
set_option linter.unusedSimpArgs false
namespace Go.Pk.Bg
def cmpV (x y : Int) : Int := if x + -y = 0 then 0 else if x + -y < 0 then -1 else 1
end Go.Pk.Bg
namespace Go.Proofs.Ytggididnclfahaa
open Go.RowKit Go.Pk Go.Pk.Bg
set_option maxHeartbeats 8000000 in
set_option maxRecDepth 100000 in
theorem farB_calls (a b : Int) (ha0 : -9223372036854775808 ≤ a) (ha1 : a ≤ 9223372036854775807) (hb0 : -9223372036854775808 ≤ b) (hb1 : b ≤ 9223372036854775807) (w : World) : Calls Try.prog 18 #[.int .i64 a, .int .i64 b] w fun e w' => e = .returned (.agg (bigC false (a + -b).natAbs)) ∧ Below w.heap.size w w' := by
  have hoa := hidI (fun W => of_calls a ha0 ha1 W)
  have hob := hidI (fun W => of_calls b hb0 hb1 W)
  have hnb := hidI (fun W => neg_calls b (by rw [pw_v]; omega) W)
  have had := hidI (fun W => add_calls a (-b) (by rw [pw_v]; omega) W)
  have hp : (a + -b).natAbs < pw 6 := by rw [pw_v]; omega
  obtain ⟨z, hz⟩ : ∃ z, a + -b = z := ⟨_, rfl⟩
  rw [hz] at had hp ⊢
  replace had := hidI (fun W => (show Calls Try.prog 33 #[.agg (bigZ a), .agg (bigZ (-b))] W (fun e w' => e = .returned (.agg #[.bool (decide (z < 0)), .int .i64 (dg z.natAbs 0 : Nat), .int .i64 (dg z.natAbs 1 : Nat), .int .i64 (dg z.natAbs 2 : Nat), .int .i64 (dg z.natAbs 3 : Nat), .int .i64 (dg z.natAbs 4 : Nat), .int .i64 (dg z.natAbs 5 : Nat)]) ∧ Below W.heap.size W w') from had.out W))
  have hng := hidI (fun W => (show Calls Try.prog 34 #[.agg #[.bool (decide (z < 0)), .int .i64 (dg z.natAbs 0 : Nat), .int .i64 (dg z.natAbs 1 : Nat), .int .i64 (dg z.natAbs 2 : Nat), .int .i64 (dg z.natAbs 3 : Nat), .int .i64 (dg z.natAbs 4 : Nat), .int .i64 (dg z.natAbs 5 : Nat)]] W (fun e w' => e = .returned (.agg #[.bool (if z.natAbs = 0 then decide (z < 0) else !decide (z < 0)), .int .i64 (dg z.natAbs 0 : Nat), .int .i64 (dg z.natAbs 1 : Nat), .int .i64 (dg z.natAbs 2 : Nat), .int .i64 (dg z.natAbs 3 : Nat), .int .i64 (dg z.natAbs 4 : Nat), .int .i64 (dg z.natAbs 5 : Nat)]) ∧ Below W.heap.size W w') from negM_calls (decide (z < 0)) z.natAbs hp W))
  have hf : Hid (bigC false z.natAbs = #[.bool false, .int .i64 (dg z.natAbs 0 : Nat), .int .i64 (dg z.natAbs 1 : Nat), .int .i64 (dg z.natAbs 2 : Nat), .int .i64 (dg z.natAbs 3 : Nat), .int .i64 (dg z.natAbs 4 : Nat), .int .i64 (dg z.natAbs 5 : Nat)]) := rfl
  rw [hf.out]
  obtain ⟨va, hva⟩ : ∃ v : Value, v = .agg (bigZ a) := ⟨_, rfl⟩
  obtain ⟨vb, hvb⟩ : ∃ v : Value, v = .agg (bigZ b) := ⟨_, rfl⟩
  obtain ⟨vn, hvn⟩ : ∃ v : Value, v = .agg (bigZ (-b)) := ⟨_, rfl⟩
  rw [← hva] at hoa had
  rw [← hvb] at hob hnb
  rw [← hvn] at hnb had
  clear hz hp hva hvb hvn ha0 ha1 hb0 hb1 hf
  obtain ⟨mm, hmm⟩ : ∃ q, decide (z < 0) = q := ⟨_, rfl⟩
  obtain ⟨nn, hnn⟩ : ∃ q, z.natAbs = q := ⟨_, rfl⟩
  rw [hmm, hnn] at hng
  rw [hmm, hnn] at had
  rw [hnn]
  have h0n : nn = 0 → mm = false := fun h => by rw [← hmm]; exact decide_eq_false (by omega)
  replace h0n := hidI h0n
  clear hmm hnn
  cases mm
  · skip
    go_enter Try.func18, Try.ntmps18
    go_upto_region 1 with fail
    have hk1 := blk_new w (.cells #[.bool false, .int .i64 0, .int .i64 0, .int .i64 0, .int .i64 0, .int .i64 0, .int .i64 0] 46)
    have hbw := bl_alloc (Below.refl w.heap.size w) (.cells #[.bool false, .int .i64 0, .int .i64 0, .int .i64 0, .int .i64 0, .int .i64 0, .int .i64 0] 46)
    generalize w.alloc (.cells #[.bool false, .int .i64 0, .int .i64 0, .int .i64 0, .int .i64 0, .int .i64 0, .int .i64 0] 46) = W1 at *
    obtain ⟨g1, hg1⟩ : ∃ g, g = w.heap.size := ⟨_, rfl⟩
    rw [← hg1] at hk1 ⊢
    have hl1 : w.heap.size ≤ g1 := by omega
    clear hg1
    go_wp2_with fail
    refine (hoa.out _).mono ?_
    rintro e W2 ⟨rfl, hb⟩
    replace hbw := bl_step hbw hb
    replace hk1 := bl_block hb hk1
    clear hb hoa
    go_wp2_with fail
    refine (hob.out _).mono ?_
    rintro e W3 ⟨rfl, hb⟩
    replace hbw := bl_step hbw hb
    replace hk1 := bl_block hb hk1
    clear hb hob
    go_wp2_with fail
    refine (hnb.out _).mono ?_
    rintro e W4 ⟨rfl, hb⟩
    replace hbw := bl_step hbw hb
    replace hk1 := bl_block hb hk1
    clear hb hnb
    go_wp2_with fail
    refine (had.out _).mono ?_
    rintro e W5 ⟨rfl, hb⟩
    replace hbw := bl_step hbw hb
    replace hk1 := bl_block hb hk1
    clear hb had
    go_upto_region 2 with fail
    have hk5 := blk_new W5 (.cells #[.bool false, .int .i64 (dg nn 0 : Nat), .int .i64 (dg nn 1 : Nat), .int .i64 (dg nn 2 : Nat), .int .i64 (dg nn 3 : Nat), .int .i64 (dg nn 4 : Nat), .int .i64 (dg nn 5 : Nat)] 46)
    have hlt5 := blk_lt hk1
    replace hk1 := blk_alloc hk1 (.cells #[.bool false, .int .i64 (dg nn 0 : Nat), .int .i64 (dg nn 1 : Nat), .int .i64 (dg nn 2 : Nat), .int .i64 (dg nn 3 : Nat), .int .i64 (dg nn 4 : Nat), .int .i64 (dg nn 5 : Nat)] 46)
    replace hbw := bl_alloc hbw (.cells #[.bool false, .int .i64 (dg nn 0 : Nat), .int .i64 (dg nn 1 : Nat), .int .i64 (dg nn 2 : Nat), .int .i64 (dg nn 3 : Nat), .int .i64 (dg nn 4 : Nat), .int .i64 (dg nn 5 : Nat)] 46)
    generalize W5.alloc (.cells #[.bool false, .int .i64 (dg nn 0 : Nat), .int .i64 (dg nn 1 : Nat), .int .i64 (dg nn 2 : Nat), .int .i64 (dg nn 3 : Nat), .int .i64 (dg nn 4 : Nat), .int .i64 (dg nn 5 : Nat)] 46) = W6 at *
    obtain ⟨g5, hg5⟩ : ∃ g, g = W5.heap.size := ⟨_, rfl⟩
    rw [← hg5] at hk5 hlt5 ⊢
    have hn51 : g5 ≠ g1 := by omega
    clear hg5
    have y0 : W6.cell? ⟨g5, 0, none⟩ = some (.bool false) := blk_cell hk5 0 (by rfl)
    go_upto_region 4 with fail
    clear y0
    have e0 : W6.cell? ⟨g5, 0, none⟩ = some (.bool false) := blk_cell hk5 0 (by rfl)
    have e1 : W6.cell? ⟨g5, 1, none⟩ = some (.int .i64 (dg nn 0 : Nat)) := blk_cell hk5 1 (by rfl)
    have e2 : W6.cell? ⟨g5, 2, none⟩ = some (.int .i64 (dg nn 1 : Nat)) := blk_cell hk5 2 (by rfl)
    have e3 : W6.cell? ⟨g5, 3, none⟩ = some (.int .i64 (dg nn 2 : Nat)) := blk_cell hk5 3 (by rfl)
    have e4 : W6.cell? ⟨g5, 4, none⟩ = some (.int .i64 (dg nn 3 : Nat)) := blk_cell hk5 4 (by rfl)
    have e5 : W6.cell? ⟨g5, 5, none⟩ = some (.int .i64 (dg nn 4 : Nat)) := blk_cell hk5 5 (by rfl)
    have e6 : W6.cell? ⟨g5, 6, none⟩ = some (.int .i64 (dg nn 5 : Nat)) := blk_cell hk5 6 (by rfl)
    have r0 : W6.cell? ⟨g1, 0, none⟩ = some (.bool false) := blk_cell hk1 0 (by rfl)
    have r1 : W6.cell? ⟨g1, 1, none⟩ = some (.int .i64 0) := blk_cell hk1 1 (by rfl)
    have r2 : W6.cell? ⟨g1, 2, none⟩ = some (.int .i64 0) := blk_cell hk1 2 (by rfl)
    have r3 : W6.cell? ⟨g1, 3, none⟩ = some (.int .i64 0) := blk_cell hk1 3 (by rfl)
    have r4 : W6.cell? ⟨g1, 4, none⟩ = some (.int .i64 0) := blk_cell hk1 4 (by rfl)
    have r5 : W6.cell? ⟨g1, 5, none⟩ = some (.int .i64 0) := blk_cell hk1 5 (by rfl)
    have r6 : W6.cell? ⟨g1, 6, none⟩ = some (.int .i64 0) := blk_cell hk1 6 (by rfl)
    have rz0 := blkf hk1 0
    have rz1 := blkf hk1 1
    have rz2 := blkf hk1 2
    have rz3 := blkf hk1 3
    have rz4 := blkf hk1 4
    have rz5 := blkf hk1 5
    have rz6 := blkf hk1 6
    have hkf := hidI (blk_set (blk_set (blk_set (blk_set (blk_set (blk_set (blk_set hk1 0 (.bool false)) 1 (.int .i64 (dg nn 0 : Nat))) 2 (.int .i64 (dg nn 1 : Nat))) 3 (.int .i64 (dg nn 2 : Nat))) 4 (.int .i64 (dg nn 3 : Nat))) 5 (.int .i64 (dg nn 4 : Nat))) 6 (.int .i64 (dg nn 5 : Nat)))
    have hbf := hidI (bl_set (bl_set (bl_set (bl_set (bl_set (bl_set (bl_set hbw (p := ⟨g1, 0, none⟩) hl1 (.bool false)) (p := ⟨g1, 1, none⟩) hl1 (.int .i64 (dg nn 0 : Nat))) (p := ⟨g1, 2, none⟩) hl1 (.int .i64 (dg nn 1 : Nat))) (p := ⟨g1, 3, none⟩) hl1 (.int .i64 (dg nn 2 : Nat))) (p := ⟨g1, 4, none⟩) hl1 (.int .i64 (dg nn 3 : Nat))) (p := ⟨g1, 5, none⟩) hl1 (.int .i64 (dg nn 4 : Nat))) (p := ⟨g1, 6, none⟩) hl1 (.int .i64 (dg nn 5 : Nat)))
    clear hk5 hk1 hbw
    go_wp2
    refine bodyPost_ret (results_cell_row rfl _ _ (g1) 46 #[.bool false, .int .i64 (dg nn 0 : Nat), .int .i64 (dg nn 1 : Nat), .int .i64 (dg nn 2 : Nat), .int .i64 (dg nn 3 : Nat), .int .i64 (dg nn 4 : Nat), .int .i64 (dg nn 5 : Nat)] (0, 0) _ rfl (by have h_ := hkf.out; simpa using h_) Try.underlying46 rfl (by kernel_rfl)) rfl ?_
    exact ⟨rfl, hbf.out⟩
  · skip
    have hn0 : nn ≠ 0 := fun h => by cases h0n.out h
    rw [if_neg hn0] at hng
    replace hn0 := hidI hn0
    clear h0n
    go_enter Try.func18, Try.ntmps18
    go_upto_region 1 with fail
    have hk1 := blk_new w (.cells #[.bool false, .int .i64 0, .int .i64 0, .int .i64 0, .int .i64 0, .int .i64 0, .int .i64 0] 46)
    have hbw := bl_alloc (Below.refl w.heap.size w) (.cells #[.bool false, .int .i64 0, .int .i64 0, .int .i64 0, .int .i64 0, .int .i64 0, .int .i64 0] 46)
    generalize w.alloc (.cells #[.bool false, .int .i64 0, .int .i64 0, .int .i64 0, .int .i64 0, .int .i64 0, .int .i64 0] 46) = W1 at *
    obtain ⟨g1, hg1⟩ : ∃ g, g = w.heap.size := ⟨_, rfl⟩
    rw [← hg1] at hk1 ⊢
    have hl1 : w.heap.size ≤ g1 := by omega
    clear hg1
    go_wp2_with fail
    refine (hoa.out _).mono ?_
    rintro e W2 ⟨rfl, hb⟩
    replace hbw := bl_step hbw hb
    replace hk1 := bl_block hb hk1
    clear hb hoa
    go_wp2_with fail
    refine (hob.out _).mono ?_
    rintro e W3 ⟨rfl, hb⟩
    replace hbw := bl_step hbw hb
    replace hk1 := bl_block hb hk1
    clear hb hob
    go_wp2_with fail
    refine (hnb.out _).mono ?_
    rintro e W4 ⟨rfl, hb⟩
    replace hbw := bl_step hbw hb
    replace hk1 := bl_block hb hk1
    clear hb hnb
    go_wp2_with fail
    refine (had.out _).mono ?_
    rintro e W5 ⟨rfl, hb⟩
    replace hbw := bl_step hbw hb
    replace hk1 := bl_block hb hk1
    clear hb had
    go_upto_region 2 with fail
    have hk5 := blk_new W5 (.cells #[.bool true, .int .i64 (dg nn 0 : Nat), .int .i64 (dg nn 1 : Nat), .int .i64 (dg nn 2 : Nat), .int .i64 (dg nn 3 : Nat), .int .i64 (dg nn 4 : Nat), .int .i64 (dg nn 5 : Nat)] 46)
    have hlt5 := blk_lt hk1
    replace hk1 := blk_alloc hk1 (.cells #[.bool true, .int .i64 (dg nn 0 : Nat), .int .i64 (dg nn 1 : Nat), .int .i64 (dg nn 2 : Nat), .int .i64 (dg nn 3 : Nat), .int .i64 (dg nn 4 : Nat), .int .i64 (dg nn 5 : Nat)] 46)
    replace hbw := bl_alloc hbw (.cells #[.bool true, .int .i64 (dg nn 0 : Nat), .int .i64 (dg nn 1 : Nat), .int .i64 (dg nn 2 : Nat), .int .i64 (dg nn 3 : Nat), .int .i64 (dg nn 4 : Nat), .int .i64 (dg nn 5 : Nat)] 46)
    generalize W5.alloc (.cells #[.bool true, .int .i64 (dg nn 0 : Nat), .int .i64 (dg nn 1 : Nat), .int .i64 (dg nn 2 : Nat), .int .i64 (dg nn 3 : Nat), .int .i64 (dg nn 4 : Nat), .int .i64 (dg nn 5 : Nat)] 46) = W6 at *
    obtain ⟨g5, hg5⟩ : ∃ g, g = W5.heap.size := ⟨_, rfl⟩
    rw [← hg5] at hk5 hlt5 ⊢
    have hn51 : g5 ≠ g1 := by omega
    clear hg5
    have c0 : W6.cell? ⟨g5, 0, none⟩ = some (.bool true) := blk_cell hk5 0 (by rfl)
    have c1 : W6.cell? ⟨g5, 1, none⟩ = some (.int .i64 (dg nn 0 : Nat)) := blk_cell hk5 1 (by rfl)
    have c2 : W6.cell? ⟨g5, 2, none⟩ = some (.int .i64 (dg nn 1 : Nat)) := blk_cell hk5 2 (by rfl)
    have c3 : W6.cell? ⟨g5, 3, none⟩ = some (.int .i64 (dg nn 2 : Nat)) := blk_cell hk5 3 (by rfl)
    have c4 : W6.cell? ⟨g5, 4, none⟩ = some (.int .i64 (dg nn 3 : Nat)) := blk_cell hk5 4 (by rfl)
    have c5 : W6.cell? ⟨g5, 5, none⟩ = some (.int .i64 (dg nn 4 : Nat)) := blk_cell hk5 5 (by rfl)
    have c6 : W6.cell? ⟨g5, 6, none⟩ = some (.int .i64 (dg nn 5 : Nat)) := blk_cell hk5 6 (by rfl)
    go_wp2_with fail
    refine (hng.out _).mono ?_
    rintro e W7 ⟨rfl, hb⟩
    replace hbw := bl_step hbw hb
    replace hk1 := bl_block hb hk1
    clear hb hng c0 c1 c2 c3 c4 c5 c6 hk5
    have r0 : W7.cell? ⟨g1, 0, none⟩ = some (.bool false) := blk_cell hk1 0 (by rfl)
    have r1 : W7.cell? ⟨g1, 1, none⟩ = some (.int .i64 0) := blk_cell hk1 1 (by rfl)
    have r2 : W7.cell? ⟨g1, 2, none⟩ = some (.int .i64 0) := blk_cell hk1 2 (by rfl)
    have r3 : W7.cell? ⟨g1, 3, none⟩ = some (.int .i64 0) := blk_cell hk1 3 (by rfl)
    have r4 : W7.cell? ⟨g1, 4, none⟩ = some (.int .i64 0) := blk_cell hk1 4 (by rfl)
    have r5 : W7.cell? ⟨g1, 5, none⟩ = some (.int .i64 0) := blk_cell hk1 5 (by rfl)
    have r6 : W7.cell? ⟨g1, 6, none⟩ = some (.int .i64 0) := blk_cell hk1 6 (by rfl)
    have rz0 := blkf hk1 0
    have rz1 := blkf hk1 1
    have rz2 := blkf hk1 2
    have rz3 := blkf hk1 3
    have rz4 := blkf hk1 4
    have rz5 := blkf hk1 5
    have rz6 := blkf hk1 6
    have hkf := hidI (blk_set (blk_set (blk_set (blk_set (blk_set (blk_set (blk_set hk1 0 (.bool false)) 1 (.int .i64 (dg nn 0 : Nat))) 2 (.int .i64 (dg nn 1 : Nat))) 3 (.int .i64 (dg nn 2 : Nat))) 4 (.int .i64 (dg nn 3 : Nat))) 5 (.int .i64 (dg nn 4 : Nat))) 6 (.int .i64 (dg nn 5 : Nat)))
    have hbf := hidI (bl_set (bl_set (bl_set (bl_set (bl_set (bl_set (bl_set hbw (p := ⟨g1, 0, none⟩) hl1 (.bool false)) (p := ⟨g1, 1, none⟩) hl1 (.int .i64 (dg nn 0 : Nat))) (p := ⟨g1, 2, none⟩) hl1 (.int .i64 (dg nn 1 : Nat))) (p := ⟨g1, 3, none⟩) hl1 (.int .i64 (dg nn 2 : Nat))) (p := ⟨g1, 4, none⟩) hl1 (.int .i64 (dg nn 3 : Nat))) (p := ⟨g1, 5, none⟩) hl1 (.int .i64 (dg nn 4 : Nat))) (p := ⟨g1, 6, none⟩) hl1 (.int .i64 (dg nn 5 : Nat)))
    clear hk1 hbw
    go_wp2
    refine bodyPost_ret (results_cell_row rfl _ _ (g1) 46 #[.bool false, .int .i64 (dg nn 0 : Nat), .int .i64 (dg nn 1 : Nat), .int .i64 (dg nn 2 : Nat), .int .i64 (dg nn 3 : Nat), .int .i64 (dg nn 4 : Nat), .int .i64 (dg nn 5 : Nat)] (0, 0) _ rfl (by have h_ := hkf.out; simpa using h_) Try.underlying46 rfl (by kernel_rfl)) rfl ?_
    exact ⟨rfl, hbf.out⟩
set_option maxHeartbeats 8000000 in
set_option maxRecDepth 100000 in
theorem compare_calls (x y : Int) (h : x.natAbs + y.natAbs < pw 6) (w : World) : Calls Try.prog 17 #[.agg (bigZ x), .agg (bigZ y)] w fun e w' => e = .returned (.int .i64 (cmpV x y)) ∧ Below w.heap.size w w' := by
  have hng := hidI (fun W => neg_calls y (by omega) W)
  have had := hidI (fun W => add_calls x (-y) (by rw [Int.natAbs_neg]; omega) W)
  have hzp : (x + -y).natAbs < pw 6 := by omega
  unfold cmpV
  obtain ⟨z, hz⟩ : ∃ z, x + -y = z := ⟨_, rfl⟩
  rw [hz] at had hzp ⊢
  have hzz := hidI (fun W => zero_calls (decide (z < 0)) z.natAbs hzp W)
  unfold bigZ at hng had
  show Calls Try.prog 17 #[.agg (bigC (decide (x < 0)) x.natAbs), .agg (bigC (decide (y < 0)) y.natAbs)] w _
  obtain ⟨mx, hmx⟩ : ∃ q, decide (x < 0) = q := ⟨_, rfl⟩
  obtain ⟨nx, hnx⟩ : ∃ q, x.natAbs = q := ⟨_, rfl⟩
  obtain ⟨my, hmy⟩ : ∃ q, decide (y < 0) = q := ⟨_, rfl⟩
  obtain ⟨ny, hny⟩ : ∃ q, y.natAbs = q := ⟨_, rfl⟩
  obtain ⟨mv, hmv⟩ : ∃ q, decide (-y < 0) = q := ⟨_, rfl⟩
  obtain ⟨nv, hnv⟩ : ∃ q, (-y).natAbs = q := ⟨_, rfl⟩
  obtain ⟨mz, hmz⟩ : ∃ q, decide (z < 0) = q := ⟨_, rfl⟩
  obtain ⟨nz, hnz⟩ : ∃ q, z.natAbs = q := ⟨_, rfl⟩
  rw [hmx, hnx, hmv, hnv, hmz, hnz] at had
  rw [hmy, hny, hmv, hnv] at hng
  rw [hmz, hnz] at hzz
  rw [hmx, hnx, hmy, hny]
  have hres : Hid ((if z = 0 then (0 : Int) else if z < 0 then -1 else 1) = if nz = 0 then 0 else if mz = true then -1 else 1) := by
    show _ = _
    rw [← hmz, ← hnz]
    by_cases e0 : z = 0
    · subst e0; rfl
    · rw [if_neg e0, if_neg (show ¬ z.natAbs = 0 by omega)]
      by_cases e1 : z < 0
      · rw [if_pos e1, if_pos (decide_eq_true e1)]
      · rw [if_neg e1, if_neg (by rw [decide_eq_false e1]; decide)]
  rw [hres.out]
  clear hres hmx hnx hmy hny hmv hnv hmz hnz hz hzp h x y z
  have hngL := hidI (fun W => (show Calls Try.prog 34 #[.agg #[.bool my, .int .i64 (dg ny 0 : Nat), .int .i64 (dg ny 1 : Nat), .int .i64 (dg ny 2 : Nat), .int .i64 (dg ny 3 : Nat), .int .i64 (dg ny 4 : Nat), .int .i64 (dg ny 5 : Nat)]] W (fun e w' => e = .returned (.agg #[.bool mv, .int .i64 (dg nv 0 : Nat), .int .i64 (dg nv 1 : Nat), .int .i64 (dg nv 2 : Nat), .int .i64 (dg nv 3 : Nat), .int .i64 (dg nv 4 : Nat), .int .i64 (dg nv 5 : Nat)]) ∧ Below W.heap.size W w') from hng.out W))
  have hadL := hidI (fun W => (show Calls Try.prog 33 #[.agg #[.bool mx, .int .i64 (dg nx 0 : Nat), .int .i64 (dg nx 1 : Nat), .int .i64 (dg nx 2 : Nat), .int .i64 (dg nx 3 : Nat), .int .i64 (dg nx 4 : Nat), .int .i64 (dg nx 5 : Nat)], .agg #[.bool mv, .int .i64 (dg nv 0 : Nat), .int .i64 (dg nv 1 : Nat), .int .i64 (dg nv 2 : Nat), .int .i64 (dg nv 3 : Nat), .int .i64 (dg nv 4 : Nat), .int .i64 (dg nv 5 : Nat)]] W (fun e w' => e = .returned (.agg #[.bool mz, .int .i64 (dg nz 0 : Nat), .int .i64 (dg nz 1 : Nat), .int .i64 (dg nz 2 : Nat), .int .i64 (dg nz 3 : Nat), .int .i64 (dg nz 4 : Nat), .int .i64 (dg nz 5 : Nat)]) ∧ Below W.heap.size W w') from had.out W))
  have hzzL := hidI (fun W => (show Calls Try.prog 35 #[.agg #[.bool mz, .int .i64 (dg nz 0 : Nat), .int .i64 (dg nz 1 : Nat), .int .i64 (dg nz 2 : Nat), .int .i64 (dg nz 3 : Nat), .int .i64 (dg nz 4 : Nat), .int .i64 (dg nz 5 : Nat)]] W (fun e w' => e = .returned (.bool (decide (nz = 0))) ∧ Below W.heap.size W w') from hzz.out W))
  clear hng had hzz
  show Calls Try.prog 17 #[.agg #[.bool mx, .int .i64 (dg nx 0 : Nat), .int .i64 (dg nx 1 : Nat), .int .i64 (dg nx 2 : Nat), .int .i64 (dg nx 3 : Nat), .int .i64 (dg nx 4 : Nat), .int .i64 (dg nx 5 : Nat)], .agg #[.bool my, .int .i64 (dg ny 0 : Nat), .int .i64 (dg ny 1 : Nat), .int .i64 (dg ny 2 : Nat), .int .i64 (dg ny 3 : Nat), .int .i64 (dg ny 4 : Nat), .int .i64 (dg ny 5 : Nat)]] w _
  obtain ⟨w0, hw0⟩ : ∃ q : World, q = w := ⟨_, rfl⟩
  rw [← hw0]
  clear hw0
  obtain ⟨rs, hrs⟩ : ∃ q : Int, (if nz = 0 then 0 else if mz = true then -1 else 1) = q := ⟨_, rfl⟩
  rw [hrs]
  obtain ⟨zb, hzb⟩ : ∃ q, decide (nz = 0) = q := ⟨_, rfl⟩
  rw [hzb] at hzzL
  have hrz : Hid (rs = if zb = true then 0 else if mz = true then -1 else 1) := by
    show _ = _
    rw [← hrs, ← hzb]
    by_cases e0 : nz = 0
    · rw [if_pos e0, decide_eq_true e0]; rfl
    · rw [if_neg e0, decide_eq_false e0]; rfl
  clear hrs hzb
  go_enter Try.func17, Try.ntmps17
  go_upto_region 1 with fail
  have hk1 := blk_alloc (blk_new w0 (.cells #[.bool mx, .int .i64 (dg nx 0 : Nat), .int .i64 (dg nx 1 : Nat), .int .i64 (dg nx 2 : Nat), .int .i64 (dg nx 3 : Nat), .int .i64 (dg nx 4 : Nat), .int .i64 (dg nx 5 : Nat)] 46)) (.cells #[.bool my, .int .i64 (dg ny 0 : Nat), .int .i64 (dg ny 1 : Nat), .int .i64 (dg ny 2 : Nat), .int .i64 (dg ny 3 : Nat), .int .i64 (dg ny 4 : Nat), .int .i64 (dg ny 5 : Nat)] 46)
  have hk2 : ((w0.alloc (.cells #[.bool mx, .int .i64 (dg nx 0 : Nat), .int .i64 (dg nx 1 : Nat), .int .i64 (dg nx 2 : Nat), .int .i64 (dg nx 3 : Nat), .int .i64 (dg nx 4 : Nat), .int .i64 (dg nx 5 : Nat)] 46)).alloc (.cells #[.bool my, .int .i64 (dg ny 0 : Nat), .int .i64 (dg ny 1 : Nat), .int .i64 (dg ny 2 : Nat), .int .i64 (dg ny 3 : Nat), .int .i64 (dg ny 4 : Nat), .int .i64 (dg ny 5 : Nat)] 46)).heap[w0.heap.size + 1]? = some (.cells #[.bool my, .int .i64 (dg ny 0 : Nat), .int .i64 (dg ny 1 : Nat), .int .i64 (dg ny 2 : Nat), .int .i64 (dg ny 3 : Nat), .int .i64 (dg ny 4 : Nat), .int .i64 (dg ny 5 : Nat)] 46 (0, 0)) := by have h_ := blk_new (w0.alloc (.cells #[.bool mx, .int .i64 (dg nx 0 : Nat), .int .i64 (dg nx 1 : Nat), .int .i64 (dg nx 2 : Nat), .int .i64 (dg nx 3 : Nat), .int .i64 (dg nx 4 : Nat), .int .i64 (dg nx 5 : Nat)] 46)) (.cells #[.bool my, .int .i64 (dg ny 0 : Nat), .int .i64 (dg ny 1 : Nat), .int .i64 (dg ny 2 : Nat), .int .i64 (dg ny 3 : Nat), .int .i64 (dg ny 4 : Nat), .int .i64 (dg ny 5 : Nat)] 46); simpa using h_
  have hbw := bl_alloc (bl_alloc (Below.refl w0.heap.size w0) (.cells #[.bool mx, .int .i64 (dg nx 0 : Nat), .int .i64 (dg nx 1 : Nat), .int .i64 (dg nx 2 : Nat), .int .i64 (dg nx 3 : Nat), .int .i64 (dg nx 4 : Nat), .int .i64 (dg nx 5 : Nat)] 46)) (.cells #[.bool my, .int .i64 (dg ny 0 : Nat), .int .i64 (dg ny 1 : Nat), .int .i64 (dg ny 2 : Nat), .int .i64 (dg ny 3 : Nat), .int .i64 (dg ny 4 : Nat), .int .i64 (dg ny 5 : Nat)] 46)
  generalize (w0.alloc (.cells #[.bool mx, .int .i64 (dg nx 0 : Nat), .int .i64 (dg nx 1 : Nat), .int .i64 (dg nx 2 : Nat), .int .i64 (dg nx 3 : Nat), .int .i64 (dg nx 4 : Nat), .int .i64 (dg nx 5 : Nat)] 46)).alloc (.cells #[.bool my, .int .i64 (dg ny 0 : Nat), .int .i64 (dg ny 1 : Nat), .int .i64 (dg ny 2 : Nat), .int .i64 (dg ny 3 : Nat), .int .i64 (dg ny 4 : Nat), .int .i64 (dg ny 5 : Nat)] 46) = W1 at *
  obtain ⟨g1, hg1⟩ : ∃ g, g = w0.heap.size := ⟨_, rfl⟩
  obtain ⟨g2, hg2⟩ : ∃ g, g = w0.heap.size + 1 := ⟨_, rfl⟩
  rw [← hg2] at hk2 ⊢
  rw [← hg1] at hk1 ⊢
  have hn12 : g1 ≠ g2 := by omega
  have hl1 : w0.heap.size ≤ g1 := by omega
  have hl2 : w0.heap.size ≤ g2 := by omega
  clear hg1 hg2
  clear hl1 hl2
  have hk_g1 := hk1
  have hk_g2 := hk2
  clear hk1 hk2
  obtain ⟨B0, hB0⟩ : ∃ B, B = W1.heap.size := ⟨_, rfl⟩
  have c0_hsz : B0 ≤ W1.heap.size := Nat.le_of_eq hB0
  have hw0B0 : w0.heap.size ≤ B0 := by rw [hB0]; exact hbw.size
  have c0_hle : W1.heap.size ≤ B0 := Nat.le_of_eq hB0.symm
  have c0_hk_g1 := blk_drew hk_g1
  have c0_lt_g1 : g1 < B0 := by rw [hB0]; exact blk_lt hk_g1
  have c0_hk_g2 := blk_drew hk_g2
  have c0_lt_g2 : g2 < B0 := by rw [hB0]; exact blk_lt hk_g2
  have c0_hbw := bl_drew hbw
  clear hB0 hbw hk_g1 hk_g2
  refine region_lin (n := 6) (st := ?st1) { R := [0, 0, 2, 7, 0, 31], kill := [[], [], [], [], [5], []], cls := [0, 0, 0, 0, 0, 1], dst := [some 6, some 7, some 8, some 9, some 5, none], pre := [[], [], [1], [0, 2], [], [4, 3]], cov := [(0, 4)], fin := [5], locs := [(4, 5)], tgt := [none, some 5], abt := [none, none, none, none, some 5, some 5] }
    [.v [6] (fun vs => (vs.getD 0 undef) = .agg #[.bool mx, .int .i64 (dg nx 0 : Nat), .int .i64 (dg nx 1 : Nat), .int .i64 (dg nx 2 : Nat), .int .i64 (dg nx 3 : Nat), .int .i64 (dg nx 4 : Nat), .int .i64 (dg nx 5 : Nat)]),
     .v [7] (fun vs => (vs.getD 0 undef) = .agg #[.bool my, .int .i64 (dg ny 0 : Nat), .int .i64 (dg ny 1 : Nat), .int .i64 (dg ny 2 : Nat), .int .i64 (dg ny 3 : Nat), .int .i64 (dg ny 4 : Nat), .int .i64 (dg ny 5 : Nat)]),
     .v [8] (fun vs => (vs.getD 0 undef) = .agg #[.bool mv, .int .i64 (dg nv 0 : Nat), .int .i64 (dg nv 1 : Nat), .int .i64 (dg nv 2 : Nat), .int .i64 (dg nv 3 : Nat), .int .i64 (dg nv 4 : Nat), .int .i64 (dg nv 5 : Nat)]),
     .v [9] (fun vs => (vs.getD 0 undef) = .agg #[.bool mz, .int .i64 (dg nz 0 : Nat), .int .i64 (dg nz 1 : Nat), .int .i64 (dg nz 2 : Nat), .int .i64 (dg nz 3 : Nat), .int .i64 (dg nz 4 : Nat), .int .i64 (dg nz 5 : Nat)]),
     .w [5] (fun vs w => ∃ g4 : Nat, (vs.getD 0 undef) = .pointer (some ⟨g4, 0, none⟩) ∧ B0 ≤ g4 ∧ w.heap[g4]? = some (.cells #[.bool false, .int .i64 0, .int .i64 0, .int .i64 0, .int .i64 0, .int .i64 0, .int .i64 0] 46 (0, 0))),
     .w [5] (fun vs w => ∃ g4 : Nat, (vs.getD 0 undef) = .pointer (some ⟨g4, 0, none⟩) ∧ B0 ≤ g4 ∧ w.heap[g4]? = some (.cells #[.bool mz, .int .i64 (dg nz 0 : Nat), .int .i64 (dg nz 1 : Nat), .int .i64 (dg nz 2 : Nat), .int .i64 (dg nz 3 : Nat), .int .i64 (dg nz 4 : Nat), .int .i64 (dg nz 5 : Nat)] 46 (0, 0)))]
    (fun w => B0 ≤ w.heap.size ∧ w.heap[g1]? = some (.cells #[.bool mx, .int .i64 (dg nx 0 : Nat), .int .i64 (dg nx 1 : Nat), .int .i64 (dg nx 2 : Nat), .int .i64 (dg nx 3 : Nat), .int .i64 (dg nx 4 : Nat), .int .i64 (dg nx 5 : Nat)] 46 (0, 0)) ∧ g1 < B0 ∧ w.heap[g2]? = some (.cells #[.bool my, .int .i64 (dg ny 0 : Nat), .int .i64 (dg ny 1 : Nat), .int .i64 (dg ny 2 : Nat), .int .i64 (dg ny 3 : Nat), .int .i64 (dg ny 4 : Nat), .int .i64 (dg ny 5 : Nat)] 46 (0, 0)) ∧ g2 < B0 ∧ Below w0.heap.size w0 w)
    (fun c => ([fun s w w' => Below w.heap.size w w', fun s w w' => w' = w ∨ ∃ g4 : Nat, s 5 = .pointer (some ⟨g4, 0, none⟩) ∧ B0 ≤ g4 ∧ (∀ k o, k ≠ g4 → w.heap[k]? = some o → w'.heap[k]? = some o) ∧ w'.heap.size = w.heap.size ∧ Below g4 w w'] : List ((Nat → Value) → World → World → Prop)).getD c (fun s w w' => w' = w))
    [5, 6, 7, 8, 9] (by kernel_rfl) ⟨by kernel_rfl, by kernel_rfl, by kernel_rfl, by kernel_rfl, by kernel_rfl, by kernel_rfl, by kernel_rfl, by kernel_rfl⟩ (fun s => ?_) ?_ ?_ ?_ ?_ ?_ (fun s w hC hA => ?_)
  rotate_left
  · simp only [fillS, List.foldl, List.setIfInBounds_toArray, List.set_cons_zero, List.set_cons_succ]; rfl
  · exact ⟨c0_hsz, c0_hk_g1, c0_lt_g1, c0_hk_g2, c0_lt_g2, c0_hbw⟩
  · intro c s w w' hE
    match c, hE with
    | 0, hE => exact Below.size hE
    | 1, hE => replace hE : w' = w ∨ ∃ g4 : Nat, s 5 = .pointer (some ⟨g4, 0, none⟩) ∧ B0 ≤ g4 ∧ (∀ k o, k ≠ g4 → w.heap[k]? = some o → w'.heap[k]? = some o) ∧ w'.heap.size = w.heap.size ∧ Below g4 w w' := hE; rcases hE with hE | ⟨_, _, _, _, hE, _⟩; exact Nat.le_of_eq (by rw [hE]); exact Nat.le_of_eq hE.symm
    | c + 2, hE => cases hE; exact Nat.le_refl _
  · rintro c s w w' ⟨hsz, hk_g1, lt_g1, hk_g2, lt_g2, hbw⟩ hE
    match c, hE with
    | 0, hE => replace hE : Below w.heap.size w w' := hE; exact ⟨Nat.le_trans hsz hE.size, bl_block hE hk_g1, lt_g1, bl_block hE hk_g2, lt_g2, bl_step hbw hE⟩
    | 1, hE =>
      replace hE : w' = w ∨ ∃ g4 : Nat, s 5 = .pointer (some ⟨g4, 0, none⟩) ∧ B0 ≤ g4 ∧ (∀ k o, k ≠ g4 → w.heap[k]? = some o → w'.heap[k]? = some o) ∧ w'.heap.size = w.heap.size ∧ Below g4 w w' := hE
      rcases hE with rfl | ⟨g4, hs_, hg_, hkeep, hsz_, hBl⟩
      · exact ⟨hsz, hk_g1, lt_g1, hk_g2, lt_g2, hbw⟩
      · exact ⟨by omega, hkeep _ _ (by omega) hk_g1, lt_g1, hkeep _ _ (by omega) hk_g2, lt_g2, hbw.trans (Below.mono hBl (Nat.le_trans hw0B0 hg_))⟩
    | c + 2, hE => cases hE; exact ⟨hsz, hk_g1, lt_g1, hk_g2, lt_g2, hbw⟩
  · refine ⟨?_, trivial⟩
    · intro s w w' hD hC hE hF
      replace hF : ∃ g4 : Nat, (s 5) = .pointer (some ⟨g4, 0, none⟩) ∧ B0 ≤ g4 ∧ w.heap[g4]? = some (.cells #[.bool false, .int .i64 0, .int .i64 0, .int .i64 0, .int .i64 0, .int .i64 0, .int .i64 0] 46 (0, 0)) := hF
      show ∃ g4 : Nat, (s 5) = .pointer (some ⟨g4, 0, none⟩) ∧ B0 ≤ g4 ∧ w'.heap[g4]? = some (.cells #[.bool false, .int .i64 0, .int .i64 0, .int .i64 0, .int .i64 0, .int .i64 0, .int .i64 0] 46 (0, 0))
      replace hE : Below w.heap.size w w' := hE
      obtain ⟨g4, h1, h2, h3⟩ := hF
      exact ⟨g4, h1, h2, bl_block hE h3⟩
  · skip
    refine StepsP.cons ?_ ?_
    · intro Q s w hC hA K hK
      obtain ⟨hsz, hk_g1, lt_g1, hk_g2, lt_g2, hbw⟩ := hC
      clear hA
      refine guard_none (by rfl) ?_
      have m0_g1 : w.cell? ⟨g1, 0, none⟩ = some (.bool mx) := blk_cell hk_g1 0 (by rfl)
      have m1_g1 : w.cell? ⟨g1, 1, none⟩ = some (.int .i64 (dg nx 0 : Nat)) := blk_cell hk_g1 1 (by rfl)
      have m2_g1 : w.cell? ⟨g1, 2, none⟩ = some (.int .i64 (dg nx 1 : Nat)) := blk_cell hk_g1 2 (by rfl)
      have m3_g1 : w.cell? ⟨g1, 3, none⟩ = some (.int .i64 (dg nx 2 : Nat)) := blk_cell hk_g1 3 (by rfl)
      have m4_g1 : w.cell? ⟨g1, 4, none⟩ = some (.int .i64 (dg nx 3 : Nat)) := blk_cell hk_g1 4 (by rfl)
      have m5_g1 : w.cell? ⟨g1, 5, none⟩ = some (.int .i64 (dg nx 4 : Nat)) := blk_cell hk_g1 5 (by rfl)
      have m6_g1 : w.cell? ⟨g1, 6, none⟩ = some (.int .i64 (dg nx 5 : Nat)) := blk_cell hk_g1 6 (by rfl)
      refine wp_value (v := .agg #[.bool mx, .int .i64 (dg nx 0 : Nat), .int .i64 (dg nx 1 : Nat), .int .i64 (dg nx 2 : Nat), .int .i64 (dg nx 3 : Nat), .int .i64 (dg nx 4 : Nat), .int .i64 (dg nx 5 : Nat)]) (w1 := w) ?_ (hK.out _ w (Below.refl _ _) rfl (fun h => by cases h))
      go_simp
      try (first | done | rfl | (simp; done))
    refine StepsP.cons ?_ ?_
    · intro Q s w hC hA K hK
      obtain ⟨hsz, hk_g1, lt_g1, hk_g2, lt_g2, hbw⟩ := hC
      clear hA
      refine guard_none (by rfl) ?_
      have m0_g2 : w.cell? ⟨g2, 0, none⟩ = some (.bool my) := blk_cell hk_g2 0 (by rfl)
      have m1_g2 : w.cell? ⟨g2, 1, none⟩ = some (.int .i64 (dg ny 0 : Nat)) := blk_cell hk_g2 1 (by rfl)
      have m2_g2 : w.cell? ⟨g2, 2, none⟩ = some (.int .i64 (dg ny 1 : Nat)) := blk_cell hk_g2 2 (by rfl)
      have m3_g2 : w.cell? ⟨g2, 3, none⟩ = some (.int .i64 (dg ny 2 : Nat)) := blk_cell hk_g2 3 (by rfl)
      have m4_g2 : w.cell? ⟨g2, 4, none⟩ = some (.int .i64 (dg ny 3 : Nat)) := blk_cell hk_g2 4 (by rfl)
      have m5_g2 : w.cell? ⟨g2, 5, none⟩ = some (.int .i64 (dg ny 4 : Nat)) := blk_cell hk_g2 5 (by rfl)
      have m6_g2 : w.cell? ⟨g2, 6, none⟩ = some (.int .i64 (dg ny 5 : Nat)) := blk_cell hk_g2 6 (by rfl)
      refine wp_value (v := .agg #[.bool my, .int .i64 (dg ny 0 : Nat), .int .i64 (dg ny 1 : Nat), .int .i64 (dg ny 2 : Nat), .int .i64 (dg ny 3 : Nat), .int .i64 (dg ny 4 : Nat), .int .i64 (dg ny 5 : Nat)]) (w1 := w) ?_ (hK.out _ w (Below.refl _ _) rfl (fun h => by cases h))
      go_simp
      try (first | done | rfl | (simp; done))
    refine StepsP.cons ?_ ?_
    · intro Q s w hC hA K hK
      obtain ⟨hsz, hk_g1, lt_g1, hk_g2, lt_g2, hbw⟩ := hC
      obtain ⟨f1, -⟩ := hA
      replace f1 : (s 7) = .agg #[.bool my, .int .i64 (dg ny 0 : Nat), .int .i64 (dg ny 1 : Nat), .int .i64 (dg ny 2 : Nat), .int .i64 (dg ny 3 : Nat), .int .i64 (dg ny 4 : Nat), .int .i64 (dg ny 5 : Nat)] := f1
      refine guard_none (by rfl) ?_
      refine wp_call (N := some 8) (by rfl) Try.func34 (by kernel_rfl) #[.agg #[.bool my, .int .i64 (dg ny 0 : Nat), .int .i64 (dg ny 1 : Nat), .int .i64 (dg ny 2 : Nat), .int .i64 (dg ny 3 : Nat), .int .i64 (dg ny 4 : Nat), .int .i64 (dg ny 5 : Nat)]] rfl (by rfl) ?_ ?_
      · show [s 7] = [.agg #[.bool my, .int .i64 (dg ny 0 : Nat), .int .i64 (dg ny 1 : Nat), .int .i64 (dg ny 2 : Nat), .int .i64 (dg ny 3 : Nat), .int .i64 (dg ny 4 : Nat), .int .i64 (dg ny 5 : Nat)]]
        first | rfl | simp only [f1]
      refine (hngL.out _).mono ?_
      rintro e w1 ⟨rfl, hb⟩
      refine ⟨_, rfl, ?_⟩
      exact hK.out _ _ hb rfl (fun h => by cases h)
    refine StepsP.cons ?_ ?_
    · intro Q s w hC hA K hK
      obtain ⟨hsz, hk_g1, lt_g1, hk_g2, lt_g2, hbw⟩ := hC
      obtain ⟨f0, f2, -⟩ := hA
      replace f0 : (s 6) = .agg #[.bool mx, .int .i64 (dg nx 0 : Nat), .int .i64 (dg nx 1 : Nat), .int .i64 (dg nx 2 : Nat), .int .i64 (dg nx 3 : Nat), .int .i64 (dg nx 4 : Nat), .int .i64 (dg nx 5 : Nat)] := f0
      replace f2 : (s 8) = .agg #[.bool mv, .int .i64 (dg nv 0 : Nat), .int .i64 (dg nv 1 : Nat), .int .i64 (dg nv 2 : Nat), .int .i64 (dg nv 3 : Nat), .int .i64 (dg nv 4 : Nat), .int .i64 (dg nv 5 : Nat)] := f2
      refine guard_none (by rfl) ?_
      refine wp_call (N := some 9) (by rfl) Try.func33 (by kernel_rfl) #[.agg #[.bool mx, .int .i64 (dg nx 0 : Nat), .int .i64 (dg nx 1 : Nat), .int .i64 (dg nx 2 : Nat), .int .i64 (dg nx 3 : Nat), .int .i64 (dg nx 4 : Nat), .int .i64 (dg nx 5 : Nat)], .agg #[.bool mv, .int .i64 (dg nv 0 : Nat), .int .i64 (dg nv 1 : Nat), .int .i64 (dg nv 2 : Nat), .int .i64 (dg nv 3 : Nat), .int .i64 (dg nv 4 : Nat), .int .i64 (dg nv 5 : Nat)]] rfl (by rfl) ?_ ?_
      · show [s 6, s 8] = [.agg #[.bool mx, .int .i64 (dg nx 0 : Nat), .int .i64 (dg nx 1 : Nat), .int .i64 (dg nx 2 : Nat), .int .i64 (dg nx 3 : Nat), .int .i64 (dg nx 4 : Nat), .int .i64 (dg nx 5 : Nat)], .agg #[.bool mv, .int .i64 (dg nv 0 : Nat), .int .i64 (dg nv 1 : Nat), .int .i64 (dg nv 2 : Nat), .int .i64 (dg nv 3 : Nat), .int .i64 (dg nv 4 : Nat), .int .i64 (dg nv 5 : Nat)]]
        first | rfl | simp only [f0, f2]
      refine (hadL.out _).mono ?_
      rintro e w1 ⟨rfl, hb⟩
      refine ⟨_, rfl, ?_⟩
      exact hK.out _ _ hb rfl (fun h => by cases h)
    refine StepsP.cons ?_ ?_
    · intro Q s w hC hA K hK
      obtain ⟨hsz, hk_g1, lt_g1, hk_g2, lt_g2, hbw⟩ := hC
      clear hA
      refine guard_none (by rfl) ?_
      refine wp_value (v := .pointer (some ⟨w.heap.size, 0, none⟩)) (w1 := w.alloc (.cells #[.bool false, .int .i64 0, .int .i64 0, .int .i64 0, .int .i64 0, .int .i64 0, .int .i64 0] 46)) ?_ (hK.out _ _ (bl_alloc (Below.refl _ _) _) ⟨w.heap.size, rfl, hsz, blk_new _ _⟩ (fun _ g h => fresh_alloc (by simpa [blkV] using h)))
      go_simp
      try rfl
    refine StepsP.cons ?_ ?_
    · intro Q s w hC hA K hK
      obtain ⟨hsz, hk_g1, lt_g1, hk_g2, lt_g2, hbw⟩ := hC
      obtain ⟨f4, f3, -⟩ := hA
      replace f4 : ∃ g4 : Nat, (s 5) = .pointer (some ⟨g4, 0, none⟩) ∧ B0 ≤ g4 ∧ w.heap[g4]? = some (.cells #[.bool false, .int .i64 0, .int .i64 0, .int .i64 0, .int .i64 0, .int .i64 0, .int .i64 0] 46 (0, 0)) := f4
      replace f3 : (s 9) = .agg #[.bool mz, .int .i64 (dg nz 0 : Nat), .int .i64 (dg nz 1 : Nat), .int .i64 (dg nz 2 : Nat), .int .i64 (dg nz 3 : Nat), .int .i64 (dg nz 4 : Nat), .int .i64 (dg nz 5 : Nat)] := f3
      refine guard_none (by rfl) ?_
      obtain ⟨g4, a_g4, c_g4, hk_g4⟩ := f4
      have m0_g4 : w.cell? ⟨g4, 0, none⟩ = some (.bool false) := blk_cell hk_g4 0 (by rfl)
      have z0_g4 : w.frozen? ⟨g4, 0, none⟩ = false := blkf hk_g4 0
      have m1_g4 : w.cell? ⟨g4, 1, none⟩ = some (.int .i64 0) := blk_cell hk_g4 1 (by rfl)
      have z1_g4 : w.frozen? ⟨g4, 1, none⟩ = false := blkf hk_g4 1
      have m2_g4 : w.cell? ⟨g4, 2, none⟩ = some (.int .i64 0) := blk_cell hk_g4 2 (by rfl)
      have z2_g4 : w.frozen? ⟨g4, 2, none⟩ = false := blkf hk_g4 2
      have m3_g4 : w.cell? ⟨g4, 3, none⟩ = some (.int .i64 0) := blk_cell hk_g4 3 (by rfl)
      have z3_g4 : w.frozen? ⟨g4, 3, none⟩ = false := blkf hk_g4 3
      have m4_g4 : w.cell? ⟨g4, 4, none⟩ = some (.int .i64 0) := blk_cell hk_g4 4 (by rfl)
      have z4_g4 : w.frozen? ⟨g4, 4, none⟩ = false := blkf hk_g4 4
      have m5_g4 : w.cell? ⟨g4, 5, none⟩ = some (.int .i64 0) := blk_cell hk_g4 5 (by rfl)
      have z5_g4 : w.frozen? ⟨g4, 5, none⟩ = false := blkf hk_g4 5
      have m6_g4 : w.cell? ⟨g4, 6, none⟩ = some (.int .i64 0) := blk_cell hk_g4 6 (by rfl)
      have z6_g4 : w.frozen? ⟨g4, 6, none⟩ = false := blkf hk_g4 6
      refine wp_skip_ (w1 := (((((((w.setCell ⟨g4, 0, none⟩ (.bool mz)).setCell ⟨g4, 1, none⟩ (.int .i64 (dg nz 0 : Nat))).setCell ⟨g4, 2, none⟩ (.int .i64 (dg nz 1 : Nat))).setCell ⟨g4, 3, none⟩ (.int .i64 (dg nz 2 : Nat))).setCell ⟨g4, 4, none⟩ (.int .i64 (dg nz 3 : Nat))).setCell ⟨g4, 5, none⟩ (.int .i64 (dg nz 4 : Nat))).setCell ⟨g4, 6, none⟩ (.int .i64 (dg nz 5 : Nat)))) ?_ (hK.out undef _ (Or.inr ⟨g4, a_g4, c_g4, fun k_ o_ hne_ h_ => (blk_far (blk_far (blk_far (blk_far (blk_far (blk_far (blk_far h_ (a := ⟨g4, 0, none⟩) (Ne.symm hne_) (.bool mz)) (a := ⟨g4, 1, none⟩) (Ne.symm hne_) (.int .i64 (dg nz 0 : Nat))) (a := ⟨g4, 2, none⟩) (Ne.symm hne_) (.int .i64 (dg nz 1 : Nat))) (a := ⟨g4, 3, none⟩) (Ne.symm hne_) (.int .i64 (dg nz 2 : Nat))) (a := ⟨g4, 4, none⟩) (Ne.symm hne_) (.int .i64 (dg nz 3 : Nat))) (a := ⟨g4, 5, none⟩) (Ne.symm hne_) (.int .i64 (dg nz 4 : Nat))) (a := ⟨g4, 6, none⟩) (Ne.symm hne_) (.int .i64 (dg nz 5 : Nat))), by simp [World.setCell], (Below.setCell (Below.setCell (Below.setCell (Below.setCell (Below.setCell (Below.setCell (Below.setCell (Below.refl _ _) (p := ⟨g4, 0, none⟩) (Nat.le_refl _) (.bool mz)) (p := ⟨g4, 1, none⟩) (Nat.le_refl _) (.int .i64 (dg nz 0 : Nat))) (p := ⟨g4, 2, none⟩) (Nat.le_refl _) (.int .i64 (dg nz 1 : Nat))) (p := ⟨g4, 3, none⟩) (Nat.le_refl _) (.int .i64 (dg nz 2 : Nat))) (p := ⟨g4, 4, none⟩) (Nat.le_refl _) (.int .i64 (dg nz 3 : Nat))) (p := ⟨g4, 5, none⟩) (Nat.le_refl _) (.int .i64 (dg nz 4 : Nat))) (p := ⟨g4, 6, none⟩) (Nat.le_refl _) (.int .i64 (dg nz 5 : Nat)))⟩) ⟨g4, a_g4, c_g4, (blk_set (blk_set (blk_set (blk_set (blk_set (blk_set (blk_set hk_g4 0 (.bool mz)) 1 (.int .i64 (dg nz 0 : Nat))) 2 (.int .i64 (dg nz 1 : Nat))) 3 (.int .i64 (dg nz 2 : Nat))) 4 (.int .i64 (dg nz 3 : Nat))) 5 (.int .i64 (dg nz 4 : Nat))) 6 (.int .i64 (dg nz 5 : Nat)))⟩ (fun h => by cases h))
      try simp only [a_g4, f3]
      go_simp
      try rfl
    exact StepsP.nil
  obtain ⟨hsz, hk_g1, lt_g1, hk_g2, lt_g2, hbw⟩ := hC
  obtain ⟨f5, -⟩ := hA
  replace f5 : ∃ g4 : Nat, (s 5) = .pointer (some ⟨g4, 0, none⟩) ∧ B0 ≤ g4 ∧ w.heap[g4]? = some (.cells #[.bool mz, .int .i64 (dg nz 0 : Nat), .int .i64 (dg nz 1 : Nat), .int .i64 (dg nz 2 : Nat), .int .i64 (dg nz 3 : Nat), .int .i64 (dg nz 4 : Nat), .int .i64 (dg nz 5 : Nat)] 46 (0, 0)) := f5
  obtain ⟨g4, a_g4, c_g4, hk_g4⟩ := f5
  refine act_eq (b' := ?b1) ?h1 ?q1
  case h1 => simp only [a_g4]; rfl
  clear hk_g1 hk_g2 lt_g1 lt_g2 hngL hadL
  have c0 : w.cell? ⟨g4, 0, none⟩ = some (.bool mz) := blk_cell hk_g4 0 (by rfl)
  have c1 : w.cell? ⟨g4, 1, none⟩ = some (.int .i64 (dg nz 0 : Nat)) := blk_cell hk_g4 1 (by rfl)
  have c2 : w.cell? ⟨g4, 2, none⟩ = some (.int .i64 (dg nz 1 : Nat)) := blk_cell hk_g4 2 (by rfl)
  have c3 : w.cell? ⟨g4, 3, none⟩ = some (.int .i64 (dg nz 2 : Nat)) := blk_cell hk_g4 3 (by rfl)
  have c4 : w.cell? ⟨g4, 4, none⟩ = some (.int .i64 (dg nz 3 : Nat)) := blk_cell hk_g4 4 (by rfl)
  have c5 : w.cell? ⟨g4, 5, none⟩ = some (.int .i64 (dg nz 4 : Nat)) := blk_cell hk_g4 5 (by rfl)
  have c6 : w.cell? ⟨g4, 6, none⟩ = some (.int .i64 (dg nz 5 : Nat)) := blk_cell hk_g4 6 (by rfl)
  go_wp2_with fail
  refine (hzzL.out _).mono ?_
  rintro e W2 ⟨rfl, hb⟩
  replace hbw := bl_step hbw hb
  replace hk_g4 := bl_block hb hk_g4
  clear hb hzzL c0 c1 c2 c3 c4 c5 c6
  cases zb
  · have y0 : W2.cell? ⟨g4, 0, none⟩ = some (.bool mz) := blk_cell hk_g4 0 (by rfl)
    cases mz
    · go_wp2
      go_ret
      rw [hrz.out]
      exact ⟨rfl, hbw⟩
    · go_wp2
      go_ret
      rw [hrz.out]
      exact ⟨rfl, hbw⟩
  · go_wp2
    go_ret
    rw [hrz.out]
    exact ⟨rfl, hbw⟩
end Go.Proofs.Ytggididnclfahaa
