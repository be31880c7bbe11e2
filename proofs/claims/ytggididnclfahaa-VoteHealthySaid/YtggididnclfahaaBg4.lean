/- Proved here: lemmas and contracts (what a function of the program computes) that the proofs of the laws of this seat lean on. Conditions: as each theorem states. -/
import Derived.Test.YtggididnclfahaaBg3
set_option linter.unusedVariables false
set_option linter.unusedSimpArgs false
namespace Go.Pk.Bg
open Go.RowKit Go.Pk
theorem pw_v : pw 6 = 6277101735386680763835789423207666416102355444464034512896 := by unfold pw; decide
theorem pw_1 : pw 1 = 4294967296 := by unfold pw; decide
theorem pw_2 : pw 2 = 18446744073709551616 := by unfold pw; decide
/-- A number below 2^63 in its two digits. -/
theorem dg_small {n : Nat} (h : n < 9223372036854775808) : dg n 0 = n % 4294967296 ∧ dg n 1 = n / 4294967296 ∧ ∀ i, 2 ≤ i → dg n i = 0 := by
  refine ⟨by unfold dg pw; simp, ?_, fun i hi => ?_⟩
  · unfold dg; rw [pw_1]; omega
  · unfold dg
    have h2 : pw 2 ≤ pw i := Nat.pow_le_pow_right (by omega) (by omega)
    rw [Nat.div_eq_of_lt (by rw [pw_2] at h2; omega)]
end Go.Pk.Bg
namespace Go.Proofs.Ytggididnclfahaa
open Go.RowKit Go.Pk Go.Pk.Bg
set_option maxHeartbeats 8000000 in
set_option maxRecDepth 100000 in
theorem negM_calls (m : Bool) (n : Nat) (hn : n < pw 6) (w : World) : Calls Try.prog 34 #[.agg (bigC m n)] w fun e w' => e = .returned (.agg (bigC (if n = 0 then m else !m) n)) ∧ Below w.heap.size w w' := by
  have hX : Hid (bigC m n = #[.bool m, .int .i64 (dg n 0 : Nat), .int .i64 (dg n 1 : Nat), .int .i64 (dg n 2 : Nat), .int .i64 (dg n 3 : Nat), .int .i64 (dg n 4 : Nat), .int .i64 (dg n 5 : Nat)]) := rfl
  have hz := hidI (fun W => zero_calls m n hn W)
  rw [hX.out] at hz
  rw [hX.out]
  clear hn
  by_cases h0 : n = 0
  · have e0 : (if n = 0 then m else !m) = m := if_pos h0
    have dz : decide (n = 0) = true := decide_eq_true h0
    rw [dz] at hz
    rw [e0]
    replace h0 := hidI h0
    clear e0 dz
    go_enter Try.func34, Try.ntmps34
    go_upto_region 1 with fail
    have hk1 := blk_alloc (blk_new w (.cells #[.bool m, .int .i64 (dg n 0 : Nat), .int .i64 (dg n 1 : Nat), .int .i64 (dg n 2 : Nat), .int .i64 (dg n 3 : Nat), .int .i64 (dg n 4 : Nat), .int .i64 (dg n 5 : Nat)] 46)) (.cells #[.bool false, .int .i64 0, .int .i64 0, .int .i64 0, .int .i64 0, .int .i64 0, .int .i64 0] 46)
    have hk2 : ((w.alloc (.cells #[.bool m, .int .i64 (dg n 0 : Nat), .int .i64 (dg n 1 : Nat), .int .i64 (dg n 2 : Nat), .int .i64 (dg n 3 : Nat), .int .i64 (dg n 4 : Nat), .int .i64 (dg n 5 : Nat)] 46)).alloc (.cells #[.bool false, .int .i64 0, .int .i64 0, .int .i64 0, .int .i64 0, .int .i64 0, .int .i64 0] 46)).heap[w.heap.size + 1]? = some (.cells #[.bool false, .int .i64 0, .int .i64 0, .int .i64 0, .int .i64 0, .int .i64 0, .int .i64 0] 46 (0, 0)) := by have h_ := blk_new (w.alloc (.cells #[.bool m, .int .i64 (dg n 0 : Nat), .int .i64 (dg n 1 : Nat), .int .i64 (dg n 2 : Nat), .int .i64 (dg n 3 : Nat), .int .i64 (dg n 4 : Nat), .int .i64 (dg n 5 : Nat)] 46)) (.cells #[.bool false, .int .i64 0, .int .i64 0, .int .i64 0, .int .i64 0, .int .i64 0, .int .i64 0] 46); simpa using h_
    have hbw := bl_alloc (bl_alloc (Below.refl w.heap.size w) (.cells #[.bool m, .int .i64 (dg n 0 : Nat), .int .i64 (dg n 1 : Nat), .int .i64 (dg n 2 : Nat), .int .i64 (dg n 3 : Nat), .int .i64 (dg n 4 : Nat), .int .i64 (dg n 5 : Nat)] 46)) (.cells #[.bool false, .int .i64 0, .int .i64 0, .int .i64 0, .int .i64 0, .int .i64 0, .int .i64 0] 46)
    generalize (w.alloc (.cells #[.bool m, .int .i64 (dg n 0 : Nat), .int .i64 (dg n 1 : Nat), .int .i64 (dg n 2 : Nat), .int .i64 (dg n 3 : Nat), .int .i64 (dg n 4 : Nat), .int .i64 (dg n 5 : Nat)] 46)).alloc (.cells #[.bool false, .int .i64 0, .int .i64 0, .int .i64 0, .int .i64 0, .int .i64 0, .int .i64 0] 46) = W1 at *
    obtain ⟨g1, hg1⟩ : ∃ g, g = w.heap.size := ⟨_, rfl⟩
    obtain ⟨g2, hg2⟩ : ∃ g, g = w.heap.size + 1 := ⟨_, rfl⟩
    rw [← hg2] at hk2 ⊢
    rw [← hg1] at hk1 ⊢
    have hn12 : g1 ≠ g2 := by omega
    have hl1 : w.heap.size ≤ g1 := by omega
    have hl2 : w.heap.size ≤ g2 := by omega
    clear hg1 hg2
    have c0 : W1.cell? ⟨g1, 0, none⟩ = some (.bool m) := blk_cell hk1 0 (by rfl)
    have c1 : W1.cell? ⟨g1, 1, none⟩ = some (.int .i64 (dg n 0 : Nat)) := blk_cell hk1 1 (by rfl)
    have c2 : W1.cell? ⟨g1, 2, none⟩ = some (.int .i64 (dg n 1 : Nat)) := blk_cell hk1 2 (by rfl)
    have c3 : W1.cell? ⟨g1, 3, none⟩ = some (.int .i64 (dg n 2 : Nat)) := blk_cell hk1 3 (by rfl)
    have c4 : W1.cell? ⟨g1, 4, none⟩ = some (.int .i64 (dg n 3 : Nat)) := blk_cell hk1 4 (by rfl)
    have c5 : W1.cell? ⟨g1, 5, none⟩ = some (.int .i64 (dg n 4 : Nat)) := blk_cell hk1 5 (by rfl)
    have c6 : W1.cell? ⟨g1, 6, none⟩ = some (.int .i64 (dg n 5 : Nat)) := blk_cell hk1 6 (by rfl)
    go_wp2_with fail
    refine (hz.out _).mono ?_
    rintro e W2 ⟨rfl, hb⟩
    replace hbw := bl_step hbw hb
    replace hk1 := bl_block hb hk1
    replace hk2 := bl_block hb hk2
    clear hb hz c0 c1 c2 c3 c4 c5 c6
    have e0 : W2.cell? ⟨g1, 0, none⟩ = some (.bool m) := blk_cell hk1 0 (by rfl)
    have e1 : W2.cell? ⟨g1, 1, none⟩ = some (.int .i64 (dg n 0 : Nat)) := blk_cell hk1 1 (by rfl)
    have e2 : W2.cell? ⟨g1, 2, none⟩ = some (.int .i64 (dg n 1 : Nat)) := blk_cell hk1 2 (by rfl)
    have e3 : W2.cell? ⟨g1, 3, none⟩ = some (.int .i64 (dg n 2 : Nat)) := blk_cell hk1 3 (by rfl)
    have e4 : W2.cell? ⟨g1, 4, none⟩ = some (.int .i64 (dg n 3 : Nat)) := blk_cell hk1 4 (by rfl)
    have e5 : W2.cell? ⟨g1, 5, none⟩ = some (.int .i64 (dg n 4 : Nat)) := blk_cell hk1 5 (by rfl)
    have e6 : W2.cell? ⟨g1, 6, none⟩ = some (.int .i64 (dg n 5 : Nat)) := blk_cell hk1 6 (by rfl)
    have r0 : W2.cell? ⟨g2, 0, none⟩ = some (.bool false) := blk_cell hk2 0 (by rfl)
    have r1 : W2.cell? ⟨g2, 1, none⟩ = some (.int .i64 0) := blk_cell hk2 1 (by rfl)
    have r2 : W2.cell? ⟨g2, 2, none⟩ = some (.int .i64 0) := blk_cell hk2 2 (by rfl)
    have r3 : W2.cell? ⟨g2, 3, none⟩ = some (.int .i64 0) := blk_cell hk2 3 (by rfl)
    have r4 : W2.cell? ⟨g2, 4, none⟩ = some (.int .i64 0) := blk_cell hk2 4 (by rfl)
    have r5 : W2.cell? ⟨g2, 5, none⟩ = some (.int .i64 0) := blk_cell hk2 5 (by rfl)
    have r6 : W2.cell? ⟨g2, 6, none⟩ = some (.int .i64 0) := blk_cell hk2 6 (by rfl)
    have rz0 := blkf hk2 0
    have rz1 := blkf hk2 1
    have rz2 := blkf hk2 2
    have rz3 := blkf hk2 3
    have rz4 := blkf hk2 4
    have rz5 := blkf hk2 5
    have rz6 := blkf hk2 6
    have hkf := hidI (blk_set (blk_set (blk_set (blk_set (blk_set (blk_set (blk_set hk2 0 (.bool m)) 1 (.int .i64 (dg n 0 : Nat))) 2 (.int .i64 (dg n 1 : Nat))) 3 (.int .i64 (dg n 2 : Nat))) 4 (.int .i64 (dg n 3 : Nat))) 5 (.int .i64 (dg n 4 : Nat))) 6 (.int .i64 (dg n 5 : Nat)))
    have hbf := hidI (bl_set (bl_set (bl_set (bl_set (bl_set (bl_set (bl_set hbw (p := ⟨g2, 0, none⟩) hl2 (.bool m)) (p := ⟨g2, 1, none⟩) hl2 (.int .i64 (dg n 0 : Nat))) (p := ⟨g2, 2, none⟩) hl2 (.int .i64 (dg n 1 : Nat))) (p := ⟨g2, 3, none⟩) hl2 (.int .i64 (dg n 2 : Nat))) (p := ⟨g2, 4, none⟩) hl2 (.int .i64 (dg n 3 : Nat))) (p := ⟨g2, 5, none⟩) hl2 (.int .i64 (dg n 4 : Nat))) (p := ⟨g2, 6, none⟩) hl2 (.int .i64 (dg n 5 : Nat)))
    clear hk1 hk2 hbw
    go_wp2
    refine bodyPost_ret (results_cell_row rfl _ _ (g2) 46 #[.bool m, .int .i64 (dg n 0 : Nat), .int .i64 (dg n 1 : Nat), .int .i64 (dg n 2 : Nat), .int .i64 (dg n 3 : Nat), .int .i64 (dg n 4 : Nat), .int .i64 (dg n 5 : Nat)] (0, 0) _ rfl (by have h_ := hkf.out; simpa using h_) Try.underlying46 rfl (by kernel_rfl)) rfl ?_
    exact ⟨rfl, hbf.out⟩
  · have e0 : (if n = 0 then m else !m) = !m := if_neg h0
    have dz : decide (n = 0) = false := decide_eq_false h0
    rw [dz] at hz
    rw [e0]
    obtain ⟨q, hq⟩ : ∃ q, (!m) = q := ⟨_, rfl⟩
    rw [hq]
    replace h0 := hidI h0
    clear e0 dz
    go_enter Try.func34, Try.ntmps34
    go_upto_region 1 with fail
    have hk1 := blk_alloc (blk_new w (.cells #[.bool m, .int .i64 (dg n 0 : Nat), .int .i64 (dg n 1 : Nat), .int .i64 (dg n 2 : Nat), .int .i64 (dg n 3 : Nat), .int .i64 (dg n 4 : Nat), .int .i64 (dg n 5 : Nat)] 46)) (.cells #[.bool false, .int .i64 0, .int .i64 0, .int .i64 0, .int .i64 0, .int .i64 0, .int .i64 0] 46)
    have hk2 : ((w.alloc (.cells #[.bool m, .int .i64 (dg n 0 : Nat), .int .i64 (dg n 1 : Nat), .int .i64 (dg n 2 : Nat), .int .i64 (dg n 3 : Nat), .int .i64 (dg n 4 : Nat), .int .i64 (dg n 5 : Nat)] 46)).alloc (.cells #[.bool false, .int .i64 0, .int .i64 0, .int .i64 0, .int .i64 0, .int .i64 0, .int .i64 0] 46)).heap[w.heap.size + 1]? = some (.cells #[.bool false, .int .i64 0, .int .i64 0, .int .i64 0, .int .i64 0, .int .i64 0, .int .i64 0] 46 (0, 0)) := by have h_ := blk_new (w.alloc (.cells #[.bool m, .int .i64 (dg n 0 : Nat), .int .i64 (dg n 1 : Nat), .int .i64 (dg n 2 : Nat), .int .i64 (dg n 3 : Nat), .int .i64 (dg n 4 : Nat), .int .i64 (dg n 5 : Nat)] 46)) (.cells #[.bool false, .int .i64 0, .int .i64 0, .int .i64 0, .int .i64 0, .int .i64 0, .int .i64 0] 46); simpa using h_
    have hbw := bl_alloc (bl_alloc (Below.refl w.heap.size w) (.cells #[.bool m, .int .i64 (dg n 0 : Nat), .int .i64 (dg n 1 : Nat), .int .i64 (dg n 2 : Nat), .int .i64 (dg n 3 : Nat), .int .i64 (dg n 4 : Nat), .int .i64 (dg n 5 : Nat)] 46)) (.cells #[.bool false, .int .i64 0, .int .i64 0, .int .i64 0, .int .i64 0, .int .i64 0, .int .i64 0] 46)
    generalize (w.alloc (.cells #[.bool m, .int .i64 (dg n 0 : Nat), .int .i64 (dg n 1 : Nat), .int .i64 (dg n 2 : Nat), .int .i64 (dg n 3 : Nat), .int .i64 (dg n 4 : Nat), .int .i64 (dg n 5 : Nat)] 46)).alloc (.cells #[.bool false, .int .i64 0, .int .i64 0, .int .i64 0, .int .i64 0, .int .i64 0, .int .i64 0] 46) = W1 at *
    obtain ⟨g1, hg1⟩ : ∃ g, g = w.heap.size := ⟨_, rfl⟩
    obtain ⟨g2, hg2⟩ : ∃ g, g = w.heap.size + 1 := ⟨_, rfl⟩
    rw [← hg2] at hk2 ⊢
    rw [← hg1] at hk1 ⊢
    have hn12 : g1 ≠ g2 := by omega
    have hl1 : w.heap.size ≤ g1 := by omega
    have hl2 : w.heap.size ≤ g2 := by omega
    clear hg1 hg2
    have c0 : W1.cell? ⟨g1, 0, none⟩ = some (.bool m) := blk_cell hk1 0 (by rfl)
    have c1 : W1.cell? ⟨g1, 1, none⟩ = some (.int .i64 (dg n 0 : Nat)) := blk_cell hk1 1 (by rfl)
    have c2 : W1.cell? ⟨g1, 2, none⟩ = some (.int .i64 (dg n 1 : Nat)) := blk_cell hk1 2 (by rfl)
    have c3 : W1.cell? ⟨g1, 3, none⟩ = some (.int .i64 (dg n 2 : Nat)) := blk_cell hk1 3 (by rfl)
    have c4 : W1.cell? ⟨g1, 4, none⟩ = some (.int .i64 (dg n 3 : Nat)) := blk_cell hk1 4 (by rfl)
    have c5 : W1.cell? ⟨g1, 5, none⟩ = some (.int .i64 (dg n 4 : Nat)) := blk_cell hk1 5 (by rfl)
    have c6 : W1.cell? ⟨g1, 6, none⟩ = some (.int .i64 (dg n 5 : Nat)) := blk_cell hk1 6 (by rfl)
    go_wp2_with fail
    refine (hz.out _).mono ?_
    rintro e W2 ⟨rfl, hb⟩
    replace hbw := bl_step hbw hb
    replace hk1 := bl_block hb hk1
    replace hk2 := bl_block hb hk2
    clear hb hz c0 c1 c2 c3 c4 c5 c6
    have y0 : W2.cell? ⟨g1, 0, none⟩ = some (.bool m) := blk_cell hk1 0 (by rfl)
    have z0 := blkf hk1 0
    go_upto_region 3 with fail
    have hk3 := blk_set hk1 0 (.bool q)
    have hk4 := blk_far hk2 (a := ⟨g1, 0, none⟩) hn12 (.bool q)
    have hb3 := bl_set hbw (p := ⟨g1, 0, none⟩) hl1 (.bool q)
    have hk5 : (W2.setCell ⟨g1, 0, none⟩ (.bool q)).heap[g1]? = some (.cells #[.bool q, .int .i64 (dg n 0 : Nat), .int .i64 (dg n 1 : Nat), .int .i64 (dg n 2 : Nat), .int .i64 (dg n 3 : Nat), .int .i64 (dg n 4 : Nat), .int .i64 (dg n 5 : Nat)] 46 (0, 0)) := hk3
    clear hk1 hk2 hbw y0 z0 hk3
    generalize W2.setCell ⟨g1, 0, none⟩ (.bool q) = W3 at *
    have e0 : W3.cell? ⟨g1, 0, none⟩ = some (.bool q) := blk_cell hk5 0 (by rfl)
    have e1 : W3.cell? ⟨g1, 1, none⟩ = some (.int .i64 (dg n 0 : Nat)) := blk_cell hk5 1 (by rfl)
    have e2 : W3.cell? ⟨g1, 2, none⟩ = some (.int .i64 (dg n 1 : Nat)) := blk_cell hk5 2 (by rfl)
    have e3 : W3.cell? ⟨g1, 3, none⟩ = some (.int .i64 (dg n 2 : Nat)) := blk_cell hk5 3 (by rfl)
    have e4 : W3.cell? ⟨g1, 4, none⟩ = some (.int .i64 (dg n 3 : Nat)) := blk_cell hk5 4 (by rfl)
    have e5 : W3.cell? ⟨g1, 5, none⟩ = some (.int .i64 (dg n 4 : Nat)) := blk_cell hk5 5 (by rfl)
    have e6 : W3.cell? ⟨g1, 6, none⟩ = some (.int .i64 (dg n 5 : Nat)) := blk_cell hk5 6 (by rfl)
    have r0 : W3.cell? ⟨g2, 0, none⟩ = some (.bool false) := blk_cell hk4 0 (by rfl)
    have r1 : W3.cell? ⟨g2, 1, none⟩ = some (.int .i64 0) := blk_cell hk4 1 (by rfl)
    have r2 : W3.cell? ⟨g2, 2, none⟩ = some (.int .i64 0) := blk_cell hk4 2 (by rfl)
    have r3 : W3.cell? ⟨g2, 3, none⟩ = some (.int .i64 0) := blk_cell hk4 3 (by rfl)
    have r4 : W3.cell? ⟨g2, 4, none⟩ = some (.int .i64 0) := blk_cell hk4 4 (by rfl)
    have r5 : W3.cell? ⟨g2, 5, none⟩ = some (.int .i64 0) := blk_cell hk4 5 (by rfl)
    have r6 : W3.cell? ⟨g2, 6, none⟩ = some (.int .i64 0) := blk_cell hk4 6 (by rfl)
    have rz0 := blkf hk4 0
    have rz1 := blkf hk4 1
    have rz2 := blkf hk4 2
    have rz3 := blkf hk4 3
    have rz4 := blkf hk4 4
    have rz5 := blkf hk4 5
    have rz6 := blkf hk4 6
    have hkf := hidI (blk_set (blk_set (blk_set (blk_set (blk_set (blk_set (blk_set hk4 0 (.bool q)) 1 (.int .i64 (dg n 0 : Nat))) 2 (.int .i64 (dg n 1 : Nat))) 3 (.int .i64 (dg n 2 : Nat))) 4 (.int .i64 (dg n 3 : Nat))) 5 (.int .i64 (dg n 4 : Nat))) 6 (.int .i64 (dg n 5 : Nat)))
    have hbf := hidI (bl_set (bl_set (bl_set (bl_set (bl_set (bl_set (bl_set hb3 (p := ⟨g2, 0, none⟩) hl2 (.bool q)) (p := ⟨g2, 1, none⟩) hl2 (.int .i64 (dg n 0 : Nat))) (p := ⟨g2, 2, none⟩) hl2 (.int .i64 (dg n 1 : Nat))) (p := ⟨g2, 3, none⟩) hl2 (.int .i64 (dg n 2 : Nat))) (p := ⟨g2, 4, none⟩) hl2 (.int .i64 (dg n 3 : Nat))) (p := ⟨g2, 5, none⟩) hl2 (.int .i64 (dg n 4 : Nat))) (p := ⟨g2, 6, none⟩) hl2 (.int .i64 (dg n 5 : Nat)))
    clear hk5 hk4 hb3
    go_wp2
    refine bodyPost_ret (results_cell_row rfl _ _ (g2) 46 #[.bool q, .int .i64 (dg n 0 : Nat), .int .i64 (dg n 1 : Nat), .int .i64 (dg n 2 : Nat), .int .i64 (dg n 3 : Nat), .int .i64 (dg n 4 : Nat), .int .i64 (dg n 5 : Nat)] (0, 0) _ rfl (by have h_ := hkf.out; simpa using h_) Try.underlying46 rfl (by kernel_rfl)) rfl ?_
    exact ⟨rfl, hbf.out⟩
theorem neg_calls (z : Int) (hz : z.natAbs < pw 6) (w : World) : Calls Try.prog 34 #[.agg (bigZ z)] w fun e w' => e = .returned (.agg (bigZ (-z))) ∧ Below w.heap.size w w' := by
  have h := negM_calls (decide (z < 0)) z.natAbs hz w
  have e : bigZ (-z) = bigC (if z.natAbs = 0 then decide (z < 0) else !decide (z < 0)) z.natAbs := by
    unfold bigZ
    rw [Int.natAbs_neg]
    congr 1
    split
    · rw [decide_eq_false (by omega), decide_eq_false (by omega)]
    · by_cases h : z < 0
      · rw [decide_eq_true h, decide_eq_false (by omega)]; rfl
      · rw [decide_eq_false h, decide_eq_true (by omega)]; rfl
  rw [e]; exact h
end Go.Proofs.Ytggididnclfahaa
