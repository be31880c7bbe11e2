/- Proved here: lemmas and contracts (what a function of the program computes) that the proofs of the laws of this seat lean on. Conditions: as each theorem states. -/
import Derived.Test.YtggididnclfahaaBg5
import Derived.Test.YtggididnclfahaaLin
set_option linter.unusedVariables false
set_option linter.unusedSimpArgs false
namespace Go.Proofs.Ytggididnclfahaa
open Go.RowKit Go.Pk Go.Pk.Bg
set_option maxHeartbeats 8000000 in
set_option maxRecDepth 100000 in
theorem ofPos_calls (n : Nat) (hn : n < 9223372036854775808) (w : World) : Calls Try.prog 19 #[.int .i64 (n : Int)] w fun e w' => e = .returned (.agg (bigC false n)) ∧ Below w.heap.size w w' := by
  show Calls Try.prog 19 #[.int .i64 (n : Int)] w fun e w' => e = .returned (.agg #[.bool false, .int .i64 (dg n 0 : Nat), .int .i64 (dg n 1 : Nat), .int .i64 (dg n 2 : Nat), .int .i64 (dg n 3 : Nat), .int .i64 (dg n 4 : Nat), .int .i64 (dg n 5 : Nat)]) ∧ Below w.heap.size w w'
  obtain ⟨s0, s1, s2⟩ := dg_small hn
  rw [s2 2 (by omega), s2 3 (by omega), s2 4 (by omega), s2 5 (by omega)]
  obtain ⟨R, hR⟩ : ∃ R : Int, ((dg n 0 : Nat) : Int) = R := ⟨_, rfl⟩
  obtain ⟨Q, hQ⟩ : ∃ Q : Int, ((dg n 1 : Nat) : Int) = Q := ⟨_, rfl⟩
  obtain ⟨V, hV⟩ : ∃ V : Int, (n : Int) = V := ⟨_, rfl⟩
  have hV0 : 0 ≤ V := by omega
  have hV1 : V ≤ 9223372036854775807 := by omega
  have d0 : decide (V < 0) = false := decide_eq_false (by omega)
  have hr : V % 4294967296 = R := by omega
  have hq : V / 4294967296 = Q := by omega
  have hr2 : V.tmod 4294967296 = R := by rw [Int.tmod_eq_emod_of_nonneg hV0]; exact hr
  have hq2 : V.tdiv 4294967296 = Q := by rw [Int.tdiv_eq_ediv_of_nonneg hV0]; exact hq
  rw [hR, hQ, hV]
  clear hR hQ hV s0 s1 s2 hn
  go_enter Try.func19, Try.ntmps19
  go_upto_region 2 with fail
  have hk1 := blk_alloc (blk_new w (.cells #[.bool false, .int .i64 0, .int .i64 0, .int .i64 0, .int .i64 0, .int .i64 0, .int .i64 0] 46)) (.cells #[.bool false, .int .i64 0, .int .i64 0, .int .i64 0, .int .i64 0, .int .i64 0, .int .i64 0] 46)
  have hk2 : ((w.alloc (.cells #[.bool false, .int .i64 0, .int .i64 0, .int .i64 0, .int .i64 0, .int .i64 0, .int .i64 0] 46)).alloc (.cells #[.bool false, .int .i64 0, .int .i64 0, .int .i64 0, .int .i64 0, .int .i64 0, .int .i64 0] 46)).heap[w.heap.size + 1]? = some (.cells #[.bool false, .int .i64 0, .int .i64 0, .int .i64 0, .int .i64 0, .int .i64 0, .int .i64 0] 46 (0, 0)) := by have h_ := blk_new (w.alloc (.cells #[.bool false, .int .i64 0, .int .i64 0, .int .i64 0, .int .i64 0, .int .i64 0, .int .i64 0] 46)) (.cells #[.bool false, .int .i64 0, .int .i64 0, .int .i64 0, .int .i64 0, .int .i64 0, .int .i64 0] 46); simpa using h_
  have hbw := bl_alloc (bl_alloc (Below.refl w.heap.size w) (.cells #[.bool false, .int .i64 0, .int .i64 0, .int .i64 0, .int .i64 0, .int .i64 0, .int .i64 0] 46)) (.cells #[.bool false, .int .i64 0, .int .i64 0, .int .i64 0, .int .i64 0, .int .i64 0, .int .i64 0] 46)
  generalize (w.alloc (.cells #[.bool false, .int .i64 0, .int .i64 0, .int .i64 0, .int .i64 0, .int .i64 0, .int .i64 0] 46)).alloc (.cells #[.bool false, .int .i64 0, .int .i64 0, .int .i64 0, .int .i64 0, .int .i64 0, .int .i64 0] 46) = W1 at *
  obtain ⟨g1, hg1⟩ : ∃ g, g = w.heap.size := ⟨_, rfl⟩
  obtain ⟨g2, hg2⟩ : ∃ g, g = w.heap.size + 1 := ⟨_, rfl⟩
  rw [← hg2] at hk2 ⊢
  rw [← hg1] at hk1 ⊢
  have hn12 : g1 ≠ g2 := by omega
  have hl1 : w.heap.size ≤ g1 := by omega
  have hl2 : w.heap.size ≤ g2 := by omega
  clear hg1 hg2
  have c0 : W1.cell? ⟨g2, 0, none⟩ = some (.bool false) := blk_cell hk2 0 (by rfl)
  have c1 : W1.cell? ⟨g2, 1, none⟩ = some (.int .i64 0) := blk_cell hk2 1 (by rfl)
  have c2 : W1.cell? ⟨g2, 2, none⟩ = some (.int .i64 0) := blk_cell hk2 2 (by rfl)
  have c3 : W1.cell? ⟨g2, 3, none⟩ = some (.int .i64 0) := blk_cell hk2 3 (by rfl)
  have c4 : W1.cell? ⟨g2, 4, none⟩ = some (.int .i64 0) := blk_cell hk2 4 (by rfl)
  have c5 : W1.cell? ⟨g2, 5, none⟩ = some (.int .i64 0) := blk_cell hk2 5 (by rfl)
  have c6 : W1.cell? ⟨g2, 6, none⟩ = some (.int .i64 0) := blk_cell hk2 6 (by rfl)
  have cz0 := blkf hk2 0
  have cz1 := blkf hk2 1
  have cz2 := blkf hk2 2
  have cz3 := blkf hk2 3
  have cz4 := blkf hk2 4
  have cz5 := blkf hk2 5
  have cz6 := blkf hk2 6
  go_upto_region 8 with fail
  have hk3 : ((W1.setCell ⟨g2, 1, none⟩ (.int .i64 R)).setCell ⟨g2, 2, none⟩ (.int .i64 Q)).heap[g2]? = some (.cells #[.bool false, .int .i64 R, .int .i64 Q, .int .i64 0, .int .i64 0, .int .i64 0, .int .i64 0] 46 (0, 0)) := by have h_ := blk_set (blk_set hk2 1 (.int .i64 R)) 2 (.int .i64 Q); simpa using h_
  have hk4 := blk_far (blk_far hk1 (a := ⟨g2, 1, none⟩) (Ne.symm hn12) (.int .i64 R)) (a := ⟨g2, 2, none⟩) (Ne.symm hn12) (.int .i64 Q)
  have hb3 := bl_set (bl_set hbw (p := ⟨g2, 1, none⟩) hl2 (.int .i64 R)) (p := ⟨g2, 2, none⟩) hl2 (.int .i64 Q)
  generalize (W1.setCell ⟨g2, 1, none⟩ (.int .i64 R)).setCell ⟨g2, 2, none⟩ (.int .i64 Q) = W2 at *
  clear hk1 hk2 hbw c0 c1 c2 c3 c4 c5 c6 cz0 cz1 cz2 cz3 cz4 cz5 cz6 hr hq hr2 hq2
  have e0 : W2.cell? ⟨g2, 0, none⟩ = some (.bool false) := blk_cell hk3 0 (by rfl)
  have e1 : W2.cell? ⟨g2, 1, none⟩ = some (.int .i64 R) := blk_cell hk3 1 (by rfl)
  have e2 : W2.cell? ⟨g2, 2, none⟩ = some (.int .i64 Q) := blk_cell hk3 2 (by rfl)
  have e3 : W2.cell? ⟨g2, 3, none⟩ = some (.int .i64 0) := blk_cell hk3 3 (by rfl)
  have e4 : W2.cell? ⟨g2, 4, none⟩ = some (.int .i64 0) := blk_cell hk3 4 (by rfl)
  have e5 : W2.cell? ⟨g2, 5, none⟩ = some (.int .i64 0) := blk_cell hk3 5 (by rfl)
  have e6 : W2.cell? ⟨g2, 6, none⟩ = some (.int .i64 0) := blk_cell hk3 6 (by rfl)
  have r0 : W2.cell? ⟨g1, 0, none⟩ = some (.bool false) := blk_cell hk4 0 (by rfl)
  have r1 : W2.cell? ⟨g1, 1, none⟩ = some (.int .i64 0) := blk_cell hk4 1 (by rfl)
  have r2 : W2.cell? ⟨g1, 2, none⟩ = some (.int .i64 0) := blk_cell hk4 2 (by rfl)
  have r3 : W2.cell? ⟨g1, 3, none⟩ = some (.int .i64 0) := blk_cell hk4 3 (by rfl)
  have r4 : W2.cell? ⟨g1, 4, none⟩ = some (.int .i64 0) := blk_cell hk4 4 (by rfl)
  have r5 : W2.cell? ⟨g1, 5, none⟩ = some (.int .i64 0) := blk_cell hk4 5 (by rfl)
  have r6 : W2.cell? ⟨g1, 6, none⟩ = some (.int .i64 0) := blk_cell hk4 6 (by rfl)
  have rz0 := blkf hk4 0
  have rz1 := blkf hk4 1
  have rz2 := blkf hk4 2
  have rz3 := blkf hk4 3
  have rz4 := blkf hk4 4
  have rz5 := blkf hk4 5
  have rz6 := blkf hk4 6
  have hkf := hidI (blk_set (blk_set (blk_set (blk_set (blk_set (blk_set (blk_set hk4 0 (.bool false)) 1 (.int .i64 R)) 2 (.int .i64 Q)) 3 (.int .i64 0)) 4 (.int .i64 0)) 5 (.int .i64 0)) 6 (.int .i64 0))
  have hbf := hidI (bl_set (bl_set (bl_set (bl_set (bl_set (bl_set (bl_set hb3 (p := ⟨g1, 0, none⟩) hl1 (.bool false)) (p := ⟨g1, 1, none⟩) hl1 (.int .i64 R)) (p := ⟨g1, 2, none⟩) hl1 (.int .i64 Q)) (p := ⟨g1, 3, none⟩) hl1 (.int .i64 0)) (p := ⟨g1, 4, none⟩) hl1 (.int .i64 0)) (p := ⟨g1, 5, none⟩) hl1 (.int .i64 0)) (p := ⟨g1, 6, none⟩) hl1 (.int .i64 0))
  clear hk3 hk4 hb3
  go_wp2
  refine bodyPost_ret (results_cell_row rfl _ _ (g1) 46 #[.bool false, .int .i64 R, .int .i64 Q, .int .i64 0, .int .i64 0, .int .i64 0, .int .i64 0] (0, 0) _ rfl (by have h_ := hkf.out; simpa using h_) Try.underlying46 rfl (by kernel_rfl)) rfl ?_
  exact ⟨rfl, hbf.out⟩
set_option maxHeartbeats 8000000 in
set_option maxRecDepth 100000 in
theorem ofNeg_calls (n : Nat) (hn : n < 9223372036854775808) (w : World) : Calls Try.prog 19 #[.int .i64 (-(n : Int) - 1)] w fun e w' => e = .returned (.agg (bigC true (n + 1))) ∧ Below w.heap.size w w' := by
  show Calls Try.prog 19 #[.int .i64 (-(n : Int) - 1)] w fun e w' => e = .returned (.agg #[.bool true, .int .i64 (dg (n + 1) 0 : Nat), .int .i64 (dg (n + 1) 1 : Nat), .int .i64 (dg (n + 1) 2 : Nat), .int .i64 (dg (n + 1) 3 : Nat), .int .i64 (dg (n + 1) 4 : Nat), .int .i64 (dg (n + 1) 5 : Nat)]) ∧ Below w.heap.size w w'
  obtain ⟨s0, s1, s2⟩ := dg_small hn
  have hao := hidI (fun W => (show Calls Try.prog 36 #[.agg #[.bool true, .int .i64 (dg n 0 : Nat), .int .i64 (dg n 1 : Nat), .int .i64 (dg n 2 : Nat), .int .i64 (dg n 3 : Nat), .int .i64 (dg n 4 : Nat), .int .i64 (dg n 5 : Nat)]] W (fun e w' => e = .returned (.agg #[.bool true, .int .i64 (dg (n + 1) 0 : Nat), .int .i64 (dg (n + 1) 1 : Nat), .int .i64 (dg (n + 1) 2 : Nat), .int .i64 (dg (n + 1) 3 : Nat), .int .i64 (dg (n + 1) 4 : Nat), .int .i64 (dg (n + 1) 5 : Nat)]) ∧ Below W.heap.size W w') from addOne_calls true n (by rw [pw_v]; omega) W))
  obtain ⟨R, hR⟩ : ∃ R : Int, ((dg n 0 : Nat) : Int) = R := ⟨_, rfl⟩
  obtain ⟨Q, hQ⟩ : ∃ Q : Int, ((dg n 1 : Nat) : Int) = Q := ⟨_, rfl⟩
  obtain ⟨V, hV⟩ : ∃ V : Int, -(n : Int) - 1 = V := ⟨_, rfl⟩
  obtain ⟨X, hX⟩ : ∃ X : Int, V + 1 = X := ⟨_, rfl⟩
  obtain ⟨U, hU⟩ : ∃ U : Int, -X = U := ⟨_, rfl⟩
  rw [s2 2 (by omega), s2 3 (by omega), s2 4 (by omega), s2 5 (by omega), hR, hQ] at hao
  have hU0 : 0 ≤ U := by omega
  have hU1 : U ≤ 9223372036854775807 := by omega
  have d0 : decide (V < 0) = true := decide_eq_true (by omega)
  have hr : U % 4294967296 = R := by omega
  have hq : U / 4294967296 = Q := by omega
  have hr2 : U.tmod 4294967296 = R := by rw [Int.tmod_eq_emod_of_nonneg hU0]; exact hr
  have hq2 : U.tdiv 4294967296 = Q := by rw [Int.tdiv_eq_ediv_of_nonneg hU0]; exact hq
  have w1 : Hid (wrap64 (V + 1) = X) := by show _ = _; rw [IntWalk.wrap64_in _ (by omega)]; exact hX
  have w2 : Hid (wrap64 (-X) = U) := by show _ = _; rw [IntWalk.wrap64_in _ (by omega)]; exact hU
  have w1 := w1.out
  have w2 := w2.out
  rw [hV]
  clear hR hQ hV s0 s1 s2 hn hX hU
  go_enter Try.func19, Try.ntmps19
  go_upto_region 2 with fail
  have hk1 := blk_alloc (blk_new w (.cells #[.bool false, .int .i64 0, .int .i64 0, .int .i64 0, .int .i64 0, .int .i64 0, .int .i64 0] 46)) (.cells #[.bool false, .int .i64 0, .int .i64 0, .int .i64 0, .int .i64 0, .int .i64 0, .int .i64 0] 46)
  have hk2 : ((w.alloc (.cells #[.bool false, .int .i64 0, .int .i64 0, .int .i64 0, .int .i64 0, .int .i64 0, .int .i64 0] 46)).alloc (.cells #[.bool false, .int .i64 0, .int .i64 0, .int .i64 0, .int .i64 0, .int .i64 0, .int .i64 0] 46)).heap[w.heap.size + 1]? = some (.cells #[.bool false, .int .i64 0, .int .i64 0, .int .i64 0, .int .i64 0, .int .i64 0, .int .i64 0] 46 (0, 0)) := by have h_ := blk_new (w.alloc (.cells #[.bool false, .int .i64 0, .int .i64 0, .int .i64 0, .int .i64 0, .int .i64 0, .int .i64 0] 46)) (.cells #[.bool false, .int .i64 0, .int .i64 0, .int .i64 0, .int .i64 0, .int .i64 0, .int .i64 0] 46); simpa using h_
  have hbw := bl_alloc (bl_alloc (Below.refl w.heap.size w) (.cells #[.bool false, .int .i64 0, .int .i64 0, .int .i64 0, .int .i64 0, .int .i64 0, .int .i64 0] 46)) (.cells #[.bool false, .int .i64 0, .int .i64 0, .int .i64 0, .int .i64 0, .int .i64 0, .int .i64 0] 46)
  generalize (w.alloc (.cells #[.bool false, .int .i64 0, .int .i64 0, .int .i64 0, .int .i64 0, .int .i64 0, .int .i64 0] 46)).alloc (.cells #[.bool false, .int .i64 0, .int .i64 0, .int .i64 0, .int .i64 0, .int .i64 0, .int .i64 0] 46) = W1 at *
  obtain ⟨g1, hg1⟩ : ∃ g, g = w.heap.size := ⟨_, rfl⟩
  obtain ⟨g2, hg2⟩ : ∃ g, g = w.heap.size + 1 := ⟨_, rfl⟩
  rw [← hg2] at hk2 ⊢
  rw [← hg1] at hk1 ⊢
  have hn12 : g1 ≠ g2 := by omega
  have hl1 : w.heap.size ≤ g1 := by omega
  have hl2 : w.heap.size ≤ g2 := by omega
  clear hg1 hg2
  have c0 : W1.cell? ⟨g2, 0, none⟩ = some (.bool false) := blk_cell hk2 0 (by rfl)
  have c1 : W1.cell? ⟨g2, 1, none⟩ = some (.int .i64 0) := blk_cell hk2 1 (by rfl)
  have c2 : W1.cell? ⟨g2, 2, none⟩ = some (.int .i64 0) := blk_cell hk2 2 (by rfl)
  have c3 : W1.cell? ⟨g2, 3, none⟩ = some (.int .i64 0) := blk_cell hk2 3 (by rfl)
  have c4 : W1.cell? ⟨g2, 4, none⟩ = some (.int .i64 0) := blk_cell hk2 4 (by rfl)
  have c5 : W1.cell? ⟨g2, 5, none⟩ = some (.int .i64 0) := blk_cell hk2 5 (by rfl)
  have c6 : W1.cell? ⟨g2, 6, none⟩ = some (.int .i64 0) := blk_cell hk2 6 (by rfl)
  have cz0 := blkf hk2 0
  have cz1 := blkf hk2 1
  have cz2 := blkf hk2 2
  have cz3 := blkf hk2 3
  have cz4 := blkf hk2 4
  have cz5 := blkf hk2 5
  have cz6 := blkf hk2 6
  go_upto_region 6 with fail
  have hk3 : (((W1.setCell ⟨g2, 0, none⟩ (.bool true)).setCell ⟨g2, 1, none⟩ (.int .i64 R)).setCell ⟨g2, 2, none⟩ (.int .i64 Q)).heap[g2]? = some (.cells #[.bool true, .int .i64 R, .int .i64 Q, .int .i64 0, .int .i64 0, .int .i64 0, .int .i64 0] 46 (0, 0)) := by have h_ := blk_set (blk_set (blk_set hk2 0 (.bool true)) 1 (.int .i64 R)) 2 (.int .i64 Q); simpa using h_
  have hk4 := blk_far (blk_far (blk_far hk1 (a := ⟨g2, 0, none⟩) (Ne.symm hn12) (.bool true)) (a := ⟨g2, 1, none⟩) (Ne.symm hn12) (.int .i64 R)) (a := ⟨g2, 2, none⟩) (Ne.symm hn12) (.int .i64 Q)
  have hb3 := bl_set (bl_set (bl_set hbw (p := ⟨g2, 0, none⟩) hl2 (.bool true)) (p := ⟨g2, 1, none⟩) hl2 (.int .i64 R)) (p := ⟨g2, 2, none⟩) hl2 (.int .i64 Q)
  generalize ((W1.setCell ⟨g2, 0, none⟩ (.bool true)).setCell ⟨g2, 1, none⟩ (.int .i64 R)).setCell ⟨g2, 2, none⟩ (.int .i64 Q) = W2 at *
  clear hk1 hk2 hbw c0 c1 c2 c3 c4 c5 c6 cz0 cz1 cz2 cz3 cz4 cz5 cz6 hr hq hr2 hq2 w1 w2
  have c0 : W2.cell? ⟨g2, 0, none⟩ = some (.bool true) := blk_cell hk3 0 (by rfl)
  have c1 : W2.cell? ⟨g2, 1, none⟩ = some (.int .i64 R) := blk_cell hk3 1 (by rfl)
  have c2 : W2.cell? ⟨g2, 2, none⟩ = some (.int .i64 Q) := blk_cell hk3 2 (by rfl)
  have c3 : W2.cell? ⟨g2, 3, none⟩ = some (.int .i64 0) := blk_cell hk3 3 (by rfl)
  have c4 : W2.cell? ⟨g2, 4, none⟩ = some (.int .i64 0) := blk_cell hk3 4 (by rfl)
  have c5 : W2.cell? ⟨g2, 5, none⟩ = some (.int .i64 0) := blk_cell hk3 5 (by rfl)
  have c6 : W2.cell? ⟨g2, 6, none⟩ = some (.int .i64 0) := blk_cell hk3 6 (by rfl)
  go_wp2_with fail
  refine (hao.out _).mono ?_
  rintro e W3 ⟨rfl, hb⟩
  replace hb3 := bl_step hb3 hb
  replace hk4 := bl_block hb hk4
  clear hb hao hk3 c0 c1 c2 c3 c4 c5 c6
  have r0 : W3.cell? ⟨g1, 0, none⟩ = some (.bool false) := blk_cell hk4 0 (by rfl)
  have r1 : W3.cell? ⟨g1, 1, none⟩ = some (.int .i64 0) := blk_cell hk4 1 (by rfl)
  have r2 : W3.cell? ⟨g1, 2, none⟩ = some (.int .i64 0) := blk_cell hk4 2 (by rfl)
  have r3 : W3.cell? ⟨g1, 3, none⟩ = some (.int .i64 0) := blk_cell hk4 3 (by rfl)
  have r4 : W3.cell? ⟨g1, 4, none⟩ = some (.int .i64 0) := blk_cell hk4 4 (by rfl)
  have r5 : W3.cell? ⟨g1, 5, none⟩ = some (.int .i64 0) := blk_cell hk4 5 (by rfl)
  have r6 : W3.cell? ⟨g1, 6, none⟩ = some (.int .i64 0) := blk_cell hk4 6 (by rfl)
  have rz0 := blkf hk4 0
  have rz1 := blkf hk4 1
  have rz2 := blkf hk4 2
  have rz3 := blkf hk4 3
  have rz4 := blkf hk4 4
  have rz5 := blkf hk4 5
  have rz6 := blkf hk4 6
  have hkf := hidI (blk_set (blk_set (blk_set (blk_set (blk_set (blk_set (blk_set hk4 0 (.bool true)) 1 (.int .i64 (dg (n + 1) 0 : Nat))) 2 (.int .i64 (dg (n + 1) 1 : Nat))) 3 (.int .i64 (dg (n + 1) 2 : Nat))) 4 (.int .i64 (dg (n + 1) 3 : Nat))) 5 (.int .i64 (dg (n + 1) 4 : Nat))) 6 (.int .i64 (dg (n + 1) 5 : Nat)))
  have hbf := hidI (bl_set (bl_set (bl_set (bl_set (bl_set (bl_set (bl_set hb3 (p := ⟨g1, 0, none⟩) hl1 (.bool true)) (p := ⟨g1, 1, none⟩) hl1 (.int .i64 (dg (n + 1) 0 : Nat))) (p := ⟨g1, 2, none⟩) hl1 (.int .i64 (dg (n + 1) 1 : Nat))) (p := ⟨g1, 3, none⟩) hl1 (.int .i64 (dg (n + 1) 2 : Nat))) (p := ⟨g1, 4, none⟩) hl1 (.int .i64 (dg (n + 1) 3 : Nat))) (p := ⟨g1, 5, none⟩) hl1 (.int .i64 (dg (n + 1) 4 : Nat))) (p := ⟨g1, 6, none⟩) hl1 (.int .i64 (dg (n + 1) 5 : Nat)))
  clear hk4 hb3
  go_wp2
  refine bodyPost_ret (results_cell_row rfl _ _ (g1) 46 #[.bool true, .int .i64 (dg (n + 1) 0 : Nat), .int .i64 (dg (n + 1) 1 : Nat), .int .i64 (dg (n + 1) 2 : Nat), .int .i64 (dg (n + 1) 3 : Nat), .int .i64 (dg (n + 1) 4 : Nat), .int .i64 (dg (n + 1) 5 : Nat)] (0, 0) _ rfl (by have h_ := hkf.out; simpa using h_) Try.underlying46 rfl (by kernel_rfl)) rfl ?_
  exact ⟨rfl, hbf.out⟩
theorem of_calls (z : Int) (h0 : -9223372036854775808 ≤ z) (h1 : z ≤ 9223372036854775807) (w : World) : Calls Try.prog 19 #[.int .i64 z] w fun e w' => e = .returned (.agg (bigZ z)) ∧ Below w.heap.size w w' := by
  unfold bigZ
  by_cases hz : z < 0
  · obtain ⟨n, hn⟩ : ∃ n : Nat, z = -(n : Int) - 1 := ⟨(-z - 1).toNat, by omega⟩
    rw [decide_eq_true hz, show z.natAbs = n + 1 by omega, hn]
    exact ofNeg_calls n (by omega) w
  · obtain ⟨n, hn⟩ : ∃ n : Nat, z = (n : Int) := ⟨z.toNat, by omega⟩
    rw [decide_eq_false hz, show z.natAbs = n by omega, hn]
    exact ofPos_calls n (by omega) w
end Go.Proofs.Ytggididnclfahaa
