/- Proved here: lemmas and contracts (what a function of the program computes) that the proofs of the laws of this seat lean on. Conditions: as each theorem states. -/
import Derived.Test.YtggididnclfahaaBg4
set_option linter.unusedVariables false
set_option linter.unusedSimpArgs false
namespace Go.Proofs.Ytggididnclfahaa
open Go.RowKit Go.Pk Go.Pk.Bg
set_option maxHeartbeats 8000000 in
set_option maxRecDepth 100000 in
theorem addSame_calls (m : Bool) (a b : Nat) (w : World) : Calls Try.prog 33 #[.agg (bigC m a), .agg (bigC m b)] w fun e w' => e = .returned (.agg (bigC m (a + b))) ∧ Below w.heap.size w w' := by
  show Calls Try.prog 33 #[.agg #[.bool m, .int .i64 (dg a 0 : Nat), .int .i64 (dg a 1 : Nat), .int .i64 (dg a 2 : Nat), .int .i64 (dg a 3 : Nat), .int .i64 (dg a 4 : Nat), .int .i64 (dg a 5 : Nat)], .agg #[.bool m, .int .i64 (dg b 0 : Nat), .int .i64 (dg b 1 : Nat), .int .i64 (dg b 2 : Nat), .int .i64 (dg b 3 : Nat), .int .i64 (dg b 4 : Nat), .int .i64 (dg b 5 : Nat)]] w fun e w' => e = .returned (.agg #[.bool m, .int .i64 (dg (a + b) 0 : Nat), .int .i64 (dg (a + b) 1 : Nat), .int .i64 (dg (a + b) 2 : Nat), .int .i64 (dg (a + b) 3 : Nat), .int .i64 (dg (a + b) 4 : Nat), .int .i64 (dg (a + b) 5 : Nat)]) ∧ Below w.heap.size w w'
  have hp := hidI (fun W => (show Calls Try.prog 41 #[.agg #[.bool m, .int .i64 (dg a 0 : Nat), .int .i64 (dg a 1 : Nat), .int .i64 (dg a 2 : Nat), .int .i64 (dg a 3 : Nat), .int .i64 (dg a 4 : Nat), .int .i64 (dg a 5 : Nat)], .agg #[.bool m, .int .i64 (dg b 0 : Nat), .int .i64 (dg b 1 : Nat), .int .i64 (dg b 2 : Nat), .int .i64 (dg b 3 : Nat), .int .i64 (dg b 4 : Nat), .int .i64 (dg b 5 : Nat)]] W (fun e w' => e = .returned (.agg #[.bool m, .int .i64 (dg (a + b) 0 : Nat), .int .i64 (dg (a + b) 1 : Nat), .int .i64 (dg (a + b) 2 : Nat), .int .i64 (dg (a + b) 3 : Nat), .int .i64 (dg (a + b) 4 : Nat), .int .i64 (dg (a + b) 5 : Nat)]) ∧ Below W.heap.size W w') from plus_calls m m a b W))
  go_enter Try.func33, Try.ntmps33
  go_upto_region 1 with fail
  have hk1 := blk_alloc (blk_alloc (blk_new w (.cells #[.bool m, .int .i64 (dg a 0 : Nat), .int .i64 (dg a 1 : Nat), .int .i64 (dg a 2 : Nat), .int .i64 (dg a 3 : Nat), .int .i64 (dg a 4 : Nat), .int .i64 (dg a 5 : Nat)] 46)) (.cells #[.bool m, .int .i64 (dg b 0 : Nat), .int .i64 (dg b 1 : Nat), .int .i64 (dg b 2 : Nat), .int .i64 (dg b 3 : Nat), .int .i64 (dg b 4 : Nat), .int .i64 (dg b 5 : Nat)] 46)) (.cells #[.bool false, .int .i64 0, .int .i64 0, .int .i64 0, .int .i64 0, .int .i64 0, .int .i64 0] 46)
  have hk2 : (((w.alloc (.cells #[.bool m, .int .i64 (dg a 0 : Nat), .int .i64 (dg a 1 : Nat), .int .i64 (dg a 2 : Nat), .int .i64 (dg a 3 : Nat), .int .i64 (dg a 4 : Nat), .int .i64 (dg a 5 : Nat)] 46)).alloc (.cells #[.bool m, .int .i64 (dg b 0 : Nat), .int .i64 (dg b 1 : Nat), .int .i64 (dg b 2 : Nat), .int .i64 (dg b 3 : Nat), .int .i64 (dg b 4 : Nat), .int .i64 (dg b 5 : Nat)] 46)).alloc (.cells #[.bool false, .int .i64 0, .int .i64 0, .int .i64 0, .int .i64 0, .int .i64 0, .int .i64 0] 46)).heap[w.heap.size + 1]? = some (.cells #[.bool m, .int .i64 (dg b 0 : Nat), .int .i64 (dg b 1 : Nat), .int .i64 (dg b 2 : Nat), .int .i64 (dg b 3 : Nat), .int .i64 (dg b 4 : Nat), .int .i64 (dg b 5 : Nat)] 46 (0, 0)) := by have h_ := blk_alloc (blk_new (w.alloc (.cells #[.bool m, .int .i64 (dg a 0 : Nat), .int .i64 (dg a 1 : Nat), .int .i64 (dg a 2 : Nat), .int .i64 (dg a 3 : Nat), .int .i64 (dg a 4 : Nat), .int .i64 (dg a 5 : Nat)] 46)) (.cells #[.bool m, .int .i64 (dg b 0 : Nat), .int .i64 (dg b 1 : Nat), .int .i64 (dg b 2 : Nat), .int .i64 (dg b 3 : Nat), .int .i64 (dg b 4 : Nat), .int .i64 (dg b 5 : Nat)] 46)) (.cells #[.bool false, .int .i64 0, .int .i64 0, .int .i64 0, .int .i64 0, .int .i64 0, .int .i64 0] 46); simpa using h_
  have hk3 : (((w.alloc (.cells #[.bool m, .int .i64 (dg a 0 : Nat), .int .i64 (dg a 1 : Nat), .int .i64 (dg a 2 : Nat), .int .i64 (dg a 3 : Nat), .int .i64 (dg a 4 : Nat), .int .i64 (dg a 5 : Nat)] 46)).alloc (.cells #[.bool m, .int .i64 (dg b 0 : Nat), .int .i64 (dg b 1 : Nat), .int .i64 (dg b 2 : Nat), .int .i64 (dg b 3 : Nat), .int .i64 (dg b 4 : Nat), .int .i64 (dg b 5 : Nat)] 46)).alloc (.cells #[.bool false, .int .i64 0, .int .i64 0, .int .i64 0, .int .i64 0, .int .i64 0, .int .i64 0] 46)).heap[w.heap.size + 1 + 1]? = some (.cells #[.bool false, .int .i64 0, .int .i64 0, .int .i64 0, .int .i64 0, .int .i64 0, .int .i64 0] 46 (0, 0)) := by have h_ := blk_new ((w.alloc (.cells #[.bool m, .int .i64 (dg a 0 : Nat), .int .i64 (dg a 1 : Nat), .int .i64 (dg a 2 : Nat), .int .i64 (dg a 3 : Nat), .int .i64 (dg a 4 : Nat), .int .i64 (dg a 5 : Nat)] 46)).alloc (.cells #[.bool m, .int .i64 (dg b 0 : Nat), .int .i64 (dg b 1 : Nat), .int .i64 (dg b 2 : Nat), .int .i64 (dg b 3 : Nat), .int .i64 (dg b 4 : Nat), .int .i64 (dg b 5 : Nat)] 46)) (.cells #[.bool false, .int .i64 0, .int .i64 0, .int .i64 0, .int .i64 0, .int .i64 0, .int .i64 0] 46); simpa using h_
  have hbw := bl_alloc (bl_alloc (bl_alloc (Below.refl w.heap.size w) (.cells #[.bool m, .int .i64 (dg a 0 : Nat), .int .i64 (dg a 1 : Nat), .int .i64 (dg a 2 : Nat), .int .i64 (dg a 3 : Nat), .int .i64 (dg a 4 : Nat), .int .i64 (dg a 5 : Nat)] 46)) (.cells #[.bool m, .int .i64 (dg b 0 : Nat), .int .i64 (dg b 1 : Nat), .int .i64 (dg b 2 : Nat), .int .i64 (dg b 3 : Nat), .int .i64 (dg b 4 : Nat), .int .i64 (dg b 5 : Nat)] 46)) (.cells #[.bool false, .int .i64 0, .int .i64 0, .int .i64 0, .int .i64 0, .int .i64 0, .int .i64 0] 46)
  generalize ((w.alloc (.cells #[.bool m, .int .i64 (dg a 0 : Nat), .int .i64 (dg a 1 : Nat), .int .i64 (dg a 2 : Nat), .int .i64 (dg a 3 : Nat), .int .i64 (dg a 4 : Nat), .int .i64 (dg a 5 : Nat)] 46)).alloc (.cells #[.bool m, .int .i64 (dg b 0 : Nat), .int .i64 (dg b 1 : Nat), .int .i64 (dg b 2 : Nat), .int .i64 (dg b 3 : Nat), .int .i64 (dg b 4 : Nat), .int .i64 (dg b 5 : Nat)] 46)).alloc (.cells #[.bool false, .int .i64 0, .int .i64 0, .int .i64 0, .int .i64 0, .int .i64 0, .int .i64 0] 46) = W1 at *
  obtain ⟨g1, hg1⟩ : ∃ g, g = w.heap.size := ⟨_, rfl⟩
  obtain ⟨g2, hg2⟩ : ∃ g, g = w.heap.size + 1 := ⟨_, rfl⟩
  obtain ⟨g3, hg3⟩ : ∃ g, g = w.heap.size + 1 + 1 := ⟨_, rfl⟩
  rw [← hg3] at hk3 ⊢
  rw [← hg2] at hk2 ⊢
  rw [← hg1] at hk1 ⊢
  have hn12 : g1 ≠ g2 := by omega
  have hn13 : g1 ≠ g3 := by omega
  have hn23 : g2 ≠ g3 := by omega
  have hl1 : w.heap.size ≤ g1 := by omega
  have hl2 : w.heap.size ≤ g2 := by omega
  have hl3 : w.heap.size ≤ g3 := by omega
  clear hg1 hg2 hg3
  have c0 : W1.cell? ⟨g1, 0, none⟩ = some (.bool m) := blk_cell hk1 0 (by rfl)
  have c1 : W1.cell? ⟨g1, 1, none⟩ = some (.int .i64 (dg a 0 : Nat)) := blk_cell hk1 1 (by rfl)
  have c2 : W1.cell? ⟨g1, 2, none⟩ = some (.int .i64 (dg a 1 : Nat)) := blk_cell hk1 2 (by rfl)
  have c3 : W1.cell? ⟨g1, 3, none⟩ = some (.int .i64 (dg a 2 : Nat)) := blk_cell hk1 3 (by rfl)
  have c4 : W1.cell? ⟨g1, 4, none⟩ = some (.int .i64 (dg a 3 : Nat)) := blk_cell hk1 4 (by rfl)
  have c5 : W1.cell? ⟨g1, 5, none⟩ = some (.int .i64 (dg a 4 : Nat)) := blk_cell hk1 5 (by rfl)
  have c6 : W1.cell? ⟨g1, 6, none⟩ = some (.int .i64 (dg a 5 : Nat)) := blk_cell hk1 6 (by rfl)
  have d0 : W1.cell? ⟨g2, 0, none⟩ = some (.bool m) := blk_cell hk2 0 (by rfl)
  have d1 : W1.cell? ⟨g2, 1, none⟩ = some (.int .i64 (dg b 0 : Nat)) := blk_cell hk2 1 (by rfl)
  have d2 : W1.cell? ⟨g2, 2, none⟩ = some (.int .i64 (dg b 1 : Nat)) := blk_cell hk2 2 (by rfl)
  have d3 : W1.cell? ⟨g2, 3, none⟩ = some (.int .i64 (dg b 2 : Nat)) := blk_cell hk2 3 (by rfl)
  have d4 : W1.cell? ⟨g2, 4, none⟩ = some (.int .i64 (dg b 3 : Nat)) := blk_cell hk2 4 (by rfl)
  have d5 : W1.cell? ⟨g2, 5, none⟩ = some (.int .i64 (dg b 4 : Nat)) := blk_cell hk2 5 (by rfl)
  have d6 : W1.cell? ⟨g2, 6, none⟩ = some (.int .i64 (dg b 5 : Nat)) := blk_cell hk2 6 (by rfl)
  have hm : (m == m) = true := by simp
  clear hk1 hk2
  go_wp2_with fail
  refine (hp.out _).mono ?_
  rintro e W2 ⟨rfl, hb⟩
  replace hbw := bl_step hbw hb
  replace hk3 := bl_block hb hk3
  clear hb hp c0 c1 c2 c3 c4 c5 c6 d0 d1 d2 d3 d4 d5 d6 hm
  have r0 : W2.cell? ⟨g3, 0, none⟩ = some (.bool false) := blk_cell hk3 0 (by rfl)
  have r1 : W2.cell? ⟨g3, 1, none⟩ = some (.int .i64 0) := blk_cell hk3 1 (by rfl)
  have r2 : W2.cell? ⟨g3, 2, none⟩ = some (.int .i64 0) := blk_cell hk3 2 (by rfl)
  have r3 : W2.cell? ⟨g3, 3, none⟩ = some (.int .i64 0) := blk_cell hk3 3 (by rfl)
  have r4 : W2.cell? ⟨g3, 4, none⟩ = some (.int .i64 0) := blk_cell hk3 4 (by rfl)
  have r5 : W2.cell? ⟨g3, 5, none⟩ = some (.int .i64 0) := blk_cell hk3 5 (by rfl)
  have r6 : W2.cell? ⟨g3, 6, none⟩ = some (.int .i64 0) := blk_cell hk3 6 (by rfl)
  have rz0 := blkf hk3 0
  have rz1 := blkf hk3 1
  have rz2 := blkf hk3 2
  have rz3 := blkf hk3 3
  have rz4 := blkf hk3 4
  have rz5 := blkf hk3 5
  have rz6 := blkf hk3 6
  have hkf := hidI (blk_set (blk_set (blk_set (blk_set (blk_set (blk_set (blk_set hk3 0 (.bool m)) 1 (.int .i64 (dg (a + b) 0 : Nat))) 2 (.int .i64 (dg (a + b) 1 : Nat))) 3 (.int .i64 (dg (a + b) 2 : Nat))) 4 (.int .i64 (dg (a + b) 3 : Nat))) 5 (.int .i64 (dg (a + b) 4 : Nat))) 6 (.int .i64 (dg (a + b) 5 : Nat)))
  have hbf := hidI (bl_set (bl_set (bl_set (bl_set (bl_set (bl_set (bl_set hbw (p := ⟨g3, 0, none⟩) hl3 (.bool m)) (p := ⟨g3, 1, none⟩) hl3 (.int .i64 (dg (a + b) 0 : Nat))) (p := ⟨g3, 2, none⟩) hl3 (.int .i64 (dg (a + b) 1 : Nat))) (p := ⟨g3, 3, none⟩) hl3 (.int .i64 (dg (a + b) 2 : Nat))) (p := ⟨g3, 4, none⟩) hl3 (.int .i64 (dg (a + b) 3 : Nat))) (p := ⟨g3, 5, none⟩) hl3 (.int .i64 (dg (a + b) 4 : Nat))) (p := ⟨g3, 6, none⟩) hl3 (.int .i64 (dg (a + b) 5 : Nat)))
  clear hk3 hbw
  go_wp2
  refine bodyPost_ret (results_cell_row rfl _ _ (g3) 46 #[.bool m, .int .i64 (dg (a + b) 0 : Nat), .int .i64 (dg (a + b) 1 : Nat), .int .i64 (dg (a + b) 2 : Nat), .int .i64 (dg (a + b) 3 : Nat), .int .i64 (dg (a + b) 4 : Nat), .int .i64 (dg (a + b) 5 : Nat)] (0, 0) _ rfl (by have h_ := hkf.out; simpa using h_) Try.underlying46 rfl (by kernel_rfl)) rfl ?_
  exact ⟨rfl, hbf.out⟩
set_option maxHeartbeats 8000000 in
set_option maxRecDepth 100000 in
theorem addDif_calls (ma mb : Bool) (hne : (ma == mb) = false) (a b : Nat) (ha : a < pw 6) (hb : b < pw 6) (hle : b ≤ a) (hz : a - b ≠ 0) (w : World) : Calls Try.prog 33 #[.agg (bigC ma a), .agg (bigC mb b)] w fun e w' => e = .returned (.agg (bigC ma (a - b))) ∧ Below w.heap.size w w' := by
  show Calls Try.prog 33 #[.agg #[.bool ma, .int .i64 (dg a 0 : Nat), .int .i64 (dg a 1 : Nat), .int .i64 (dg a 2 : Nat), .int .i64 (dg a 3 : Nat), .int .i64 (dg a 4 : Nat), .int .i64 (dg a 5 : Nat)], .agg #[.bool mb, .int .i64 (dg b 0 : Nat), .int .i64 (dg b 1 : Nat), .int .i64 (dg b 2 : Nat), .int .i64 (dg b 3 : Nat), .int .i64 (dg b 4 : Nat), .int .i64 (dg b 5 : Nat)]] w fun e w' => e = .returned (.agg #[.bool ma, .int .i64 (dg (a - b) 0 : Nat), .int .i64 (dg (a - b) 1 : Nat), .int .i64 (dg (a - b) 2 : Nat), .int .i64 (dg (a - b) 3 : Nat), .int .i64 (dg (a - b) 4 : Nat), .int .i64 (dg (a - b) 5 : Nat)]) ∧ Below w.heap.size w w'
  have hls := hidI (fun W => (show Calls Try.prog 43 #[.agg #[.bool ma, .int .i64 (dg a 0 : Nat), .int .i64 (dg a 1 : Nat), .int .i64 (dg a 2 : Nat), .int .i64 (dg a 3 : Nat), .int .i64 (dg a 4 : Nat), .int .i64 (dg a 5 : Nat)], .agg #[.bool mb, .int .i64 (dg b 0 : Nat), .int .i64 (dg b 1 : Nat), .int .i64 (dg b 2 : Nat), .int .i64 (dg b 3 : Nat), .int .i64 (dg b 4 : Nat), .int .i64 (dg b 5 : Nat)]] W (fun e w' => e = .returned (.agg #[.bool ma, .int .i64 (dg (a - b) 0 : Nat), .int .i64 (dg (a - b) 1 : Nat), .int .i64 (dg (a - b) 2 : Nat), .int .i64 (dg (a - b) 3 : Nat), .int .i64 (dg (a - b) 4 : Nat), .int .i64 (dg (a - b) 5 : Nat)]) ∧ Below W.heap.size W w') from less_calls ma mb a b (by omega) W))
  have hzz := hidI (fun W => (show Calls Try.prog 35 #[.agg #[.bool ma, .int .i64 (dg (a - b) 0 : Nat), .int .i64 (dg (a - b) 1 : Nat), .int .i64 (dg (a - b) 2 : Nat), .int .i64 (dg (a - b) 3 : Nat), .int .i64 (dg (a - b) 4 : Nat), .int .i64 (dg (a - b) 5 : Nat)]] W (fun e w' => e = .returned (.bool false) ∧ Below W.heap.size W w') from ((show decide (a - b = 0) = false from decide_eq_false hz) ▸ zero_calls ma (a - b) (by omega) W)))
  have hsz := hidI (fun W => (show Calls Try.prog 42 #[.agg #[.bool ma, .int .i64 (dg a 0 : Nat), .int .i64 (dg a 1 : Nat), .int .i64 (dg a 2 : Nat), .int .i64 (dg a 3 : Nat), .int .i64 (dg a 4 : Nat), .int .i64 (dg a 5 : Nat)], .agg #[.bool mb, .int .i64 (dg b 0 : Nat), .int .i64 (dg b 1 : Nat), .int .i64 (dg b 2 : Nat), .int .i64 (dg b 3 : Nat), .int .i64 (dg b 4 : Nat), .int .i64 (dg b 5 : Nat)]] W (fun e w' => e = .returned (.int .i64 (sizeV a b)) ∧ Below W.heap.size W w') from size_calls ma mb a b ha hb W))
  obtain ⟨sv, hsv⟩ : ∃ z, sizeV a b = z := ⟨_, rfl⟩
  rw [hsv] at hsz
  have hs0 : decide (sv < 0) = false := by rw [← hsv]; unfold sizeV; rw [if_neg (by omega)]; split <;> rfl
  clear ha hb hle hz hsv
  go_enter Try.func33, Try.ntmps33
  go_upto_region 1 with fail
  have hk1 := blk_alloc (blk_alloc (blk_new w (.cells #[.bool ma, .int .i64 (dg a 0 : Nat), .int .i64 (dg a 1 : Nat), .int .i64 (dg a 2 : Nat), .int .i64 (dg a 3 : Nat), .int .i64 (dg a 4 : Nat), .int .i64 (dg a 5 : Nat)] 46)) (.cells #[.bool mb, .int .i64 (dg b 0 : Nat), .int .i64 (dg b 1 : Nat), .int .i64 (dg b 2 : Nat), .int .i64 (dg b 3 : Nat), .int .i64 (dg b 4 : Nat), .int .i64 (dg b 5 : Nat)] 46)) (.cells #[.bool false, .int .i64 0, .int .i64 0, .int .i64 0, .int .i64 0, .int .i64 0, .int .i64 0] 46)
  have hk2 : (((w.alloc (.cells #[.bool ma, .int .i64 (dg a 0 : Nat), .int .i64 (dg a 1 : Nat), .int .i64 (dg a 2 : Nat), .int .i64 (dg a 3 : Nat), .int .i64 (dg a 4 : Nat), .int .i64 (dg a 5 : Nat)] 46)).alloc (.cells #[.bool mb, .int .i64 (dg b 0 : Nat), .int .i64 (dg b 1 : Nat), .int .i64 (dg b 2 : Nat), .int .i64 (dg b 3 : Nat), .int .i64 (dg b 4 : Nat), .int .i64 (dg b 5 : Nat)] 46)).alloc (.cells #[.bool false, .int .i64 0, .int .i64 0, .int .i64 0, .int .i64 0, .int .i64 0, .int .i64 0] 46)).heap[w.heap.size + 1]? = some (.cells #[.bool mb, .int .i64 (dg b 0 : Nat), .int .i64 (dg b 1 : Nat), .int .i64 (dg b 2 : Nat), .int .i64 (dg b 3 : Nat), .int .i64 (dg b 4 : Nat), .int .i64 (dg b 5 : Nat)] 46 (0, 0)) := by have h_ := blk_alloc (blk_new (w.alloc (.cells #[.bool ma, .int .i64 (dg a 0 : Nat), .int .i64 (dg a 1 : Nat), .int .i64 (dg a 2 : Nat), .int .i64 (dg a 3 : Nat), .int .i64 (dg a 4 : Nat), .int .i64 (dg a 5 : Nat)] 46)) (.cells #[.bool mb, .int .i64 (dg b 0 : Nat), .int .i64 (dg b 1 : Nat), .int .i64 (dg b 2 : Nat), .int .i64 (dg b 3 : Nat), .int .i64 (dg b 4 : Nat), .int .i64 (dg b 5 : Nat)] 46)) (.cells #[.bool false, .int .i64 0, .int .i64 0, .int .i64 0, .int .i64 0, .int .i64 0, .int .i64 0] 46); simpa using h_
  have hk3 : (((w.alloc (.cells #[.bool ma, .int .i64 (dg a 0 : Nat), .int .i64 (dg a 1 : Nat), .int .i64 (dg a 2 : Nat), .int .i64 (dg a 3 : Nat), .int .i64 (dg a 4 : Nat), .int .i64 (dg a 5 : Nat)] 46)).alloc (.cells #[.bool mb, .int .i64 (dg b 0 : Nat), .int .i64 (dg b 1 : Nat), .int .i64 (dg b 2 : Nat), .int .i64 (dg b 3 : Nat), .int .i64 (dg b 4 : Nat), .int .i64 (dg b 5 : Nat)] 46)).alloc (.cells #[.bool false, .int .i64 0, .int .i64 0, .int .i64 0, .int .i64 0, .int .i64 0, .int .i64 0] 46)).heap[w.heap.size + 1 + 1]? = some (.cells #[.bool false, .int .i64 0, .int .i64 0, .int .i64 0, .int .i64 0, .int .i64 0, .int .i64 0] 46 (0, 0)) := by have h_ := blk_new ((w.alloc (.cells #[.bool ma, .int .i64 (dg a 0 : Nat), .int .i64 (dg a 1 : Nat), .int .i64 (dg a 2 : Nat), .int .i64 (dg a 3 : Nat), .int .i64 (dg a 4 : Nat), .int .i64 (dg a 5 : Nat)] 46)).alloc (.cells #[.bool mb, .int .i64 (dg b 0 : Nat), .int .i64 (dg b 1 : Nat), .int .i64 (dg b 2 : Nat), .int .i64 (dg b 3 : Nat), .int .i64 (dg b 4 : Nat), .int .i64 (dg b 5 : Nat)] 46)) (.cells #[.bool false, .int .i64 0, .int .i64 0, .int .i64 0, .int .i64 0, .int .i64 0, .int .i64 0] 46); simpa using h_
  have hbw := bl_alloc (bl_alloc (bl_alloc (Below.refl w.heap.size w) (.cells #[.bool ma, .int .i64 (dg a 0 : Nat), .int .i64 (dg a 1 : Nat), .int .i64 (dg a 2 : Nat), .int .i64 (dg a 3 : Nat), .int .i64 (dg a 4 : Nat), .int .i64 (dg a 5 : Nat)] 46)) (.cells #[.bool mb, .int .i64 (dg b 0 : Nat), .int .i64 (dg b 1 : Nat), .int .i64 (dg b 2 : Nat), .int .i64 (dg b 3 : Nat), .int .i64 (dg b 4 : Nat), .int .i64 (dg b 5 : Nat)] 46)) (.cells #[.bool false, .int .i64 0, .int .i64 0, .int .i64 0, .int .i64 0, .int .i64 0, .int .i64 0] 46)
  generalize ((w.alloc (.cells #[.bool ma, .int .i64 (dg a 0 : Nat), .int .i64 (dg a 1 : Nat), .int .i64 (dg a 2 : Nat), .int .i64 (dg a 3 : Nat), .int .i64 (dg a 4 : Nat), .int .i64 (dg a 5 : Nat)] 46)).alloc (.cells #[.bool mb, .int .i64 (dg b 0 : Nat), .int .i64 (dg b 1 : Nat), .int .i64 (dg b 2 : Nat), .int .i64 (dg b 3 : Nat), .int .i64 (dg b 4 : Nat), .int .i64 (dg b 5 : Nat)] 46)).alloc (.cells #[.bool false, .int .i64 0, .int .i64 0, .int .i64 0, .int .i64 0, .int .i64 0, .int .i64 0] 46) = W1 at *
  obtain ⟨g1, hg1⟩ : ∃ g, g = w.heap.size := ⟨_, rfl⟩
  obtain ⟨g2, hg2⟩ : ∃ g, g = w.heap.size + 1 := ⟨_, rfl⟩
  obtain ⟨g3, hg3⟩ : ∃ g, g = w.heap.size + 1 + 1 := ⟨_, rfl⟩
  rw [← hg3] at hk3 ⊢
  rw [← hg2] at hk2 ⊢
  rw [← hg1] at hk1 ⊢
  have hn12 : g1 ≠ g2 := by omega
  have hn13 : g1 ≠ g3 := by omega
  have hn23 : g2 ≠ g3 := by omega
  have hl1 : w.heap.size ≤ g1 := by omega
  have hl2 : w.heap.size ≤ g2 := by omega
  have hl3 : w.heap.size ≤ g3 := by omega
  clear hg1 hg2 hg3
  have c0 : W1.cell? ⟨g1, 0, none⟩ = some (.bool ma) := blk_cell hk1 0 (by rfl)
  have c1 : W1.cell? ⟨g1, 1, none⟩ = some (.int .i64 (dg a 0 : Nat)) := blk_cell hk1 1 (by rfl)
  have c2 : W1.cell? ⟨g1, 2, none⟩ = some (.int .i64 (dg a 1 : Nat)) := blk_cell hk1 2 (by rfl)
  have c3 : W1.cell? ⟨g1, 3, none⟩ = some (.int .i64 (dg a 2 : Nat)) := blk_cell hk1 3 (by rfl)
  have c4 : W1.cell? ⟨g1, 4, none⟩ = some (.int .i64 (dg a 3 : Nat)) := blk_cell hk1 4 (by rfl)
  have c5 : W1.cell? ⟨g1, 5, none⟩ = some (.int .i64 (dg a 4 : Nat)) := blk_cell hk1 5 (by rfl)
  have c6 : W1.cell? ⟨g1, 6, none⟩ = some (.int .i64 (dg a 5 : Nat)) := blk_cell hk1 6 (by rfl)
  have d0 : W1.cell? ⟨g2, 0, none⟩ = some (.bool mb) := blk_cell hk2 0 (by rfl)
  have d1 : W1.cell? ⟨g2, 1, none⟩ = some (.int .i64 (dg b 0 : Nat)) := blk_cell hk2 1 (by rfl)
  have d2 : W1.cell? ⟨g2, 2, none⟩ = some (.int .i64 (dg b 1 : Nat)) := blk_cell hk2 2 (by rfl)
  have d3 : W1.cell? ⟨g2, 3, none⟩ = some (.int .i64 (dg b 2 : Nat)) := blk_cell hk2 3 (by rfl)
  have d4 : W1.cell? ⟨g2, 4, none⟩ = some (.int .i64 (dg b 3 : Nat)) := blk_cell hk2 4 (by rfl)
  have d5 : W1.cell? ⟨g2, 5, none⟩ = some (.int .i64 (dg b 4 : Nat)) := blk_cell hk2 5 (by rfl)
  have d6 : W1.cell? ⟨g2, 6, none⟩ = some (.int .i64 (dg b 5 : Nat)) := blk_cell hk2 6 (by rfl)
  go_wp2_with fail
  refine (hsz.out _).mono ?_
  rintro e W2 ⟨rfl, hb⟩
  replace hbw := bl_step hbw hb
  replace hk1 := bl_block hb hk1
  replace hk2 := bl_block hb hk2
  replace hk3 := bl_block hb hk3
  clear hb hsz c0 c1 c2 c3 c4 c5 c6 d0 d1 d2 d3 d4 d5 d6
  skip
  have c0 : W2.cell? ⟨g1, 0, none⟩ = some (.bool ma) := blk_cell hk1 0 (by rfl)
  have c1 : W2.cell? ⟨g1, 1, none⟩ = some (.int .i64 (dg a 0 : Nat)) := blk_cell hk1 1 (by rfl)
  have c2 : W2.cell? ⟨g1, 2, none⟩ = some (.int .i64 (dg a 1 : Nat)) := blk_cell hk1 2 (by rfl)
  have c3 : W2.cell? ⟨g1, 3, none⟩ = some (.int .i64 (dg a 2 : Nat)) := blk_cell hk1 3 (by rfl)
  have c4 : W2.cell? ⟨g1, 4, none⟩ = some (.int .i64 (dg a 3 : Nat)) := blk_cell hk1 4 (by rfl)
  have c5 : W2.cell? ⟨g1, 5, none⟩ = some (.int .i64 (dg a 4 : Nat)) := blk_cell hk1 5 (by rfl)
  have c6 : W2.cell? ⟨g1, 6, none⟩ = some (.int .i64 (dg a 5 : Nat)) := blk_cell hk1 6 (by rfl)
  have d0 : W2.cell? ⟨g2, 0, none⟩ = some (.bool mb) := blk_cell hk2 0 (by rfl)
  have d1 : W2.cell? ⟨g2, 1, none⟩ = some (.int .i64 (dg b 0 : Nat)) := blk_cell hk2 1 (by rfl)
  have d2 : W2.cell? ⟨g2, 2, none⟩ = some (.int .i64 (dg b 1 : Nat)) := blk_cell hk2 2 (by rfl)
  have d3 : W2.cell? ⟨g2, 3, none⟩ = some (.int .i64 (dg b 2 : Nat)) := blk_cell hk2 3 (by rfl)
  have d4 : W2.cell? ⟨g2, 4, none⟩ = some (.int .i64 (dg b 3 : Nat)) := blk_cell hk2 4 (by rfl)
  have d5 : W2.cell? ⟨g2, 5, none⟩ = some (.int .i64 (dg b 4 : Nat)) := blk_cell hk2 5 (by rfl)
  have d6 : W2.cell? ⟨g2, 6, none⟩ = some (.int .i64 (dg b 5 : Nat)) := blk_cell hk2 6 (by rfl)
  go_wp2_with fail
  refine (hls.out _).mono ?_
  rintro e W5 ⟨rfl, hb⟩
  replace hbw := bl_step hbw hb
  replace hk3 := bl_block hb hk3
  clear hb hls hk1 hk2 c0 c1 c2 c3 c4 c5 c6 d0 d1 d2 d3 d4 d5 d6
  go_upto_region 6 with fail
  have hk5 := blk_new W5 (.cells #[.bool ma, .int .i64 (dg (a - b) 0 : Nat), .int .i64 (dg (a - b) 1 : Nat), .int .i64 (dg (a - b) 2 : Nat), .int .i64 (dg (a - b) 3 : Nat), .int .i64 (dg (a - b) 4 : Nat), .int .i64 (dg (a - b) 5 : Nat)] 46)
  have hlt5 := blk_lt hk3
  replace hk3 := blk_alloc hk3 (.cells #[.bool ma, .int .i64 (dg (a - b) 0 : Nat), .int .i64 (dg (a - b) 1 : Nat), .int .i64 (dg (a - b) 2 : Nat), .int .i64 (dg (a - b) 3 : Nat), .int .i64 (dg (a - b) 4 : Nat), .int .i64 (dg (a - b) 5 : Nat)] 46)
  replace hbw := bl_alloc hbw (.cells #[.bool ma, .int .i64 (dg (a - b) 0 : Nat), .int .i64 (dg (a - b) 1 : Nat), .int .i64 (dg (a - b) 2 : Nat), .int .i64 (dg (a - b) 3 : Nat), .int .i64 (dg (a - b) 4 : Nat), .int .i64 (dg (a - b) 5 : Nat)] 46)
  generalize W5.alloc (.cells #[.bool ma, .int .i64 (dg (a - b) 0 : Nat), .int .i64 (dg (a - b) 1 : Nat), .int .i64 (dg (a - b) 2 : Nat), .int .i64 (dg (a - b) 3 : Nat), .int .i64 (dg (a - b) 4 : Nat), .int .i64 (dg (a - b) 5 : Nat)] 46) = W6 at *
  obtain ⟨g5, hg5⟩ : ∃ g, g = W5.heap.size := ⟨_, rfl⟩
  rw [← hg5] at hk5 hlt5 ⊢
  have hn53 : g5 ≠ g3 := by omega
  have hl5 : w.heap.size ≤ g5 := by omega
  clear hg5
  have c0 : W6.cell? ⟨g5, 0, none⟩ = some (.bool ma) := blk_cell hk5 0 (by rfl)
  have c1 : W6.cell? ⟨g5, 1, none⟩ = some (.int .i64 (dg (a - b) 0 : Nat)) := blk_cell hk5 1 (by rfl)
  have c2 : W6.cell? ⟨g5, 2, none⟩ = some (.int .i64 (dg (a - b) 1 : Nat)) := blk_cell hk5 2 (by rfl)
  have c3 : W6.cell? ⟨g5, 3, none⟩ = some (.int .i64 (dg (a - b) 2 : Nat)) := blk_cell hk5 3 (by rfl)
  have c4 : W6.cell? ⟨g5, 4, none⟩ = some (.int .i64 (dg (a - b) 3 : Nat)) := blk_cell hk5 4 (by rfl)
  have c5 : W6.cell? ⟨g5, 5, none⟩ = some (.int .i64 (dg (a - b) 4 : Nat)) := blk_cell hk5 5 (by rfl)
  have c6 : W6.cell? ⟨g5, 6, none⟩ = some (.int .i64 (dg (a - b) 5 : Nat)) := blk_cell hk5 6 (by rfl)
  go_wp2_with fail
  refine (hzz.out _).mono ?_
  rintro e W7 ⟨rfl, hb⟩
  replace hbw := bl_step hbw hb
  replace hk3 := bl_block hb hk3
  replace hk5 := bl_block hb hk5
  clear hb hzz c0 c1 c2 c3 c4 c5 c6
  have e0 : W7.cell? ⟨g5, 0, none⟩ = some (.bool ma) := blk_cell hk5 0 (by rfl)
  have e1 : W7.cell? ⟨g5, 1, none⟩ = some (.int .i64 (dg (a - b) 0 : Nat)) := blk_cell hk5 1 (by rfl)
  have e2 : W7.cell? ⟨g5, 2, none⟩ = some (.int .i64 (dg (a - b) 1 : Nat)) := blk_cell hk5 2 (by rfl)
  have e3 : W7.cell? ⟨g5, 3, none⟩ = some (.int .i64 (dg (a - b) 2 : Nat)) := blk_cell hk5 3 (by rfl)
  have e4 : W7.cell? ⟨g5, 4, none⟩ = some (.int .i64 (dg (a - b) 3 : Nat)) := blk_cell hk5 4 (by rfl)
  have e5 : W7.cell? ⟨g5, 5, none⟩ = some (.int .i64 (dg (a - b) 4 : Nat)) := blk_cell hk5 5 (by rfl)
  have e6 : W7.cell? ⟨g5, 6, none⟩ = some (.int .i64 (dg (a - b) 5 : Nat)) := blk_cell hk5 6 (by rfl)
  have r0 : W7.cell? ⟨g3, 0, none⟩ = some (.bool false) := blk_cell hk3 0 (by rfl)
  have r1 : W7.cell? ⟨g3, 1, none⟩ = some (.int .i64 0) := blk_cell hk3 1 (by rfl)
  have r2 : W7.cell? ⟨g3, 2, none⟩ = some (.int .i64 0) := blk_cell hk3 2 (by rfl)
  have r3 : W7.cell? ⟨g3, 3, none⟩ = some (.int .i64 0) := blk_cell hk3 3 (by rfl)
  have r4 : W7.cell? ⟨g3, 4, none⟩ = some (.int .i64 0) := blk_cell hk3 4 (by rfl)
  have r5 : W7.cell? ⟨g3, 5, none⟩ = some (.int .i64 0) := blk_cell hk3 5 (by rfl)
  have r6 : W7.cell? ⟨g3, 6, none⟩ = some (.int .i64 0) := blk_cell hk3 6 (by rfl)
  have rz0 := blkf hk3 0
  have rz1 := blkf hk3 1
  have rz2 := blkf hk3 2
  have rz3 := blkf hk3 3
  have rz4 := blkf hk3 4
  have rz5 := blkf hk3 5
  have rz6 := blkf hk3 6
  have hkf := hidI (blk_set (blk_set (blk_set (blk_set (blk_set (blk_set (blk_set hk3 0 (.bool ma)) 1 (.int .i64 (dg (a - b) 0 : Nat))) 2 (.int .i64 (dg (a - b) 1 : Nat))) 3 (.int .i64 (dg (a - b) 2 : Nat))) 4 (.int .i64 (dg (a - b) 3 : Nat))) 5 (.int .i64 (dg (a - b) 4 : Nat))) 6 (.int .i64 (dg (a - b) 5 : Nat)))
  have hbf := hidI (bl_set (bl_set (bl_set (bl_set (bl_set (bl_set (bl_set hbw (p := ⟨g3, 0, none⟩) hl3 (.bool ma)) (p := ⟨g3, 1, none⟩) hl3 (.int .i64 (dg (a - b) 0 : Nat))) (p := ⟨g3, 2, none⟩) hl3 (.int .i64 (dg (a - b) 1 : Nat))) (p := ⟨g3, 3, none⟩) hl3 (.int .i64 (dg (a - b) 2 : Nat))) (p := ⟨g3, 4, none⟩) hl3 (.int .i64 (dg (a - b) 3 : Nat))) (p := ⟨g3, 5, none⟩) hl3 (.int .i64 (dg (a - b) 4 : Nat))) (p := ⟨g3, 6, none⟩) hl3 (.int .i64 (dg (a - b) 5 : Nat)))
  clear hk5 hk3 hbw
  go_wp2
  refine bodyPost_ret (results_cell_row rfl _ _ (g3) 46 #[.bool ma, .int .i64 (dg (a - b) 0 : Nat), .int .i64 (dg (a - b) 1 : Nat), .int .i64 (dg (a - b) 2 : Nat), .int .i64 (dg (a - b) 3 : Nat), .int .i64 (dg (a - b) 4 : Nat), .int .i64 (dg (a - b) 5 : Nat)] (0, 0) _ rfl (by have h_ := hkf.out; simpa using h_) Try.underlying46 rfl (by kernel_rfl)) rfl ?_
  exact ⟨rfl, hbf.out⟩
set_option maxHeartbeats 8000000 in
set_option maxRecDepth 100000 in
theorem addDifZ_calls (ma mb : Bool) (hne : (ma == mb) = false) (a b : Nat) (ha : a < pw 6) (hb : b < pw 6) (hle : b ≤ a) (hz : a - b = 0) (w : World) : Calls Try.prog 33 #[.agg (bigC ma a), .agg (bigC mb b)] w fun e w' => e = .returned (.agg (bigC false (a - b))) ∧ Below w.heap.size w w' := by
  show Calls Try.prog 33 #[.agg #[.bool ma, .int .i64 (dg a 0 : Nat), .int .i64 (dg a 1 : Nat), .int .i64 (dg a 2 : Nat), .int .i64 (dg a 3 : Nat), .int .i64 (dg a 4 : Nat), .int .i64 (dg a 5 : Nat)], .agg #[.bool mb, .int .i64 (dg b 0 : Nat), .int .i64 (dg b 1 : Nat), .int .i64 (dg b 2 : Nat), .int .i64 (dg b 3 : Nat), .int .i64 (dg b 4 : Nat), .int .i64 (dg b 5 : Nat)]] w fun e w' => e = .returned (.agg #[.bool false, .int .i64 (dg (a - b) 0 : Nat), .int .i64 (dg (a - b) 1 : Nat), .int .i64 (dg (a - b) 2 : Nat), .int .i64 (dg (a - b) 3 : Nat), .int .i64 (dg (a - b) 4 : Nat), .int .i64 (dg (a - b) 5 : Nat)]) ∧ Below w.heap.size w w'
  have hls := hidI (fun W => (show Calls Try.prog 43 #[.agg #[.bool ma, .int .i64 (dg a 0 : Nat), .int .i64 (dg a 1 : Nat), .int .i64 (dg a 2 : Nat), .int .i64 (dg a 3 : Nat), .int .i64 (dg a 4 : Nat), .int .i64 (dg a 5 : Nat)], .agg #[.bool mb, .int .i64 (dg b 0 : Nat), .int .i64 (dg b 1 : Nat), .int .i64 (dg b 2 : Nat), .int .i64 (dg b 3 : Nat), .int .i64 (dg b 4 : Nat), .int .i64 (dg b 5 : Nat)]] W (fun e w' => e = .returned (.agg #[.bool ma, .int .i64 (dg (a - b) 0 : Nat), .int .i64 (dg (a - b) 1 : Nat), .int .i64 (dg (a - b) 2 : Nat), .int .i64 (dg (a - b) 3 : Nat), .int .i64 (dg (a - b) 4 : Nat), .int .i64 (dg (a - b) 5 : Nat)]) ∧ Below W.heap.size W w') from less_calls ma mb a b (by omega) W))
  have hzz := hidI (fun W => (show Calls Try.prog 35 #[.agg #[.bool ma, .int .i64 (dg (a - b) 0 : Nat), .int .i64 (dg (a - b) 1 : Nat), .int .i64 (dg (a - b) 2 : Nat), .int .i64 (dg (a - b) 3 : Nat), .int .i64 (dg (a - b) 4 : Nat), .int .i64 (dg (a - b) 5 : Nat)]] W (fun e w' => e = .returned (.bool true) ∧ Below W.heap.size W w') from ((show decide (a - b = 0) = true from decide_eq_true hz) ▸ zero_calls ma (a - b) (by omega) W)))
  have hsz := hidI (fun W => (show Calls Try.prog 42 #[.agg #[.bool ma, .int .i64 (dg a 0 : Nat), .int .i64 (dg a 1 : Nat), .int .i64 (dg a 2 : Nat), .int .i64 (dg a 3 : Nat), .int .i64 (dg a 4 : Nat), .int .i64 (dg a 5 : Nat)], .agg #[.bool mb, .int .i64 (dg b 0 : Nat), .int .i64 (dg b 1 : Nat), .int .i64 (dg b 2 : Nat), .int .i64 (dg b 3 : Nat), .int .i64 (dg b 4 : Nat), .int .i64 (dg b 5 : Nat)]] W (fun e w' => e = .returned (.int .i64 (sizeV a b)) ∧ Below W.heap.size W w') from size_calls ma mb a b ha hb W))
  obtain ⟨sv, hsv⟩ : ∃ z, sizeV a b = z := ⟨_, rfl⟩
  rw [hsv] at hsz
  have hs0 : decide (sv < 0) = false := by rw [← hsv]; unfold sizeV; rw [if_neg (by omega)]; split <;> rfl
  clear ha hb hle hz hsv
  go_enter Try.func33, Try.ntmps33
  go_upto_region 1 with fail
  have hk1 := blk_alloc (blk_alloc (blk_new w (.cells #[.bool ma, .int .i64 (dg a 0 : Nat), .int .i64 (dg a 1 : Nat), .int .i64 (dg a 2 : Nat), .int .i64 (dg a 3 : Nat), .int .i64 (dg a 4 : Nat), .int .i64 (dg a 5 : Nat)] 46)) (.cells #[.bool mb, .int .i64 (dg b 0 : Nat), .int .i64 (dg b 1 : Nat), .int .i64 (dg b 2 : Nat), .int .i64 (dg b 3 : Nat), .int .i64 (dg b 4 : Nat), .int .i64 (dg b 5 : Nat)] 46)) (.cells #[.bool false, .int .i64 0, .int .i64 0, .int .i64 0, .int .i64 0, .int .i64 0, .int .i64 0] 46)
  have hk2 : (((w.alloc (.cells #[.bool ma, .int .i64 (dg a 0 : Nat), .int .i64 (dg a 1 : Nat), .int .i64 (dg a 2 : Nat), .int .i64 (dg a 3 : Nat), .int .i64 (dg a 4 : Nat), .int .i64 (dg a 5 : Nat)] 46)).alloc (.cells #[.bool mb, .int .i64 (dg b 0 : Nat), .int .i64 (dg b 1 : Nat), .int .i64 (dg b 2 : Nat), .int .i64 (dg b 3 : Nat), .int .i64 (dg b 4 : Nat), .int .i64 (dg b 5 : Nat)] 46)).alloc (.cells #[.bool false, .int .i64 0, .int .i64 0, .int .i64 0, .int .i64 0, .int .i64 0, .int .i64 0] 46)).heap[w.heap.size + 1]? = some (.cells #[.bool mb, .int .i64 (dg b 0 : Nat), .int .i64 (dg b 1 : Nat), .int .i64 (dg b 2 : Nat), .int .i64 (dg b 3 : Nat), .int .i64 (dg b 4 : Nat), .int .i64 (dg b 5 : Nat)] 46 (0, 0)) := by have h_ := blk_alloc (blk_new (w.alloc (.cells #[.bool ma, .int .i64 (dg a 0 : Nat), .int .i64 (dg a 1 : Nat), .int .i64 (dg a 2 : Nat), .int .i64 (dg a 3 : Nat), .int .i64 (dg a 4 : Nat), .int .i64 (dg a 5 : Nat)] 46)) (.cells #[.bool mb, .int .i64 (dg b 0 : Nat), .int .i64 (dg b 1 : Nat), .int .i64 (dg b 2 : Nat), .int .i64 (dg b 3 : Nat), .int .i64 (dg b 4 : Nat), .int .i64 (dg b 5 : Nat)] 46)) (.cells #[.bool false, .int .i64 0, .int .i64 0, .int .i64 0, .int .i64 0, .int .i64 0, .int .i64 0] 46); simpa using h_
  have hk3 : (((w.alloc (.cells #[.bool ma, .int .i64 (dg a 0 : Nat), .int .i64 (dg a 1 : Nat), .int .i64 (dg a 2 : Nat), .int .i64 (dg a 3 : Nat), .int .i64 (dg a 4 : Nat), .int .i64 (dg a 5 : Nat)] 46)).alloc (.cells #[.bool mb, .int .i64 (dg b 0 : Nat), .int .i64 (dg b 1 : Nat), .int .i64 (dg b 2 : Nat), .int .i64 (dg b 3 : Nat), .int .i64 (dg b 4 : Nat), .int .i64 (dg b 5 : Nat)] 46)).alloc (.cells #[.bool false, .int .i64 0, .int .i64 0, .int .i64 0, .int .i64 0, .int .i64 0, .int .i64 0] 46)).heap[w.heap.size + 1 + 1]? = some (.cells #[.bool false, .int .i64 0, .int .i64 0, .int .i64 0, .int .i64 0, .int .i64 0, .int .i64 0] 46 (0, 0)) := by have h_ := blk_new ((w.alloc (.cells #[.bool ma, .int .i64 (dg a 0 : Nat), .int .i64 (dg a 1 : Nat), .int .i64 (dg a 2 : Nat), .int .i64 (dg a 3 : Nat), .int .i64 (dg a 4 : Nat), .int .i64 (dg a 5 : Nat)] 46)).alloc (.cells #[.bool mb, .int .i64 (dg b 0 : Nat), .int .i64 (dg b 1 : Nat), .int .i64 (dg b 2 : Nat), .int .i64 (dg b 3 : Nat), .int .i64 (dg b 4 : Nat), .int .i64 (dg b 5 : Nat)] 46)) (.cells #[.bool false, .int .i64 0, .int .i64 0, .int .i64 0, .int .i64 0, .int .i64 0, .int .i64 0] 46); simpa using h_
  have hbw := bl_alloc (bl_alloc (bl_alloc (Below.refl w.heap.size w) (.cells #[.bool ma, .int .i64 (dg a 0 : Nat), .int .i64 (dg a 1 : Nat), .int .i64 (dg a 2 : Nat), .int .i64 (dg a 3 : Nat), .int .i64 (dg a 4 : Nat), .int .i64 (dg a 5 : Nat)] 46)) (.cells #[.bool mb, .int .i64 (dg b 0 : Nat), .int .i64 (dg b 1 : Nat), .int .i64 (dg b 2 : Nat), .int .i64 (dg b 3 : Nat), .int .i64 (dg b 4 : Nat), .int .i64 (dg b 5 : Nat)] 46)) (.cells #[.bool false, .int .i64 0, .int .i64 0, .int .i64 0, .int .i64 0, .int .i64 0, .int .i64 0] 46)
  generalize ((w.alloc (.cells #[.bool ma, .int .i64 (dg a 0 : Nat), .int .i64 (dg a 1 : Nat), .int .i64 (dg a 2 : Nat), .int .i64 (dg a 3 : Nat), .int .i64 (dg a 4 : Nat), .int .i64 (dg a 5 : Nat)] 46)).alloc (.cells #[.bool mb, .int .i64 (dg b 0 : Nat), .int .i64 (dg b 1 : Nat), .int .i64 (dg b 2 : Nat), .int .i64 (dg b 3 : Nat), .int .i64 (dg b 4 : Nat), .int .i64 (dg b 5 : Nat)] 46)).alloc (.cells #[.bool false, .int .i64 0, .int .i64 0, .int .i64 0, .int .i64 0, .int .i64 0, .int .i64 0] 46) = W1 at *
  obtain ⟨g1, hg1⟩ : ∃ g, g = w.heap.size := ⟨_, rfl⟩
  obtain ⟨g2, hg2⟩ : ∃ g, g = w.heap.size + 1 := ⟨_, rfl⟩
  obtain ⟨g3, hg3⟩ : ∃ g, g = w.heap.size + 1 + 1 := ⟨_, rfl⟩
  rw [← hg3] at hk3 ⊢
  rw [← hg2] at hk2 ⊢
  rw [← hg1] at hk1 ⊢
  have hn12 : g1 ≠ g2 := by omega
  have hn13 : g1 ≠ g3 := by omega
  have hn23 : g2 ≠ g3 := by omega
  have hl1 : w.heap.size ≤ g1 := by omega
  have hl2 : w.heap.size ≤ g2 := by omega
  have hl3 : w.heap.size ≤ g3 := by omega
  clear hg1 hg2 hg3
  have c0 : W1.cell? ⟨g1, 0, none⟩ = some (.bool ma) := blk_cell hk1 0 (by rfl)
  have c1 : W1.cell? ⟨g1, 1, none⟩ = some (.int .i64 (dg a 0 : Nat)) := blk_cell hk1 1 (by rfl)
  have c2 : W1.cell? ⟨g1, 2, none⟩ = some (.int .i64 (dg a 1 : Nat)) := blk_cell hk1 2 (by rfl)
  have c3 : W1.cell? ⟨g1, 3, none⟩ = some (.int .i64 (dg a 2 : Nat)) := blk_cell hk1 3 (by rfl)
  have c4 : W1.cell? ⟨g1, 4, none⟩ = some (.int .i64 (dg a 3 : Nat)) := blk_cell hk1 4 (by rfl)
  have c5 : W1.cell? ⟨g1, 5, none⟩ = some (.int .i64 (dg a 4 : Nat)) := blk_cell hk1 5 (by rfl)
  have c6 : W1.cell? ⟨g1, 6, none⟩ = some (.int .i64 (dg a 5 : Nat)) := blk_cell hk1 6 (by rfl)
  have d0 : W1.cell? ⟨g2, 0, none⟩ = some (.bool mb) := blk_cell hk2 0 (by rfl)
  have d1 : W1.cell? ⟨g2, 1, none⟩ = some (.int .i64 (dg b 0 : Nat)) := blk_cell hk2 1 (by rfl)
  have d2 : W1.cell? ⟨g2, 2, none⟩ = some (.int .i64 (dg b 1 : Nat)) := blk_cell hk2 2 (by rfl)
  have d3 : W1.cell? ⟨g2, 3, none⟩ = some (.int .i64 (dg b 2 : Nat)) := blk_cell hk2 3 (by rfl)
  have d4 : W1.cell? ⟨g2, 4, none⟩ = some (.int .i64 (dg b 3 : Nat)) := blk_cell hk2 4 (by rfl)
  have d5 : W1.cell? ⟨g2, 5, none⟩ = some (.int .i64 (dg b 4 : Nat)) := blk_cell hk2 5 (by rfl)
  have d6 : W1.cell? ⟨g2, 6, none⟩ = some (.int .i64 (dg b 5 : Nat)) := blk_cell hk2 6 (by rfl)
  go_wp2_with fail
  refine (hsz.out _).mono ?_
  rintro e W2 ⟨rfl, hb⟩
  replace hbw := bl_step hbw hb
  replace hk1 := bl_block hb hk1
  replace hk2 := bl_block hb hk2
  replace hk3 := bl_block hb hk3
  clear hb hsz c0 c1 c2 c3 c4 c5 c6 d0 d1 d2 d3 d4 d5 d6
  skip
  have c0 : W2.cell? ⟨g1, 0, none⟩ = some (.bool ma) := blk_cell hk1 0 (by rfl)
  have c1 : W2.cell? ⟨g1, 1, none⟩ = some (.int .i64 (dg a 0 : Nat)) := blk_cell hk1 1 (by rfl)
  have c2 : W2.cell? ⟨g1, 2, none⟩ = some (.int .i64 (dg a 1 : Nat)) := blk_cell hk1 2 (by rfl)
  have c3 : W2.cell? ⟨g1, 3, none⟩ = some (.int .i64 (dg a 2 : Nat)) := blk_cell hk1 3 (by rfl)
  have c4 : W2.cell? ⟨g1, 4, none⟩ = some (.int .i64 (dg a 3 : Nat)) := blk_cell hk1 4 (by rfl)
  have c5 : W2.cell? ⟨g1, 5, none⟩ = some (.int .i64 (dg a 4 : Nat)) := blk_cell hk1 5 (by rfl)
  have c6 : W2.cell? ⟨g1, 6, none⟩ = some (.int .i64 (dg a 5 : Nat)) := blk_cell hk1 6 (by rfl)
  have d0 : W2.cell? ⟨g2, 0, none⟩ = some (.bool mb) := blk_cell hk2 0 (by rfl)
  have d1 : W2.cell? ⟨g2, 1, none⟩ = some (.int .i64 (dg b 0 : Nat)) := blk_cell hk2 1 (by rfl)
  have d2 : W2.cell? ⟨g2, 2, none⟩ = some (.int .i64 (dg b 1 : Nat)) := blk_cell hk2 2 (by rfl)
  have d3 : W2.cell? ⟨g2, 3, none⟩ = some (.int .i64 (dg b 2 : Nat)) := blk_cell hk2 3 (by rfl)
  have d4 : W2.cell? ⟨g2, 4, none⟩ = some (.int .i64 (dg b 3 : Nat)) := blk_cell hk2 4 (by rfl)
  have d5 : W2.cell? ⟨g2, 5, none⟩ = some (.int .i64 (dg b 4 : Nat)) := blk_cell hk2 5 (by rfl)
  have d6 : W2.cell? ⟨g2, 6, none⟩ = some (.int .i64 (dg b 5 : Nat)) := blk_cell hk2 6 (by rfl)
  go_wp2_with fail
  refine (hls.out _).mono ?_
  rintro e W5 ⟨rfl, hb⟩
  replace hbw := bl_step hbw hb
  replace hk3 := bl_block hb hk3
  clear hb hls hk1 hk2 c0 c1 c2 c3 c4 c5 c6 d0 d1 d2 d3 d4 d5 d6
  go_upto_region 6 with fail
  have hk5 := blk_new W5 (.cells #[.bool ma, .int .i64 (dg (a - b) 0 : Nat), .int .i64 (dg (a - b) 1 : Nat), .int .i64 (dg (a - b) 2 : Nat), .int .i64 (dg (a - b) 3 : Nat), .int .i64 (dg (a - b) 4 : Nat), .int .i64 (dg (a - b) 5 : Nat)] 46)
  have hlt5 := blk_lt hk3
  replace hk3 := blk_alloc hk3 (.cells #[.bool ma, .int .i64 (dg (a - b) 0 : Nat), .int .i64 (dg (a - b) 1 : Nat), .int .i64 (dg (a - b) 2 : Nat), .int .i64 (dg (a - b) 3 : Nat), .int .i64 (dg (a - b) 4 : Nat), .int .i64 (dg (a - b) 5 : Nat)] 46)
  replace hbw := bl_alloc hbw (.cells #[.bool ma, .int .i64 (dg (a - b) 0 : Nat), .int .i64 (dg (a - b) 1 : Nat), .int .i64 (dg (a - b) 2 : Nat), .int .i64 (dg (a - b) 3 : Nat), .int .i64 (dg (a - b) 4 : Nat), .int .i64 (dg (a - b) 5 : Nat)] 46)
  generalize W5.alloc (.cells #[.bool ma, .int .i64 (dg (a - b) 0 : Nat), .int .i64 (dg (a - b) 1 : Nat), .int .i64 (dg (a - b) 2 : Nat), .int .i64 (dg (a - b) 3 : Nat), .int .i64 (dg (a - b) 4 : Nat), .int .i64 (dg (a - b) 5 : Nat)] 46) = W6 at *
  obtain ⟨g5, hg5⟩ : ∃ g, g = W5.heap.size := ⟨_, rfl⟩
  rw [← hg5] at hk5 hlt5 ⊢
  have hn53 : g5 ≠ g3 := by omega
  have hl5 : w.heap.size ≤ g5 := by omega
  clear hg5
  have c0 : W6.cell? ⟨g5, 0, none⟩ = some (.bool ma) := blk_cell hk5 0 (by rfl)
  have c1 : W6.cell? ⟨g5, 1, none⟩ = some (.int .i64 (dg (a - b) 0 : Nat)) := blk_cell hk5 1 (by rfl)
  have c2 : W6.cell? ⟨g5, 2, none⟩ = some (.int .i64 (dg (a - b) 1 : Nat)) := blk_cell hk5 2 (by rfl)
  have c3 : W6.cell? ⟨g5, 3, none⟩ = some (.int .i64 (dg (a - b) 2 : Nat)) := blk_cell hk5 3 (by rfl)
  have c4 : W6.cell? ⟨g5, 4, none⟩ = some (.int .i64 (dg (a - b) 3 : Nat)) := blk_cell hk5 4 (by rfl)
  have c5 : W6.cell? ⟨g5, 5, none⟩ = some (.int .i64 (dg (a - b) 4 : Nat)) := blk_cell hk5 5 (by rfl)
  have c6 : W6.cell? ⟨g5, 6, none⟩ = some (.int .i64 (dg (a - b) 5 : Nat)) := blk_cell hk5 6 (by rfl)
  go_wp2_with fail
  refine (hzz.out _).mono ?_
  rintro e W7 ⟨rfl, hb⟩
  replace hbw := bl_step hbw hb
  replace hk3 := bl_block hb hk3
  replace hk5 := bl_block hb hk5
  clear hb hzz c0 c1 c2 c3 c4 c5 c6
  have y0 : W7.cell? ⟨g5, 0, none⟩ = some (.bool ma) := blk_cell hk5 0 (by rfl)
  have z0 := blkf hk5 0
  go_upto_region 8 with fail
  have hk6 : (W7.setCell ⟨g5, 0, none⟩ (.bool false)).heap[g5]? = some (.cells #[.bool false, .int .i64 (dg (a - b) 0 : Nat), .int .i64 (dg (a - b) 1 : Nat), .int .i64 (dg (a - b) 2 : Nat), .int .i64 (dg (a - b) 3 : Nat), .int .i64 (dg (a - b) 4 : Nat), .int .i64 (dg (a - b) 5 : Nat)] 46 (0, 0)) := blk_set hk5 0 (.bool false)
  replace hk3 := blk_far hk3 (a := ⟨g5, 0, none⟩) hn53 (.bool false)
  replace hbw := bl_set hbw (p := ⟨g5, 0, none⟩) hl5 (.bool false)
  clear y0 z0 hk5
  generalize W7.setCell ⟨g5, 0, none⟩ (.bool false) = W8 at *
  have e0 : W8.cell? ⟨g5, 0, none⟩ = some (.bool false) := blk_cell hk6 0 (by rfl)
  have e1 : W8.cell? ⟨g5, 1, none⟩ = some (.int .i64 (dg (a - b) 0 : Nat)) := blk_cell hk6 1 (by rfl)
  have e2 : W8.cell? ⟨g5, 2, none⟩ = some (.int .i64 (dg (a - b) 1 : Nat)) := blk_cell hk6 2 (by rfl)
  have e3 : W8.cell? ⟨g5, 3, none⟩ = some (.int .i64 (dg (a - b) 2 : Nat)) := blk_cell hk6 3 (by rfl)
  have e4 : W8.cell? ⟨g5, 4, none⟩ = some (.int .i64 (dg (a - b) 3 : Nat)) := blk_cell hk6 4 (by rfl)
  have e5 : W8.cell? ⟨g5, 5, none⟩ = some (.int .i64 (dg (a - b) 4 : Nat)) := blk_cell hk6 5 (by rfl)
  have e6 : W8.cell? ⟨g5, 6, none⟩ = some (.int .i64 (dg (a - b) 5 : Nat)) := blk_cell hk6 6 (by rfl)
  have r0 : W8.cell? ⟨g3, 0, none⟩ = some (.bool false) := blk_cell hk3 0 (by rfl)
  have r1 : W8.cell? ⟨g3, 1, none⟩ = some (.int .i64 0) := blk_cell hk3 1 (by rfl)
  have r2 : W8.cell? ⟨g3, 2, none⟩ = some (.int .i64 0) := blk_cell hk3 2 (by rfl)
  have r3 : W8.cell? ⟨g3, 3, none⟩ = some (.int .i64 0) := blk_cell hk3 3 (by rfl)
  have r4 : W8.cell? ⟨g3, 4, none⟩ = some (.int .i64 0) := blk_cell hk3 4 (by rfl)
  have r5 : W8.cell? ⟨g3, 5, none⟩ = some (.int .i64 0) := blk_cell hk3 5 (by rfl)
  have r6 : W8.cell? ⟨g3, 6, none⟩ = some (.int .i64 0) := blk_cell hk3 6 (by rfl)
  have rz0 := blkf hk3 0
  have rz1 := blkf hk3 1
  have rz2 := blkf hk3 2
  have rz3 := blkf hk3 3
  have rz4 := blkf hk3 4
  have rz5 := blkf hk3 5
  have rz6 := blkf hk3 6
  have hkf := hidI (blk_set (blk_set (blk_set (blk_set (blk_set (blk_set (blk_set hk3 0 (.bool false)) 1 (.int .i64 (dg (a - b) 0 : Nat))) 2 (.int .i64 (dg (a - b) 1 : Nat))) 3 (.int .i64 (dg (a - b) 2 : Nat))) 4 (.int .i64 (dg (a - b) 3 : Nat))) 5 (.int .i64 (dg (a - b) 4 : Nat))) 6 (.int .i64 (dg (a - b) 5 : Nat)))
  have hbf := hidI (bl_set (bl_set (bl_set (bl_set (bl_set (bl_set (bl_set hbw (p := ⟨g3, 0, none⟩) hl3 (.bool false)) (p := ⟨g3, 1, none⟩) hl3 (.int .i64 (dg (a - b) 0 : Nat))) (p := ⟨g3, 2, none⟩) hl3 (.int .i64 (dg (a - b) 1 : Nat))) (p := ⟨g3, 3, none⟩) hl3 (.int .i64 (dg (a - b) 2 : Nat))) (p := ⟨g3, 4, none⟩) hl3 (.int .i64 (dg (a - b) 3 : Nat))) (p := ⟨g3, 5, none⟩) hl3 (.int .i64 (dg (a - b) 4 : Nat))) (p := ⟨g3, 6, none⟩) hl3 (.int .i64 (dg (a - b) 5 : Nat)))
  clear hk6 hk3 hbw
  go_wp2
  refine bodyPost_ret (results_cell_row rfl _ _ (g3) 46 #[.bool false, .int .i64 (dg (a - b) 0 : Nat), .int .i64 (dg (a - b) 1 : Nat), .int .i64 (dg (a - b) 2 : Nat), .int .i64 (dg (a - b) 3 : Nat), .int .i64 (dg (a - b) 4 : Nat), .int .i64 (dg (a - b) 5 : Nat)] (0, 0) _ rfl (by have h_ := hkf.out; simpa using h_) Try.underlying46 rfl (by kernel_rfl)) rfl ?_
  exact ⟨rfl, hbf.out⟩
set_option maxHeartbeats 8000000 in
set_option maxRecDepth 100000 in
theorem addSwap_calls (ma mb : Bool) (hne : (ma == mb) = false) (a b : Nat) (ha : a < pw 6) (hb : b < pw 6) (hle : a < b) (hz : b - a ≠ 0) (w : World) : Calls Try.prog 33 #[.agg (bigC ma a), .agg (bigC mb b)] w fun e w' => e = .returned (.agg (bigC mb (b - a))) ∧ Below w.heap.size w w' := by
  show Calls Try.prog 33 #[.agg #[.bool ma, .int .i64 (dg a 0 : Nat), .int .i64 (dg a 1 : Nat), .int .i64 (dg a 2 : Nat), .int .i64 (dg a 3 : Nat), .int .i64 (dg a 4 : Nat), .int .i64 (dg a 5 : Nat)], .agg #[.bool mb, .int .i64 (dg b 0 : Nat), .int .i64 (dg b 1 : Nat), .int .i64 (dg b 2 : Nat), .int .i64 (dg b 3 : Nat), .int .i64 (dg b 4 : Nat), .int .i64 (dg b 5 : Nat)]] w fun e w' => e = .returned (.agg #[.bool mb, .int .i64 (dg (b - a) 0 : Nat), .int .i64 (dg (b - a) 1 : Nat), .int .i64 (dg (b - a) 2 : Nat), .int .i64 (dg (b - a) 3 : Nat), .int .i64 (dg (b - a) 4 : Nat), .int .i64 (dg (b - a) 5 : Nat)]) ∧ Below w.heap.size w w'
  have hls := hidI (fun W => (show Calls Try.prog 43 #[.agg #[.bool mb, .int .i64 (dg b 0 : Nat), .int .i64 (dg b 1 : Nat), .int .i64 (dg b 2 : Nat), .int .i64 (dg b 3 : Nat), .int .i64 (dg b 4 : Nat), .int .i64 (dg b 5 : Nat)], .agg #[.bool ma, .int .i64 (dg a 0 : Nat), .int .i64 (dg a 1 : Nat), .int .i64 (dg a 2 : Nat), .int .i64 (dg a 3 : Nat), .int .i64 (dg a 4 : Nat), .int .i64 (dg a 5 : Nat)]] W (fun e w' => e = .returned (.agg #[.bool mb, .int .i64 (dg (b - a) 0 : Nat), .int .i64 (dg (b - a) 1 : Nat), .int .i64 (dg (b - a) 2 : Nat), .int .i64 (dg (b - a) 3 : Nat), .int .i64 (dg (b - a) 4 : Nat), .int .i64 (dg (b - a) 5 : Nat)]) ∧ Below W.heap.size W w') from less_calls mb ma b a (by omega) W))
  have hzz := hidI (fun W => (show Calls Try.prog 35 #[.agg #[.bool mb, .int .i64 (dg (b - a) 0 : Nat), .int .i64 (dg (b - a) 1 : Nat), .int .i64 (dg (b - a) 2 : Nat), .int .i64 (dg (b - a) 3 : Nat), .int .i64 (dg (b - a) 4 : Nat), .int .i64 (dg (b - a) 5 : Nat)]] W (fun e w' => e = .returned (.bool false) ∧ Below W.heap.size W w') from ((show decide (b - a = 0) = false from decide_eq_false hz) ▸ zero_calls mb (b - a) (by omega) W)))
  have hsz := hidI (fun W => (show Calls Try.prog 42 #[.agg #[.bool ma, .int .i64 (dg a 0 : Nat), .int .i64 (dg a 1 : Nat), .int .i64 (dg a 2 : Nat), .int .i64 (dg a 3 : Nat), .int .i64 (dg a 4 : Nat), .int .i64 (dg a 5 : Nat)], .agg #[.bool mb, .int .i64 (dg b 0 : Nat), .int .i64 (dg b 1 : Nat), .int .i64 (dg b 2 : Nat), .int .i64 (dg b 3 : Nat), .int .i64 (dg b 4 : Nat), .int .i64 (dg b 5 : Nat)]] W (fun e w' => e = .returned (.int .i64 (sizeV a b)) ∧ Below W.heap.size W w') from size_calls ma mb a b ha hb W))
  obtain ⟨sv, hsv⟩ : ∃ z, sizeV a b = z := ⟨_, rfl⟩
  rw [hsv] at hsz
  have hs0 : decide (sv < 0) = true := by rw [← hsv]; unfold sizeV; rw [if_pos hle]; rfl
  clear ha hb hle hz hsv
  go_enter Try.func33, Try.ntmps33
  go_upto_region 1 with fail
  have hk1 := blk_alloc (blk_alloc (blk_new w (.cells #[.bool ma, .int .i64 (dg a 0 : Nat), .int .i64 (dg a 1 : Nat), .int .i64 (dg a 2 : Nat), .int .i64 (dg a 3 : Nat), .int .i64 (dg a 4 : Nat), .int .i64 (dg a 5 : Nat)] 46)) (.cells #[.bool mb, .int .i64 (dg b 0 : Nat), .int .i64 (dg b 1 : Nat), .int .i64 (dg b 2 : Nat), .int .i64 (dg b 3 : Nat), .int .i64 (dg b 4 : Nat), .int .i64 (dg b 5 : Nat)] 46)) (.cells #[.bool false, .int .i64 0, .int .i64 0, .int .i64 0, .int .i64 0, .int .i64 0, .int .i64 0] 46)
  have hk2 : (((w.alloc (.cells #[.bool ma, .int .i64 (dg a 0 : Nat), .int .i64 (dg a 1 : Nat), .int .i64 (dg a 2 : Nat), .int .i64 (dg a 3 : Nat), .int .i64 (dg a 4 : Nat), .int .i64 (dg a 5 : Nat)] 46)).alloc (.cells #[.bool mb, .int .i64 (dg b 0 : Nat), .int .i64 (dg b 1 : Nat), .int .i64 (dg b 2 : Nat), .int .i64 (dg b 3 : Nat), .int .i64 (dg b 4 : Nat), .int .i64 (dg b 5 : Nat)] 46)).alloc (.cells #[.bool false, .int .i64 0, .int .i64 0, .int .i64 0, .int .i64 0, .int .i64 0, .int .i64 0] 46)).heap[w.heap.size + 1]? = some (.cells #[.bool mb, .int .i64 (dg b 0 : Nat), .int .i64 (dg b 1 : Nat), .int .i64 (dg b 2 : Nat), .int .i64 (dg b 3 : Nat), .int .i64 (dg b 4 : Nat), .int .i64 (dg b 5 : Nat)] 46 (0, 0)) := by have h_ := blk_alloc (blk_new (w.alloc (.cells #[.bool ma, .int .i64 (dg a 0 : Nat), .int .i64 (dg a 1 : Nat), .int .i64 (dg a 2 : Nat), .int .i64 (dg a 3 : Nat), .int .i64 (dg a 4 : Nat), .int .i64 (dg a 5 : Nat)] 46)) (.cells #[.bool mb, .int .i64 (dg b 0 : Nat), .int .i64 (dg b 1 : Nat), .int .i64 (dg b 2 : Nat), .int .i64 (dg b 3 : Nat), .int .i64 (dg b 4 : Nat), .int .i64 (dg b 5 : Nat)] 46)) (.cells #[.bool false, .int .i64 0, .int .i64 0, .int .i64 0, .int .i64 0, .int .i64 0, .int .i64 0] 46); simpa using h_
  have hk3 : (((w.alloc (.cells #[.bool ma, .int .i64 (dg a 0 : Nat), .int .i64 (dg a 1 : Nat), .int .i64 (dg a 2 : Nat), .int .i64 (dg a 3 : Nat), .int .i64 (dg a 4 : Nat), .int .i64 (dg a 5 : Nat)] 46)).alloc (.cells #[.bool mb, .int .i64 (dg b 0 : Nat), .int .i64 (dg b 1 : Nat), .int .i64 (dg b 2 : Nat), .int .i64 (dg b 3 : Nat), .int .i64 (dg b 4 : Nat), .int .i64 (dg b 5 : Nat)] 46)).alloc (.cells #[.bool false, .int .i64 0, .int .i64 0, .int .i64 0, .int .i64 0, .int .i64 0, .int .i64 0] 46)).heap[w.heap.size + 1 + 1]? = some (.cells #[.bool false, .int .i64 0, .int .i64 0, .int .i64 0, .int .i64 0, .int .i64 0, .int .i64 0] 46 (0, 0)) := by have h_ := blk_new ((w.alloc (.cells #[.bool ma, .int .i64 (dg a 0 : Nat), .int .i64 (dg a 1 : Nat), .int .i64 (dg a 2 : Nat), .int .i64 (dg a 3 : Nat), .int .i64 (dg a 4 : Nat), .int .i64 (dg a 5 : Nat)] 46)).alloc (.cells #[.bool mb, .int .i64 (dg b 0 : Nat), .int .i64 (dg b 1 : Nat), .int .i64 (dg b 2 : Nat), .int .i64 (dg b 3 : Nat), .int .i64 (dg b 4 : Nat), .int .i64 (dg b 5 : Nat)] 46)) (.cells #[.bool false, .int .i64 0, .int .i64 0, .int .i64 0, .int .i64 0, .int .i64 0, .int .i64 0] 46); simpa using h_
  have hbw := bl_alloc (bl_alloc (bl_alloc (Below.refl w.heap.size w) (.cells #[.bool ma, .int .i64 (dg a 0 : Nat), .int .i64 (dg a 1 : Nat), .int .i64 (dg a 2 : Nat), .int .i64 (dg a 3 : Nat), .int .i64 (dg a 4 : Nat), .int .i64 (dg a 5 : Nat)] 46)) (.cells #[.bool mb, .int .i64 (dg b 0 : Nat), .int .i64 (dg b 1 : Nat), .int .i64 (dg b 2 : Nat), .int .i64 (dg b 3 : Nat), .int .i64 (dg b 4 : Nat), .int .i64 (dg b 5 : Nat)] 46)) (.cells #[.bool false, .int .i64 0, .int .i64 0, .int .i64 0, .int .i64 0, .int .i64 0, .int .i64 0] 46)
  generalize ((w.alloc (.cells #[.bool ma, .int .i64 (dg a 0 : Nat), .int .i64 (dg a 1 : Nat), .int .i64 (dg a 2 : Nat), .int .i64 (dg a 3 : Nat), .int .i64 (dg a 4 : Nat), .int .i64 (dg a 5 : Nat)] 46)).alloc (.cells #[.bool mb, .int .i64 (dg b 0 : Nat), .int .i64 (dg b 1 : Nat), .int .i64 (dg b 2 : Nat), .int .i64 (dg b 3 : Nat), .int .i64 (dg b 4 : Nat), .int .i64 (dg b 5 : Nat)] 46)).alloc (.cells #[.bool false, .int .i64 0, .int .i64 0, .int .i64 0, .int .i64 0, .int .i64 0, .int .i64 0] 46) = W1 at *
  obtain ⟨g1, hg1⟩ : ∃ g, g = w.heap.size := ⟨_, rfl⟩
  obtain ⟨g2, hg2⟩ : ∃ g, g = w.heap.size + 1 := ⟨_, rfl⟩
  obtain ⟨g3, hg3⟩ : ∃ g, g = w.heap.size + 1 + 1 := ⟨_, rfl⟩
  rw [← hg3] at hk3 ⊢
  rw [← hg2] at hk2 ⊢
  rw [← hg1] at hk1 ⊢
  have hn12 : g1 ≠ g2 := by omega
  have hn13 : g1 ≠ g3 := by omega
  have hn23 : g2 ≠ g3 := by omega
  have hl1 : w.heap.size ≤ g1 := by omega
  have hl2 : w.heap.size ≤ g2 := by omega
  have hl3 : w.heap.size ≤ g3 := by omega
  clear hg1 hg2 hg3
  have c0 : W1.cell? ⟨g1, 0, none⟩ = some (.bool ma) := blk_cell hk1 0 (by rfl)
  have c1 : W1.cell? ⟨g1, 1, none⟩ = some (.int .i64 (dg a 0 : Nat)) := blk_cell hk1 1 (by rfl)
  have c2 : W1.cell? ⟨g1, 2, none⟩ = some (.int .i64 (dg a 1 : Nat)) := blk_cell hk1 2 (by rfl)
  have c3 : W1.cell? ⟨g1, 3, none⟩ = some (.int .i64 (dg a 2 : Nat)) := blk_cell hk1 3 (by rfl)
  have c4 : W1.cell? ⟨g1, 4, none⟩ = some (.int .i64 (dg a 3 : Nat)) := blk_cell hk1 4 (by rfl)
  have c5 : W1.cell? ⟨g1, 5, none⟩ = some (.int .i64 (dg a 4 : Nat)) := blk_cell hk1 5 (by rfl)
  have c6 : W1.cell? ⟨g1, 6, none⟩ = some (.int .i64 (dg a 5 : Nat)) := blk_cell hk1 6 (by rfl)
  have d0 : W1.cell? ⟨g2, 0, none⟩ = some (.bool mb) := blk_cell hk2 0 (by rfl)
  have d1 : W1.cell? ⟨g2, 1, none⟩ = some (.int .i64 (dg b 0 : Nat)) := blk_cell hk2 1 (by rfl)
  have d2 : W1.cell? ⟨g2, 2, none⟩ = some (.int .i64 (dg b 1 : Nat)) := blk_cell hk2 2 (by rfl)
  have d3 : W1.cell? ⟨g2, 3, none⟩ = some (.int .i64 (dg b 2 : Nat)) := blk_cell hk2 3 (by rfl)
  have d4 : W1.cell? ⟨g2, 4, none⟩ = some (.int .i64 (dg b 3 : Nat)) := blk_cell hk2 4 (by rfl)
  have d5 : W1.cell? ⟨g2, 5, none⟩ = some (.int .i64 (dg b 4 : Nat)) := blk_cell hk2 5 (by rfl)
  have d6 : W1.cell? ⟨g2, 6, none⟩ = some (.int .i64 (dg b 5 : Nat)) := blk_cell hk2 6 (by rfl)
  go_wp2_with fail
  refine (hsz.out _).mono ?_
  rintro e W2 ⟨rfl, hb⟩
  replace hbw := bl_step hbw hb
  replace hk1 := bl_block hb hk1
  replace hk2 := bl_block hb hk2
  replace hk3 := bl_block hb hk3
  clear hb hsz c0 c1 c2 c3 c4 c5 c6 d0 d1 d2 d3 d4 d5 d6
  have c0 : W2.cell? ⟨g1, 0, none⟩ = some (.bool ma) := blk_cell hk1 0 (by rfl)
  have c1 : W2.cell? ⟨g1, 1, none⟩ = some (.int .i64 (dg a 0 : Nat)) := blk_cell hk1 1 (by rfl)
  have c2 : W2.cell? ⟨g1, 2, none⟩ = some (.int .i64 (dg a 1 : Nat)) := blk_cell hk1 2 (by rfl)
  have c3 : W2.cell? ⟨g1, 3, none⟩ = some (.int .i64 (dg a 2 : Nat)) := blk_cell hk1 3 (by rfl)
  have c4 : W2.cell? ⟨g1, 4, none⟩ = some (.int .i64 (dg a 3 : Nat)) := blk_cell hk1 4 (by rfl)
  have c5 : W2.cell? ⟨g1, 5, none⟩ = some (.int .i64 (dg a 4 : Nat)) := blk_cell hk1 5 (by rfl)
  have c6 : W2.cell? ⟨g1, 6, none⟩ = some (.int .i64 (dg a 5 : Nat)) := blk_cell hk1 6 (by rfl)
  have cz0 := blkf hk1 0
  have cz1 := blkf hk1 1
  have cz2 := blkf hk1 2
  have cz3 := blkf hk1 3
  have cz4 := blkf hk1 4
  have cz5 := blkf hk1 5
  have cz6 := blkf hk1 6
  have d0 : W2.cell? ⟨g2, 0, none⟩ = some (.bool mb) := blk_cell hk2 0 (by rfl)
  have d1 : W2.cell? ⟨g2, 1, none⟩ = some (.int .i64 (dg b 0 : Nat)) := blk_cell hk2 1 (by rfl)
  have d2 : W2.cell? ⟨g2, 2, none⟩ = some (.int .i64 (dg b 1 : Nat)) := blk_cell hk2 2 (by rfl)
  have d3 : W2.cell? ⟨g2, 3, none⟩ = some (.int .i64 (dg b 2 : Nat)) := blk_cell hk2 3 (by rfl)
  have d4 : W2.cell? ⟨g2, 4, none⟩ = some (.int .i64 (dg b 3 : Nat)) := blk_cell hk2 4 (by rfl)
  have d5 : W2.cell? ⟨g2, 5, none⟩ = some (.int .i64 (dg b 4 : Nat)) := blk_cell hk2 5 (by rfl)
  have d6 : W2.cell? ⟨g2, 6, none⟩ = some (.int .i64 (dg b 5 : Nat)) := blk_cell hk2 6 (by rfl)
  have dz0 := blkf hk2 0
  have dz1 := blkf hk2 1
  have dz2 := blkf hk2 2
  have dz3 := blkf hk2 3
  have dz4 := blkf hk2 4
  have dz5 := blkf hk2 5
  have dz6 := blkf hk2 6
  go_upto_region 5 with fail
  have hk1' : ((((((((((((((W2.setCell ⟨g1, 0, none⟩ (.bool mb)).setCell ⟨g1, 1, none⟩ (.int .i64 (dg b 0 : Nat))).setCell ⟨g1, 2, none⟩ (.int .i64 (dg b 1 : Nat))).setCell ⟨g1, 3, none⟩ (.int .i64 (dg b 2 : Nat))).setCell ⟨g1, 4, none⟩ (.int .i64 (dg b 3 : Nat))).setCell ⟨g1, 5, none⟩ (.int .i64 (dg b 4 : Nat))).setCell ⟨g1, 6, none⟩ (.int .i64 (dg b 5 : Nat))).setCell ⟨g2, 0, none⟩ (.bool ma)).setCell ⟨g2, 1, none⟩ (.int .i64 (dg a 0 : Nat))).setCell ⟨g2, 2, none⟩ (.int .i64 (dg a 1 : Nat))).setCell ⟨g2, 3, none⟩ (.int .i64 (dg a 2 : Nat))).setCell ⟨g2, 4, none⟩ (.int .i64 (dg a 3 : Nat))).setCell ⟨g2, 5, none⟩ (.int .i64 (dg a 4 : Nat))).setCell ⟨g2, 6, none⟩ (.int .i64 (dg a 5 : Nat))).heap[g1]? = some (.cells #[.bool mb, .int .i64 (dg b 0 : Nat), .int .i64 (dg b 1 : Nat), .int .i64 (dg b 2 : Nat), .int .i64 (dg b 3 : Nat), .int .i64 (dg b 4 : Nat), .int .i64 (dg b 5 : Nat)] 46 (0, 0)) := by have h_ := (blk_far (blk_far (blk_far (blk_far (blk_far (blk_far (blk_far (blk_set (blk_set (blk_set (blk_set (blk_set (blk_set (blk_set hk1 0 (.bool mb)) 1 (.int .i64 (dg b 0 : Nat))) 2 (.int .i64 (dg b 1 : Nat))) 3 (.int .i64 (dg b 2 : Nat))) 4 (.int .i64 (dg b 3 : Nat))) 5 (.int .i64 (dg b 4 : Nat))) 6 (.int .i64 (dg b 5 : Nat))) (a := ⟨g2, 0, none⟩) (Ne.symm hn12) (.bool ma)) (a := ⟨g2, 1, none⟩) (Ne.symm hn12) (.int .i64 (dg a 0 : Nat))) (a := ⟨g2, 2, none⟩) (Ne.symm hn12) (.int .i64 (dg a 1 : Nat))) (a := ⟨g2, 3, none⟩) (Ne.symm hn12) (.int .i64 (dg a 2 : Nat))) (a := ⟨g2, 4, none⟩) (Ne.symm hn12) (.int .i64 (dg a 3 : Nat))) (a := ⟨g2, 5, none⟩) (Ne.symm hn12) (.int .i64 (dg a 4 : Nat))) (a := ⟨g2, 6, none⟩) (Ne.symm hn12) (.int .i64 (dg a 5 : Nat))); simpa using h_
  have hk2' : ((((((((((((((W2.setCell ⟨g1, 0, none⟩ (.bool mb)).setCell ⟨g1, 1, none⟩ (.int .i64 (dg b 0 : Nat))).setCell ⟨g1, 2, none⟩ (.int .i64 (dg b 1 : Nat))).setCell ⟨g1, 3, none⟩ (.int .i64 (dg b 2 : Nat))).setCell ⟨g1, 4, none⟩ (.int .i64 (dg b 3 : Nat))).setCell ⟨g1, 5, none⟩ (.int .i64 (dg b 4 : Nat))).setCell ⟨g1, 6, none⟩ (.int .i64 (dg b 5 : Nat))).setCell ⟨g2, 0, none⟩ (.bool ma)).setCell ⟨g2, 1, none⟩ (.int .i64 (dg a 0 : Nat))).setCell ⟨g2, 2, none⟩ (.int .i64 (dg a 1 : Nat))).setCell ⟨g2, 3, none⟩ (.int .i64 (dg a 2 : Nat))).setCell ⟨g2, 4, none⟩ (.int .i64 (dg a 3 : Nat))).setCell ⟨g2, 5, none⟩ (.int .i64 (dg a 4 : Nat))).setCell ⟨g2, 6, none⟩ (.int .i64 (dg a 5 : Nat))).heap[g2]? = some (.cells #[.bool ma, .int .i64 (dg a 0 : Nat), .int .i64 (dg a 1 : Nat), .int .i64 (dg a 2 : Nat), .int .i64 (dg a 3 : Nat), .int .i64 (dg a 4 : Nat), .int .i64 (dg a 5 : Nat)] 46 (0, 0)) := by have h_ := (blk_set (blk_set (blk_set (blk_set (blk_set (blk_set (blk_set (blk_far (blk_far (blk_far (blk_far (blk_far (blk_far (blk_far hk2 (a := ⟨g1, 0, none⟩) hn12 (.bool mb)) (a := ⟨g1, 1, none⟩) hn12 (.int .i64 (dg b 0 : Nat))) (a := ⟨g1, 2, none⟩) hn12 (.int .i64 (dg b 1 : Nat))) (a := ⟨g1, 3, none⟩) hn12 (.int .i64 (dg b 2 : Nat))) (a := ⟨g1, 4, none⟩) hn12 (.int .i64 (dg b 3 : Nat))) (a := ⟨g1, 5, none⟩) hn12 (.int .i64 (dg b 4 : Nat))) (a := ⟨g1, 6, none⟩) hn12 (.int .i64 (dg b 5 : Nat))) 0 (.bool ma)) 1 (.int .i64 (dg a 0 : Nat))) 2 (.int .i64 (dg a 1 : Nat))) 3 (.int .i64 (dg a 2 : Nat))) 4 (.int .i64 (dg a 3 : Nat))) 5 (.int .i64 (dg a 4 : Nat))) 6 (.int .i64 (dg a 5 : Nat))); simpa using h_
  have hk3' := (blk_far (blk_far (blk_far (blk_far (blk_far (blk_far (blk_far (blk_far (blk_far (blk_far (blk_far (blk_far (blk_far (blk_far hk3 (a := ⟨g1, 0, none⟩) hn13 (.bool mb)) (a := ⟨g1, 1, none⟩) hn13 (.int .i64 (dg b 0 : Nat))) (a := ⟨g1, 2, none⟩) hn13 (.int .i64 (dg b 1 : Nat))) (a := ⟨g1, 3, none⟩) hn13 (.int .i64 (dg b 2 : Nat))) (a := ⟨g1, 4, none⟩) hn13 (.int .i64 (dg b 3 : Nat))) (a := ⟨g1, 5, none⟩) hn13 (.int .i64 (dg b 4 : Nat))) (a := ⟨g1, 6, none⟩) hn13 (.int .i64 (dg b 5 : Nat))) (a := ⟨g2, 0, none⟩) hn23 (.bool ma)) (a := ⟨g2, 1, none⟩) hn23 (.int .i64 (dg a 0 : Nat))) (a := ⟨g2, 2, none⟩) hn23 (.int .i64 (dg a 1 : Nat))) (a := ⟨g2, 3, none⟩) hn23 (.int .i64 (dg a 2 : Nat))) (a := ⟨g2, 4, none⟩) hn23 (.int .i64 (dg a 3 : Nat))) (a := ⟨g2, 5, none⟩) hn23 (.int .i64 (dg a 4 : Nat))) (a := ⟨g2, 6, none⟩) hn23 (.int .i64 (dg a 5 : Nat)))
  have hbw' := (bl_set (bl_set (bl_set (bl_set (bl_set (bl_set (bl_set (bl_set (bl_set (bl_set (bl_set (bl_set (bl_set (bl_set hbw (p := ⟨g1, 0, none⟩) hl1 (.bool mb)) (p := ⟨g1, 1, none⟩) hl1 (.int .i64 (dg b 0 : Nat))) (p := ⟨g1, 2, none⟩) hl1 (.int .i64 (dg b 1 : Nat))) (p := ⟨g1, 3, none⟩) hl1 (.int .i64 (dg b 2 : Nat))) (p := ⟨g1, 4, none⟩) hl1 (.int .i64 (dg b 3 : Nat))) (p := ⟨g1, 5, none⟩) hl1 (.int .i64 (dg b 4 : Nat))) (p := ⟨g1, 6, none⟩) hl1 (.int .i64 (dg b 5 : Nat))) (p := ⟨g2, 0, none⟩) hl2 (.bool ma)) (p := ⟨g2, 1, none⟩) hl2 (.int .i64 (dg a 0 : Nat))) (p := ⟨g2, 2, none⟩) hl2 (.int .i64 (dg a 1 : Nat))) (p := ⟨g2, 3, none⟩) hl2 (.int .i64 (dg a 2 : Nat))) (p := ⟨g2, 4, none⟩) hl2 (.int .i64 (dg a 3 : Nat))) (p := ⟨g2, 5, none⟩) hl2 (.int .i64 (dg a 4 : Nat))) (p := ⟨g2, 6, none⟩) hl2 (.int .i64 (dg a 5 : Nat)))
  generalize ((((((((((((((W2.setCell ⟨g1, 0, none⟩ (.bool mb)).setCell ⟨g1, 1, none⟩ (.int .i64 (dg b 0 : Nat))).setCell ⟨g1, 2, none⟩ (.int .i64 (dg b 1 : Nat))).setCell ⟨g1, 3, none⟩ (.int .i64 (dg b 2 : Nat))).setCell ⟨g1, 4, none⟩ (.int .i64 (dg b 3 : Nat))).setCell ⟨g1, 5, none⟩ (.int .i64 (dg b 4 : Nat))).setCell ⟨g1, 6, none⟩ (.int .i64 (dg b 5 : Nat))).setCell ⟨g2, 0, none⟩ (.bool ma)).setCell ⟨g2, 1, none⟩ (.int .i64 (dg a 0 : Nat))).setCell ⟨g2, 2, none⟩ (.int .i64 (dg a 1 : Nat))).setCell ⟨g2, 3, none⟩ (.int .i64 (dg a 2 : Nat))).setCell ⟨g2, 4, none⟩ (.int .i64 (dg a 3 : Nat))).setCell ⟨g2, 5, none⟩ (.int .i64 (dg a 4 : Nat))).setCell ⟨g2, 6, none⟩ (.int .i64 (dg a 5 : Nat))) = W3 at *
  clear hk1 hk2 hk3 hbw c0 c1 c2 c3 c4 c5 c6 d0 d1 d2 d3 d4 d5 d6 cz0 cz1 cz2 cz3 cz4 cz5 cz6 dz0 dz1 dz2 dz3 dz4 dz5 dz6
  have hk1 := hk1'
  have hk2 := hk2'
  have hk3 := hk3'
  have hbw := hbw'
  clear hk1' hk2' hk3' hbw'
  skip
  have c0 : W3.cell? ⟨g1, 0, none⟩ = some (.bool mb) := blk_cell hk1 0 (by rfl)
  have c1 : W3.cell? ⟨g1, 1, none⟩ = some (.int .i64 (dg b 0 : Nat)) := blk_cell hk1 1 (by rfl)
  have c2 : W3.cell? ⟨g1, 2, none⟩ = some (.int .i64 (dg b 1 : Nat)) := blk_cell hk1 2 (by rfl)
  have c3 : W3.cell? ⟨g1, 3, none⟩ = some (.int .i64 (dg b 2 : Nat)) := blk_cell hk1 3 (by rfl)
  have c4 : W3.cell? ⟨g1, 4, none⟩ = some (.int .i64 (dg b 3 : Nat)) := blk_cell hk1 4 (by rfl)
  have c5 : W3.cell? ⟨g1, 5, none⟩ = some (.int .i64 (dg b 4 : Nat)) := blk_cell hk1 5 (by rfl)
  have c6 : W3.cell? ⟨g1, 6, none⟩ = some (.int .i64 (dg b 5 : Nat)) := blk_cell hk1 6 (by rfl)
  have d0 : W3.cell? ⟨g2, 0, none⟩ = some (.bool ma) := blk_cell hk2 0 (by rfl)
  have d1 : W3.cell? ⟨g2, 1, none⟩ = some (.int .i64 (dg a 0 : Nat)) := blk_cell hk2 1 (by rfl)
  have d2 : W3.cell? ⟨g2, 2, none⟩ = some (.int .i64 (dg a 1 : Nat)) := blk_cell hk2 2 (by rfl)
  have d3 : W3.cell? ⟨g2, 3, none⟩ = some (.int .i64 (dg a 2 : Nat)) := blk_cell hk2 3 (by rfl)
  have d4 : W3.cell? ⟨g2, 4, none⟩ = some (.int .i64 (dg a 3 : Nat)) := blk_cell hk2 4 (by rfl)
  have d5 : W3.cell? ⟨g2, 5, none⟩ = some (.int .i64 (dg a 4 : Nat)) := blk_cell hk2 5 (by rfl)
  have d6 : W3.cell? ⟨g2, 6, none⟩ = some (.int .i64 (dg a 5 : Nat)) := blk_cell hk2 6 (by rfl)
  go_wp2_with fail
  refine (hls.out _).mono ?_
  rintro e W5 ⟨rfl, hb⟩
  replace hbw := bl_step hbw hb
  replace hk3 := bl_block hb hk3
  clear hb hls hk1 hk2 c0 c1 c2 c3 c4 c5 c6 d0 d1 d2 d3 d4 d5 d6
  go_upto_region 6 with fail
  have hk5 := blk_new W5 (.cells #[.bool mb, .int .i64 (dg (b - a) 0 : Nat), .int .i64 (dg (b - a) 1 : Nat), .int .i64 (dg (b - a) 2 : Nat), .int .i64 (dg (b - a) 3 : Nat), .int .i64 (dg (b - a) 4 : Nat), .int .i64 (dg (b - a) 5 : Nat)] 46)
  have hlt5 := blk_lt hk3
  replace hk3 := blk_alloc hk3 (.cells #[.bool mb, .int .i64 (dg (b - a) 0 : Nat), .int .i64 (dg (b - a) 1 : Nat), .int .i64 (dg (b - a) 2 : Nat), .int .i64 (dg (b - a) 3 : Nat), .int .i64 (dg (b - a) 4 : Nat), .int .i64 (dg (b - a) 5 : Nat)] 46)
  replace hbw := bl_alloc hbw (.cells #[.bool mb, .int .i64 (dg (b - a) 0 : Nat), .int .i64 (dg (b - a) 1 : Nat), .int .i64 (dg (b - a) 2 : Nat), .int .i64 (dg (b - a) 3 : Nat), .int .i64 (dg (b - a) 4 : Nat), .int .i64 (dg (b - a) 5 : Nat)] 46)
  generalize W5.alloc (.cells #[.bool mb, .int .i64 (dg (b - a) 0 : Nat), .int .i64 (dg (b - a) 1 : Nat), .int .i64 (dg (b - a) 2 : Nat), .int .i64 (dg (b - a) 3 : Nat), .int .i64 (dg (b - a) 4 : Nat), .int .i64 (dg (b - a) 5 : Nat)] 46) = W6 at *
  obtain ⟨g5, hg5⟩ : ∃ g, g = W5.heap.size := ⟨_, rfl⟩
  rw [← hg5] at hk5 hlt5 ⊢
  have hn53 : g5 ≠ g3 := by omega
  have hl5 : w.heap.size ≤ g5 := by omega
  clear hg5
  have c0 : W6.cell? ⟨g5, 0, none⟩ = some (.bool mb) := blk_cell hk5 0 (by rfl)
  have c1 : W6.cell? ⟨g5, 1, none⟩ = some (.int .i64 (dg (b - a) 0 : Nat)) := blk_cell hk5 1 (by rfl)
  have c2 : W6.cell? ⟨g5, 2, none⟩ = some (.int .i64 (dg (b - a) 1 : Nat)) := blk_cell hk5 2 (by rfl)
  have c3 : W6.cell? ⟨g5, 3, none⟩ = some (.int .i64 (dg (b - a) 2 : Nat)) := blk_cell hk5 3 (by rfl)
  have c4 : W6.cell? ⟨g5, 4, none⟩ = some (.int .i64 (dg (b - a) 3 : Nat)) := blk_cell hk5 4 (by rfl)
  have c5 : W6.cell? ⟨g5, 5, none⟩ = some (.int .i64 (dg (b - a) 4 : Nat)) := blk_cell hk5 5 (by rfl)
  have c6 : W6.cell? ⟨g5, 6, none⟩ = some (.int .i64 (dg (b - a) 5 : Nat)) := blk_cell hk5 6 (by rfl)
  go_wp2_with fail
  refine (hzz.out _).mono ?_
  rintro e W7 ⟨rfl, hb⟩
  replace hbw := bl_step hbw hb
  replace hk3 := bl_block hb hk3
  replace hk5 := bl_block hb hk5
  clear hb hzz c0 c1 c2 c3 c4 c5 c6
  have e0 : W7.cell? ⟨g5, 0, none⟩ = some (.bool mb) := blk_cell hk5 0 (by rfl)
  have e1 : W7.cell? ⟨g5, 1, none⟩ = some (.int .i64 (dg (b - a) 0 : Nat)) := blk_cell hk5 1 (by rfl)
  have e2 : W7.cell? ⟨g5, 2, none⟩ = some (.int .i64 (dg (b - a) 1 : Nat)) := blk_cell hk5 2 (by rfl)
  have e3 : W7.cell? ⟨g5, 3, none⟩ = some (.int .i64 (dg (b - a) 2 : Nat)) := blk_cell hk5 3 (by rfl)
  have e4 : W7.cell? ⟨g5, 4, none⟩ = some (.int .i64 (dg (b - a) 3 : Nat)) := blk_cell hk5 4 (by rfl)
  have e5 : W7.cell? ⟨g5, 5, none⟩ = some (.int .i64 (dg (b - a) 4 : Nat)) := blk_cell hk5 5 (by rfl)
  have e6 : W7.cell? ⟨g5, 6, none⟩ = some (.int .i64 (dg (b - a) 5 : Nat)) := blk_cell hk5 6 (by rfl)
  have r0 : W7.cell? ⟨g3, 0, none⟩ = some (.bool false) := blk_cell hk3 0 (by rfl)
  have r1 : W7.cell? ⟨g3, 1, none⟩ = some (.int .i64 0) := blk_cell hk3 1 (by rfl)
  have r2 : W7.cell? ⟨g3, 2, none⟩ = some (.int .i64 0) := blk_cell hk3 2 (by rfl)
  have r3 : W7.cell? ⟨g3, 3, none⟩ = some (.int .i64 0) := blk_cell hk3 3 (by rfl)
  have r4 : W7.cell? ⟨g3, 4, none⟩ = some (.int .i64 0) := blk_cell hk3 4 (by rfl)
  have r5 : W7.cell? ⟨g3, 5, none⟩ = some (.int .i64 0) := blk_cell hk3 5 (by rfl)
  have r6 : W7.cell? ⟨g3, 6, none⟩ = some (.int .i64 0) := blk_cell hk3 6 (by rfl)
  have rz0 := blkf hk3 0
  have rz1 := blkf hk3 1
  have rz2 := blkf hk3 2
  have rz3 := blkf hk3 3
  have rz4 := blkf hk3 4
  have rz5 := blkf hk3 5
  have rz6 := blkf hk3 6
  have hkf := hidI (blk_set (blk_set (blk_set (blk_set (blk_set (blk_set (blk_set hk3 0 (.bool mb)) 1 (.int .i64 (dg (b - a) 0 : Nat))) 2 (.int .i64 (dg (b - a) 1 : Nat))) 3 (.int .i64 (dg (b - a) 2 : Nat))) 4 (.int .i64 (dg (b - a) 3 : Nat))) 5 (.int .i64 (dg (b - a) 4 : Nat))) 6 (.int .i64 (dg (b - a) 5 : Nat)))
  have hbf := hidI (bl_set (bl_set (bl_set (bl_set (bl_set (bl_set (bl_set hbw (p := ⟨g3, 0, none⟩) hl3 (.bool mb)) (p := ⟨g3, 1, none⟩) hl3 (.int .i64 (dg (b - a) 0 : Nat))) (p := ⟨g3, 2, none⟩) hl3 (.int .i64 (dg (b - a) 1 : Nat))) (p := ⟨g3, 3, none⟩) hl3 (.int .i64 (dg (b - a) 2 : Nat))) (p := ⟨g3, 4, none⟩) hl3 (.int .i64 (dg (b - a) 3 : Nat))) (p := ⟨g3, 5, none⟩) hl3 (.int .i64 (dg (b - a) 4 : Nat))) (p := ⟨g3, 6, none⟩) hl3 (.int .i64 (dg (b - a) 5 : Nat)))
  clear hk5 hk3 hbw
  go_wp2
  refine bodyPost_ret (results_cell_row rfl _ _ (g3) 46 #[.bool mb, .int .i64 (dg (b - a) 0 : Nat), .int .i64 (dg (b - a) 1 : Nat), .int .i64 (dg (b - a) 2 : Nat), .int .i64 (dg (b - a) 3 : Nat), .int .i64 (dg (b - a) 4 : Nat), .int .i64 (dg (b - a) 5 : Nat)] (0, 0) _ rfl (by have h_ := hkf.out; simpa using h_) Try.underlying46 rfl (by kernel_rfl)) rfl ?_
  exact ⟨rfl, hbf.out⟩
theorem add_calls (x y : Int) (h : x.natAbs + y.natAbs < pw 6) (w : World) : Calls Try.prog 33 #[.agg (bigZ x), .agg (bigZ y)] w fun e w' => e = .returned (.agg (bigZ (x + y))) ∧ Below w.heap.size w w' := by
  unfold bigZ
  by_cases hs : decide (x < 0) = decide (y < 0)
  · rw [hs]
    have e : (bigC (decide (x + y < 0)) (x + y).natAbs) = bigC (decide (y < 0)) (x.natAbs + y.natAbs) := by
      by_cases hy : y < 0
      · have hx : x < 0 := by rw [decide_eq_true hy] at hs; exact of_decide_eq_true hs
        rw [decide_eq_true hy, decide_eq_true (by omega), show (x + y).natAbs = x.natAbs + y.natAbs by omega]
      · have hx : ¬ x < 0 := by rw [decide_eq_false hy] at hs; exact of_decide_eq_false hs
        rw [decide_eq_false hy, decide_eq_false (by omega), show (x + y).natAbs = x.natAbs + y.natAbs by omega]
    rw [e]
    exact addSame_calls _ _ _ w
  · have hne : (decide (x < 0) == decide (y < 0)) = false := by simpa using hs
    have hxy : (x < 0 ∧ ¬ y < 0) ∨ (¬ x < 0 ∧ y < 0) := by
      by_cases hx : x < 0 <;> by_cases hy : y < 0
      · rw [decide_eq_true hx, decide_eq_true hy] at hs; exact absurd rfl hs
      · exact Or.inl ⟨hx, hy⟩
      · exact Or.inr ⟨hx, hy⟩
      · rw [decide_eq_false hx, decide_eq_false hy] at hs; exact absurd rfl hs
    by_cases hlt : x.natAbs < y.natAbs
    · have e : (bigC (decide (x + y < 0)) (x + y).natAbs) = bigC (decide (y < 0)) (y.natAbs - x.natAbs) := by
        rw [show decide (x + y < 0) = decide (y < 0) by rcases hxy with ⟨h1, h2⟩ | ⟨h1, h2⟩; rw [decide_eq_false h2, decide_eq_false (by omega)]; rw [decide_eq_true h2, decide_eq_true (by omega)], show (x + y).natAbs = y.natAbs - x.natAbs by omega]
      rw [e]
      exact addSwap_calls _ _ hne _ _ (by omega) (by omega) hlt (by omega) w
    · by_cases hz : x.natAbs - y.natAbs = 0
      · have e : (bigC (decide (x + y < 0)) (x + y).natAbs) = bigC false (x.natAbs - y.natAbs) := by
          rw [decide_eq_false (by omega), show (x + y).natAbs = x.natAbs - y.natAbs by omega]
        rw [e]
        exact addDifZ_calls _ _ hne _ _ (by omega) (by omega) (by omega) hz w
      · have e : (bigC (decide (x + y < 0)) (x + y).natAbs) = bigC (decide (x < 0)) (x.natAbs - y.natAbs) := by
          rw [show decide (x + y < 0) = decide (x < 0) by rcases hxy with ⟨h1, h2⟩ | ⟨h1, h2⟩; rw [decide_eq_true h1, decide_eq_true (by omega)]; rw [decide_eq_false h1, decide_eq_false (by omega)], show (x + y).natAbs = x.natAbs - y.natAbs by omega]
        rw [e]
        exact addDif_calls _ _ hne _ _ (by omega) (by omega) (by omega) hz w
end Go.Proofs.Ytggididnclfahaa
