/- Proved here: lemmas and contracts (what a function of the program computes) that the proofs of the laws of this seat lean on. Conditions: as each theorem states. -/
import Derived.Test.YtggididnclfahaaBg2
set_option linter.unusedVariables false
set_option linter.unusedSimpArgs false
namespace Go.Proofs.Ytggididnclfahaa
open Go.RowKit Go.Pk Go.Pk.Bg
set_option maxHeartbeats 8000000 in
set_option maxRecDepth 100000 in
theorem plus_calls (ma mb : Bool) (a b : Nat) (w : World) : Calls Try.prog 41 #[.agg (bigC ma a), .agg (bigC mb b)] w fun e w' => e = .returned (.agg (bigC ma (a + b))) ∧ Below w.heap.size w w' := by
  have hX : Hid (bigC ma a = #[.bool ma, .int .i64 (dg a 0 : Nat), .int .i64 (dg a 1 : Nat), .int .i64 (dg a 2 : Nat), .int .i64 (dg a 3 : Nat), .int .i64 (dg a 4 : Nat), .int .i64 (dg a 5 : Nat)]) := rfl
  have hY : Hid (bigC mb b = #[.bool mb, .int .i64 (dg b 0 : Nat), .int .i64 (dg b 1 : Nat), .int .i64 (dg b 2 : Nat), .int .i64 (dg b 3 : Nat), .int .i64 (dg b 4 : Nat), .int .i64 (dg b 5 : Nat)]) := rfl
  have h00 := hidI (mix_0 ma (dg (a + b)) a)
  have h66 := hidI (mix_6 ma (dg a) (a + b))
  rw [hX.out, hY.out]
  go_enter Try.func41, Try.ntmps41
  go_upto_region 3 with fail
  have hk1 := blk_alloc (blk_alloc (blk_new w (.cells #[.bool ma, .int .i64 (dg a 0 : Nat), .int .i64 (dg a 1 : Nat), .int .i64 (dg a 2 : Nat), .int .i64 (dg a 3 : Nat), .int .i64 (dg a 4 : Nat), .int .i64 (dg a 5 : Nat)] 46)) (.cells #[.bool mb, .int .i64 (dg b 0 : Nat), .int .i64 (dg b 1 : Nat), .int .i64 (dg b 2 : Nat), .int .i64 (dg b 3 : Nat), .int .i64 (dg b 4 : Nat), .int .i64 (dg b 5 : Nat)] 46)) (.cells #[.bool false, .int .i64 0, .int .i64 0, .int .i64 0, .int .i64 0, .int .i64 0, .int .i64 0] 46)
  have hk2 : (((w.alloc (.cells #[.bool ma, .int .i64 (dg a 0 : Nat), .int .i64 (dg a 1 : Nat), .int .i64 (dg a 2 : Nat), .int .i64 (dg a 3 : Nat), .int .i64 (dg a 4 : Nat), .int .i64 (dg a 5 : Nat)] 46)).alloc (.cells #[.bool mb, .int .i64 (dg b 0 : Nat), .int .i64 (dg b 1 : Nat), .int .i64 (dg b 2 : Nat), .int .i64 (dg b 3 : Nat), .int .i64 (dg b 4 : Nat), .int .i64 (dg b 5 : Nat)] 46)).alloc (.cells #[.bool false, .int .i64 0, .int .i64 0, .int .i64 0, .int .i64 0, .int .i64 0, .int .i64 0] 46)).heap[w.heap.size + 1]? = some (.cells #[.bool mb, .int .i64 (dg b 0 : Nat), .int .i64 (dg b 1 : Nat), .int .i64 (dg b 2 : Nat), .int .i64 (dg b 3 : Nat), .int .i64 (dg b 4 : Nat), .int .i64 (dg b 5 : Nat)] 46 (0, 0)) := by have h_ := blk_alloc (blk_new (w.alloc (.cells #[.bool ma, .int .i64 (dg a 0 : Nat), .int .i64 (dg a 1 : Nat), .int .i64 (dg a 2 : Nat), .int .i64 (dg a 3 : Nat), .int .i64 (dg a 4 : Nat), .int .i64 (dg a 5 : Nat)] 46)) (.cells #[.bool mb, .int .i64 (dg b 0 : Nat), .int .i64 (dg b 1 : Nat), .int .i64 (dg b 2 : Nat), .int .i64 (dg b 3 : Nat), .int .i64 (dg b 4 : Nat), .int .i64 (dg b 5 : Nat)] 46)) (.cells #[.bool false, .int .i64 0, .int .i64 0, .int .i64 0, .int .i64 0, .int .i64 0, .int .i64 0] 46); simpa using h_
  have hk3 : (((w.alloc (.cells #[.bool ma, .int .i64 (dg a 0 : Nat), .int .i64 (dg a 1 : Nat), .int .i64 (dg a 2 : Nat), .int .i64 (dg a 3 : Nat), .int .i64 (dg a 4 : Nat), .int .i64 (dg a 5 : Nat)] 46)).alloc (.cells #[.bool mb, .int .i64 (dg b 0 : Nat), .int .i64 (dg b 1 : Nat), .int .i64 (dg b 2 : Nat), .int .i64 (dg b 3 : Nat), .int .i64 (dg b 4 : Nat), .int .i64 (dg b 5 : Nat)] 46)).alloc (.cells #[.bool false, .int .i64 0, .int .i64 0, .int .i64 0, .int .i64 0, .int .i64 0, .int .i64 0] 46)).heap[w.heap.size + 1 + 1]? = some (.cells #[.bool false, .int .i64 0, .int .i64 0, .int .i64 0, .int .i64 0, .int .i64 0, .int .i64 0] 46 (0, 0)) := by have h_ := blk_new ((w.alloc (.cells #[.bool ma, .int .i64 (dg a 0 : Nat), .int .i64 (dg a 1 : Nat), .int .i64 (dg a 2 : Nat), .int .i64 (dg a 3 : Nat), .int .i64 (dg a 4 : Nat), .int .i64 (dg a 5 : Nat)] 46)).alloc (.cells #[.bool mb, .int .i64 (dg b 0 : Nat), .int .i64 (dg b 1 : Nat), .int .i64 (dg b 2 : Nat), .int .i64 (dg b 3 : Nat), .int .i64 (dg b 4 : Nat), .int .i64 (dg b 5 : Nat)] 46)) (.cells #[.bool false, .int .i64 0, .int .i64 0, .int .i64 0, .int .i64 0, .int .i64 0, .int .i64 0] 46); simpa using h_
  have hbw := bl_alloc (bl_alloc (bl_alloc (Below.refl w.heap.size w) (.cells #[.bool ma, .int .i64 (dg a 0 : Nat), .int .i64 (dg a 1 : Nat), .int .i64 (dg a 2 : Nat), .int .i64 (dg a 3 : Nat), .int .i64 (dg a 4 : Nat), .int .i64 (dg a 5 : Nat)] 46)) (.cells #[.bool mb, .int .i64 (dg b 0 : Nat), .int .i64 (dg b 1 : Nat), .int .i64 (dg b 2 : Nat), .int .i64 (dg b 3 : Nat), .int .i64 (dg b 4 : Nat), .int .i64 (dg b 5 : Nat)] 46)) (.cells #[.bool false, .int .i64 0, .int .i64 0, .int .i64 0, .int .i64 0, .int .i64 0, .int .i64 0] 46)
  generalize ((w.alloc (.cells #[.bool ma, .int .i64 (dg a 0 : Nat), .int .i64 (dg a 1 : Nat), .int .i64 (dg a 2 : Nat), .int .i64 (dg a 3 : Nat), .int .i64 (dg a 4 : Nat), .int .i64 (dg a 5 : Nat)] 46)).alloc (.cells #[.bool mb, .int .i64 (dg b 0 : Nat), .int .i64 (dg b 1 : Nat), .int .i64 (dg b 2 : Nat), .int .i64 (dg b 3 : Nat), .int .i64 (dg b 4 : Nat), .int .i64 (dg b 5 : Nat)] 46)).alloc (.cells #[.bool false, .int .i64 0, .int .i64 0, .int .i64 0, .int .i64 0, .int .i64 0, .int .i64 0] 46) = W1 at *
  obtain ⟨g1, hg1⟩ : ∃ g, g = w.heap.size := ⟨_, rfl⟩
  obtain ⟨g2, hg2⟩ : ∃ g, g = w.heap.size + 1 := ⟨_, rfl⟩
  obtain ⟨g3, hg3⟩ : ∃ g, g = w.heap.size + 1 + 1 := ⟨_, rfl⟩
  rw [← hg3] at hk3 ⊢
  rw [← hg2] at hk2 ⊢
  rw [← hg1] at hk1 ⊢
  have hn12 : g1 ≠ g2 := by omega
  have hn13 : g1 ≠ g3 := by omega
  have hn23 : g2 ≠ g3 := by omega
  have hl1 : w.heap.size ≤ g1 := by omega
  have hl2 : w.heap.size ≤ g2 := by omega
  have hl3 : w.heap.size ≤ g3 := by omega
  clear hg1 hg2 hg3
  rw [← hX.out, ← h00.out] at hk1
  rw [← hY.out] at hk2
  go_wp2
  go_loopw [5, 6] (fun x5 x wr => ∃ i : Nat, i ≤ 6 ∧ x = .int .i64 i ∧ x5 = .int .i64 (cy a b i : Nat) ∧ Below w.heap.size w wr ∧ wr.heap[g1]? = some (.cells (mixC ma (dg (a + b)) (dg a) i) 46 (0, 0)) ∧ wr.heap[g2]? = some (.cells (bigC mb b) 46 (0, 0)) ∧ wr.heap[g3]? = some (.cells #[.bool false, .int .i64 0, .int .i64 0, .int .i64 0, .int .i64 0, .int .i64 0, .int .i64 0] 46 (0, 0))) (fun _ x _ => (6 - intOf x).toNat)
  case atStart => exact ⟨0, by omega, rfl, by rw [cy_0]; rfl, hbw, hk1, hk2, hk3⟩
  case round =>
    clear hbw hk1 hk2 hk3
    obtain ⟨i, hi, rfl, rfl, hbw, hk1, hk2, hk3⟩ := hrel
    by_cases hlt : i < 6
    · have hd : decide ((i : Int) < 6) = true := decide_eq_true (by omega)
      have y1 := blk_cell hk1 (1 + i) (mix_at ma _ _ hlt)
      have y2 := blk_cell hk2 (1 + i) (big_at mb b hlt)
      have hb64 : ((i : Int) + 1) ≤ 9223372036854775807 := by omega
      obtain ⟨s1, s2⟩ := add_dg a b i
      have l1 := dg_lt a i
      have l2 := dg_lt b i
      have l3 := cy_le a b i
      obtain ⟨D, hD⟩ : ∃ D : Int, ((dg a i : Nat) : Int) = D := ⟨_, rfl⟩
      obtain ⟨E, hE⟩ : ∃ E : Int, ((dg b i : Nat) : Int) = E := ⟨_, rfl⟩
      obtain ⟨C, hC⟩ : ∃ C : Int, ((cy a b i : Nat) : Int) = C := ⟨_, rfl⟩
      obtain ⟨R, hR⟩ : ∃ R : Int, ((dg (a + b) i : Nat) : Int) = R := ⟨_, rfl⟩
      obtain ⟨Q, hQ⟩ : ∃ Q : Int, ((cy a b (i + 1) : Nat) : Int) = Q := ⟨_, rfl⟩
      obtain ⟨V, hV⟩ : ∃ V : Int, D + E + C = V := ⟨_, rfl⟩
      have hV0 : 0 ≤ V := by omega
      have hV1 : V ≤ 9000000000 := by omega
      have hr : V % 4294967296 = R := by omega
      have hq : V / 4294967296 = Q := by omega
      have hr2 : V.tmod 4294967296 = R := by rw [Int.tmod_eq_emod_of_nonneg hV0]; exact hr
      have hq2 : V.tdiv 4294967296 = Q := by rw [Int.tdiv_eq_ediv_of_nonneg hV0]; exact hq
      have w1 : Hid (IntKind.i64.wrap (D + E) = D + E) := IntWalk.i64_in _ (by omega)
      have w2 : Hid (IntKind.i64.wrap (D + E + C) = V) := by show _ = _; rw [IntWalk.i64_in _ (by omega)]; exact hV
      rw [hD] at y1
      rw [hE] at y2
      rw [hC]
      have hk4 := hidI (fun (W : World) (h : W.heap[g1]? = some (.cells (mixC ma (dg (a + b)) (dg a) i) 46 (0, 0))) => by
        have h_ := blk_set h (1 + i) (.int .i64 (dg (a + b) i : Nat))
        rw [mix_set ma _ _ hlt, hR] at h_
        exact h_)
      have z1 := blkf hk1 (1 + i)
      replace hQ := hidI hQ
      have w1 := w1.out
      have w2 := w2.out
      clear s1 s2 l1 l2 l3 hD hE hC hR hV
      go_wp2
      go_quiet (fail)
      clear w1 w2 y2
      replace hbw := bl_drewN hbw nq
      replace hk1 := blk_drewN hk1 nq
      replace hk2 := blk_drewN hk2 nq
      replace hk3 := blk_drewN hk3 nq
      replace y1 : (wr.drewN nq).cell? ⟨g1, 1 + i, none⟩ = some (.int .i64 D) := y1
      replace z1 : (wr.drewN nq).frozen? ⟨g1, 1 + i, none⟩ = false := z1
      generalize wr.drewN nq = W2 at *
      have hk5 := hidI (hk4.out W2 hk1)
      have hk6 := hidI (blk_far hk2 (a := ⟨g1, 1 + i, none⟩) hn12 (.int .i64 R))
      have hk7 := hidI (blk_far hk3 (a := ⟨g1, 1 + i, none⟩) hn13 (.int .i64 R))
      have hb3 := hidI (bl_set hbw (p := ⟨g1, 1 + i, none⟩) hl1 (.int .i64 R))
      clear hk1 hk2 hk3 hbw hk4
      go_wp2
      clear hr hq hr2 hq2 hV0 hV1
      go_roundw
      case rel => exact ⟨i + 1, by omega, by go_num, by rw [hQ.out], hb3.out, hk5.out, hk6.out, hk7.out⟩
      case measure => simp [intOf]; omega
    · obtain rfl : i = 6 := by omega
      have hd : decide ((6 : Int) < 6) = false := by decide
      rw [h66.out] at hk1
      clear hk2
      have e0 : wr.cell? ⟨g1, 0, none⟩ = some (.bool ma) := blk_cell hk1 0 (by rfl)
      have e1 : wr.cell? ⟨g1, 1, none⟩ = some (.int .i64 (dg (a + b) 0 : Nat)) := blk_cell hk1 1 (by rfl)
      have e2 : wr.cell? ⟨g1, 2, none⟩ = some (.int .i64 (dg (a + b) 1 : Nat)) := blk_cell hk1 2 (by rfl)
      have e3 : wr.cell? ⟨g1, 3, none⟩ = some (.int .i64 (dg (a + b) 2 : Nat)) := blk_cell hk1 3 (by rfl)
      have e4 : wr.cell? ⟨g1, 4, none⟩ = some (.int .i64 (dg (a + b) 3 : Nat)) := blk_cell hk1 4 (by rfl)
      have e5 : wr.cell? ⟨g1, 5, none⟩ = some (.int .i64 (dg (a + b) 4 : Nat)) := blk_cell hk1 5 (by rfl)
      have e6 : wr.cell? ⟨g1, 6, none⟩ = some (.int .i64 (dg (a + b) 5 : Nat)) := blk_cell hk1 6 (by rfl)
      have r0 : wr.cell? ⟨g3, 0, none⟩ = some (.bool false) := blk_cell hk3 0 (by rfl)
      have r1 : wr.cell? ⟨g3, 1, none⟩ = some (.int .i64 0) := blk_cell hk3 1 (by rfl)
      have r2 : wr.cell? ⟨g3, 2, none⟩ = some (.int .i64 0) := blk_cell hk3 2 (by rfl)
      have r3 : wr.cell? ⟨g3, 3, none⟩ = some (.int .i64 0) := blk_cell hk3 3 (by rfl)
      have r4 : wr.cell? ⟨g3, 4, none⟩ = some (.int .i64 0) := blk_cell hk3 4 (by rfl)
      have r5 : wr.cell? ⟨g3, 5, none⟩ = some (.int .i64 0) := blk_cell hk3 5 (by rfl)
      have r6 : wr.cell? ⟨g3, 6, none⟩ = some (.int .i64 0) := blk_cell hk3 6 (by rfl)
      have rz0 := blkf hk3 0
      have rz1 := blkf hk3 1
      have rz2 := blkf hk3 2
      have rz3 := blkf hk3 3
      have rz4 := blkf hk3 4
      have rz5 := blkf hk3 5
      have rz6 := blkf hk3 6
      have hkf := hidI (blk_set (blk_set (blk_set (blk_set (blk_set (blk_set (blk_set hk3 0 (.bool ma)) 1 (.int .i64 (dg (a + b) 0 : Nat))) 2 (.int .i64 (dg (a + b) 1 : Nat))) 3 (.int .i64 (dg (a + b) 2 : Nat))) 4 (.int .i64 (dg (a + b) 3 : Nat))) 5 (.int .i64 (dg (a + b) 4 : Nat))) 6 (.int .i64 (dg (a + b) 5 : Nat)))
      have hbf := hidI (bl_set (bl_set (bl_set (bl_set (bl_set (bl_set (bl_set hbw (p := ⟨g3, 0, none⟩) hl3 (.bool ma)) (p := ⟨g3, 1, none⟩) hl3 (.int .i64 (dg (a + b) 0 : Nat))) (p := ⟨g3, 2, none⟩) hl3 (.int .i64 (dg (a + b) 1 : Nat))) (p := ⟨g3, 3, none⟩) hl3 (.int .i64 (dg (a + b) 2 : Nat))) (p := ⟨g3, 4, none⟩) hl3 (.int .i64 (dg (a + b) 3 : Nat))) (p := ⟨g3, 5, none⟩) hl3 (.int .i64 (dg (a + b) 4 : Nat))) (p := ⟨g3, 6, none⟩) hl3 (.int .i64 (dg (a + b) 5 : Nat)))
      clear hk1 hk3 hbw
      go_wp2
      refine bodyPost_ret (results_cell_row rfl _ _ (g3) 46 #[.bool ma, .int .i64 (dg (a + b) 0 : Nat), .int .i64 (dg (a + b) 1 : Nat), .int .i64 (dg (a + b) 2 : Nat), .int .i64 (dg (a + b) 3 : Nat), .int .i64 (dg (a + b) 4 : Nat), .int .i64 (dg (a + b) 5 : Nat)] (0, 0) _ rfl (by have h_ := hkf.out; simpa using h_) Try.underlying46 rfl (by kernel_rfl)) rfl ?_
      exact ⟨rfl, hbf.out⟩
set_option maxHeartbeats 8000000 in
set_option maxRecDepth 100000 in
theorem less_calls (ma mb : Bool) (a b : Nat) (hba : b ≤ a) (w : World) : Calls Try.prog 43 #[.agg (bigC ma a), .agg (bigC mb b)] w fun e w' => e = .returned (.agg (bigC ma (a - b))) ∧ Below w.heap.size w w' := by
  have hX : Hid (bigC ma a = #[.bool ma, .int .i64 (dg a 0 : Nat), .int .i64 (dg a 1 : Nat), .int .i64 (dg a 2 : Nat), .int .i64 (dg a 3 : Nat), .int .i64 (dg a 4 : Nat), .int .i64 (dg a 5 : Nat)]) := rfl
  have hY : Hid (bigC mb b = #[.bool mb, .int .i64 (dg b 0 : Nat), .int .i64 (dg b 1 : Nat), .int .i64 (dg b 2 : Nat), .int .i64 (dg b 3 : Nat), .int .i64 (dg b 4 : Nat), .int .i64 (dg b 5 : Nat)]) := rfl
  have h00 := hidI (mix_0 ma (dg (a - b)) a)
  have h66 := hidI (mix_6 ma (dg a) (a - b))
  rw [hX.out, hY.out]
  replace hba := hidI hba
  go_enter Try.func43, Try.ntmps43
  go_upto_region 3 with fail
  have hk1 := blk_alloc (blk_alloc (blk_new w (.cells #[.bool ma, .int .i64 (dg a 0 : Nat), .int .i64 (dg a 1 : Nat), .int .i64 (dg a 2 : Nat), .int .i64 (dg a 3 : Nat), .int .i64 (dg a 4 : Nat), .int .i64 (dg a 5 : Nat)] 46)) (.cells #[.bool mb, .int .i64 (dg b 0 : Nat), .int .i64 (dg b 1 : Nat), .int .i64 (dg b 2 : Nat), .int .i64 (dg b 3 : Nat), .int .i64 (dg b 4 : Nat), .int .i64 (dg b 5 : Nat)] 46)) (.cells #[.bool false, .int .i64 0, .int .i64 0, .int .i64 0, .int .i64 0, .int .i64 0, .int .i64 0] 46)
  have hk2 : (((w.alloc (.cells #[.bool ma, .int .i64 (dg a 0 : Nat), .int .i64 (dg a 1 : Nat), .int .i64 (dg a 2 : Nat), .int .i64 (dg a 3 : Nat), .int .i64 (dg a 4 : Nat), .int .i64 (dg a 5 : Nat)] 46)).alloc (.cells #[.bool mb, .int .i64 (dg b 0 : Nat), .int .i64 (dg b 1 : Nat), .int .i64 (dg b 2 : Nat), .int .i64 (dg b 3 : Nat), .int .i64 (dg b 4 : Nat), .int .i64 (dg b 5 : Nat)] 46)).alloc (.cells #[.bool false, .int .i64 0, .int .i64 0, .int .i64 0, .int .i64 0, .int .i64 0, .int .i64 0] 46)).heap[w.heap.size + 1]? = some (.cells #[.bool mb, .int .i64 (dg b 0 : Nat), .int .i64 (dg b 1 : Nat), .int .i64 (dg b 2 : Nat), .int .i64 (dg b 3 : Nat), .int .i64 (dg b 4 : Nat), .int .i64 (dg b 5 : Nat)] 46 (0, 0)) := by have h_ := blk_alloc (blk_new (w.alloc (.cells #[.bool ma, .int .i64 (dg a 0 : Nat), .int .i64 (dg a 1 : Nat), .int .i64 (dg a 2 : Nat), .int .i64 (dg a 3 : Nat), .int .i64 (dg a 4 : Nat), .int .i64 (dg a 5 : Nat)] 46)) (.cells #[.bool mb, .int .i64 (dg b 0 : Nat), .int .i64 (dg b 1 : Nat), .int .i64 (dg b 2 : Nat), .int .i64 (dg b 3 : Nat), .int .i64 (dg b 4 : Nat), .int .i64 (dg b 5 : Nat)] 46)) (.cells #[.bool false, .int .i64 0, .int .i64 0, .int .i64 0, .int .i64 0, .int .i64 0, .int .i64 0] 46); simpa using h_
  have hk3 : (((w.alloc (.cells #[.bool ma, .int .i64 (dg a 0 : Nat), .int .i64 (dg a 1 : Nat), .int .i64 (dg a 2 : Nat), .int .i64 (dg a 3 : Nat), .int .i64 (dg a 4 : Nat), .int .i64 (dg a 5 : Nat)] 46)).alloc (.cells #[.bool mb, .int .i64 (dg b 0 : Nat), .int .i64 (dg b 1 : Nat), .int .i64 (dg b 2 : Nat), .int .i64 (dg b 3 : Nat), .int .i64 (dg b 4 : Nat), .int .i64 (dg b 5 : Nat)] 46)).alloc (.cells #[.bool false, .int .i64 0, .int .i64 0, .int .i64 0, .int .i64 0, .int .i64 0, .int .i64 0] 46)).heap[w.heap.size + 1 + 1]? = some (.cells #[.bool false, .int .i64 0, .int .i64 0, .int .i64 0, .int .i64 0, .int .i64 0, .int .i64 0] 46 (0, 0)) := by have h_ := blk_new ((w.alloc (.cells #[.bool ma, .int .i64 (dg a 0 : Nat), .int .i64 (dg a 1 : Nat), .int .i64 (dg a 2 : Nat), .int .i64 (dg a 3 : Nat), .int .i64 (dg a 4 : Nat), .int .i64 (dg a 5 : Nat)] 46)).alloc (.cells #[.bool mb, .int .i64 (dg b 0 : Nat), .int .i64 (dg b 1 : Nat), .int .i64 (dg b 2 : Nat), .int .i64 (dg b 3 : Nat), .int .i64 (dg b 4 : Nat), .int .i64 (dg b 5 : Nat)] 46)) (.cells #[.bool false, .int .i64 0, .int .i64 0, .int .i64 0, .int .i64 0, .int .i64 0, .int .i64 0] 46); simpa using h_
  have hbw := bl_alloc (bl_alloc (bl_alloc (Below.refl w.heap.size w) (.cells #[.bool ma, .int .i64 (dg a 0 : Nat), .int .i64 (dg a 1 : Nat), .int .i64 (dg a 2 : Nat), .int .i64 (dg a 3 : Nat), .int .i64 (dg a 4 : Nat), .int .i64 (dg a 5 : Nat)] 46)) (.cells #[.bool mb, .int .i64 (dg b 0 : Nat), .int .i64 (dg b 1 : Nat), .int .i64 (dg b 2 : Nat), .int .i64 (dg b 3 : Nat), .int .i64 (dg b 4 : Nat), .int .i64 (dg b 5 : Nat)] 46)) (.cells #[.bool false, .int .i64 0, .int .i64 0, .int .i64 0, .int .i64 0, .int .i64 0, .int .i64 0] 46)
  generalize ((w.alloc (.cells #[.bool ma, .int .i64 (dg a 0 : Nat), .int .i64 (dg a 1 : Nat), .int .i64 (dg a 2 : Nat), .int .i64 (dg a 3 : Nat), .int .i64 (dg a 4 : Nat), .int .i64 (dg a 5 : Nat)] 46)).alloc (.cells #[.bool mb, .int .i64 (dg b 0 : Nat), .int .i64 (dg b 1 : Nat), .int .i64 (dg b 2 : Nat), .int .i64 (dg b 3 : Nat), .int .i64 (dg b 4 : Nat), .int .i64 (dg b 5 : Nat)] 46)).alloc (.cells #[.bool false, .int .i64 0, .int .i64 0, .int .i64 0, .int .i64 0, .int .i64 0, .int .i64 0] 46) = W1 at *
  obtain ⟨g1, hg1⟩ : ∃ g, g = w.heap.size := ⟨_, rfl⟩
  obtain ⟨g2, hg2⟩ : ∃ g, g = w.heap.size + 1 := ⟨_, rfl⟩
  obtain ⟨g3, hg3⟩ : ∃ g, g = w.heap.size + 1 + 1 := ⟨_, rfl⟩
  rw [← hg3] at hk3 ⊢
  rw [← hg2] at hk2 ⊢
  rw [← hg1] at hk1 ⊢
  have hn12 : g1 ≠ g2 := by omega
  have hn13 : g1 ≠ g3 := by omega
  have hn23 : g2 ≠ g3 := by omega
  have hl1 : w.heap.size ≤ g1 := by omega
  have hl2 : w.heap.size ≤ g2 := by omega
  have hl3 : w.heap.size ≤ g3 := by omega
  clear hg1 hg2 hg3
  rw [← hX.out, ← h00.out] at hk1
  rw [← hY.out] at hk2
  go_wp2
  go_loopw [5, 6] (fun x5 x wr => ∃ i : Nat, i ≤ 6 ∧ x = .int .i64 i ∧ x5 = .int .i64 (bw a b i : Nat) ∧ Below w.heap.size w wr ∧ wr.heap[g1]? = some (.cells (mixC ma (dg (a - b)) (dg a) i) 46 (0, 0)) ∧ wr.heap[g2]? = some (.cells (bigC mb b) 46 (0, 0)) ∧ wr.heap[g3]? = some (.cells #[.bool false, .int .i64 0, .int .i64 0, .int .i64 0, .int .i64 0, .int .i64 0, .int .i64 0] 46 (0, 0))) (fun _ x _ => (6 - intOf x).toNat)
  case atStart => exact ⟨0, by omega, rfl, by rw [bw_0]; rfl, hbw, hk1, hk2, hk3⟩
  case round =>
    clear hbw hk1 hk2 hk3
    obtain ⟨i, hi, rfl, rfl, hbw, hk1, hk2, hk3⟩ := hrel
    by_cases hlt : i < 6
    · have hd : decide ((i : Int) < 6) = true := decide_eq_true (by omega)
      have y1 := blk_cell hk1 (1 + i) (mix_at ma _ _ hlt)
      have y2 := blk_cell hk2 (1 + i) (big_at mb b hlt)
      have hb64 : ((i : Int) + 1) ≤ 9223372036854775807 := by omega
      obtain ⟨s1, s2⟩ := sub_dg hba.out i
      have l1 := dg_lt a i
      have l2 := dg_lt b i
      have l3 := bw_le a b i
      obtain ⟨D, hD⟩ : ∃ D : Int, ((dg a i : Nat) : Int) = D := ⟨_, rfl⟩
      obtain ⟨E, hE⟩ : ∃ E : Int, ((dg b i : Nat) : Int) = E := ⟨_, rfl⟩
      obtain ⟨C, hC⟩ : ∃ C : Int, ((bw a b i : Nat) : Int) = C := ⟨_, rfl⟩
      obtain ⟨R, hR⟩ : ∃ R : Int, ((dg (a - b) i : Nat) : Int) = R := ⟨_, rfl⟩
      obtain ⟨V, hV⟩ : ∃ V : Int, D - E - C = V := ⟨_, rfl⟩
      have hV0 : -9000000000 ≤ V := by omega
      have hV1 : V ≤ 9000000000 := by omega
      have w1 : Hid (IntKind.i64.wrap (D - E) = D - E) := IntWalk.i64_in _ (by omega)
      have w2 : Hid (IntKind.i64.wrap (D - E - C) = V) := by show _ = _; rw [IntWalk.i64_in _ (by omega)]; exact hV
      have hcase : (V < 0 ∧ V + 4294967296 = R ∧ bw a b (i + 1) = 1) ∨ (¬ V < 0 ∧ V = R ∧ bw a b (i + 1) = 0) := by
        by_cases hc : dg a i < dg b i + bw a b i
        · obtain ⟨t1, t2⟩ := s1 hc
          exact Or.inl ⟨by omega, by omega, t2⟩
        · obtain ⟨t1, t2⟩ := s2 (by omega)
          exact Or.inr ⟨by omega, by omega, t2⟩
      rw [hD] at y1
      rw [hE] at y2
      rw [hC]
      have hk4 := hidI (fun (W : World) (h : W.heap[g1]? = some (.cells (mixC ma (dg (a - b)) (dg a) i) 46 (0, 0))) => by
        have h_ := blk_set h (1 + i) (.int .i64 (dg (a - b) i : Nat))
        rw [mix_set ma _ _ hlt, hR] at h_
        exact h_)
      have z1 := blkf hk1 (1 + i)
      replace hcase := hidI hcase
      have w1 := w1.out
      have w2 := w2.out
      clear s1 s2 l1 l2 l3 hD hE hC hR hV
      go_wp2
      go_quiet (fail)
      clear w1 w2 y2
      replace hbw := bl_drewN hbw nq
      replace hk1 := blk_drewN hk1 nq
      replace hk2 := blk_drewN hk2 nq
      replace hk3 := blk_drewN hk3 nq
      replace y1 : (wr.drewN nq).cell? ⟨g1, 1 + i, none⟩ = some (.int .i64 D) := y1
      replace z1 : (wr.drewN nq).frozen? ⟨g1, 1 + i, none⟩ = false := z1
      generalize wr.drewN nq = W2 at *
      have hk5 := hidI (hk4.out W2 hk1)
      have hk6 := hidI (blk_far hk2 (a := ⟨g1, 1 + i, none⟩) hn12 (.int .i64 R))
      have hk7 := hidI (blk_far hk3 (a := ⟨g1, 1 + i, none⟩) hn13 (.int .i64 R))
      have hb3 := hidI (bl_set hbw (p := ⟨g1, 1 + i, none⟩) hl1 (.int .i64 R))
      clear hk1 hk2 hk3 hbw hk4
      rcases hcase.out with ⟨c1, c2, c3⟩ | ⟨c1, c2, c3⟩
      · have dv : decide (V < 0) = true := decide_eq_true c1
        have hw : wrap64 (V + 4294967296) = R := by rw [IntWalk.wrap64_in _ (by omega)]; exact c2
        replace c3 := hidI c3
        clear c1 c2 hcase hV0 hV1
        go_wp2
        clear hw
        go_roundw
        case rel => exact ⟨i + 1, by omega, by go_num, by rw [c3.out]; rfl, hb3.out, hk5.out, hk6.out, hk7.out⟩
        case measure => simp [intOf]; omega
      · have dv : decide (V < 0) = false := decide_eq_false (by omega)
        replace c3 := hidI c3
        rw [← c2] at hb3 hk5 hk6 hk7
        clear c1 c2 hcase hV0 hV1
        go_wp2
        go_roundw
        case rel => exact ⟨i + 1, by omega, by go_num, by rw [c3.out]; rfl, hb3.out, hk5.out, hk6.out, hk7.out⟩
        case measure => simp [intOf]; omega
    · obtain rfl : i = 6 := by omega
      have hd : decide ((6 : Int) < 6) = false := by decide
      rw [h66.out] at hk1
      clear hk2
      have e0 : wr.cell? ⟨g1, 0, none⟩ = some (.bool ma) := blk_cell hk1 0 (by rfl)
      have e1 : wr.cell? ⟨g1, 1, none⟩ = some (.int .i64 (dg (a - b) 0 : Nat)) := blk_cell hk1 1 (by rfl)
      have e2 : wr.cell? ⟨g1, 2, none⟩ = some (.int .i64 (dg (a - b) 1 : Nat)) := blk_cell hk1 2 (by rfl)
      have e3 : wr.cell? ⟨g1, 3, none⟩ = some (.int .i64 (dg (a - b) 2 : Nat)) := blk_cell hk1 3 (by rfl)
      have e4 : wr.cell? ⟨g1, 4, none⟩ = some (.int .i64 (dg (a - b) 3 : Nat)) := blk_cell hk1 4 (by rfl)
      have e5 : wr.cell? ⟨g1, 5, none⟩ = some (.int .i64 (dg (a - b) 4 : Nat)) := blk_cell hk1 5 (by rfl)
      have e6 : wr.cell? ⟨g1, 6, none⟩ = some (.int .i64 (dg (a - b) 5 : Nat)) := blk_cell hk1 6 (by rfl)
      have r0 : wr.cell? ⟨g3, 0, none⟩ = some (.bool false) := blk_cell hk3 0 (by rfl)
      have r1 : wr.cell? ⟨g3, 1, none⟩ = some (.int .i64 0) := blk_cell hk3 1 (by rfl)
      have r2 : wr.cell? ⟨g3, 2, none⟩ = some (.int .i64 0) := blk_cell hk3 2 (by rfl)
      have r3 : wr.cell? ⟨g3, 3, none⟩ = some (.int .i64 0) := blk_cell hk3 3 (by rfl)
      have r4 : wr.cell? ⟨g3, 4, none⟩ = some (.int .i64 0) := blk_cell hk3 4 (by rfl)
      have r5 : wr.cell? ⟨g3, 5, none⟩ = some (.int .i64 0) := blk_cell hk3 5 (by rfl)
      have r6 : wr.cell? ⟨g3, 6, none⟩ = some (.int .i64 0) := blk_cell hk3 6 (by rfl)
      have rz0 := blkf hk3 0
      have rz1 := blkf hk3 1
      have rz2 := blkf hk3 2
      have rz3 := blkf hk3 3
      have rz4 := blkf hk3 4
      have rz5 := blkf hk3 5
      have rz6 := blkf hk3 6
      have hkf := hidI (blk_set (blk_set (blk_set (blk_set (blk_set (blk_set (blk_set hk3 0 (.bool ma)) 1 (.int .i64 (dg (a - b) 0 : Nat))) 2 (.int .i64 (dg (a - b) 1 : Nat))) 3 (.int .i64 (dg (a - b) 2 : Nat))) 4 (.int .i64 (dg (a - b) 3 : Nat))) 5 (.int .i64 (dg (a - b) 4 : Nat))) 6 (.int .i64 (dg (a - b) 5 : Nat)))
      have hbf := hidI (bl_set (bl_set (bl_set (bl_set (bl_set (bl_set (bl_set hbw (p := ⟨g3, 0, none⟩) hl3 (.bool ma)) (p := ⟨g3, 1, none⟩) hl3 (.int .i64 (dg (a - b) 0 : Nat))) (p := ⟨g3, 2, none⟩) hl3 (.int .i64 (dg (a - b) 1 : Nat))) (p := ⟨g3, 3, none⟩) hl3 (.int .i64 (dg (a - b) 2 : Nat))) (p := ⟨g3, 4, none⟩) hl3 (.int .i64 (dg (a - b) 3 : Nat))) (p := ⟨g3, 5, none⟩) hl3 (.int .i64 (dg (a - b) 4 : Nat))) (p := ⟨g3, 6, none⟩) hl3 (.int .i64 (dg (a - b) 5 : Nat)))
      clear hk1 hk3 hbw
      go_wp2
      refine bodyPost_ret (results_cell_row rfl _ _ (g3) 46 #[.bool ma, .int .i64 (dg (a - b) 0 : Nat), .int .i64 (dg (a - b) 1 : Nat), .int .i64 (dg (a - b) 2 : Nat), .int .i64 (dg (a - b) 3 : Nat), .int .i64 (dg (a - b) 4 : Nat), .int .i64 (dg (a - b) 5 : Nat)] (0, 0) _ rfl (by have h_ := hkf.out; simpa using h_) Try.underlying46 rfl (by kernel_rfl)) rfl ?_
      exact ⟨rfl, hbf.out⟩
end Go.Proofs.Ytggididnclfahaa
