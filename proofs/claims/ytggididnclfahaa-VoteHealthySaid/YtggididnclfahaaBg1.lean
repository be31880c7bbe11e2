/- Proved here: lemmas and contracts (what a function of the program computes) that the proofs of the laws of this seat lean on. Conditions: as each theorem states. -/
import Derived.Test.YtggididnclfahaaBg
import Derived.Test.YtggididnclfahaaSpan
import Derived.ChangeKeysEq
set_option linter.unusedVariables false
set_option linter.unusedSimpArgs false
namespace Go.Proofs.Ytggididnclfahaa
open Go.RowKit Go.Pk Go.Pk.Bg
theorem infoB : (Try.prog.info? 3).map (fun i => (i.zero, i.size, i.bytes)) = some (some (.int .i64 0), 1, 8) := by kernel_rfl
theorem cells1 : Try.prog.cellsOf 3 = 1 := by kernel_rfl
theorem eq6 (w : World) (d : Nat) (a0 a1 a2 a3 a4 a5 : Int) : (Op.equalIn (d + 2) 44 (.agg #[.int .i64 a0, .int .i64 a1, .int .i64 a2, .int .i64 a3, .int .i64 a4, .int .i64 a5]) (.agg #[.int .i64 0, .int .i64 0, .int .i64 0, .int .i64 0, .int .i64 0, .int .i64 0])).run Try.prog w = .ok (a0 == 0 && (a1 == 0 && (a2 == 0 && (a3 == 0 && (a4 == 0 && a5 == 0))))) w := by
  obtain ⟨i, hi, -⟩ := Option.map_eq_some_iff.1 infoB
  rw [run_equalIn_array (P := Try.prog) w (d + 1) _ _ Try.underlying44 hi]
  simp only [show List.range 6 = [0, 1, 2, 3, 4, 5] from rfl, Op.eqItems, cells1]
  go_simp
  by_cases h0 : a0 = 0 <;> by_cases h1 : a1 = 0 <;> by_cases h2 : a2 = 0 <;> by_cases h3 : a3 = 0 <;> by_cases h4 : a4 = 0 <;> by_cases h5 : a5 = 0 <;> simp [*]
set_option maxHeartbeats 4000000 in
set_option maxRecDepth 100000 in
theorem zero_calls (m : Bool) (n : Nat) (hn : n < pw 6) (w : World) : Calls Try.prog 35 #[.agg (bigC m n)] w fun e w' => e = .returned (.bool (decide (n = 0))) ∧ Below w.heap.size w w' := by
  unfold bigC
  have hz : ((dg n 0 : Int) == 0 && (((dg n 1 : Nat) : Int) == 0 && (((dg n 2 : Nat) : Int) == 0 && (((dg n 3 : Nat) : Int) == 0 && (((dg n 4 : Nat) : Int) == 0 && ((dg n 5 : Nat) : Int) == 0))))) = decide (n = 0) := by
    by_cases h : n = 0
    · subst h; simp [dg_zero]
    · rw [decide_eq_false h]
      cases hc : ((dg n 0 : Int) == 0 && (((dg n 1 : Nat) : Int) == 0 && (((dg n 2 : Nat) : Int) == 0 && (((dg n 3 : Nat) : Int) == 0 && (((dg n 4 : Nat) : Int) == 0 && ((dg n 5 : Nat) : Int) == 0)))))
      · rfl
      · exfalso
        simp only [Bool.and_eq_true, beq_iff_eq] at hc
        obtain ⟨c0, c1, c2, c3, c4, c5⟩ := hc
        refine h (dg_all hn fun i hi => ?_)
        rcases (by omega : i = 0 ∨ i = 1 ∨ i = 2 ∨ i = 3 ∨ i = 4 ∨ i = 5) with rfl | rfl | rfl | rfl | rfl | rfl <;> omega
  have hq : ∀ w, (Op.equalIn 10000 44 (.agg #[.int .i64 (dg n 0 : Nat), .int .i64 (dg n 1 : Nat), .int .i64 (dg n 2 : Nat), .int .i64 (dg n 3 : Nat), .int .i64 (dg n 4 : Nat), .int .i64 (dg n 5 : Nat)]) (.agg #[.int .i64 0, .int .i64 0, .int .i64 0, .int .i64 0, .int .i64 0, .int .i64 0])).run Try.prog w = .ok (decide (n = 0)) w := fun w => by
    rw [← hz]; exact eq6 w 9998 _ _ _ _ _ _
  have hb : ∀ w, (binOp .eql 44 (.agg #[.int .i64 (dg n 0 : Nat), .int .i64 (dg n 1 : Nat), .int .i64 (dg n 2 : Nat), .int .i64 (dg n 3 : Nat), .int .i64 (dg n 4 : Nat), .int .i64 (dg n 5 : Nat)]) (.agg #[.int .i64 0, .int .i64 0, .int .i64 0, .int .i64 0, .int .i64 0, .int .i64 0])).run Try.prog w = .ok (.bool (decide (n = 0))) w := fun w => by
    rw [run_eql_struct, hq]; rfl
  clear hz hn hq
  obtain ⟨zz, hzz⟩ : ∃ z, decide (n = 0) = z := ⟨_, rfl⟩
  rw [hzz] at hb
  rw [hzz]
  replace hzz := hidI hzz
  go_enter Try.func35, Try.ntmps35
  go_wp2
  go_ret
  exact ⟨rfl, bl_alloc (Below.refl _ _) _⟩
set_option maxHeartbeats 8000000 in
set_option maxRecDepth 100000 in
theorem addOne_calls (m : Bool) (n : Nat) (hn : n + 1 < pw 6) (w : World) : Calls Try.prog 36 #[.agg (bigC m n)] w fun e w' => e = .returned (.agg (bigC m (n + 1))) ∧ Below w.heap.size w w' := by
  have hX : Hid (bigC m n = #[.bool m, .int .i64 (dg n 0 : Nat), .int .i64 (dg n 1 : Nat), .int .i64 (dg n 2 : Nat), .int .i64 (dg n 3 : Nat), .int .i64 (dg n 4 : Nat), .int .i64 (dg n 5 : Nat)]) := rfl
  have h00 := hidI (mix_0 m (dg (n + 1)) n)
  rw [hX.out]
  replace hn := hidI hn
  go_enter Try.func36, Try.ntmps36
  go_upto_region 2 with fail
  have hk1 := blk_alloc (blk_new w (.cells #[.bool m, .int .i64 (dg n 0 : Nat), .int .i64 (dg n 1 : Nat), .int .i64 (dg n 2 : Nat), .int .i64 (dg n 3 : Nat), .int .i64 (dg n 4 : Nat), .int .i64 (dg n 5 : Nat)] 46)) (.cells #[.bool false, .int .i64 0, .int .i64 0, .int .i64 0, .int .i64 0, .int .i64 0, .int .i64 0] 46)
  have hk2 : ((w.alloc (.cells #[.bool m, .int .i64 (dg n 0 : Nat), .int .i64 (dg n 1 : Nat), .int .i64 (dg n 2 : Nat), .int .i64 (dg n 3 : Nat), .int .i64 (dg n 4 : Nat), .int .i64 (dg n 5 : Nat)] 46)).alloc (.cells #[.bool false, .int .i64 0, .int .i64 0, .int .i64 0, .int .i64 0, .int .i64 0, .int .i64 0] 46)).heap[w.heap.size + 1]? = some (.cells #[.bool false, .int .i64 0, .int .i64 0, .int .i64 0, .int .i64 0, .int .i64 0, .int .i64 0] 46 (0, 0)) := by have h_ := blk_new (w.alloc (.cells #[.bool m, .int .i64 (dg n 0 : Nat), .int .i64 (dg n 1 : Nat), .int .i64 (dg n 2 : Nat), .int .i64 (dg n 3 : Nat), .int .i64 (dg n 4 : Nat), .int .i64 (dg n 5 : Nat)] 46)) (.cells #[.bool false, .int .i64 0, .int .i64 0, .int .i64 0, .int .i64 0, .int .i64 0, .int .i64 0] 46); simpa using h_
  have hbw := bl_alloc (bl_alloc (Below.refl w.heap.size w) (.cells #[.bool m, .int .i64 (dg n 0 : Nat), .int .i64 (dg n 1 : Nat), .int .i64 (dg n 2 : Nat), .int .i64 (dg n 3 : Nat), .int .i64 (dg n 4 : Nat), .int .i64 (dg n 5 : Nat)] 46)) (.cells #[.bool false, .int .i64 0, .int .i64 0, .int .i64 0, .int .i64 0, .int .i64 0, .int .i64 0] 46)
  generalize (w.alloc (.cells #[.bool m, .int .i64 (dg n 0 : Nat), .int .i64 (dg n 1 : Nat), .int .i64 (dg n 2 : Nat), .int .i64 (dg n 3 : Nat), .int .i64 (dg n 4 : Nat), .int .i64 (dg n 5 : Nat)] 46)).alloc (.cells #[.bool false, .int .i64 0, .int .i64 0, .int .i64 0, .int .i64 0, .int .i64 0, .int .i64 0] 46) = W1 at *
  obtain ⟨g1, hg1⟩ : ∃ g, g = w.heap.size := ⟨_, rfl⟩
  obtain ⟨g2, hg2⟩ : ∃ g, g = w.heap.size + 1 := ⟨_, rfl⟩
  rw [← hg2] at hk2 ⊢
  rw [← hg1] at hk1 ⊢
  have hn12 : g1 ≠ g2 := by omega
  have hl1 : w.heap.size ≤ g1 := by omega
  have hl2 : w.heap.size ≤ g2 := by omega
  clear hg1 hg2
  rw [← hX.out, ← h00.out] at hk1
  go_wp2
  go_loopw [3] (fun x wr => ∃ i : Nat, i ≤ 6 ∧ x = .int .i64 i ∧ Hid (dg 1 i + cy n 1 i = 1) ∧ Below w.heap.size w wr ∧ wr.heap[g1]? = some (.cells (mixC m (dg (n + 1)) (dg n) i) 46 (0, 0)) ∧ wr.heap[g2]? = some (.cells #[.bool false, .int .i64 0, .int .i64 0, .int .i64 0, .int .i64 0, .int .i64 0, .int .i64 0] 46 (0, 0))) (fun x _ => (6 - intOf x).toNat)
  case atStart => exact ⟨0, by omega, rfl, one_0 n, hbw, hk1, hk2⟩
  case round =>
    clear hbw hk1 hk2
    obtain ⟨i, hi, rfl, hinv, hbw, hk1, hk2⟩ := hrel
    by_cases hlt : i < 6
    · have hd : decide ((i : Int) < 6) = true := decide_eq_true (by omega)
      have y := blk_cell hk1 (1 + i) (mix_at m _ _ hlt)
      have z := blkf hk1 (1 + i)
      have hdl := dg_lt n i
      have hb64 : ((i : Int) + 1) ≤ 9223372036854775807 := by omega
      obtain ⟨D, hD⟩ : ∃ D : Int, ((dg n i : Nat) : Int) = D := ⟨_, rfl⟩
      have hv0 : D + 1 ≤ 4294967296 := by omega
      have hD0 : 0 ≤ D := by omega
      rw [hD] at y
      have hk3 := blk_set hk1 (1 + i) (.int .i64 (D + 1))
      have hk4 := blk_far hk2 (a := ⟨g1, 1 + i, none⟩) hn12 (.int .i64 (D + 1))
      have hb3 := bl_set hbw (p := ⟨g1, 1 + i, none⟩) hl1 (.int .i64 (D + 1))
      have y3 : (wr.setCell ⟨g1, 1 + i, none⟩ (.int .i64 (D + 1))).cell? ⟨g1, 1 + i, none⟩ = some (.int .i64 (D + 1)) := World.cell?_setCell_same' _ _ _ (by rw [y]; rfl)
      have z3 := blkf hk3 (1 + i)
      replace hD := hidI hD
      clear hk1 hk2 hbw hdl
      go_upto_region 4 with fail
      go_upto_region 5 with fail
      generalize wr.setCell ⟨g1, 1 + i, none⟩ (.int .i64 (D + 1)) = W2 at *
      clear y z
      by_cases hv : D + 1 < 4294967296
      · have dv : decide (D + 1 < 4294967296) = true := decide_eq_true hv
        obtain ⟨s1, s2⟩ := one_stop hinv.out (by have := hD.out; omega)
        rw [show D + 1 = ((dg (n + 1) i : Nat) : Int) by rw [s1, ← hD.out]; omega, mix_set m _ _ hlt, mix_eq m (fun j h1 _ => s2 j h1), mix_6] at hk3
        clear s1 s2 hinv hv z3
        have e0 : W2.cell? ⟨g1, 0, none⟩ = some (.bool m) := blk_cell hk3 0 (by rfl)
        have e1 : W2.cell? ⟨g1, 1, none⟩ = some (.int .i64 (dg (n + 1) 0 : Nat)) := blk_cell hk3 1 (by rfl)
        have e2 : W2.cell? ⟨g1, 2, none⟩ = some (.int .i64 (dg (n + 1) 1 : Nat)) := blk_cell hk3 2 (by rfl)
        have e3 : W2.cell? ⟨g1, 3, none⟩ = some (.int .i64 (dg (n + 1) 2 : Nat)) := blk_cell hk3 3 (by rfl)
        have e4 : W2.cell? ⟨g1, 4, none⟩ = some (.int .i64 (dg (n + 1) 3 : Nat)) := blk_cell hk3 4 (by rfl)
        have e5 : W2.cell? ⟨g1, 5, none⟩ = some (.int .i64 (dg (n + 1) 4 : Nat)) := blk_cell hk3 5 (by rfl)
        have e6 : W2.cell? ⟨g1, 6, none⟩ = some (.int .i64 (dg (n + 1) 5 : Nat)) := blk_cell hk3 6 (by rfl)
        have r0 : W2.cell? ⟨g2, 0, none⟩ = some (.bool false) := blk_cell hk4 0 (by rfl)
        have r1 : W2.cell? ⟨g2, 1, none⟩ = some (.int .i64 0) := blk_cell hk4 1 (by rfl)
        have r2 : W2.cell? ⟨g2, 2, none⟩ = some (.int .i64 0) := blk_cell hk4 2 (by rfl)
        have r3 : W2.cell? ⟨g2, 3, none⟩ = some (.int .i64 0) := blk_cell hk4 3 (by rfl)
        have r4 : W2.cell? ⟨g2, 4, none⟩ = some (.int .i64 0) := blk_cell hk4 4 (by rfl)
        have r5 : W2.cell? ⟨g2, 5, none⟩ = some (.int .i64 0) := blk_cell hk4 5 (by rfl)
        have r6 : W2.cell? ⟨g2, 6, none⟩ = some (.int .i64 0) := blk_cell hk4 6 (by rfl)
        have rz0 := blkf hk4 0
        have rz1 := blkf hk4 1
        have rz2 := blkf hk4 2
        have rz3 := blkf hk4 3
        have rz4 := blkf hk4 4
        have rz5 := blkf hk4 5
        have rz6 := blkf hk4 6
        have hkf := hidI (blk_set (blk_set (blk_set (blk_set (blk_set (blk_set (blk_set hk4 0 (.bool m)) 1 (.int .i64 (dg (n + 1) 0 : Nat))) 2 (.int .i64 (dg (n + 1) 1 : Nat))) 3 (.int .i64 (dg (n + 1) 2 : Nat))) 4 (.int .i64 (dg (n + 1) 3 : Nat))) 5 (.int .i64 (dg (n + 1) 4 : Nat))) 6 (.int .i64 (dg (n + 1) 5 : Nat)))
        have hbf := hidI (bl_set (bl_set (bl_set (bl_set (bl_set (bl_set (bl_set hb3 (p := ⟨g2, 0, none⟩) hl2 (.bool m)) (p := ⟨g2, 1, none⟩) hl2 (.int .i64 (dg (n + 1) 0 : Nat))) (p := ⟨g2, 2, none⟩) hl2 (.int .i64 (dg (n + 1) 1 : Nat))) (p := ⟨g2, 3, none⟩) hl2 (.int .i64 (dg (n + 1) 2 : Nat))) (p := ⟨g2, 4, none⟩) hl2 (.int .i64 (dg (n + 1) 3 : Nat))) (p := ⟨g2, 5, none⟩) hl2 (.int .i64 (dg (n + 1) 4 : Nat))) (p := ⟨g2, 6, none⟩) hl2 (.int .i64 (dg (n + 1) 5 : Nat)))
        clear hk3 hk4 hb3
        go_wp2
        refine bodyPost_ret (results_cell_row rfl _ _ (g2) 46 #[.bool m, .int .i64 (dg (n + 1) 0 : Nat), .int .i64 (dg (n + 1) 1 : Nat), .int .i64 (dg (n + 1) 2 : Nat), .int .i64 (dg (n + 1) 3 : Nat), .int .i64 (dg (n + 1) 4 : Nat), .int .i64 (dg (n + 1) 5 : Nat)] (0, 0) _ rfl (by have h_ := hkf.out; simpa using h_) Try.underlying46 rfl (by kernel_rfl)) rfl ?_
        exact ⟨rfl, hbf.out⟩
      · have dv : decide (D + 1 < 4294967296) = false := decide_eq_false hv
        obtain ⟨s1, s2⟩ := one_go hinv.out (by have := hD.out; omega)
        have hk5 : Hid ((W2.setCell ⟨g1, 1 + i, none⟩ (.int .i64 0)).heap[g1]? = some (.cells (mixC m (dg (n + 1)) (dg n) (i + 1)) 46 (0, 0))) := by
          show _ = _
          have h_ := blk_set hk3 (1 + i) (.int .i64 0)
          rw [Array.setIfInBounds_setIfInBounds, show (0 : Int) = ((dg (n + 1) i : Nat) : Int) by rw [s1]; rfl, mix_set m _ _ hlt] at h_
          rw [show (0 : Int) = ((dg (n + 1) i : Nat) : Int) by rw [s1]; rfl]
          exact h_
        have hk6 := hidI (blk_far hk4 (a := ⟨g1, 1 + i, none⟩) hn12 (.int .i64 0))
        have hb5 := hidI (bl_set hb3 (p := ⟨g1, 1 + i, none⟩) hl1 (.int .i64 0))
        replace s2 := hidI s2
        clear s1 hk3 hk4 hb3 hv hinv
        go_wp2
        go_roundw
        case rel => exact ⟨i + 1, by omega, by go_num, s2, hb5.out, hk5.out, hk6.out⟩
        case measure => clear dv hv0 hD0; simp [intOf]; omega
    · obtain rfl : i = 6 := by omega
      exact absurd hinv.out (one_end hn.out)
end Go.Proofs.Ytggididnclfahaa
