/- Proved here: lemmas and contracts (what a function of the program computes) that the proofs of the laws of this seat lean on. Conditions: as each theorem states. -/
import Derived.Test.YtggididnclfahaaVm
import Derived.Test.YtggididnclfahaaSpan
import Derived.Test.YtggididnclfahaaLin
set_option linter.unusedVariables false
set_option linter.unusedSimpArgs false
namespace Go.Proofs.Ytggididnclfahaa
open Go.RowKit Go.Pk Go.Pk.Vt
theorem vNone_nil (w : World) : Calls Try.prog 30 #[.pointer none] w fun e w' => e = .returned (.bool true) ∧ w' = w := by
  go_enter Try.func30, Try.ntmps30
  go_wp2
  go_ret
  exact ⟨rfl, rfl⟩
theorem vNone_at (gv : Nat) (s : Int) (w : World) (h : w.cell? ⟨gv, 17, none⟩ = some (.int .i64 s)) : Calls Try.prog 30 #[.pointer (some ⟨gv, 0, none⟩)] w fun e w' => e = .returned (.bool (s == 0)) ∧ w' = w := by
  go_enter Try.func30, Try.ntmps30
  go_wp2
  go_ret
  exact ⟨rfl, rfl⟩
theorem far_calls (a b tol : Int) (w : World) (ha : I64 a) (hb : I64 b) (ht : 0 ≤ tol ∧ tol ≤ 9223372036854775807) : Calls Try.prog 40 #[.int .i64 a, .int .i64 b, .int .i64 tol] w fun e w' => e = .returned (.bool (farV a b tol)) ∧ w' = w := by
  obtain ⟨m1, h1⟩ : ∃ z, mxV a b = z := ⟨_, rfl⟩
  obtain ⟨m2, h2⟩ : ∃ z, mnV a b = z := ⟨_, rfl⟩
  have hx : (if a < b then b else a) = m1 := h1
  have hy : (if b < a then b else a) = m2 := h2
  have hf : Hid (farV a b tol = decide (tol < m1 - m2)) := by subst h1 h2; rfl
  have hr : 0 ≤ m1 - m2 ∧ m1 - m2 < 18446744073709551616 := by
    subst h1 h2; unfold I64 at ha hb; unfold mxV mnV
    split <;> split <;> refine ⟨?_, ?_⟩ <;> omega
  have hw : Hid (IntKind.u64.wrap (IntKind.u64.wrap m1 - IntKind.u64.wrap m2) = m1 - m2) := by
    have hq : ∀ x, IntKind.u64.wrap x = x % 18446744073709551616 := IntKind.wrap_u64
    show _ = _
    rw [hq, hq, hq]
    omega
  rw [hf.out]
  clear hr hf h1 h2 ha hb
  go_enter Try.func40, Try.ntmps40
  go_wp2
  go_ret
  rw [hw.out]
  exact ⟨rfl, rfl⟩
theorem fresh0_calls (gv : Nat) (t stale now : Int) (w : World) (h1 : w.cell? ⟨gv, 1, none⟩ = some (.int .i64 t)) (h2 : w.cell? ⟨gv, 16, none⟩ = some (.int .i64 stale)) (hn : now ≤ 9223372036854775807) : Calls Try.prog 31 #[.pointer (some ⟨gv, 0, none⟩), .int .i64 0, .int .i64 now] w fun e w' => e = .returned (.bool (freshT t stale now)) ∧ w' = w := by
  unfold freshT
  by_cases h3 : 0 ≤ t
  · have d3 : decide (0 ≤ t) = true := decide_eq_true h3
    by_cases h4 : t ≤ now
    · have d4 : decide (t ≤ now) = true := decide_eq_true h4
      have hw : wrap64 (now - t) = now - t := IntWalk.wrap64_in _ (by omega)
      rw [d3, d4, Bool.true_and, Bool.true_and]
      replace hn := hidI hn
      clear h3 h4
      go_enter Try.func31, Try.ntmps31
      go_wp2
      go_ret
      exact ⟨rfl, rfl⟩
    · have d4 : decide (t ≤ now) = false := decide_eq_false h4
      rw [d3, d4, Bool.true_and, Bool.false_and]
      replace hn := hidI hn
      clear h3 h4
      go_enter Try.func31, Try.ntmps31
      go_wp2
      go_ret
      exact ⟨rfl, rfl⟩
  · have d3 : decide (0 ≤ t) = false := decide_eq_false h3
    rw [d3, Bool.false_and]
    replace hn := hidI hn
    clear h3
    go_enter Try.func31, Try.ntmps31
    go_wp2
    go_ret
    exact ⟨rfl, rfl⟩
theorem fresh1_calls (gv : Nat) (t stale now : Int) (w : World) (h1 : w.cell? ⟨gv, 6, none⟩ = some (.int .i64 t)) (h2 : w.cell? ⟨gv, 16, none⟩ = some (.int .i64 stale)) (hn : now ≤ 9223372036854775807) : Calls Try.prog 31 #[.pointer (some ⟨gv, 0, none⟩), .int .i64 1, .int .i64 now] w fun e w' => e = .returned (.bool (freshT t stale now)) ∧ w' = w := by
  unfold freshT
  by_cases h3 : 0 ≤ t
  · have d3 : decide (0 ≤ t) = true := decide_eq_true h3
    by_cases h4 : t ≤ now
    · have d4 : decide (t ≤ now) = true := decide_eq_true h4
      have hw : wrap64 (now - t) = now - t := IntWalk.wrap64_in _ (by omega)
      rw [d3, d4, Bool.true_and, Bool.true_and]
      replace hn := hidI hn
      clear h3 h4
      go_enter Try.func31, Try.ntmps31
      go_wp2
      go_ret
      exact ⟨rfl, rfl⟩
    · have d4 : decide (t ≤ now) = false := decide_eq_false h4
      rw [d3, d4, Bool.true_and, Bool.false_and]
      replace hn := hidI hn
      clear h3 h4
      go_enter Try.func31, Try.ntmps31
      go_wp2
      go_ret
      exact ⟨rfl, rfl⟩
  · have d3 : decide (0 ≤ t) = false := decide_eq_false h3
    rw [d3, Bool.false_and]
    replace hn := hidI hn
    clear h3
    go_enter Try.func31, Try.ntmps31
    go_wp2
    go_ret
    exact ⟨rfl, rfl⟩
theorem fresh2_calls (gv : Nat) (t stale now : Int) (w : World) (h1 : w.cell? ⟨gv, 11, none⟩ = some (.int .i64 t)) (h2 : w.cell? ⟨gv, 16, none⟩ = some (.int .i64 stale)) (hn : now ≤ 9223372036854775807) : Calls Try.prog 31 #[.pointer (some ⟨gv, 0, none⟩), .int .i64 2, .int .i64 now] w fun e w' => e = .returned (.bool (freshT t stale now)) ∧ w' = w := by
  unfold freshT
  by_cases h3 : 0 ≤ t
  · have d3 : decide (0 ≤ t) = true := decide_eq_true h3
    by_cases h4 : t ≤ now
    · have d4 : decide (t ≤ now) = true := decide_eq_true h4
      have hw : wrap64 (now - t) = now - t := IntWalk.wrap64_in _ (by omega)
      rw [d3, d4, Bool.true_and, Bool.true_and]
      replace hn := hidI hn
      clear h3 h4
      go_enter Try.func31, Try.ntmps31
      go_wp2
      go_ret
      exact ⟨rfl, rfl⟩
    · have d4 : decide (t ≤ now) = false := decide_eq_false h4
      rw [d3, d4, Bool.true_and, Bool.false_and]
      replace hn := hidI hn
      clear h3 h4
      go_enter Try.func31, Try.ntmps31
      go_wp2
      go_ret
      exact ⟨rfl, rfl⟩
  · have d3 : decide (0 ≤ t) = false := decide_eq_false h3
    rw [d3, Bool.false_and]
    replace hn := hidI hn
    clear h3
    go_enter Try.func31, Try.ntmps31
    go_wp2
    go_ret
    exact ⟨rfl, rfl⟩
set_option maxHeartbeats 4000000 in
theorem put0_ok (w0 : World) (gv : Nat) (V : Vo) (x tick : Int) (w : World) (hg : w0.heap.size ≤ gv) (hbw : Below w0.heap.size w0 w) (hk : w.heap[gv]? = some (.cells V.arr 68 (0, 0))) (hs : 1 ≤ V.strikes) (h0 : 0 ≤ tick) (h1 : V.a.t < tick) :
    Calls Try.prog 14 #[.pointer (some ⟨gv, 0, none⟩), .int .i64 0, .int .i64 x, .int .i64 tick] w fun e w' => e = .returned (.int .i64 0) ∧ E1 w0 w w' gv ∧ w'.heap[gv]? = some (.cells (V.said 0 x tick).arr 68 (0, 0)) := by
  have hN := hidI (vNone_at gv V.strikes w (blk_cell hk 17 (by rfl)))
  have yt : w.cell? ⟨gv, 1, none⟩ = some (.int .i64 V.a.t) := blk_cell hk 1 (by rfl)
  have yv : w.cell? ⟨gv, 0, none⟩ = some (.int .i64 V.a.v) := blk_cell hk 0 (by rfl)
  have zt := blkf hk 1
  have zv := blkf hk 0
  have ds : (V.strikes == 0) = false := by simp; omega
  have d1 : decide (tick < 0) = false := decide_eq_false (by omega)
  have d2 : decide (tick ≤ V.a.t) = false := decide_eq_false (by omega)
  have hfa : Hid ((V.arr.setIfInBounds 0 (.int .i64 x)).setIfInBounds 1 (.int .i64 tick) = (V.said 0 x tick).arr ∧ (V.arr.setIfInBounds 1 (.int .i64 tick)).setIfInBounds 0 (.int .i64 x) = (V.said 0 x tick).arr) := ⟨rfl, rfl⟩
  rw [ds] at hN
  clear hs h0 h1
  replace hk := hidI hk
  replace ds := hidI ds
  go_enter Try.func14, Try.ntmps14
  go_wp2_with fail
  refine hN.out.mono ?_
  rintro e w1 ⟨rfl, hw1⟩
  subst hw1
  go_wp2
  go_region
  all_goals
    go_wp2
    go_ret
  exact ⟨rfl, ((E1.refl hbw).drew.set hg _ _).set hg _ _, by have h_ := blk_set (blk_set (blk_drew hk.out) 0 (.int .i64 x)) 1 (.int .i64 tick); rw [hfa.out.1] at h_; exact h_⟩
set_option maxHeartbeats 4000000 in
theorem put0_no (gv : Nat) (V : Vo) (x tick : Int) (w : World) (hk : w.heap[gv]? = some (.cells V.arr 68 (0, 0))) (hs : 1 ≤ V.strikes) (h1 : tick < 0 ∨ tick ≤ V.a.t) :
    Calls Try.prog 14 #[.pointer (some ⟨gv, 0, none⟩), .int .i64 0, .int .i64 x, .int .i64 tick] w fun e w' => e = .returned (.int .i64 1) ∧ w' = w := by
  have hN := hidI (vNone_at gv V.strikes w (blk_cell hk 17 (by rfl)))
  have yt : w.cell? ⟨gv, 1, none⟩ = some (.int .i64 V.a.t) := blk_cell hk 1 (by rfl)
  have ds : (V.strikes == 0) = false := by simp; omega
  rw [ds] at hN
  replace ds := hidI ds
  clear hs hk
  by_cases h0 : tick < 0
  · have d1 : decide (tick < 0) = true := decide_eq_true (by omega)
    clear h0 h1
    go_enter Try.func14, Try.ntmps14
    go_wp2_with fail
    refine hN.out.mono ?_
    rintro e w1 ⟨rfl, hw1⟩
    subst hw1
    go_wp2
    go_ret
    exact ⟨rfl, rfl⟩
  · have d1 : decide (tick < 0) = false := decide_eq_false (by omega)
    have d2 : decide (tick ≤ V.a.t) = true := decide_eq_true (by omega)
    clear h0 h1
    go_enter Try.func14, Try.ntmps14
    go_wp2_with fail
    refine hN.out.mono ?_
    rintro e w1 ⟨rfl, hw1⟩
    subst hw1
    go_wp2
    go_ret
    exact ⟨rfl, rfl⟩
set_option maxHeartbeats 4000000 in
theorem put1_ok (w0 : World) (gv : Nat) (V : Vo) (x tick : Int) (w : World) (hg : w0.heap.size ≤ gv) (hbw : Below w0.heap.size w0 w) (hk : w.heap[gv]? = some (.cells V.arr 68 (0, 0))) (hs : 1 ≤ V.strikes) (h0 : 0 ≤ tick) (h1 : V.b.t < tick) :
    Calls Try.prog 14 #[.pointer (some ⟨gv, 0, none⟩), .int .i64 1, .int .i64 x, .int .i64 tick] w fun e w' => e = .returned (.int .i64 0) ∧ E1 w0 w w' gv ∧ w'.heap[gv]? = some (.cells (V.said 1 x tick).arr 68 (0, 0)) := by
  have hN := hidI (vNone_at gv V.strikes w (blk_cell hk 17 (by rfl)))
  have yt : w.cell? ⟨gv, 6, none⟩ = some (.int .i64 V.b.t) := blk_cell hk 6 (by rfl)
  have yv : w.cell? ⟨gv, 5, none⟩ = some (.int .i64 V.b.v) := blk_cell hk 5 (by rfl)
  have zt := blkf hk 6
  have zv := blkf hk 5
  have ds : (V.strikes == 0) = false := by simp; omega
  have d1 : decide (tick < 0) = false := decide_eq_false (by omega)
  have d2 : decide (tick ≤ V.b.t) = false := decide_eq_false (by omega)
  have hfa : Hid ((V.arr.setIfInBounds 5 (.int .i64 x)).setIfInBounds 6 (.int .i64 tick) = (V.said 1 x tick).arr ∧ (V.arr.setIfInBounds 6 (.int .i64 tick)).setIfInBounds 5 (.int .i64 x) = (V.said 1 x tick).arr) := ⟨rfl, rfl⟩
  rw [ds] at hN
  clear hs h0 h1
  replace hk := hidI hk
  replace ds := hidI ds
  go_enter Try.func14, Try.ntmps14
  go_wp2_with fail
  refine hN.out.mono ?_
  rintro e w1 ⟨rfl, hw1⟩
  subst hw1
  go_wp2
  go_region
  all_goals
    go_wp2
    go_ret
  exact ⟨rfl, ((E1.refl hbw).drew.set hg _ _).set hg _ _, by have h_ := blk_set (blk_set (blk_drew hk.out) 5 (.int .i64 x)) 6 (.int .i64 tick); rw [hfa.out.1] at h_; exact h_⟩
set_option maxHeartbeats 4000000 in
theorem put1_no (gv : Nat) (V : Vo) (x tick : Int) (w : World) (hk : w.heap[gv]? = some (.cells V.arr 68 (0, 0))) (hs : 1 ≤ V.strikes) (h1 : tick < 0 ∨ tick ≤ V.b.t) :
    Calls Try.prog 14 #[.pointer (some ⟨gv, 0, none⟩), .int .i64 1, .int .i64 x, .int .i64 tick] w fun e w' => e = .returned (.int .i64 1) ∧ w' = w := by
  have hN := hidI (vNone_at gv V.strikes w (blk_cell hk 17 (by rfl)))
  have yt : w.cell? ⟨gv, 6, none⟩ = some (.int .i64 V.b.t) := blk_cell hk 6 (by rfl)
  have ds : (V.strikes == 0) = false := by simp; omega
  rw [ds] at hN
  replace ds := hidI ds
  clear hs hk
  by_cases h0 : tick < 0
  · have d1 : decide (tick < 0) = true := decide_eq_true (by omega)
    clear h0 h1
    go_enter Try.func14, Try.ntmps14
    go_wp2_with fail
    refine hN.out.mono ?_
    rintro e w1 ⟨rfl, hw1⟩
    subst hw1
    go_wp2
    go_ret
    exact ⟨rfl, rfl⟩
  · have d1 : decide (tick < 0) = false := decide_eq_false (by omega)
    have d2 : decide (tick ≤ V.b.t) = true := decide_eq_true (by omega)
    clear h0 h1
    go_enter Try.func14, Try.ntmps14
    go_wp2_with fail
    refine hN.out.mono ?_
    rintro e w1 ⟨rfl, hw1⟩
    subst hw1
    go_wp2
    go_ret
    exact ⟨rfl, rfl⟩
set_option maxHeartbeats 4000000 in
theorem put2_ok (w0 : World) (gv : Nat) (V : Vo) (x tick : Int) (w : World) (hg : w0.heap.size ≤ gv) (hbw : Below w0.heap.size w0 w) (hk : w.heap[gv]? = some (.cells V.arr 68 (0, 0))) (hs : 1 ≤ V.strikes) (h0 : 0 ≤ tick) (h1 : V.c.t < tick) :
    Calls Try.prog 14 #[.pointer (some ⟨gv, 0, none⟩), .int .i64 2, .int .i64 x, .int .i64 tick] w fun e w' => e = .returned (.int .i64 0) ∧ E1 w0 w w' gv ∧ w'.heap[gv]? = some (.cells (V.said 2 x tick).arr 68 (0, 0)) := by
  have hN := hidI (vNone_at gv V.strikes w (blk_cell hk 17 (by rfl)))
  have yt : w.cell? ⟨gv, 11, none⟩ = some (.int .i64 V.c.t) := blk_cell hk 11 (by rfl)
  have yv : w.cell? ⟨gv, 10, none⟩ = some (.int .i64 V.c.v) := blk_cell hk 10 (by rfl)
  have zt := blkf hk 11
  have zv := blkf hk 10
  have ds : (V.strikes == 0) = false := by simp; omega
  have d1 : decide (tick < 0) = false := decide_eq_false (by omega)
  have d2 : decide (tick ≤ V.c.t) = false := decide_eq_false (by omega)
  have hfa : Hid ((V.arr.setIfInBounds 10 (.int .i64 x)).setIfInBounds 11 (.int .i64 tick) = (V.said 2 x tick).arr ∧ (V.arr.setIfInBounds 11 (.int .i64 tick)).setIfInBounds 10 (.int .i64 x) = (V.said 2 x tick).arr) := ⟨rfl, rfl⟩
  rw [ds] at hN
  clear hs h0 h1
  replace hk := hidI hk
  replace ds := hidI ds
  go_enter Try.func14, Try.ntmps14
  go_wp2_with fail
  refine hN.out.mono ?_
  rintro e w1 ⟨rfl, hw1⟩
  subst hw1
  go_wp2
  go_region
  all_goals
    go_wp2
    go_ret
  exact ⟨rfl, ((E1.refl hbw).drew.set hg _ _).set hg _ _, by have h_ := blk_set (blk_set (blk_drew hk.out) 10 (.int .i64 x)) 11 (.int .i64 tick); rw [hfa.out.1] at h_; exact h_⟩
set_option maxHeartbeats 4000000 in
theorem put2_no (gv : Nat) (V : Vo) (x tick : Int) (w : World) (hk : w.heap[gv]? = some (.cells V.arr 68 (0, 0))) (hs : 1 ≤ V.strikes) (h1 : tick < 0 ∨ tick ≤ V.c.t) :
    Calls Try.prog 14 #[.pointer (some ⟨gv, 0, none⟩), .int .i64 2, .int .i64 x, .int .i64 tick] w fun e w' => e = .returned (.int .i64 1) ∧ w' = w := by
  have hN := hidI (vNone_at gv V.strikes w (blk_cell hk 17 (by rfl)))
  have yt : w.cell? ⟨gv, 11, none⟩ = some (.int .i64 V.c.t) := blk_cell hk 11 (by rfl)
  have ds : (V.strikes == 0) = false := by simp; omega
  rw [ds] at hN
  replace ds := hidI ds
  clear hs hk
  by_cases h0 : tick < 0
  · have d1 : decide (tick < 0) = true := decide_eq_true (by omega)
    clear h0 h1
    go_enter Try.func14, Try.ntmps14
    go_wp2_with fail
    refine hN.out.mono ?_
    rintro e w1 ⟨rfl, hw1⟩
    subst hw1
    go_wp2
    go_ret
    exact ⟨rfl, rfl⟩
  · have d1 : decide (tick < 0) = false := decide_eq_false (by omega)
    have d2 : decide (tick ≤ V.c.t) = true := decide_eq_true (by omega)
    clear h0 h1
    go_enter Try.func14, Try.ntmps14
    go_wp2_with fail
    refine hN.out.mono ?_
    rintro e w1 ⟨rfl, hw1⟩
    subst hw1
    go_wp2
    go_ret
    exact ⟨rfl, rfl⟩
theorem put_none (L I X T : Value) (w : World) (hN : Calls Try.prog 30 #[L] w fun e w' => e = .returned (.bool true) ∧ w' = w) : Calls Try.prog 14 #[L, I, X, T] w fun e w' => e = .returned (.int .i64 1) ∧ w' = w := by
  replace hN := hidI hN
  go_enter Try.func14, Try.ntmps14
  go_wp2_with fail
  refine hN.out.mono ?_
  rintro e w1 ⟨rfl, hw1⟩
  subst hw1
  go_wp2
  go_ret
  exact ⟨rfl, rfl⟩
theorem put_range (L X T : Value) (i : Int) (w : World) (hi : i < 0 ∨ 3 ≤ i) (hN : Calls Try.prog 30 #[L] w fun e w' => e = .returned (.bool false) ∧ w' = w) : Calls Try.prog 14 #[L, .int .i64 i, X, T] w fun e w' => e = .returned (.int .i64 3) ∧ w' = w := by
  replace hN := hidI hN
  by_cases h0 : i < 0
  · have d1 : decide (i < 0) = true := decide_eq_true (by omega)
    clear h0 hi
    go_enter Try.func14, Try.ntmps14
    go_wp2_with fail
    refine hN.out.mono ?_
    rintro e w1 ⟨rfl, hw1⟩
    subst hw1
    go_wp2
    go_ret
    exact ⟨rfl, rfl⟩
  · have d1 : decide (i < 0) = false := decide_eq_false (by omega)
    have d2 : decide (3 ≤ i) = true := decide_eq_true (by omega)
    clear h0 hi
    go_enter Try.func14, Try.ntmps14
    go_wp2_with fail
    refine hN.out.mono ?_
    rintro e w1 ⟨rfl, hw1⟩
    subst hw1
    go_wp2
    go_ret
    exact ⟨rfl, rfl⟩
end Go.Proofs.Ytggididnclfahaa
