/- Proved here: lemmas and contracts (what a function of the program computes) that the proofs of the laws of this seat lean on. Conditions: as each theorem states. -/
import Derived.Test.YtggididnclfahaaV1
set_option linter.unusedVariables false
set_option linter.unusedSimpArgs false
namespace Go.Pk.Vt
open Go.RowKit Go.Pk
theorem res_ct {P : Program} {fn : Func} {p q : Tmp} {ty : TypeId} (h : fn.results = #[.cell p ty, .tmp q]) (tmps : Array Value) (w : World) (g : Nat) (t : TypeId) (cs : Array Value) (fr : Nat × Nat) (d : TypeDesc) (v : Value)
    (hp : tmps.getD p undef = .pointer (some ⟨g, 0, none⟩)) (hg : w.heap[g]? = some (.cells cs t fr)) (hu : P.underlying ty = some d) (hd : (match d with | .struct _ | .array _ _ => true | _ => false) = true) (hi : (P.info? ty).map (·.size) = some cs.size)
    (hq : tmps.getD q undef = v) :
    (results fn tmps).run P w = .ok (.tuple #[.agg cs, v]) w := by
  have h1 : tmps[p]?.getD undef = .pointer (some ⟨g, 0, none⟩) := by simpa using hp
  have h2 : tmps[q]?.getD undef = v := by simpa using hq
  simp [results, h, h1, h2, asAddr, run_loadVar_row w g t ty cs fr d hg hu hd hi]
end Go.Pk.Vt
namespace Go.Proofs.Ytggididnclfahaa
open Go.RowKit Go.Pk Go.Pk.Vt
set_option maxHeartbeats 4000000 in
theorem vNew_ok (tol stale strikes : Int) (w : World) (h : newOkV tol stale strikes = true) : Calls Try.prog 13 #[.int .i64 tol, .int .i64 stale, .int .i64 strikes] w fun e w' => ∃ g : Nat, w.heap.size ≤ g ∧ e = .returned (.tuple #[.pointer (some ⟨g, 0, none⟩), .int .i64 0]) ∧ Below w.heap.size w w' ∧ w'.heap[g]? = some (.cells (Vo.new tol stale strikes).arr 68 (0, 0)) := by
  unfold newOkV at h
  simp only [Bool.and_eq_true, decide_eq_true_eq] at h
  obtain ⟨h1, h2, h3, h4, h5⟩ := h
  have d1 : decide (tol < 0) = false := decide_eq_false (by omega)
  have d2 : decide (stale < 0) = false := decide_eq_false (by omega)
  have d3 : decide ((1000 : Int) < stale) = false := decide_eq_false (by omega)
  have d4 : decide (strikes < 1) = false := decide_eq_false (by omega)
  have d5 : decide ((1000 : Int) < strikes) = false := decide_eq_false (by omega)
  clear h1 h2 h3 h4 h5
  go_enter Try.func13, Try.ntmps13
  go_upto_region 4 with fail
  have hk : (w.alloc (.cells #[.int .i64 0, .int .i64 0, .bool false, .bool false, .int .i64 0, .int .i64 0, .int .i64 0, .bool false, .bool false, .int .i64 0, .int .i64 0, .int .i64 0, .bool false, .bool false, .int .i64 0, .int .i64 tol, .int .i64 stale, .int .i64 strikes, .int .i64 0] 68 (0, 0))).heap[w.heap.size]? = some (.cells (Vo.mkK tol stale strikes 0).arr 68 (0, 0)) := blk_new w _
  have hbw := bl_alloc (Below.refl w.heap.size w) (.cells #[.int .i64 0, .int .i64 0, .bool false, .bool false, .int .i64 0, .int .i64 0, .int .i64 0, .bool false, .bool false, .int .i64 0, .int .i64 0, .int .i64 0, .bool false, .bool false, .int .i64 0, .int .i64 tol, .int .i64 stale, .int .i64 strikes, .int .i64 0] 68 (0, 0))
  generalize w.alloc (.cells #[.int .i64 0, .int .i64 0, .bool false, .bool false, .int .i64 0, .int .i64 0, .int .i64 0, .bool false, .bool false, .int .i64 0, .int .i64 0, .int .i64 0, .bool false, .bool false, .int .i64 0, .int .i64 tol, .int .i64 stale, .int .i64 strikes, .int .i64 0] 68 (0, 0)) = wA at *
  obtain ⟨g, hg_⟩ : ∃ g, w.heap.size = g := ⟨_, rfl⟩
  have hg : w.heap.size ≤ g := by omega
  rw [hg_] at hk
  rw [hg_]
  clear hg_
  go_wp2
  go_loopw [33] (fun x wr => ∃ i : Nat, i ≤ 3 ∧ x = .int .i64 i ∧ Below w.heap.size w wr ∧ wr.heap[g]? = some (.cells (Vo.mkK tol stale strikes i).arr 68 (0, 0))) (fun x _ => (3 - intOf x).toNat)
  case atStart => exact ⟨0, by omega, rfl, hbw, hk⟩
  case round =>
    clear hbw hk
    obtain ⟨i, hi, rfl, hbw, hk⟩ := hrel
    rcases (by omega : i = 0 ∨ i = 1 ∨ i = 2 ∨ i = 3) with rfl | rfl | rfl | rfl
    · have hd : decide ((((0 : Nat) : Int)) < 3) = true := by decide
      have hd' : decide ((0 : Int) < 3) = true := by decide
      have yz := blkf hk 1
      have yc : wr.cell? ⟨g, 1, none⟩ = some (.int .i64 0) := blk_cell hk 1 (by rfl)
      have hk2 := hidI (blk_set hk 1 (.int .i64 (-1)))
      have hb2 := hidI (bl_set hbw (p := ⟨g, 1, none⟩) hg (.int .i64 (-1)))
      clear hk hbw
      go_wp2
      go_roundw
      case rel => exact ⟨1, by omega, by go_num, hb2.out, hk2.out⟩
      case measure => simp [intOf]
    · have hd : decide ((((1 : Nat) : Int)) < 3) = true := by decide
      have hd' : decide ((1 : Int) < 3) = true := by decide
      have yz := blkf hk 6
      have yc : wr.cell? ⟨g, 6, none⟩ = some (.int .i64 0) := blk_cell hk 6 (by rfl)
      have hk2 := hidI (blk_set hk 6 (.int .i64 (-1)))
      have hb2 := hidI (bl_set hbw (p := ⟨g, 6, none⟩) hg (.int .i64 (-1)))
      clear hk hbw
      go_wp2
      go_roundw
      case rel => exact ⟨2, by omega, by go_num, hb2.out, hk2.out⟩
      case measure => simp [intOf]
    · have hd : decide ((((2 : Nat) : Int)) < 3) = true := by decide
      have hd' : decide ((2 : Int) < 3) = true := by decide
      have yz := blkf hk 11
      have yc : wr.cell? ⟨g, 11, none⟩ = some (.int .i64 0) := blk_cell hk 11 (by rfl)
      have hk2 := hidI (blk_set hk 11 (.int .i64 (-1)))
      have hb2 := hidI (bl_set hbw (p := ⟨g, 11, none⟩) hg (.int .i64 (-1)))
      clear hk hbw
      go_wp2
      go_roundw
      case rel => exact ⟨3, by omega, by go_num, hb2.out, hk2.out⟩
      case measure => simp [intOf]
    · have hd' : decide ((3 : Int) < 3) = false := by decide
      replace hk := hidI hk
      go_wp2
      go_ret2
      exact ⟨g, hg, rfl, hbw, hk.out⟩
theorem vNew_no (tol stale strikes : Int) (w : World) (h : newOkV tol stale strikes = false) : Calls Try.prog 13 #[.int .i64 tol, .int .i64 stale, .int .i64 strikes] w fun e w' => e = .returned (.tuple #[.pointer none, .int .i64 1]) ∧ w' = w := by
  have h0 : ¬ (0 ≤ tol ∧ 0 ≤ stale ∧ stale ≤ 1000 ∧ 1 ≤ strikes ∧ strikes ≤ 1000) := by
    rintro ⟨h1, h2, h3, h4, h5⟩
    unfold newOkV at h
    simp only [decide_eq_true h1, decide_eq_true h2, decide_eq_true h3, decide_eq_true h4, decide_eq_true h5] at h
    cases h
  clear h
  by_cases h1 : tol < 0
  · have d1 : decide (tol < 0) = true := decide_eq_true h1
    clear h0 h1
    go_enter Try.func13, Try.ntmps13
    go_wp2
    go_ret2
    exact ⟨rfl, rfl⟩
  have d1 : decide (tol < 0) = false := decide_eq_false h1
  by_cases h2 : stale < 0
  · have d2 : decide (stale < 0) = true := decide_eq_true h2
    clear h0 h1 h2
    go_enter Try.func13, Try.ntmps13
    go_wp2
    go_ret2
    exact ⟨rfl, rfl⟩
  have d2 : decide (stale < 0) = false := decide_eq_false h2
  by_cases h3 : (1000 : Int) < stale
  · have d3 : decide ((1000 : Int) < stale) = true := decide_eq_true h3
    clear h0 h1 h2 h3
    go_enter Try.func13, Try.ntmps13
    go_wp2
    go_ret2
    exact ⟨rfl, rfl⟩
  have d3 : decide ((1000 : Int) < stale) = false := decide_eq_false h3
  by_cases h4 : strikes < 1
  · have d4 : decide (strikes < 1) = true := decide_eq_true h4
    clear h0 h1 h2 h3 h4
    go_enter Try.func13, Try.ntmps13
    go_wp2
    go_ret2
    exact ⟨rfl, rfl⟩
  have d4 : decide (strikes < 1) = false := decide_eq_false h4
  by_cases h5 : (1000 : Int) < strikes
  · have d5 : decide ((1000 : Int) < strikes) = true := decide_eq_true h5
    clear h0 h1 h2 h3 h4 h5
    go_enter Try.func13, Try.ntmps13
    go_wp2
    go_ret2
    exact ⟨rfl, rfl⟩
  have d5 : decide ((1000 : Int) < strikes) = false := decide_eq_false h5
  exact absurd ⟨by omega, by omega, by omega, by omega, by omega⟩ h0
set_option maxHeartbeats 4000000 in
theorem chan0_calls (gv : Nat) (V : Vo) (now : Int) (w : World) (hk : w.heap[gv]? = some (.cells V.arr 68 (0, 0))) (hs : 1 ≤ V.strikes) (hn : now ≤ 9223372036854775807) :
    Calls Try.prog 16 #[.pointer (some ⟨gv, 0, none⟩), .int .i64 0, .int .i64 now] w fun e w' => e = .returned (.tuple #[.agg #[.int .i64 V.a.v, .int .i64 V.a.t, .bool (V.fresh 0 now), .bool V.a.bad], .int .i64 0]) ∧ Below w.heap.size w w' := by
  have ds : (V.strikes == 0) = false := by simp; omega
  have hN := hidI (fun W (h : Below w.heap.size w W) => ds ▸ vNone_at gv V.strikes W (bl_cell h (blk_cell hk 17 (by rfl))))
  have hF := hidI (fun W (h : Below w.heap.size w W) => fresh0_calls gv V.a.t V.stale now W (bl_cell h (blk_cell hk 1 (by rfl))) (bl_cell h (blk_cell hk 16 (by rfl))) hn)
  have hff : Hid (V.fresh 0 now = freshT V.a.t V.stale now) := rfl
  obtain ⟨fr, hfr⟩ : ∃ z, freshT V.a.t V.stale now = z := ⟨_, rfl⟩
  rw [hff.out]
  rw [hfr] at hF ⊢
  clear hff hfr hs hn
  replace hk := hidI hk
  replace ds := hidI ds
  go_enter Try.func16, Try.ntmps16
  go_upto_region 1 with fail
  have hk_gr := blk_new w (.cells #[.int .i64 0, .int .i64 0, .bool false, .bool false] 40)
  have hbw := bl_alloc (Below.refl w.heap.size w) (.cells #[.int .i64 0, .int .i64 0, .bool false, .bool false] 40)
  generalize w.alloc (.cells #[.int .i64 0, .int .i64 0, .bool false, .bool false] 40) = W1 at *
  obtain ⟨gr, hgr⟩ : ∃ g, w.heap.size = g := ⟨_, rfl⟩
  have hwg : w.heap.size ≤ gr := by omega
  rw [hgr] at hk_gr
  rw [hgr]
  clear hgr
  go_wp2_with fail
  refine (hN.out W1 hbw).mono ?_
  rintro e W2 ⟨rfl, hW2⟩
  subst hW2
  have y0 : W2.cell? ⟨gv, 0, none⟩ = some (.int .i64 V.a.v) := bl_cell hbw (blk_cell hk.out 0 (by rfl))
  have y1 : W2.cell? ⟨gv, 1, none⟩ = some (.int .i64 V.a.t) := bl_cell hbw (blk_cell hk.out 1 (by rfl))
  have y2 : W2.cell? ⟨gv, 2, none⟩ = some (.bool false) := bl_cell hbw (blk_cell hk.out 2 (by rfl))
  have y3 : W2.cell? ⟨gv, 3, none⟩ = some (.bool V.a.bad) := bl_cell hbw (blk_cell hk.out 3 (by rfl))
  go_upto_region 6 with fail
  have hk_gd := blk_new W2 (.cells #[.int .i64 V.a.v, .int .i64 V.a.t, .bool false, .bool V.a.bad] 40)
  have hgd0 : gr < W2.heap.size := blk_lt hk_gr
  replace hbw := bl_alloc hbw (.cells #[.int .i64 V.a.v, .int .i64 V.a.t, .bool false, .bool V.a.bad] 40)
  replace hk_gr := blk_alloc hk_gr (.cells #[.int .i64 V.a.v, .int .i64 V.a.t, .bool false, .bool V.a.bad] 40)
  clear y0 y1 y2 y3
  generalize W2.alloc (.cells #[.int .i64 V.a.v, .int .i64 V.a.t, .bool false, .bool V.a.bad] 40) = W3 at *
  obtain ⟨gd, hgd⟩ : ∃ g, W2.heap.size = g := ⟨_, rfl⟩
  rw [hgd] at hk_gd hgd0
  rw [hgd]
  have hwd : w.heap.size ≤ gd := by omega
  have hne : gd ≠ gr := by omega
  clear hgd
  go_wp2_with fail
  refine (hF.out W3 hbw).mono ?_
  rintro e W4 ⟨rfl, hW4⟩
  subst hW4
  have e0 : W4.cell? ⟨gd, 0, none⟩ = some (.int .i64 V.a.v) := blk_cell hk_gd 0 (by rfl)
  have e1 : W4.cell? ⟨gd, 1, none⟩ = some (.int .i64 V.a.t) := blk_cell hk_gd 1 (by rfl)
  have e2 : W4.cell? ⟨gd, 2, none⟩ = some (.bool false) := blk_cell hk_gd 2 (by rfl)
  have e3 : W4.cell? ⟨gd, 3, none⟩ = some (.bool V.a.bad) := blk_cell hk_gd 3 (by rfl)
  have f2 := blkf hk_gd 2
  have r0 : W4.cell? ⟨gr, 0, none⟩ = some (.int .i64 0) := blk_cell hk_gr 0 (by rfl)
  have r1 : W4.cell? ⟨gr, 1, none⟩ = some (.int .i64 0) := blk_cell hk_gr 1 (by rfl)
  have r2 : W4.cell? ⟨gr, 2, none⟩ = some (.bool false) := blk_cell hk_gr 2 (by rfl)
  have r3 : W4.cell? ⟨gr, 3, none⟩ = some (.bool false) := blk_cell hk_gr 3 (by rfl)
  have s0 := blkf hk_gr 0
  have s1 := blkf hk_gr 1
  have s2 := blkf hk_gr 2
  have s3 := blkf hk_gr 3
  have hkf := hidI (blk_set (blk_set (blk_set (blk_set (blk_far hk_gr (a := ⟨gd, 2, none⟩) hne (.bool fr)) 0 (.int .i64 V.a.v)) 1 (.int .i64 V.a.t)) 2 (.bool fr)) 3 (.bool V.a.bad))
  have hbf := hidI (bl_set (bl_set (bl_set (bl_set (bl_set hbw (p := ⟨gd, 2, none⟩) hwd (.bool fr)) (p := ⟨gr, 0, none⟩) hwg (.int .i64 V.a.v)) (p := ⟨gr, 1, none⟩) hwg (.int .i64 V.a.t)) (p := ⟨gr, 2, none⟩) hwg (.bool fr)) (p := ⟨gr, 3, none⟩) hwg (.bool V.a.bad))
  clear hk_gr hk_gd hbw
  go_wp2
  refine bodyPost_ret (res_ct rfl _ _ gr 40 #[.int .i64 V.a.v, .int .i64 V.a.t, .bool fr, .bool V.a.bad] (0, 0) _ _ rfl (by first | exact hkf.out | (have h_ := hkf.out; simpa using h_)) Try.underlying40 rfl (by kernel_rfl) rfl) rfl ?_
  exact ⟨rfl, hbf.out⟩
set_option maxHeartbeats 4000000 in
theorem chan1_calls (gv : Nat) (V : Vo) (now : Int) (w : World) (hk : w.heap[gv]? = some (.cells V.arr 68 (0, 0))) (hs : 1 ≤ V.strikes) (hn : now ≤ 9223372036854775807) :
    Calls Try.prog 16 #[.pointer (some ⟨gv, 0, none⟩), .int .i64 1, .int .i64 now] w fun e w' => e = .returned (.tuple #[.agg #[.int .i64 V.b.v, .int .i64 V.b.t, .bool (V.fresh 1 now), .bool V.b.bad], .int .i64 0]) ∧ Below w.heap.size w w' := by
  have ds : (V.strikes == 0) = false := by simp; omega
  have hN := hidI (fun W (h : Below w.heap.size w W) => ds ▸ vNone_at gv V.strikes W (bl_cell h (blk_cell hk 17 (by rfl))))
  have hF := hidI (fun W (h : Below w.heap.size w W) => fresh1_calls gv V.b.t V.stale now W (bl_cell h (blk_cell hk 6 (by rfl))) (bl_cell h (blk_cell hk 16 (by rfl))) hn)
  have hff : Hid (V.fresh 1 now = freshT V.b.t V.stale now) := rfl
  obtain ⟨fr, hfr⟩ : ∃ z, freshT V.b.t V.stale now = z := ⟨_, rfl⟩
  rw [hff.out]
  rw [hfr] at hF ⊢
  clear hff hfr hs hn
  replace hk := hidI hk
  replace ds := hidI ds
  go_enter Try.func16, Try.ntmps16
  go_upto_region 1 with fail
  have hk_gr := blk_new w (.cells #[.int .i64 0, .int .i64 0, .bool false, .bool false] 40)
  have hbw := bl_alloc (Below.refl w.heap.size w) (.cells #[.int .i64 0, .int .i64 0, .bool false, .bool false] 40)
  generalize w.alloc (.cells #[.int .i64 0, .int .i64 0, .bool false, .bool false] 40) = W1 at *
  obtain ⟨gr, hgr⟩ : ∃ g, w.heap.size = g := ⟨_, rfl⟩
  have hwg : w.heap.size ≤ gr := by omega
  rw [hgr] at hk_gr
  rw [hgr]
  clear hgr
  go_wp2_with fail
  refine (hN.out W1 hbw).mono ?_
  rintro e W2 ⟨rfl, hW2⟩
  subst hW2
  have y0 : W2.cell? ⟨gv, 5, none⟩ = some (.int .i64 V.b.v) := bl_cell hbw (blk_cell hk.out 5 (by rfl))
  have y1 : W2.cell? ⟨gv, 6, none⟩ = some (.int .i64 V.b.t) := bl_cell hbw (blk_cell hk.out 6 (by rfl))
  have y2 : W2.cell? ⟨gv, 7, none⟩ = some (.bool false) := bl_cell hbw (blk_cell hk.out 7 (by rfl))
  have y3 : W2.cell? ⟨gv, 8, none⟩ = some (.bool V.b.bad) := bl_cell hbw (blk_cell hk.out 8 (by rfl))
  go_upto_region 6 with fail
  have hk_gd := blk_new W2 (.cells #[.int .i64 V.b.v, .int .i64 V.b.t, .bool false, .bool V.b.bad] 40)
  have hgd0 : gr < W2.heap.size := blk_lt hk_gr
  replace hbw := bl_alloc hbw (.cells #[.int .i64 V.b.v, .int .i64 V.b.t, .bool false, .bool V.b.bad] 40)
  replace hk_gr := blk_alloc hk_gr (.cells #[.int .i64 V.b.v, .int .i64 V.b.t, .bool false, .bool V.b.bad] 40)
  clear y0 y1 y2 y3
  generalize W2.alloc (.cells #[.int .i64 V.b.v, .int .i64 V.b.t, .bool false, .bool V.b.bad] 40) = W3 at *
  obtain ⟨gd, hgd⟩ : ∃ g, W2.heap.size = g := ⟨_, rfl⟩
  rw [hgd] at hk_gd hgd0
  rw [hgd]
  have hwd : w.heap.size ≤ gd := by omega
  have hne : gd ≠ gr := by omega
  clear hgd
  go_wp2_with fail
  refine (hF.out W3 hbw).mono ?_
  rintro e W4 ⟨rfl, hW4⟩
  subst hW4
  have e0 : W4.cell? ⟨gd, 0, none⟩ = some (.int .i64 V.b.v) := blk_cell hk_gd 0 (by rfl)
  have e1 : W4.cell? ⟨gd, 1, none⟩ = some (.int .i64 V.b.t) := blk_cell hk_gd 1 (by rfl)
  have e2 : W4.cell? ⟨gd, 2, none⟩ = some (.bool false) := blk_cell hk_gd 2 (by rfl)
  have e3 : W4.cell? ⟨gd, 3, none⟩ = some (.bool V.b.bad) := blk_cell hk_gd 3 (by rfl)
  have f2 := blkf hk_gd 2
  have r0 : W4.cell? ⟨gr, 0, none⟩ = some (.int .i64 0) := blk_cell hk_gr 0 (by rfl)
  have r1 : W4.cell? ⟨gr, 1, none⟩ = some (.int .i64 0) := blk_cell hk_gr 1 (by rfl)
  have r2 : W4.cell? ⟨gr, 2, none⟩ = some (.bool false) := blk_cell hk_gr 2 (by rfl)
  have r3 : W4.cell? ⟨gr, 3, none⟩ = some (.bool false) := blk_cell hk_gr 3 (by rfl)
  have s0 := blkf hk_gr 0
  have s1 := blkf hk_gr 1
  have s2 := blkf hk_gr 2
  have s3 := blkf hk_gr 3
  have hkf := hidI (blk_set (blk_set (blk_set (blk_set (blk_far hk_gr (a := ⟨gd, 2, none⟩) hne (.bool fr)) 0 (.int .i64 V.b.v)) 1 (.int .i64 V.b.t)) 2 (.bool fr)) 3 (.bool V.b.bad))
  have hbf := hidI (bl_set (bl_set (bl_set (bl_set (bl_set hbw (p := ⟨gd, 2, none⟩) hwd (.bool fr)) (p := ⟨gr, 0, none⟩) hwg (.int .i64 V.b.v)) (p := ⟨gr, 1, none⟩) hwg (.int .i64 V.b.t)) (p := ⟨gr, 2, none⟩) hwg (.bool fr)) (p := ⟨gr, 3, none⟩) hwg (.bool V.b.bad))
  clear hk_gr hk_gd hbw
  go_wp2
  refine bodyPost_ret (res_ct rfl _ _ gr 40 #[.int .i64 V.b.v, .int .i64 V.b.t, .bool fr, .bool V.b.bad] (0, 0) _ _ rfl (by first | exact hkf.out | (have h_ := hkf.out; simpa using h_)) Try.underlying40 rfl (by kernel_rfl) rfl) rfl ?_
  exact ⟨rfl, hbf.out⟩
set_option maxHeartbeats 4000000 in
theorem chan2_calls (gv : Nat) (V : Vo) (now : Int) (w : World) (hk : w.heap[gv]? = some (.cells V.arr 68 (0, 0))) (hs : 1 ≤ V.strikes) (hn : now ≤ 9223372036854775807) :
    Calls Try.prog 16 #[.pointer (some ⟨gv, 0, none⟩), .int .i64 2, .int .i64 now] w fun e w' => e = .returned (.tuple #[.agg #[.int .i64 V.c.v, .int .i64 V.c.t, .bool (V.fresh 2 now), .bool V.c.bad], .int .i64 0]) ∧ Below w.heap.size w w' := by
  have ds : (V.strikes == 0) = false := by simp; omega
  have hN := hidI (fun W (h : Below w.heap.size w W) => ds ▸ vNone_at gv V.strikes W (bl_cell h (blk_cell hk 17 (by rfl))))
  have hF := hidI (fun W (h : Below w.heap.size w W) => fresh2_calls gv V.c.t V.stale now W (bl_cell h (blk_cell hk 11 (by rfl))) (bl_cell h (blk_cell hk 16 (by rfl))) hn)
  have hff : Hid (V.fresh 2 now = freshT V.c.t V.stale now) := rfl
  obtain ⟨fr, hfr⟩ : ∃ z, freshT V.c.t V.stale now = z := ⟨_, rfl⟩
  rw [hff.out]
  rw [hfr] at hF ⊢
  clear hff hfr hs hn
  replace hk := hidI hk
  replace ds := hidI ds
  go_enter Try.func16, Try.ntmps16
  go_upto_region 1 with fail
  have hk_gr := blk_new w (.cells #[.int .i64 0, .int .i64 0, .bool false, .bool false] 40)
  have hbw := bl_alloc (Below.refl w.heap.size w) (.cells #[.int .i64 0, .int .i64 0, .bool false, .bool false] 40)
  generalize w.alloc (.cells #[.int .i64 0, .int .i64 0, .bool false, .bool false] 40) = W1 at *
  obtain ⟨gr, hgr⟩ : ∃ g, w.heap.size = g := ⟨_, rfl⟩
  have hwg : w.heap.size ≤ gr := by omega
  rw [hgr] at hk_gr
  rw [hgr]
  clear hgr
  go_wp2_with fail
  refine (hN.out W1 hbw).mono ?_
  rintro e W2 ⟨rfl, hW2⟩
  subst hW2
  have y0 : W2.cell? ⟨gv, 10, none⟩ = some (.int .i64 V.c.v) := bl_cell hbw (blk_cell hk.out 10 (by rfl))
  have y1 : W2.cell? ⟨gv, 11, none⟩ = some (.int .i64 V.c.t) := bl_cell hbw (blk_cell hk.out 11 (by rfl))
  have y2 : W2.cell? ⟨gv, 12, none⟩ = some (.bool false) := bl_cell hbw (blk_cell hk.out 12 (by rfl))
  have y3 : W2.cell? ⟨gv, 13, none⟩ = some (.bool V.c.bad) := bl_cell hbw (blk_cell hk.out 13 (by rfl))
  go_upto_region 6 with fail
  have hk_gd := blk_new W2 (.cells #[.int .i64 V.c.v, .int .i64 V.c.t, .bool false, .bool V.c.bad] 40)
  have hgd0 : gr < W2.heap.size := blk_lt hk_gr
  replace hbw := bl_alloc hbw (.cells #[.int .i64 V.c.v, .int .i64 V.c.t, .bool false, .bool V.c.bad] 40)
  replace hk_gr := blk_alloc hk_gr (.cells #[.int .i64 V.c.v, .int .i64 V.c.t, .bool false, .bool V.c.bad] 40)
  clear y0 y1 y2 y3
  generalize W2.alloc (.cells #[.int .i64 V.c.v, .int .i64 V.c.t, .bool false, .bool V.c.bad] 40) = W3 at *
  obtain ⟨gd, hgd⟩ : ∃ g, W2.heap.size = g := ⟨_, rfl⟩
  rw [hgd] at hk_gd hgd0
  rw [hgd]
  have hwd : w.heap.size ≤ gd := by omega
  have hne : gd ≠ gr := by omega
  clear hgd
  go_wp2_with fail
  refine (hF.out W3 hbw).mono ?_
  rintro e W4 ⟨rfl, hW4⟩
  subst hW4
  have e0 : W4.cell? ⟨gd, 0, none⟩ = some (.int .i64 V.c.v) := blk_cell hk_gd 0 (by rfl)
  have e1 : W4.cell? ⟨gd, 1, none⟩ = some (.int .i64 V.c.t) := blk_cell hk_gd 1 (by rfl)
  have e2 : W4.cell? ⟨gd, 2, none⟩ = some (.bool false) := blk_cell hk_gd 2 (by rfl)
  have e3 : W4.cell? ⟨gd, 3, none⟩ = some (.bool V.c.bad) := blk_cell hk_gd 3 (by rfl)
  have f2 := blkf hk_gd 2
  have r0 : W4.cell? ⟨gr, 0, none⟩ = some (.int .i64 0) := blk_cell hk_gr 0 (by rfl)
  have r1 : W4.cell? ⟨gr, 1, none⟩ = some (.int .i64 0) := blk_cell hk_gr 1 (by rfl)
  have r2 : W4.cell? ⟨gr, 2, none⟩ = some (.bool false) := blk_cell hk_gr 2 (by rfl)
  have r3 : W4.cell? ⟨gr, 3, none⟩ = some (.bool false) := blk_cell hk_gr 3 (by rfl)
  have s0 := blkf hk_gr 0
  have s1 := blkf hk_gr 1
  have s2 := blkf hk_gr 2
  have s3 := blkf hk_gr 3
  have hkf := hidI (blk_set (blk_set (blk_set (blk_set (blk_far hk_gr (a := ⟨gd, 2, none⟩) hne (.bool fr)) 0 (.int .i64 V.c.v)) 1 (.int .i64 V.c.t)) 2 (.bool fr)) 3 (.bool V.c.bad))
  have hbf := hidI (bl_set (bl_set (bl_set (bl_set (bl_set hbw (p := ⟨gd, 2, none⟩) hwd (.bool fr)) (p := ⟨gr, 0, none⟩) hwg (.int .i64 V.c.v)) (p := ⟨gr, 1, none⟩) hwg (.int .i64 V.c.t)) (p := ⟨gr, 2, none⟩) hwg (.bool fr)) (p := ⟨gr, 3, none⟩) hwg (.bool V.c.bad))
  clear hk_gr hk_gd hbw
  go_wp2
  refine bodyPost_ret (res_ct rfl _ _ gr 40 #[.int .i64 V.c.v, .int .i64 V.c.t, .bool fr, .bool V.c.bad] (0, 0) _ _ rfl (by first | exact hkf.out | (have h_ := hkf.out; simpa using h_)) Try.underlying40 rfl (by kernel_rfl) rfl) rfl ?_
  exact ⟨rfl, hbf.out⟩
theorem chan_none (L I N : Value) (w : World) (hN : ∀ W, Below w.heap.size w W → Calls Try.prog 30 #[L] W fun e w' => e = .returned (.bool true) ∧ w' = W) :
    Calls Try.prog 16 #[L, I, N] w fun e w' => e = .returned (.tuple #[.agg #[.int .i64 0, .int .i64 0, .bool false, .bool false], .int .i64 1]) ∧ Below w.heap.size w w' := by
  replace hN := hidI hN
  go_enter Try.func16, Try.ntmps16
  go_upto_region 1 with fail
  have hk_gr := blk_new w (.cells #[.int .i64 0, .int .i64 0, .bool false, .bool false] 40)
  have hbw := bl_alloc (Below.refl w.heap.size w) (.cells #[.int .i64 0, .int .i64 0, .bool false, .bool false] 40)
  generalize w.alloc (.cells #[.int .i64 0, .int .i64 0, .bool false, .bool false] 40) = W1 at *
  obtain ⟨gr, hgr⟩ : ∃ g, w.heap.size = g := ⟨_, rfl⟩
  have hwg : w.heap.size ≤ gr := by omega
  rw [hgr] at hk_gr
  rw [hgr]
  clear hgr
  go_wp2_with fail
  refine (hN.out W1 hbw).mono ?_
  rintro e W2 ⟨rfl, hW2⟩
  subst hW2
  have r0 : W2.cell? ⟨gr, 0, none⟩ = some (.int .i64 0) := blk_cell hk_gr 0 (by rfl)
  have r1 : W2.cell? ⟨gr, 1, none⟩ = some (.int .i64 0) := blk_cell hk_gr 1 (by rfl)
  have r2 : W2.cell? ⟨gr, 2, none⟩ = some (.bool false) := blk_cell hk_gr 2 (by rfl)
  have r3 : W2.cell? ⟨gr, 3, none⟩ = some (.bool false) := blk_cell hk_gr 3 (by rfl)
  have s0 := blkf hk_gr 0
  have s1 := blkf hk_gr 1
  have s2 := blkf hk_gr 2
  have s3 := blkf hk_gr 3
  have hkf := hidI (blk_set (blk_set (blk_set (blk_set hk_gr 0 (.int .i64 0)) 1 (.int .i64 0)) 2 (.bool false)) 3 (.bool false))
  have hbf := hidI (bl_set (bl_set (bl_set (bl_set hbw (p := ⟨gr, 0, none⟩) hwg (.int .i64 0)) (p := ⟨gr, 1, none⟩) hwg (.int .i64 0)) (p := ⟨gr, 2, none⟩) hwg (.bool false)) (p := ⟨gr, 3, none⟩) hwg (.bool false))
  clear hk_gr hbw
  go_wp2
  refine bodyPost_ret (res_ct rfl _ _ gr 40 #[.int .i64 0, .int .i64 0, .bool false, .bool false] (0, 0) _ _ rfl (by first | exact hkf.out | (have h_ := hkf.out; simpa using h_)) Try.underlying40 rfl (by kernel_rfl) rfl) rfl ?_
  exact ⟨rfl, hbf.out⟩
theorem chan_range (L N : Value) (i : Int) (w : World) (hi : i < 0 ∨ 3 ≤ i) (hN : ∀ W, Below w.heap.size w W → Calls Try.prog 30 #[L] W fun e w' => e = .returned (.bool false) ∧ w' = W) :
    Calls Try.prog 16 #[L, .int .i64 i, N] w fun e w' => e = .returned (.tuple #[.agg #[.int .i64 0, .int .i64 0, .bool false, .bool false], .int .i64 3]) ∧ Below w.heap.size w w' := by
  replace hN := hidI hN
  by_cases h0 : i < 0
  · have d1 : decide (i < 0) = true := decide_eq_true (by omega)
    clear h0 hi
    go_enter Try.func16, Try.ntmps16
    go_upto_region 1 with fail
    have hk_gr := blk_new w (.cells #[.int .i64 0, .int .i64 0, .bool false, .bool false] 40)
    have hbw := bl_alloc (Below.refl w.heap.size w) (.cells #[.int .i64 0, .int .i64 0, .bool false, .bool false] 40)
    generalize w.alloc (.cells #[.int .i64 0, .int .i64 0, .bool false, .bool false] 40) = W1 at *
    obtain ⟨gr, hgr⟩ : ∃ g, w.heap.size = g := ⟨_, rfl⟩
    have hwg : w.heap.size ≤ gr := by omega
    rw [hgr] at hk_gr
    rw [hgr]
    clear hgr
    go_wp2_with fail
    refine (hN.out W1 hbw).mono ?_
    rintro e W2 ⟨rfl, hW2⟩
    subst hW2
    have r0 : W2.cell? ⟨gr, 0, none⟩ = some (.int .i64 0) := blk_cell hk_gr 0 (by rfl)
    have r1 : W2.cell? ⟨gr, 1, none⟩ = some (.int .i64 0) := blk_cell hk_gr 1 (by rfl)
    have r2 : W2.cell? ⟨gr, 2, none⟩ = some (.bool false) := blk_cell hk_gr 2 (by rfl)
    have r3 : W2.cell? ⟨gr, 3, none⟩ = some (.bool false) := blk_cell hk_gr 3 (by rfl)
    have s0 := blkf hk_gr 0
    have s1 := blkf hk_gr 1
    have s2 := blkf hk_gr 2
    have s3 := blkf hk_gr 3
    have hkf := hidI (blk_set (blk_set (blk_set (blk_set hk_gr 0 (.int .i64 0)) 1 (.int .i64 0)) 2 (.bool false)) 3 (.bool false))
    have hbf := hidI (bl_set (bl_set (bl_set (bl_set hbw (p := ⟨gr, 0, none⟩) hwg (.int .i64 0)) (p := ⟨gr, 1, none⟩) hwg (.int .i64 0)) (p := ⟨gr, 2, none⟩) hwg (.bool false)) (p := ⟨gr, 3, none⟩) hwg (.bool false))
    clear hk_gr hbw
    go_wp2
    refine bodyPost_ret (res_ct rfl _ _ gr 40 #[.int .i64 0, .int .i64 0, .bool false, .bool false] (0, 0) _ _ rfl (by first | exact hkf.out | (have h_ := hkf.out; simpa using h_)) Try.underlying40 rfl (by kernel_rfl) rfl) rfl ?_
    exact ⟨rfl, hbf.out⟩
  have d1 : decide (i < 0) = false := decide_eq_false (by omega)
  have d2 : decide (3 ≤ i) = true := decide_eq_true (by omega)
  clear h0 hi
  go_enter Try.func16, Try.ntmps16
  go_upto_region 1 with fail
  have hk_gr := blk_new w (.cells #[.int .i64 0, .int .i64 0, .bool false, .bool false] 40)
  have hbw := bl_alloc (Below.refl w.heap.size w) (.cells #[.int .i64 0, .int .i64 0, .bool false, .bool false] 40)
  generalize w.alloc (.cells #[.int .i64 0, .int .i64 0, .bool false, .bool false] 40) = W1 at *
  obtain ⟨gr, hgr⟩ : ∃ g, w.heap.size = g := ⟨_, rfl⟩
  have hwg : w.heap.size ≤ gr := by omega
  rw [hgr] at hk_gr
  rw [hgr]
  clear hgr
  go_wp2_with fail
  refine (hN.out W1 hbw).mono ?_
  rintro e W2 ⟨rfl, hW2⟩
  subst hW2
  have r0 : W2.cell? ⟨gr, 0, none⟩ = some (.int .i64 0) := blk_cell hk_gr 0 (by rfl)
  have r1 : W2.cell? ⟨gr, 1, none⟩ = some (.int .i64 0) := blk_cell hk_gr 1 (by rfl)
  have r2 : W2.cell? ⟨gr, 2, none⟩ = some (.bool false) := blk_cell hk_gr 2 (by rfl)
  have r3 : W2.cell? ⟨gr, 3, none⟩ = some (.bool false) := blk_cell hk_gr 3 (by rfl)
  have s0 := blkf hk_gr 0
  have s1 := blkf hk_gr 1
  have s2 := blkf hk_gr 2
  have s3 := blkf hk_gr 3
  have hkf := hidI (blk_set (blk_set (blk_set (blk_set hk_gr 0 (.int .i64 0)) 1 (.int .i64 0)) 2 (.bool false)) 3 (.bool false))
  have hbf := hidI (bl_set (bl_set (bl_set (bl_set hbw (p := ⟨gr, 0, none⟩) hwg (.int .i64 0)) (p := ⟨gr, 1, none⟩) hwg (.int .i64 0)) (p := ⟨gr, 2, none⟩) hwg (.bool false)) (p := ⟨gr, 3, none⟩) hwg (.bool false))
  clear hk_gr hbw
  go_wp2
  refine bodyPost_ret (res_ct rfl _ _ gr 40 #[.int .i64 0, .int .i64 0, .bool false, .bool false] (0, 0) _ _ rfl (by first | exact hkf.out | (have h_ := hkf.out; simpa using h_)) Try.underlying40 rfl (by kernel_rfl) rfl) rfl ?_
  exact ⟨rfl, hbf.out⟩
theorem bad_none (L : Value) (w : World) (hN : Calls Try.prog 30 #[L] w fun e w' => e = .returned (.bool true) ∧ w' = w) : Calls Try.prog 20 #[L] w fun e w' => e = .returned (.int .i64 0) ∧ w' = w := by
  replace hN := hidI hN
  go_enter Try.func20, Try.ntmps20
  go_wp2_with fail
  refine hN.out.mono ?_
  rintro e W2 ⟨rfl, hW2⟩
  subst hW2
  go_wp2
  go_ret
  exact ⟨rfl, rfl⟩
set_option maxHeartbeats 4000000 in
set_option maxRecDepth 100000 in
theorem bad_calls (gv : Nat) (V : Vo) (w : World) (hk : w.heap[gv]? = some (.cells V.arr 68 (0, 0))) (hs : 1 ≤ V.strikes) :
    Calls Try.prog 20 #[.pointer (some ⟨gv, 0, none⟩)] w fun e w' => e = .returned (.int .i64 V.bads) ∧ Below w.heap.size w w' := by
  have ds : (V.strikes == 0) = false := by simp; omega
  have hN := hidI (ds ▸ vNone_at gv V.strikes w (blk_cell hk 17 (by rfl)))
  have y0 : w.cell? ⟨gv, 0, none⟩ = some (.int .i64 V.a.v) := blk_cell hk 0 (by rfl)
  have y1 : w.cell? ⟨gv, 1, none⟩ = some (.int .i64 V.a.t) := blk_cell hk 1 (by rfl)
  have y2 : w.cell? ⟨gv, 2, none⟩ = some (.bool false) := blk_cell hk 2 (by rfl)
  have y3 : w.cell? ⟨gv, 3, none⟩ = some (.bool V.a.bad) := blk_cell hk 3 (by rfl)
  have y4 : w.cell? ⟨gv, 4, none⟩ = some (.int .i64 V.a.k) := blk_cell hk 4 (by rfl)
  have y5 : w.cell? ⟨gv, 5, none⟩ = some (.int .i64 V.b.v) := blk_cell hk 5 (by rfl)
  have y6 : w.cell? ⟨gv, 6, none⟩ = some (.int .i64 V.b.t) := blk_cell hk 6 (by rfl)
  have y7 : w.cell? ⟨gv, 7, none⟩ = some (.bool false) := blk_cell hk 7 (by rfl)
  have y8 : w.cell? ⟨gv, 8, none⟩ = some (.bool V.b.bad) := blk_cell hk 8 (by rfl)
  have y9 : w.cell? ⟨gv, 9, none⟩ = some (.int .i64 V.b.k) := blk_cell hk 9 (by rfl)
  have y10 : w.cell? ⟨gv, 10, none⟩ = some (.int .i64 V.c.v) := blk_cell hk 10 (by rfl)
  have y11 : w.cell? ⟨gv, 11, none⟩ = some (.int .i64 V.c.t) := blk_cell hk 11 (by rfl)
  have y12 : w.cell? ⟨gv, 12, none⟩ = some (.bool false) := blk_cell hk 12 (by rfl)
  have y13 : w.cell? ⟨gv, 13, none⟩ = some (.bool V.c.bad) := blk_cell hk 13 (by rfl)
  have y14 : w.cell? ⟨gv, 14, none⟩ = some (.int .i64 V.c.k) := blk_cell hk 14 (by rfl)
  have h1 : Hid (V.badsK 1 = V.badsK 0 + b1 V.a.bad) := by show _ = _; unfold Vo.badsK; simp [b1]
  have h2 : Hid (V.badsK 2 = V.badsK 1 + b1 V.b.bad) := by show _ = _; unfold Vo.badsK; simp [b1]
  have h3 : Hid (V.badsK 3 = V.badsK 2 + b1 V.c.bad) := by show _ = _; unfold Vo.badsK; simp [b1]
  have h4 : Hid (V.bads = V.badsK 3) := rfl
  have h5 : Hid (V.badsK 0 = 0) := rfl
  have hm : ∀ i, V.badsK i ≤ 3 := fun i => by
    unfold Vo.badsK
    have e1 := b1_le (decide (0 < i) && V.a.bad)
    have e2 := b1_le (decide (1 < i) && V.b.bad)
    have e3 := b1_le (decide (2 < i) && V.c.bad)
    omega
  obtain ⟨bk, hbk⟩ : ∃ f : Nat → Nat, f = V.badsK := ⟨_, rfl⟩
  rw [← hbk] at h1 h2 h3 h4 h5 hm
  rw [h4.out]
  clear hbk h4
  obtain ⟨w0, hw0⟩ : ∃ z : World, z = w := ⟨_, rfl⟩
  have hbw : Below w0.heap.size w0 w := by rw [hw0]; exact Below.refl _ _
  rw [← hw0]
  replace hw0 := hidI hw0
  replace hm := hidI hm
  clear hs ds
  replace hk := hidI hk
  subst hw0
  go_enter Try.func20, Try.ntmps20
  go_wp2_with fail
  refine hN.out.mono ?_
  rintro e W2 ⟨rfl, hW2⟩
  subst hW2
  go_wp2
  clear y0 y1 y2 y3 y4 y5 y6 y7 y8 y9 y10 y11 y12 y13 y14 hN
  go_loopw [3, 12] (fun x3 x12 wr => ∃ i : Nat, i ≤ 3 ∧ x12 = .int .i64 i ∧ x3 = .int .i64 (bk i) ∧ Below W2.heap.size W2 wr) (fun _ x _ => (3 - intOf x).toNat)
  case atStart => exact ⟨0, by omega, rfl, by rw [h5.out]; rfl, hbw⟩
  case round =>
    clear hbw
    obtain ⟨i, hi, rfl, rfl, hbw⟩ := hrel
    have hmi := hm.out i
    obtain ⟨m, hmm⟩ : ∃ m, bk i = m := ⟨_, rfl⟩
    rw [hmm] at hmi
    rcases (by omega : i = 0 ∨ i = 1 ∨ i = 2 ∨ i = 3) with rfl | rfl | rfl | rfl
    · rw [hmm] at h1
      have hd' : decide ((0 : Int) < 3) = true := by decide
      have hw : Hid ((m : Int) + 1 = ((m + 1 : Nat) : Int)) := by show _ = _; omega
      rw [hmm]
      replace hmm := hidI hmm
      cases hb : V.a.bad
      · rw [hb] at h1
        have e1 : bk 1 = m := h1.out
        replace e1 := hidI e1
        have i0 : ∀ w, (Instr.index 66 (.agg #[.int .i64 V.a.v, .int .i64 V.a.t, .bool false, .bool false, .int .i64 V.a.k, .int .i64 V.b.v, .int .i64 V.b.t, .bool false, .bool V.b.bad, .int .i64 V.b.k, .int .i64 V.c.v, .int .i64 V.c.t, .bool false, .bool V.c.bad, .int .i64 V.c.k]) (.int .i64 0)).run Try.prog w = .ok (.agg #[.int .i64 V.a.v, .int .i64 V.a.t, .bool false, .bool false, .int .i64 V.a.k]) w := fun _ => by kernel_rfl
        go_wp2
        go_roundw
        case rel => exact ⟨1, by omega, by go_num, by rw [e1.out], bl_alloc hbw _⟩
        case measure => simp [intOf]
      · rw [hb] at h1
        have e1 : bk 1 = m + 1 := h1.out
        replace e1 := hidI e1
        have i0 : ∀ w, (Instr.index 66 (.agg #[.int .i64 V.a.v, .int .i64 V.a.t, .bool false, .bool true, .int .i64 V.a.k, .int .i64 V.b.v, .int .i64 V.b.t, .bool false, .bool V.b.bad, .int .i64 V.b.k, .int .i64 V.c.v, .int .i64 V.c.t, .bool false, .bool V.c.bad, .int .i64 V.c.k]) (.int .i64 0)).run Try.prog w = .ok (.agg #[.int .i64 V.a.v, .int .i64 V.a.t, .bool false, .bool true, .int .i64 V.a.k]) w := fun _ => by kernel_rfl
        go_wp2
        go_roundw
        case rel => exact ⟨1, by omega, by go_num, by rw [e1.out, ← hw.out], bl_alloc hbw _⟩
        case measure => simp [intOf]
    · rw [hmm] at h2
      have hd' : decide ((1 : Int) < 3) = true := by decide
      have hw : Hid ((m : Int) + 1 = ((m + 1 : Nat) : Int)) := by show _ = _; omega
      rw [hmm]
      replace hmm := hidI hmm
      cases hb : V.b.bad
      · rw [hb] at h2
        have e1 : bk 2 = m := h2.out
        replace e1 := hidI e1
        have i0 : ∀ w, (Instr.index 66 (.agg #[.int .i64 V.a.v, .int .i64 V.a.t, .bool false, .bool V.a.bad, .int .i64 V.a.k, .int .i64 V.b.v, .int .i64 V.b.t, .bool false, .bool false, .int .i64 V.b.k, .int .i64 V.c.v, .int .i64 V.c.t, .bool false, .bool V.c.bad, .int .i64 V.c.k]) (.int .i64 1)).run Try.prog w = .ok (.agg #[.int .i64 V.b.v, .int .i64 V.b.t, .bool false, .bool false, .int .i64 V.b.k]) w := fun _ => by kernel_rfl
        go_wp2
        go_roundw
        case rel => exact ⟨2, by omega, by go_num, by rw [e1.out], bl_alloc hbw _⟩
        case measure => simp [intOf]
      · rw [hb] at h2
        have e1 : bk 2 = m + 1 := h2.out
        replace e1 := hidI e1
        have i0 : ∀ w, (Instr.index 66 (.agg #[.int .i64 V.a.v, .int .i64 V.a.t, .bool false, .bool V.a.bad, .int .i64 V.a.k, .int .i64 V.b.v, .int .i64 V.b.t, .bool false, .bool true, .int .i64 V.b.k, .int .i64 V.c.v, .int .i64 V.c.t, .bool false, .bool V.c.bad, .int .i64 V.c.k]) (.int .i64 1)).run Try.prog w = .ok (.agg #[.int .i64 V.b.v, .int .i64 V.b.t, .bool false, .bool true, .int .i64 V.b.k]) w := fun _ => by kernel_rfl
        go_wp2
        go_roundw
        case rel => exact ⟨2, by omega, by go_num, by rw [e1.out, ← hw.out], bl_alloc hbw _⟩
        case measure => simp [intOf]
    · rw [hmm] at h3
      have hd' : decide ((2 : Int) < 3) = true := by decide
      have hw : Hid ((m : Int) + 1 = ((m + 1 : Nat) : Int)) := by show _ = _; omega
      rw [hmm]
      replace hmm := hidI hmm
      cases hb : V.c.bad
      · rw [hb] at h3
        have e1 : bk 3 = m := h3.out
        replace e1 := hidI e1
        have i0 : ∀ w, (Instr.index 66 (.agg #[.int .i64 V.a.v, .int .i64 V.a.t, .bool false, .bool V.a.bad, .int .i64 V.a.k, .int .i64 V.b.v, .int .i64 V.b.t, .bool false, .bool V.b.bad, .int .i64 V.b.k, .int .i64 V.c.v, .int .i64 V.c.t, .bool false, .bool false, .int .i64 V.c.k]) (.int .i64 2)).run Try.prog w = .ok (.agg #[.int .i64 V.c.v, .int .i64 V.c.t, .bool false, .bool false, .int .i64 V.c.k]) w := fun _ => by kernel_rfl
        go_wp2
        go_roundw
        case rel => exact ⟨3, by omega, by go_num, by rw [e1.out], bl_alloc hbw _⟩
        case measure => simp [intOf]
      · rw [hb] at h3
        have e1 : bk 3 = m + 1 := h3.out
        replace e1 := hidI e1
        have i0 : ∀ w, (Instr.index 66 (.agg #[.int .i64 V.a.v, .int .i64 V.a.t, .bool false, .bool V.a.bad, .int .i64 V.a.k, .int .i64 V.b.v, .int .i64 V.b.t, .bool false, .bool V.b.bad, .int .i64 V.b.k, .int .i64 V.c.v, .int .i64 V.c.t, .bool false, .bool true, .int .i64 V.c.k]) (.int .i64 2)).run Try.prog w = .ok (.agg #[.int .i64 V.c.v, .int .i64 V.c.t, .bool false, .bool true, .int .i64 V.c.k]) w := fun _ => by kernel_rfl
        go_wp2
        go_roundw
        case rel => exact ⟨3, by omega, by go_num, by rw [e1.out, ← hw.out], bl_alloc hbw _⟩
        case measure => simp [intOf]
    · have hd' : decide ((3 : Int) < 3) = false := by decide
      replace hmm := hidI hmm
      go_wp2
      go_ret
      exact ⟨rfl, hbw⟩
theorem reset_none (L X : Value) (w : World) (hN : Calls Try.prog 30 #[L] w fun e w' => e = .returned (.bool true) ∧ w' = w) : Calls Try.prog 24 #[L, X] w fun e w' => e = .returned (.tuple #[]) ∧ w' = w := by
  replace hN := hidI hN
  go_enter Try.func24, Try.ntmps24
  go_wp2_with fail
  refine hN.out.mono ?_
  rintro e W2 ⟨rfl, hW2⟩
  subst hW2
  go_wp2
  refine bodyPost_ret (results_none rfl _ _ _) rfl ?_
  exact ⟨rfl, rfl⟩
set_option maxHeartbeats 8000000 in
set_option maxRecDepth 100000 in
theorem reset_calls (w0 : World) (gv : Nat) (V : Vo) (l : List Int) (A : Option Addr) (c : Nat) (w : World) (hg : w0.heap.size ≤ gv) (hbw : Below w0.heap.size w0 w) (hk0 : w.heap[gv]? = some (.cells V.arr 68 (0, 0))) (hs : 1 ≤ V.strikes) (hA : RdI w A l) (hne : ∀ a : Addr, A = some a → a.block ≠ gv) (h0 : l ≠ []) :
    Calls Try.prog 24 #[.pointer (some ⟨gv, 0, none⟩), .slice A l.length c] w fun e w' => e = .returned (.tuple #[]) ∧ E1 w0 w w' gv ∧ w'.heap[gv]? = some (.cells (V.reset l).arr 68 (0, 0)) := by
  have ds : (V.strikes == 0) = false := by simp; omega
  have hN := hidI (ds ▸ vNone_at gv V.strikes w (blk_cell hk0 17 (by rfl)))
  have hl : ((l.length : Int) == 0) = false := by cases l with | nil => exact absurd rfl h0 | cons x l => simp; omega
  have hl2 : (l.length == 0) = false := by cases l with | nil => exact absurd rfl h0 | cons x l => rfl
  have hE0 : E1 w0 w w gv := E1.refl hbw
  obtain ⟨S, hS⟩ : ∃ f : Nat → Vo, f = fun k => (l.take k).foldl Vo.reset1 V := ⟨_, rfl⟩
  have hS0 : Hid (S 0 = V) := by show _ = _; rw [hS]; rfl
  have hSs : ∀ k, k < l.length → S (k + 1) = (S k).reset1 (l.getD k 0) := fun k hk => by rw [hS]; simp only []; rw [take_snocD _ _ hk, List.foldl_append]; rfl
  have hSe : Hid (S l.length = V.reset l) := by show _ = _; rw [hS]; unfold Vo.reset; rw [if_neg h0]; simp
  replace hSs := hidI hSs
  clear hS ds hs h0 hbw
  have hSs : ∀ k, k < l.length → S (k + 1) = (S k).reset1 (l.getD k 0) := hSs.out
  replace hSs := hidI hSs
  go_enter Try.func24, Try.ntmps24
  go_wp2_with fail
  refine hN.out.mono ?_
  rintro e W2 ⟨rfl, hW2⟩
  subst hW2
  clear hN
  go_wp2
  go_loopw [14] (fun x wr => ∃ k : Nat, k ≤ l.length ∧ x = .int .i64 k ∧ E1 w0 W2 wr gv ∧ wr.heap[gv]? = some (.cells (S k).arr 68 (0, 0))) (fun x _ => (l.length - intOf x).toNat)
  case atStart => exact ⟨0, by omega, rfl, hE0, by rw [hS0.out]; exact hk0⟩
  case round =>
    clear hE0 hk0
    obtain ⟨k, hkl, rfl, hE, hk⟩ := hrel
    by_cases hlt : k < l.length
    · have hd : decide ((k : Int) < (l.length : Int)) = true := decide_eq_true (by omega)
      have nd : decide (k < l.length) = true := decide_eq_true hlt
      have hb64 : ((k : Int) + 1) ≤ 9223372036854775807 := by have := hA.1; omega
      obtain ⟨bb, off, rfl, hc0⟩ := hA.at hlt
      have hsn := hidI (hSs.out k hlt)
      have hc : wr.cell? ⟨bb, off + k, none⟩ = some (.int .i64 (l.getD k 0)) := KeepX.cell (a := ⟨bb, off + k, none⟩) hE.k (fun h_ => hne ⟨bb, off, none⟩ rfl h_) hc0
      obtain ⟨z, hz⟩ : ∃ z, l.getD k 0 = z := ⟨_, rfl⟩
      rw [hz] at hc hc0 hsn
      obtain ⟨V1, hV1⟩ : ∃ V1, S k = V1 := ⟨_, rfl⟩
      rw [hV1] at hk hsn
      clear hz hV1 hc0
      by_cases hz1 : 0 ≤ z
      · by_cases hz2 : z < 3
        · rcases (by omega : z = 0 ∨ z = 1 ∨ z = 2) with hq | hq | hq
          · have dz : (z : Int) = 0 := by omega
            subst dz
            have d1 : decide ((0 : Int) ≤ 0) = true := by decide
            have d2 : decide ((0 : Int) < 3) = true := by decide
            have hx : Hid ((V1.arr.setIfInBounds 3 (.bool false)).setIfInBounds 4 (.int .i64 0) = (V1.reset1 0).arr) := rfl
            have yb : wr.cell? ⟨gv, 3, none⟩ = some (.bool V1.a.bad) := blk_cell hk 3 (by rfl)
            have yk : wr.cell? ⟨gv, 4, none⟩ = some (.int .i64 V1.a.k) := blk_cell hk 4 (by rfl)
            have zb := blkf hk 3
            have zk := blkf hk 4
            have hk2 := hidI (blk_set (blk_set (blk_drew hk) 3 (.bool false)) 4 (.int .i64 0))
            have hE2 := hidI ((hE.drew.set hg 3 (.bool false)).set hg 4 (.int .i64 0))
            replace hk := hidI hk
            replace hE := hidI hE
            go_wp2
            go_region
            go_wp2
            go_roundw
            case rel => exact ⟨k + 1, by omega, by go_num, hE2.out, by rw [hsn.out]; have h_ := hk2.out; rw [hx.out] at h_; exact h_⟩
            case measure => simp [intOf]; omega
          · have dz : (z : Int) = 1 := by omega
            subst dz
            have d1 : decide ((0 : Int) ≤ 1) = true := by decide
            have d2 : decide ((1 : Int) < 3) = true := by decide
            have hx : Hid ((V1.arr.setIfInBounds 8 (.bool false)).setIfInBounds 9 (.int .i64 0) = (V1.reset1 1).arr) := rfl
            have yb : wr.cell? ⟨gv, 8, none⟩ = some (.bool V1.b.bad) := blk_cell hk 8 (by rfl)
            have yk : wr.cell? ⟨gv, 9, none⟩ = some (.int .i64 V1.b.k) := blk_cell hk 9 (by rfl)
            have zb := blkf hk 8
            have zk := blkf hk 9
            have hk2 := hidI (blk_set (blk_set (blk_drew hk) 8 (.bool false)) 9 (.int .i64 0))
            have hE2 := hidI ((hE.drew.set hg 8 (.bool false)).set hg 9 (.int .i64 0))
            replace hk := hidI hk
            replace hE := hidI hE
            go_wp2
            go_region
            go_wp2
            go_roundw
            case rel => exact ⟨k + 1, by omega, by go_num, hE2.out, by rw [hsn.out]; have h_ := hk2.out; rw [hx.out] at h_; exact h_⟩
            case measure => simp [intOf]; omega
          · have dz : (z : Int) = 2 := by omega
            subst dz
            have d1 : decide ((0 : Int) ≤ 2) = true := by decide
            have d2 : decide ((2 : Int) < 3) = true := by decide
            have hx : Hid ((V1.arr.setIfInBounds 13 (.bool false)).setIfInBounds 14 (.int .i64 0) = (V1.reset1 2).arr) := rfl
            have yb : wr.cell? ⟨gv, 13, none⟩ = some (.bool V1.c.bad) := blk_cell hk 13 (by rfl)
            have yk : wr.cell? ⟨gv, 14, none⟩ = some (.int .i64 V1.c.k) := blk_cell hk 14 (by rfl)
            have zb := blkf hk 13
            have zk := blkf hk 14
            have hk2 := hidI (blk_set (blk_set (blk_drew hk) 13 (.bool false)) 14 (.int .i64 0))
            have hE2 := hidI ((hE.drew.set hg 13 (.bool false)).set hg 14 (.int .i64 0))
            replace hk := hidI hk
            replace hE := hidI hE
            go_wp2
            go_region
            go_wp2
            go_roundw
            case rel => exact ⟨k + 1, by omega, by go_num, hE2.out, by rw [hsn.out]; have h_ := hk2.out; rw [hx.out] at h_; exact h_⟩
            case measure => simp [intOf]; omega
        · have d1 : decide (0 ≤ z) = true := decide_eq_true hz1
          have d2 : decide (z < 3) = false := decide_eq_false hz2
          have hx : Hid (V1.reset1 z = V1) := by show _ = _; unfold Vo.reset1; rw [if_neg (by omega)]
          go_wp2
          go_roundw
          case rel => exact ⟨k + 1, by omega, by go_num, hE, by rw [hsn.out, hx.out]; exact hk⟩
          case measure => simp [intOf]; omega
      · have d1 : decide (0 ≤ z) = false := decide_eq_false hz1
        have hx : Hid (V1.reset1 z = V1) := by show _ = _; unfold Vo.reset1; rw [if_neg (by omega)]
        go_wp2
        go_roundw
        case rel => exact ⟨k + 1, by omega, by go_num, hE, by rw [hsn.out, hx.out]; exact hk⟩
        case measure => simp [intOf]; omega
    · have hd : decide ((k : Int) < (l.length : Int)) = false := decide_eq_false (by omega)
      have nd : decide (k < l.length) = false := decide_eq_false hlt
      obtain rfl : k = l.length := by omega
      rw [hSe.out] at hk
      go_wp2
      go_end0
      exact ⟨rfl, hE, hk⟩
set_option maxHeartbeats 8000000 in
set_option maxRecDepth 100000 in
theorem reset_all (w0 : World) (gv : Nat) (V : Vo) (A : Option Addr) (c : Nat) (w : World) (hg : w0.heap.size ≤ gv) (hbw : Below w0.heap.size w0 w) (hkw : w.heap[gv]? = some (.cells V.arr 68 (0, 0))) (hs : 1 ≤ V.strikes) :
    Calls Try.prog 24 #[.pointer (some ⟨gv, 0, none⟩), .slice A 0 c] w fun e w' => e = .returned (.tuple #[]) ∧ E1 w0 w w' gv ∧ w'.heap[gv]? = some (.cells (V.reset []).arr 68 (0, 0)) := by
  have ds : (V.strikes == 0) = false := by simp; omega
  have hN := hidI (ds ▸ vNone_at gv V.strikes w (blk_cell hkw 17 (by rfl)))
  obtain ⟨l, hl⟩ : ∃ l : List Int, l = [0, 1, 2] := ⟨_, rfl⟩
  have hle : Hid (l.length = 3) := by show _ = _; rw [hl]; rfl
  obtain ⟨S, hS⟩ : ∃ f : Nat → Vo, f = fun k => (l.take k).foldl Vo.reset1 V := ⟨_, rfl⟩
  have hS0 : Hid (S 0 = V) := by show _ = _; rw [hS]; rfl
  have hSs : ∀ k, k < l.length → S (k + 1) = (S k).reset1 (l.getD k 0) := fun k hk => by rw [hS]; simp only []; rw [take_snocD _ _ hk, List.foldl_append]; rfl
  have hSe : Hid (S l.length = V.reset []) := by show _ = _; rw [hS]; unfold Vo.reset; rw [if_pos rfl, ← hl]; simp
  have hld : Hid (l.getD 0 0 = 0 ∧ l.getD 1 0 = 1 ∧ l.getD 2 0 = 2) := by show _; rw [hl]; exact ⟨rfl, rfl, rfl⟩
  have hlR : Hid (∀ W g, W.heap[g]? = some (.cells #[.int .i64 0, .int .i64 1, .int .i64 2] 3 (0, 0)) → RdI W (some ⟨g, 0, none⟩) l) := fun W g h => by rw [hl]; exact RdI.of_blk (l := [0, 1, 2]) h (by simp)
  have hE0 : E1 w0 w w gv := E1.refl hbw
  have hlt := blk_lt hkw
  replace hSs := hidI hSs
  clear hS ds hs hbw hl
  go_enter Try.func24, Try.ntmps24
  go_wp2_with fail
  refine hN.out.mono ?_
  rintro e W2 ⟨rfl, hW2⟩
  subst hW2
  clear hN
  go_upto_region 3 with fail
  have hkl := blk_new W2 (.cells #[.int .i64 0, .int .i64 1, .int .i64 2] 3)
  have hE0 := hE0.ext (bl_alloc (Below.refl W2.heap.size W2) (.cells #[.int .i64 0, .int .i64 1, .int .i64 2] 3))
  have hk0 := blk_alloc hkw (.cells #[.int .i64 0, .int .i64 1, .int .i64 2] 3)
  obtain ⟨W3, hW3⟩ : ∃ z, z = W2.alloc (.cells #[.int .i64 0, .int .i64 1, .int .i64 2] 3) := ⟨_, rfl⟩
  rw [← hW3] at hkl hE0 hk0 ⊢
  obtain ⟨gl, hgl⟩ : ∃ z, W2.heap.size = z := ⟨_, rfl⟩
  rw [hgl] at hkl hlt ⊢
  have hA := hlR.out _ _ hkl
  have hgne : gl ≠ gv := by omega
  clear hW3 hgl hkw hlR hlt
  go_wp2
  go_loopw [14] (fun x wr => ∃ k : Nat, k ≤ 3 ∧ x = .int .i64 k ∧ E1 w0 W2 wr gv ∧ wr.heap[gv]? = some (.cells (S k).arr 68 (0, 0)) ∧ wr.heap[gl]? = some (.cells #[.int .i64 0, .int .i64 1, .int .i64 2] 3 (0, 0))) (fun x _ => (3 - intOf x).toNat)
  case atStart => exact ⟨0, by omega, rfl, hE0, by rw [hS0.out]; exact hk0, hkl⟩
  case round =>
    clear hE0 hk0 hkl hA
    obtain ⟨k, hk3, rfl, hE, hk, hkl⟩ := hrel
    obtain ⟨V1, hV1⟩ : ∃ V1, S k = V1 := ⟨_, rfl⟩
    rw [hV1] at hk
    rcases (by omega : k = 0 ∨ k = 1 ∨ k = 2 ∨ k = 3) with rfl | rfl | rfl | rfl
    · have hsn : Hid (S (0 + 1) = V1.reset1 0) := by have h_ := hSs.out 0 (by rw [hle.out]; omega); rw [hV1, hld.out.1] at h_; exact h_
      replace hV1 := hidI hV1
      have hd' : decide ((0 : Int) < 3) = true := by decide
      have d1 : decide ((0 : Int) ≤ 0) = true := by decide
      have yc : wr.cell? ⟨gl, 0, none⟩ = some (.int .i64 0) := blk_cell hkl 0 (by rfl)
      have hx : Hid ((V1.arr.setIfInBounds 3 (.bool false)).setIfInBounds 4 (.int .i64 0) = (V1.reset1 0).arr) := rfl
      have yb : wr.cell? ⟨gv, 3, none⟩ = some (.bool V1.a.bad) := blk_cell hk 3 (by rfl)
      have yk : wr.cell? ⟨gv, 4, none⟩ = some (.int .i64 V1.a.k) := blk_cell hk 4 (by rfl)
      have zb := blkf hk 3
      have zk := blkf hk 4
      have hk2 := hidI (blk_set (blk_set (blk_drew hk) 3 (.bool false)) 4 (.int .i64 0))
      have hkl2 := hidI (blk_far (blk_far (blk_drew hkl) (a := ⟨gv, 3, none⟩) (Ne.symm hgne) (.bool false)) (a := ⟨gv, 4, none⟩) (Ne.symm hgne) (.int .i64 0))
      have hE2 := hidI ((hE.drew.set hg 3 (.bool false)).set hg 4 (.int .i64 0))
      replace hk := hidI hk
      replace hkl := hidI hkl
      replace hE := hidI hE
      go_wp2
      go_region
      go_wp2
      go_roundw
      case rel => exact ⟨0 + 1, by omega, by go_num, hE2.out, by rw [hsn.out]; have h_ := hk2.out; rw [hx.out] at h_; exact h_, hkl2.out⟩
      case measure => simp [intOf]
    · have hsn : Hid (S (1 + 1) = V1.reset1 1) := by have h_ := hSs.out 1 (by rw [hle.out]; omega); rw [hV1, hld.out.2.1] at h_; exact h_
      replace hV1 := hidI hV1
      have hd' : decide ((1 : Int) < 3) = true := by decide
      have d1 : decide ((0 : Int) ≤ 1) = true := by decide
      have yc : wr.cell? ⟨gl, 1, none⟩ = some (.int .i64 1) := blk_cell hkl 1 (by rfl)
      have hx : Hid ((V1.arr.setIfInBounds 8 (.bool false)).setIfInBounds 9 (.int .i64 0) = (V1.reset1 1).arr) := rfl
      have yb : wr.cell? ⟨gv, 8, none⟩ = some (.bool V1.b.bad) := blk_cell hk 8 (by rfl)
      have yk : wr.cell? ⟨gv, 9, none⟩ = some (.int .i64 V1.b.k) := blk_cell hk 9 (by rfl)
      have zb := blkf hk 8
      have zk := blkf hk 9
      have hk2 := hidI (blk_set (blk_set (blk_drew hk) 8 (.bool false)) 9 (.int .i64 0))
      have hkl2 := hidI (blk_far (blk_far (blk_drew hkl) (a := ⟨gv, 8, none⟩) (Ne.symm hgne) (.bool false)) (a := ⟨gv, 9, none⟩) (Ne.symm hgne) (.int .i64 0))
      have hE2 := hidI ((hE.drew.set hg 8 (.bool false)).set hg 9 (.int .i64 0))
      replace hk := hidI hk
      replace hkl := hidI hkl
      replace hE := hidI hE
      go_wp2
      go_region
      go_wp2
      go_roundw
      case rel => exact ⟨1 + 1, by omega, by go_num, hE2.out, by rw [hsn.out]; have h_ := hk2.out; rw [hx.out] at h_; exact h_, hkl2.out⟩
      case measure => simp [intOf]
    · have hsn : Hid (S (2 + 1) = V1.reset1 2) := by have h_ := hSs.out 2 (by rw [hle.out]; omega); rw [hV1, hld.out.2.2] at h_; exact h_
      replace hV1 := hidI hV1
      have hd' : decide ((2 : Int) < 3) = true := by decide
      have d1 : decide ((0 : Int) ≤ 2) = true := by decide
      have yc : wr.cell? ⟨gl, 2, none⟩ = some (.int .i64 2) := blk_cell hkl 2 (by rfl)
      have hx : Hid ((V1.arr.setIfInBounds 13 (.bool false)).setIfInBounds 14 (.int .i64 0) = (V1.reset1 2).arr) := rfl
      have yb : wr.cell? ⟨gv, 13, none⟩ = some (.bool V1.c.bad) := blk_cell hk 13 (by rfl)
      have yk : wr.cell? ⟨gv, 14, none⟩ = some (.int .i64 V1.c.k) := blk_cell hk 14 (by rfl)
      have zb := blkf hk 13
      have zk := blkf hk 14
      have hk2 := hidI (blk_set (blk_set (blk_drew hk) 13 (.bool false)) 14 (.int .i64 0))
      have hkl2 := hidI (blk_far (blk_far (blk_drew hkl) (a := ⟨gv, 13, none⟩) (Ne.symm hgne) (.bool false)) (a := ⟨gv, 14, none⟩) (Ne.symm hgne) (.int .i64 0))
      have hE2 := hidI ((hE.drew.set hg 13 (.bool false)).set hg 14 (.int .i64 0))
      replace hk := hidI hk
      replace hkl := hidI hkl
      replace hE := hidI hE
      go_wp2
      go_region
      go_wp2
      go_roundw
      case rel => exact ⟨2 + 1, by omega, by go_num, hE2.out, by rw [hsn.out]; have h_ := hk2.out; rw [hx.out] at h_; exact h_, hkl2.out⟩
      case measure => simp [intOf]
    · rw [show (3 : Nat) = l.length from hle.out.symm, hSe.out] at hV1
      rw [← hV1] at hk
      clear hV1
      have hd : decide ((3 : Int) < 3) = false := by decide
      go_wp2
      go_end0
      exact ⟨rfl, hE, hk⟩
end Go.Proofs.Ytggididnclfahaa
