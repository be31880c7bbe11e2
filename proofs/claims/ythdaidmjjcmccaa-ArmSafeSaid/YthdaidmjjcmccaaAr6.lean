/- Proved here: lemmas and contracts (what a function of the program computes) that the proofs of the laws of this seat lean on. Conditions: as each theorem states. -/
import Derived.Test.YthdaidmjjcmccaaAr5
set_option linter.unusedVariables false
set_option linter.unusedSimpArgs false
namespace Go.Proofs.Ythdaidmjjcmccaa
open Go.RowKit Go.Pk Go.Proofs.YthdaidmjjcmccaaW.PrintLast
set_option maxHeartbeats 8000000 in
set_option maxRecDepth 100000 in
theorem aForce_calls (w0 : World) (ga gl : Nat) (hold : Int) (a : ASt) (aS : Option Addr) (p : Pl) (s : List Int) (n cS : Nat) (why : Int) (x : List Int) (ax : Option Addr) (cx : Nat) (w : World) (hX : ArmX w0 ga gl aS p s 51 116) (ha : a.ok) (hbw : Below w0.heap.size w0 w) (hk_ga : w.heap[ga]? = some (.cells (armV gl hold a aS n cS) 78 (0, 0))) (hx : RdI w ax x) (hix : InI x) :
    Calls Try.prog 41 #[.pointer (some ⟨ga, 0, none⟩), .int .i64 why, .slice ax x.length cx] w fun e w' => Chose w0 w w' ga gl hold (a.chosen 1) aS n cS 78 (baseP p x) 1 (forceWhy p why x) e := by
  obtain ⟨gk, hgk, hkit⟩ := hX.lk.ptr
  have hDi := hidI (fun W (h : Below w0.heap.size w0 W) => Dim_calls gk p W (hkit.below h))
  have hBs := hidI (fun W why (h : Below w0.heap.size w0 W) hk (h2 : RdI W ax x) => abase_calls w0 ga gl hold a aS p s n cS why x ax cx W hX ha h hk h2 hix)
  obtain ⟨bs, hbs⟩ : ∃ z, baseP p x = z := ⟨_, rfl⟩
  rw [hbs] at hBs ⊢
  have hlt := blk_lt hk_ga
  have hFw : Hid (forceWhy p why x = if x.length = p.B.length then why else 1) := rfl
  obtain ⟨fw, hfw⟩ : ∃ z, forceWhy p why x = z := ⟨_, rfl⟩
  rw [hfw] at hFw ⊢
  obtain ⟨N, hN⟩ : ∃ z, p.B.length = z := ⟨_, rfl⟩
  rw [hN] at hDi hFw
  obtain ⟨av, hav⟩ : ∃ z, armV gl hold a aS n cS = z := ⟨_, rfl⟩
  have hk0 : ∀ W : World, W.heap[ga]? = some (.cells (armV gl hold a aS n cS) 78 (0, 0)) → W.cell? ⟨ga, 0, none⟩ = some (.pointer (some ⟨gl, 0, none⟩)) := fun W h => blk_cell h 0 (by rfl)
  have hfin := hidI (fun (V W : World) (cmd src why : Int) (e : Ending) => (show Chose w0 V W ga gl hold (a.chosen 1) aS n cS 78 cmd src why e ↔ (e = .returned (.agg #[.int .i64 cmd, .int .i64 src, .int .i64 why]) ∧ Arm1 w0 V W ga ∧ W.heap[ga]? = some (.cells (armV gl hold (a.chosen 1) aS n cS) 78 (0, 0))) from Iff.rfl))
  rw [hav] at hk_ga hBs hk0
  replace hk0 := hidI hk0
  obtain ⟨bv, hbv⟩ : ∃ z, armV gl hold (a.chosen 1) aS n cS = z := ⟨_, rfl⟩
  rw [hbv] at hfin
  replace hbv := hidI hbv
  clear hbs hN hfw hav hX ha hkit hix
  go_enter Try.func41, Try.ntmps41
  go_upto_region 1 with fail
  have hk_gr := blk_new w (.cells #[.int .i64 0, .int .i64 0, .int .i64 0] 73)
  have hbA := bl_alloc (Below.refl w.heap.size w) (.cells #[.int .i64 0, .int .i64 0, .int .i64 0] 73)
  have hA1 := (Arm1.refl (ga := ga) hbw).ext hbA
  replace hk_ga := bl_block hbA hk_ga
  replace hx := hx.below hbA
  generalize w.alloc (.cells #[.int .i64 0, .int .i64 0, .int .i64 0] 73) = W1 at *
  obtain ⟨gr, hgr⟩ : ∃ g, w.heap.size = g := ⟨_, rfl⟩
  have hng : gr ≠ ga := by omega
  have hw0g : w0.heap.size ≤ gr := by have := hbw.size; omega
  have hwg : w.heap.size ≤ gr := by omega
  rw [hgr] at hk_gr
  rw [hgr]
  clear hgr hbA
  have y0 := hk0.out W1 hk_ga
  have y1 : W1.cell? ⟨gl, 0, none⟩ = some (.pointer (some ⟨gk, 0, none⟩)) := bl_cell hA1.b hgk
  go_wp2_with fail
  refine (aNone_arm ga gl gk W1 y0 y1).mono ?_
  rintro e W2 ⟨rfl, hW2⟩
  subst hW2
  go_wp2_with fail
  refine (hDi.out _ hA1.b).mono ?_
  rintro e W3 ⟨rfl, hW3⟩
  subst hW3
  clear y0 y1
  by_cases hl : ((x.length : Int) != (N : Int)) = true
  · have hz : Hid (fw = 1) := by rw [hFw.out]; exact if_neg (by simp at hl; omega)
    have hB1 := hidI (hBs.out W3 1 hA1.b hk_ga hx)
    clear hBs hFw
    go_wp2_with fail
    refine hB1.out.mono ?_
    intro e W4 hc
    obtain ⟨rfl, hA3, hk3⟩ := (hfin.out _ _ _ _ _ _).1 hc
    replace hk_gr := hA3.k _ _ hng hk_gr
    replace hA1 := hA1.trans hA3
    clear hA3 hk_ga hB1 hc
    have y0 : W4.cell? ⟨gr, 0, none⟩ = some (.int .i64 0) := blk_cell hk_gr 0 (by rfl)
    have y1 : W4.cell? ⟨gr, 1, none⟩ = some (.int .i64 0) := blk_cell hk_gr 1 (by rfl)
    have y2 : W4.cell? ⟨gr, 2, none⟩ = some (.int .i64 0) := blk_cell hk_gr 2 (by rfl)
    have z0 := blkf hk_gr 0
    have z1 := blkf hk_gr 1
    have z2 := blkf hk_gr 2
    go_wp2
    refine bodyPost_ret (results_cell_row rfl _ _ gr 73 #[.int .i64 bs, .int .i64 1, .int .i64 1] (0, 0) _ rfl (blk_set (blk_set (blk_set hk_gr 0 (.int .i64 bs)) 1 (.int .i64 1)) 2 (.int .i64 1)) Try.underlying73 rfl (by kernel_rfl)) rfl ?_
    exact (hfin.out _ _ _ _ _ _).2 ⟨by rw [hz.out], ((hA1.set (a := ⟨gr, 0, none⟩) hwg hw0g (.int .i64 bs)).set (a := ⟨gr, 1, none⟩) hwg hw0g (.int .i64 1)).set (a := ⟨gr, 2, none⟩) hwg hw0g (.int .i64 1), blk_far (blk_far (blk_far hk3 (a := ⟨gr, 0, none⟩) hng (.int .i64 bs)) (a := ⟨gr, 1, none⟩) hng (.int .i64 1)) (a := ⟨gr, 2, none⟩) hng (.int .i64 1)⟩
  · have hz : Hid (fw = why) := by rw [hFw.out]; exact if_pos (by simp at hl; omega)
    replace hl : ((x.length : Int) != (N : Int)) = false := by simpa using hl
    have hB1 := hidI (hBs.out W3 why hA1.b hk_ga hx)
    clear hBs hFw
    go_wp2_with fail
    refine hB1.out.mono ?_
    intro e W4 hc
    obtain ⟨rfl, hA3, hk3⟩ := (hfin.out _ _ _ _ _ _).1 hc
    replace hk_gr := hA3.k _ _ hng hk_gr
    replace hA1 := hA1.trans hA3
    clear hA3 hk_ga hB1 hc
    have y0 : W4.cell? ⟨gr, 0, none⟩ = some (.int .i64 0) := blk_cell hk_gr 0 (by rfl)
    have y1 : W4.cell? ⟨gr, 1, none⟩ = some (.int .i64 0) := blk_cell hk_gr 1 (by rfl)
    have y2 : W4.cell? ⟨gr, 2, none⟩ = some (.int .i64 0) := blk_cell hk_gr 2 (by rfl)
    have z0 := blkf hk_gr 0
    have z1 := blkf hk_gr 1
    have z2 := blkf hk_gr 2
    go_wp2
    refine bodyPost_ret (results_cell_row rfl _ _ gr 73 #[.int .i64 bs, .int .i64 1, .int .i64 why] (0, 0) _ rfl (blk_set (blk_set (blk_set hk_gr 0 (.int .i64 bs)) 1 (.int .i64 1)) 2 (.int .i64 why)) Try.underlying73 rfl (by kernel_rfl)) rfl ?_
    exact (hfin.out _ _ _ _ _ _).2 ⟨by rw [hz.out], ((hA1.set (a := ⟨gr, 0, none⟩) hwg hw0g (.int .i64 bs)).set (a := ⟨gr, 1, none⟩) hwg hw0g (.int .i64 1)).set (a := ⟨gr, 2, none⟩) hwg hw0g (.int .i64 why), blk_far (blk_far (blk_far hk3 (a := ⟨gr, 0, none⟩) hng (.int .i64 bs)) (a := ⟨gr, 1, none⟩) hng (.int .i64 1)) (a := ⟨gr, 2, none⟩) hng (.int .i64 why)⟩
set_option maxHeartbeats 8000000 in
set_option maxRecDepth 100000 in
theorem aDecide_calls (w0 : World) (ga gl : Nat) (hold : Int) (a : ASt) (aS : Option Addr) (p : Pl) (s : List Int) (cS : Nat) (b : ByteArray) (x : List Int) (ax : Option Addr) (cx : Nat) (w : World) (hX : ArmX w0 ga gl aS p s 51 116) (ha : a.ok) (hbw : Below w0.heap.size w0 w) (hk_ga : w.heap[ga]? = some (.cells (armV gl hold a aS s.length cS) 78 (0, 0))) (hx : RdI w ax x) (hix : InI x) (hbm : b.size ≤ 9223372036854775807) :
    Calls Try.prog 38 #[.pointer (some ⟨ga, 0, none⟩), .string b, .slice ax x.length cx] w fun e w' => Chose w0 w w' ga gl hold (a.chosen (decSrc p s hold a b x)) aS s.length cS 78 (decCmd p s hold a b x) (decSrc p s hold a b x) (decWhy p s hold a b x) e := by
  obtain ⟨gk, hgk, hkit⟩ := hX.lk.ptr
  have hCm := hidI (fun W => Command17_calls b W hbm)
  have hWr := hidI (fun W (h : Below w0.heap.size w0 W) hk (h2 : RdI W ax x) => awrong_calls w0 ga gl hold a aS p s cS (cmdU b) (cmdE b) x ax cx W hX h hk h2 hix (cmdU_rng b).1 (cmdU_rng b).2)
  have hBs := hidI (fun W why (h : Below w0.heap.size w0 W) hk (h2 : RdI W ax x) => abase_calls w0 ga gl hold a aS p s s.length cS why x ax cx W hX ha h hk h2 hix)
  have hCh := hidI (fun W (h : Below w0.heap.size w0 W) hk => chosen0_calls w0 ga gl hold a.src a.since a.c0 a.c1 aS s.length cS (cmdU b) 0 W hX.hg h hk ha.t0 ha.t1 ha.u0 ha.u1 ha.v0 ha.v1)
  have hlt := blk_lt hk_ga
  have hCh2 : Hid (#[.pointer (some ⟨gl, 0, none⟩), .int .i64 hold, .int .i64 a.src, .int .i64 a.since, .int .i64 a.c0, .int .i64 a.c1, .slice aS s.length cS] = armV gl hold a aS s.length cS) := rfl
  have hCh3 : Hid (#[.pointer (some ⟨gl, 0, none⟩), .int .i64 hold, .int .i64 0, .int .i64 (mn31 ((if 0 = a.src then a.since else 0) + 1)), .int .i64 (mn31 (a.c0 + 1)), .int .i64 a.c1, .slice aS s.length cS] = armV gl hold (a.chosen 0) aS s.length cS) := rfl
  rw [hCh2.out, hCh3.out] at hCh
  clear hCh2 hCh3
  have hdw : decWhy p s hold a b x = whyW p s hold a (cmdU b) (cmdE b) x := rfl
  unfold decSrc decCmd
  obtain ⟨wy, hwy⟩ : ∃ z, decWhy p s hold a b x = z := ⟨_, rfl⟩
  rw [← hdw, hwy] at hWr
  rw [hwy]
  obtain ⟨bs, hbs⟩ : ∃ z, baseP p x = z := ⟨_, rfl⟩
  rw [hbs] at hBs ⊢
  obtain ⟨cu, hcu⟩ : ∃ z, cmdU b = z := ⟨_, rfl⟩
  rw [hcu] at hCm hWr hCh ⊢
  obtain ⟨ce, hce⟩ : ∃ z, cmdE b = z := ⟨_, rfl⟩
  rw [hce] at hCm hWr
  have hk0 : ∀ W : World, W.heap[ga]? = some (.cells (armV gl hold a aS s.length cS) 78 (0, 0)) → W.cell? ⟨ga, 0, none⟩ = some (.pointer (some ⟨gl, 0, none⟩)) := fun W h => blk_cell h 0 (by rfl)
  have hfin := hidI (fun (V W : World) (j cmd src why : Int) (e : Ending) => (show Chose w0 V W ga gl hold (a.chosen j) aS s.length cS 78 cmd src why e ↔ (e = .returned (.agg #[.int .i64 cmd, .int .i64 src, .int .i64 why]) ∧ Arm1 w0 V W ga ∧ W.heap[ga]? = some (.cells (armV gl hold (a.chosen j) aS s.length cS) 78 (0, 0))) from Iff.rfl))
  obtain ⟨av, hav⟩ : ∃ z, armV gl hold a aS s.length cS = z := ⟨_, rfl⟩
  rw [hav] at hk_ga hBs hk0 hWr hCh
  replace hk0 := hidI hk0
  obtain ⟨bv, hbv⟩ : ∃ z : Int → Array Value, z = fun j => armV gl hold (a.chosen j) aS s.length cS := ⟨_, rfl⟩
  have hbv1 : Hid (∀ j, armV gl hold (a.chosen j) aS s.length cS = bv j) := fun j => by rw [hbv]
  simp only [hbv1.out] at hfin hCh
  clear hbs hcu hce hwy hdw hav hX ha hkit hix hbv
  by_cases hz : wy = 0
  · subst hz
    rw [if_pos rfl, if_pos rfl]
    go_enter Try.func38, Try.ntmps38
    go_upto_region 1 with fail
    have hk_gr := blk_new w (.cells #[.int .i64 0, .int .i64 0, .int .i64 0] 73)
    have hbA := bl_alloc (Below.refl w.heap.size w) (.cells #[.int .i64 0, .int .i64 0, .int .i64 0] 73)
    have hA1 := (Arm1.refl (ga := ga) hbw).ext hbA
    replace hk_ga := bl_block hbA hk_ga
    replace hx := hx.below hbA
    generalize w.alloc (.cells #[.int .i64 0, .int .i64 0, .int .i64 0] 73) = W1 at *
    obtain ⟨gr, hgr⟩ : ∃ g, w.heap.size = g := ⟨_, rfl⟩
    have hng : gr ≠ ga := by omega
    have hw0g : w0.heap.size ≤ gr := by have := hbw.size; omega
    have hwg : w.heap.size ≤ gr := by omega
    rw [hgr] at hk_gr
    rw [hgr]
    clear hgr hbA
    have y0 := hk0.out W1 hk_ga
    have y1 : W1.cell? ⟨gl, 0, none⟩ = some (.pointer (some ⟨gk, 0, none⟩)) := bl_cell hA1.b hgk
    go_wp2_with fail
    refine (aNone_arm ga gl gk W1 y0 y1).mono ?_
    rintro e W2 ⟨rfl, hW2⟩
    subst hW2
    go_wp2_with fail
    refine (hCm.out W2).mono ?_
    rintro e W3 ⟨rfl, hW3⟩
    subst hW3
    clear y0 y1
    go_wp2_with fail
    refine (hWr.out W3 hA1.b hk_ga hx).mono ?_
    rintro e W5 ⟨rfl, hb5⟩
    replace hA1 := hA1.ext hb5
    replace hk_ga := bl_block hb5 hk_ga
    replace hk_gr := bl_block hb5 hk_gr
    replace hx := hx.below hb5
    clear hb5 hWr hCm
    have hC1 := hidI (hCh.out W5 hA1.b hk_ga)
    clear hCh hBs
    go_wp2_with fail
    refine hC1.out.mono ?_
    rintro e W6 ⟨rfl, hA3, hk3⟩
    replace hk_gr := hA3.k _ _ hng hk_gr
    replace hA1 := hA1.trans hA3
    clear hA3 hk_ga hC1
    have y0 : W6.cell? ⟨gr, 0, none⟩ = some (.int .i64 0) := blk_cell hk_gr 0 (by rfl)
    have y1 : W6.cell? ⟨gr, 1, none⟩ = some (.int .i64 0) := blk_cell hk_gr 1 (by rfl)
    have y2 : W6.cell? ⟨gr, 2, none⟩ = some (.int .i64 0) := blk_cell hk_gr 2 (by rfl)
    have z0 := blkf hk_gr 0
    have z1 := blkf hk_gr 1
    have z2 := blkf hk_gr 2
    go_wp2
    refine bodyPost_ret (results_cell_row rfl _ _ gr 73 #[.int .i64 cu, .int .i64 0, .int .i64 0] (0, 0) _ rfl (blk_set (blk_set (blk_set hk_gr 0 (.int .i64 cu)) 1 (.int .i64 0)) 2 (.int .i64 0)) Try.underlying73 rfl (by kernel_rfl)) rfl ?_
    exact (hfin.out _ _ _ _ _ _ _).2 ⟨rfl, ((hA1.set (a := ⟨gr, 0, none⟩) hwg hw0g (.int .i64 cu)).set (a := ⟨gr, 1, none⟩) hwg hw0g (.int .i64 0)).set (a := ⟨gr, 2, none⟩) hwg hw0g (.int .i64 0), blk_far (blk_far (blk_far hk3 (a := ⟨gr, 0, none⟩) hng (.int .i64 cu)) (a := ⟨gr, 1, none⟩) hng (.int .i64 0)) (a := ⟨gr, 2, none⟩) hng (.int .i64 0)⟩
  · have d1 : (wy != 0) = true := by simpa using hz
    have d2 : (wy == 0) = false := by simpa using hz
    rw [if_neg hz, if_neg hz]
    replace hz := hidI hz
    go_enter Try.func38, Try.ntmps38
    go_upto_region 1 with fail
    have hk_gr := blk_new w (.cells #[.int .i64 0, .int .i64 0, .int .i64 0] 73)
    have hbA := bl_alloc (Below.refl w.heap.size w) (.cells #[.int .i64 0, .int .i64 0, .int .i64 0] 73)
    have hA1 := (Arm1.refl (ga := ga) hbw).ext hbA
    replace hk_ga := bl_block hbA hk_ga
    replace hx := hx.below hbA
    generalize w.alloc (.cells #[.int .i64 0, .int .i64 0, .int .i64 0] 73) = W1 at *
    obtain ⟨gr, hgr⟩ : ∃ g, w.heap.size = g := ⟨_, rfl⟩
    have hng : gr ≠ ga := by omega
    have hw0g : w0.heap.size ≤ gr := by have := hbw.size; omega
    have hwg : w.heap.size ≤ gr := by omega
    rw [hgr] at hk_gr
    rw [hgr]
    clear hgr hbA
    have y0 := hk0.out W1 hk_ga
    have y1 : W1.cell? ⟨gl, 0, none⟩ = some (.pointer (some ⟨gk, 0, none⟩)) := bl_cell hA1.b hgk
    go_wp2_with fail
    refine (aNone_arm ga gl gk W1 y0 y1).mono ?_
    rintro e W2 ⟨rfl, hW2⟩
    subst hW2
    go_wp2_with fail
    refine (hCm.out W2).mono ?_
    rintro e W3 ⟨rfl, hW3⟩
    subst hW3
    clear y0 y1
    go_wp2_with fail
    refine (hWr.out W3 hA1.b hk_ga hx).mono ?_
    rintro e W5 ⟨rfl, hb5⟩
    replace hA1 := hA1.ext hb5
    replace hk_ga := bl_block hb5 hk_ga
    replace hk_gr := bl_block hb5 hk_gr
    replace hx := hx.below hb5
    clear hb5 hWr hCm
    have hC1 := hidI (hBs.out W5 wy hA1.b hk_ga hx)
    clear hCh hBs
    go_wp2_with fail
    refine hC1.out.mono ?_
    intro e W6 hc
    obtain ⟨rfl, hA3, hk3⟩ := (hfin.out _ _ _ _ _ _ _).1 hc
    replace hk_gr := hA3.k _ _ hng hk_gr
    replace hA1 := hA1.trans hA3
    clear hA3 hk_ga hC1 hc
    have y0 : W6.cell? ⟨gr, 0, none⟩ = some (.int .i64 0) := blk_cell hk_gr 0 (by rfl)
    have y1 : W6.cell? ⟨gr, 1, none⟩ = some (.int .i64 0) := blk_cell hk_gr 1 (by rfl)
    have y2 : W6.cell? ⟨gr, 2, none⟩ = some (.int .i64 0) := blk_cell hk_gr 2 (by rfl)
    have z0 := blkf hk_gr 0
    have z1 := blkf hk_gr 1
    have z2 := blkf hk_gr 2
    go_wp2
    refine bodyPost_ret (results_cell_row rfl _ _ gr 73 #[.int .i64 bs, .int .i64 1, .int .i64 wy] (0, 0) _ rfl (blk_set (blk_set (blk_set hk_gr 0 (.int .i64 bs)) 1 (.int .i64 1)) 2 (.int .i64 wy)) Try.underlying73 rfl (by kernel_rfl)) rfl ?_
    exact (hfin.out _ _ _ _ _ _ _).2 ⟨rfl, ((hA1.set (a := ⟨gr, 0, none⟩) hwg hw0g (.int .i64 bs)).set (a := ⟨gr, 1, none⟩) hwg hw0g (.int .i64 1)).set (a := ⟨gr, 2, none⟩) hwg hw0g (.int .i64 wy), blk_far (blk_far (blk_far hk3 (a := ⟨gr, 0, none⟩) hng (.int .i64 bs)) (a := ⟨gr, 1, none⟩) hng (.int .i64 1)) (a := ⟨gr, 2, none⟩) hng (.int .i64 wy)⟩
set_option maxHeartbeats 4000000 in
set_option maxRecDepth 100000 in
theorem aSince_calls (ga gl gk : Nat) (sn : Int) (w : World) (y0 : w.cell? ⟨ga, 0, none⟩ = some (.pointer (some ⟨gl, 0, none⟩))) (y1 : w.cell? ⟨gl, 0, none⟩ = some (.pointer (some ⟨gk, 0, none⟩))) (y2 : w.cell? ⟨ga, 3, none⟩ = some (.int .i64 sn)) :
    Calls Try.prog 43 #[.pointer (some ⟨ga, 0, none⟩)] w fun e w' => e = .returned (.int .i64 sn) ∧ w' = w := by
  have hN := hidI (aNone_arm ga gl gk w y0 y1)
  clear y0 y1
  go_enter Try.func43, Try.ntmps43
  go_wp2_with fail
  refine hN.out.mono ?_
  rintro e W2 ⟨rfl, hW2⟩
  subst hW2
  go_wp2
  go_ret
  exact ⟨rfl, rfl⟩
end Go.Proofs.Ythdaidmjjcmccaa
