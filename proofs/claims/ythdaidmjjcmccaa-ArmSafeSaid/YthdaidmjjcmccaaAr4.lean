/- Proved here: lemmas and contracts (what a function of the program computes) that the proofs of the laws of this seat lean on. Conditions: as each theorem states. -/
import Derived.Test.YthdaidmjjcmccaaAr3
import Derived.Test.YthdaidmjjcmccaaLin
import Derived.Test.YthdaidmjjcmccaaKimp
set_option linter.unusedVariables false
set_option linter.unusedSimpArgs false
namespace Go.Pk
open Go.RowKit Go.Pk.Rx
theorem LkAt.ptr {w : World} {gl TL TK : Nat} {p : Pl} {s : List Int} (h : LkAt w gl TL TK p s) : ∃ gk, w.cell? ⟨gl, 0, none⟩ = some (.pointer (some ⟨gk, 0, none⟩)) ∧ KitAt w gk TK p := by
  obtain ⟨g, aS, cS, hk, -, -, h4⟩ := h
  exact ⟨g, blk_cell hk 0 (by rfl), h4⟩
/-- What a method of an arm leaves: only its block has changed of what was. -/
structure Arm1 (w0 w w' : World) (ga : Nat) : Prop where
  b : Below w0.heap.size w0 w'
  k : KeepX (· = ga) w w'
  z : w.heap.size ≤ w'.heap.size
theorem Arm1.refl {w0 w : World} {ga : Nat} (h : Below w0.heap.size w0 w) : Arm1 w0 w w ga := ⟨h, KeepX.refl _ _, Nat.le_refl _⟩
theorem Arm1.ext {w0 w w1 w2 : World} {ga : Nat} (h : Arm1 w0 w w1 ga) (hb : Below w1.heap.size w1 w2) : Arm1 w0 w w2 ga := ⟨bl_step h.b hb, h.k.ext hb, Nat.le_trans h.z hb.size⟩
theorem Arm1.trans {w0 w w1 w2 : World} {ga : Nat} (h : Arm1 w0 w w1 ga) (g : Arm1 w0 w1 w2 ga) : Arm1 w0 w w2 ga := ⟨g.b, h.k.trans g.k, Nat.le_trans h.z g.z⟩
theorem Arm1.set {w0 w w1 : World} {ga : Nat} (h : Arm1 w0 w w1 ga) {a : Addr} (ha : w.heap.size ≤ a.block) (h0 : w0.heap.size ≤ a.block) (u : Value) : Arm1 w0 w (w1.setCell a u) ga :=
  ⟨bl_set h.b h0 u, fun k o hn ho => blk_far (h.k k o hn ho) (fun e => by have := blk_lt ho; omega) u, by rw [setCell_size]; exact h.z⟩
theorem Arm1.rd {w0 w w' : World} {ga : Nat} (h : Arm1 w0 w w' ga) {A : Option Addr} {l : List Int} (hr : RdI w A l) (ho : Off (· = ga) A l.length) : RdI w' A l := hr.keepX h.k ho
end Go.Pk
namespace Go.Proofs.Ythdaidmjjcmccaa
open Go.RowKit Go.Pk Go.Proofs.YthdaidmjjcmccaaW.PrintLast
open Go.Pk.Mm
attribute [local go_sem] max2_int min2_int max_two min_two
set_option maxHeartbeats 8000000 in
set_option maxRecDepth 100000 in
theorem chosen0_calls (w0 : World) (ga gl : Nat) (hold src since c0 c1 : Int) (aS : Option Addr) (n cS : Nat) (cmd why : Int) (w : World) (hga : w0.heap.size ≤ ga) (hbw0 : Below w0.heap.size w0 w) (hk_ga : w.heap[ga]? = some (.cells #[.pointer (some ⟨gl, 0, none⟩), .int .i64 hold, .int .i64 src, .int .i64 since, .int .i64 c0, .int .i64 c1, .slice aS n cS] 78 (0, 0))) (h1 : 0 ≤ since) (h2 : since ≤ 2147483647) (h3 : 0 ≤ c0) (h4 : c0 ≤ 2147483647) (h5 : 0 ≤ c1) (h6 : c1 ≤ 2147483647) :
    Calls Try.prog 89 #[.pointer (some ⟨ga, 0, none⟩), .agg #[.int .i64 cmd, .int .i64 0, .int .i64 why]] w fun e w' => e = .returned (.agg #[.int .i64 cmd, .int .i64 0, .int .i64 why]) ∧ Arm1 w0 w w' ga ∧ w'.heap[ga]? = some (.cells #[.pointer (some ⟨gl, 0, none⟩), .int .i64 hold, .int .i64 0, .int .i64 (mn31 ((if 0 = src then since else 0) + 1)), .int .i64 (mn31 (c0 + 1)), .int .i64 c1, .slice aS n cS] 78 (0, 0)) := by
  have hlt_ga := blk_lt hk_ga
  obtain ⟨t1, ht1⟩ : ∃ z, Hid (mn31 ((if 0 = src then since else 0) + 1) = z) := ⟨_, rfl⟩
  obtain ⟨q1, hq1⟩ : ∃ z, Hid (mn31 (c0 + 1) = z) := ⟨_, rfl⟩
  rw [ht1.out, hq1.out]
  have hq2 : (if 2147483647 < c0 + 1 then (2147483647 : Int) else c0 + 1) = q1 := by rw [← hq1.out]; rfl
  replace hq2 := hidI hq2
  by_cases hs : 0 = src
  · skip
    have ht2 : (if 2147483647 < since + 1 then (2147483647 : Int) else since + 1) = t1 := by rw [← ht1.out, if_pos hs]; rfl
    subst hs
    have dN : ((0 : Int) != 0) = false := by decide
    go_enter Try.func89, Try.ntmps89
    go_upto_region 1 with fail
    have hk_gc := blk_alloc (blk_new w (.cells #[.int .i64 cmd, .int .i64 0, .int .i64 why] 73)) (.cells #[.int .i64 0, .int .i64 0, .int .i64 0] 73)
    have hk_gr : ((w.alloc (.cells #[.int .i64 cmd, .int .i64 0, .int .i64 why] 73)).alloc (.cells #[.int .i64 0, .int .i64 0, .int .i64 0] 73)).heap[w.heap.size + 1]? = some (.cells #[.int .i64 0, .int .i64 0, .int .i64 0] 73 (0, 0)) := by have h_ := blk_new (w.alloc (.cells #[.int .i64 cmd, .int .i64 0, .int .i64 why] 73)) (.cells #[.int .i64 0, .int .i64 0, .int .i64 0] 73); simpa using h_
    have hbA := bl_alloc (bl_alloc (Below.refl w.heap.size w) (.cells #[.int .i64 cmd, .int .i64 0, .int .i64 why] 73)) (.cells #[.int .i64 0, .int .i64 0, .int .i64 0] 73)
    replace hk_ga := bl_block hbA hk_ga
    have hA1 := (Arm1.refl (ga := ga) hbw0).ext hbA
    generalize (w.alloc (.cells #[.int .i64 cmd, .int .i64 0, .int .i64 why] 73)).alloc (.cells #[.int .i64 0, .int .i64 0, .int .i64 0] 73) = W2 at *
    have hw0z := hbw0.size
    obtain ⟨gc, hgc⟩ : ∃ z, w.heap.size = z := ⟨_, rfl⟩
    have n_gc_ga : gc ≠ ga := by omega
    have hwc : w.heap.size ≤ gc := by omega
    obtain ⟨gr, hgr⟩ : ∃ z, w.heap.size + 1 = z := ⟨_, rfl⟩
    have n_gr_ga : gr ≠ ga := by omega
    have hng : gr ≠ ga := n_gr_ga
    have n_gc_gr : gc ≠ gr := by omega
    have hwg : w.heap.size ≤ gr := by omega
    have hw0g : w0.heap.size ≤ gr := by omega
    rw [hgr] at hk_gr
    rw [hgc] at hk_gc
    rw [hgr, hgc]
    clear hgr hgc hbA hw0z
    have y2 : W2.cell? ⟨ga, 2, none⟩ = some (.int .i64 0) := blk_cell hk_ga 2 (by rfl)
    have yc : W2.cell? ⟨gc, 1, none⟩ = some (.int .i64 0) := blk_cell hk_gc 1 (by rfl)
    go_quiet (fail)
    replace hk_ga := blk_drewN hk_ga nq
    replace hk_gc := blk_drewN hk_gc nq
    replace hk_gr := blk_drewN hk_gr nq
    replace hA1 := hA1.ext (bl_drewN (Below.refl _ _) nq)
    clear y2 yc
    generalize W2.drewN nq = W3 at *
    have y2 : W3.cell? ⟨ga, 2, none⟩ = some (.int .i64 0) := blk_cell hk_ga 2 (by rfl)
    have y3 : W3.cell? ⟨ga, 3, none⟩ = some (.int .i64 since) := blk_cell hk_ga 3 (by rfl)
    have yc : W3.cell? ⟨gc, 1, none⟩ = some (.int .i64 0) := blk_cell hk_gc 1 (by rfl)
    have z2 := blkf hk_ga 2
    have z3 := blkf hk_ga 3
    go_upto_region 4 with fail
    clear y2 y3 yc z2 z3
    have hk_g4 : (W3.setCell ⟨ga, 3, none⟩ (.int .i64 t1)).heap[ga]? = some (.cells #[.pointer (some ⟨gl, 0, none⟩), .int .i64 hold, .int .i64 0, .int .i64 t1, .int .i64 c0, .int .i64 c1, .slice aS n cS] 78 (0, 0)) := by have h_ := blk_set hk_ga 3 (.int .i64 t1); simpa using h_
    have hk_c4 := blk_far (hk_gc) (a := ⟨ga, 3, none⟩) n_gc_ga.symm (.int .i64 t1)
    have hk_r4 := blk_far (hk_gr) (a := ⟨ga, 3, none⟩) n_gr_ga.symm (.int .i64 t1)
    have hX4 := KeepX.set (hA1.k) (p := ⟨ga, 3, none⟩) rfl (.int .i64 t1)
    have hb4 := bl_set (hA1.b) (p := ⟨ga, 3, none⟩) hga (.int .i64 t1)
    have hz4 : w.heap.size ≤ (W3.setCell ⟨ga, 3, none⟩ (.int .i64 t1)).heap.size := by simp only [setCell_size]; exact hA1.z
    clear hk_ga hk_gc hk_gr hA1
    have hk_ga := hk_g4
    have hk_gc := hk_c4
    have hk_gr := hk_r4
    clear hk_g4 hk_c4 hk_r4
    generalize W3.setCell ⟨ga, 3, none⟩ (.int .i64 t1) = W4 at *
    have hA1 : Arm1 w0 w W4 ga := ⟨hb4, hX4, hz4⟩
    clear hX4 hz4
    have hbw := hb4
    clear hb4
    have hle_ga := hga
    have c0_hX : KeepX (· = ga) W4 W4.drew := (KeepX.refl _ _).ext (bl_drew (Below.refl _ _))
    have c0_hz : W4.heap.size ≤ W4.drew.heap.size := Nat.le_refl _
    have hwc := hidI (IntWalk.i64_in (c0 + 1) (by omega))
    have hwc2 : Hid (wrap64 (c0 + 1) = c0 + 1) := by unfold Hid wrap64; omega
    obtain ⟨B0, hB0⟩ : ∃ B, B = W4.heap.size := ⟨_, rfl⟩
    have c0_hsz : B0 ≤ W4.heap.size := Nat.le_of_eq hB0
    have hw0B0 : w0.heap.size ≤ B0 := by rw [hB0]; exact hbw.size
    have c0_hle : W4.heap.size ≤ B0 := Nat.le_of_eq hB0.symm
    have c0_hk_ga := blk_drew hk_ga
    have c0_lt_ga : ga < B0 := by rw [hB0]; exact blk_lt hk_ga
    have c0_hk_gc := blk_drew hk_gc
    have c0_lt_gc : gc < B0 := by rw [hB0]; exact blk_lt hk_gc
    have c0_hk_gr := blk_drew hk_gr
    have c0_lt_gr : gr < B0 := by rw [hB0]; exact blk_lt hk_gr
    have c0_hbw := bl_drew hbw
    clear hB0 hbw hk_ga hk_gc hk_gr
    refine region_linM (n := 16) (st := ?st13) { R := [0, 0, 2, 0, 0, 16, 8, 72, 248, 504, 1016, 2040, 1, 4097, 16383, 32767], kill := [[], [], [], [], [], [], [], [], [], [], [], [], [], [], [], [], [15]], cls := [0, 0, 0, 0, 0, 0, 0, 0, 0, 0, 0, 0, 0, 0, 0, 1], dst := [some 29, some 30, some 31, some 32, some 33, some 34, some 35, some 36, some 37, some 38, some 39, some 40, some 41, some 42, some 43, none], pre := [[], [], [1], [], [], [4], [3], [6], [7, 5], [8, 16], [9], [10], [0], [12], [13, 2], [14, 11, 16]], cov := [(0, 16)], fin := [15], locs := [], tgt := [none, none], abt := [none, none, none, none, none, none, none, none, none, none, none, none, none, none, none, none], m := 1 }
      [.v [29] (fun vs => (vs.getD 0 undef) = .pointer (some ⟨ga, 0, none⟩)),
       .v [30] (fun vs => (vs.getD 0 undef) = .pointer (some ⟨gc, 1, none⟩)),
       .v [31] (fun vs => (vs.getD 0 undef) = .int .i64 0),
       .v [32] (fun vs => (vs.getD 0 undef) = .pointer (some ⟨ga, 0, none⟩)),
       .v [33] (fun vs => (vs.getD 0 undef) = .pointer (some ⟨gc, 1, none⟩)),
       .v [34] (fun vs => (vs.getD 0 undef) = .int .i64 0),
       .v [35] (fun vs => (vs.getD 0 undef) = .pointer (some ⟨ga, 0, none⟩)),
       .v [36] (fun vs => (vs.getD 0 undef) = .pointer (some ⟨ga, 4, none⟩)),
       .v [37] (fun vs => (vs.getD 0 undef) = .pointer (some ⟨ga, 4, none⟩)),
       .v [38] (fun vs => (vs.getD 0 undef) = .int .i64 c0),
       .v [39] (fun vs => (vs.getD 0 undef) = .int .i64 (c0 + 1)),
       .v [40] (fun vs => (vs.getD 0 undef) = .int .i64 q1),
       .v [41] (fun vs => (vs.getD 0 undef) = .pointer (some ⟨ga, 0, none⟩)),
       .v [42] (fun vs => (vs.getD 0 undef) = .pointer (some ⟨ga, 4, none⟩)),
       .v [43] (fun vs => (vs.getD 0 undef) = .pointer (some ⟨ga, 4, none⟩)),
       .w [] (fun vs w => w.heap[ga]? = some (.cells #[.pointer (some ⟨gl, 0, none⟩), .int .i64 hold, .int .i64 0, .int .i64 t1, .int .i64 q1, .int .i64 c1, .slice aS n cS] 78 (0, 0))),
       .w [] (fun vs w => w.heap[ga]? = some (.cells #[.pointer (some ⟨gl, 0, none⟩), .int .i64 hold, .int .i64 0, .int .i64 t1, .int .i64 c0, .int .i64 c1, .slice aS n cS] 78 (0, 0)))]
      (fun w => B0 ≤ w.heap.size ∧ w.heap[gc]? = some (.cells #[.int .i64 cmd, .int .i64 0, .int .i64 why] 73 (0, 0)) ∧ gc < B0 ∧ w.heap[gr]? = some (.cells #[.int .i64 0, .int .i64 0, .int .i64 0] 73 (0, 0)) ∧ gr < B0 ∧ ga < B0 ∧ Below w0.heap.size w0 w ∧ KeepX (· = ga) W4 w ∧ W4.heap.size ≤ w.heap.size)
      (fun c => ([fun s w w' => Below w.heap.size w w', fun s w w' => w' = w ∨ ((∀ k o, k ≠ ga → w.heap[k]? = some o → w'.heap[k]? = some o) ∧ w'.heap.size = w.heap.size ∧ Below ga w w')] : List ((Nat → Value) → World → World → Prop)).getD c (fun s w w' => w' = w))
      [29, 30, 31, 32, 33, 34, 35, 36, 37, 38, 39, 40, 41, 42, 43] (by kernel_rfl) ⟨by kernel_rfl, by kernel_rfl, by kernel_rfl, by kernel_rfl, by kernel_rfl, by kernel_rfl, by kernel_rfl, by kernel_rfl⟩ (fun s => ?_) ?_ ?_ ?_ ?_ ?_ ?_ (fun s w hC hA => ?_)
    rotate_left
    · simp only [fillS, List.foldl, List.setIfInBounds_toArray, List.set_cons_zero, List.set_cons_succ]; rfl
    · exact ⟨c0_hsz, c0_hk_gc, c0_lt_gc, c0_hk_gr, c0_lt_gr, c0_lt_ga, c0_hbw, c0_hX, c0_hz⟩
    · exact ⟨c0_hk_ga, trivial⟩
    · intro c s w w' hE
      match c, hE with
      | 0, hE => exact Below.size hE
      | 1, hE => replace hE : w' = w ∨ ((∀ k o, k ≠ ga → w.heap[k]? = some o → w'.heap[k]? = some o) ∧ w'.heap.size = w.heap.size ∧ Below ga w w') := hE; rcases hE with hE | ⟨_, hE, _⟩; exact Nat.le_of_eq (by rw [hE]); exact Nat.le_of_eq hE.symm
      | c + 2, hE => cases hE; exact Nat.le_refl _
    · rintro c s w w' ⟨hsz, hk_gc, lt_gc, hk_gr, lt_gr, lt_ga, hbw, hX, hz⟩ hE
      match c, hE with
      | 0, hE => replace hE : Below w.heap.size w w' := hE; exact ⟨Nat.le_trans hsz hE.size, bl_block hE hk_gc, lt_gc, bl_block hE hk_gr, lt_gr, lt_ga, bl_step hbw hE, hX.ext hE, Nat.le_trans hz hE.size⟩
      | 1, hE =>
        replace hE : w' = w ∨ ((∀ k o, k ≠ ga → w.heap[k]? = some o → w'.heap[k]? = some o) ∧ w'.heap.size = w.heap.size ∧ Below ga w w') := hE
        rcases hE with rfl | ⟨hkeep, hsz_, hBl⟩
        · exact ⟨hsz, hk_gc, lt_gc, hk_gr, lt_gr, lt_ga, hbw, hX, hz⟩
        · exact ⟨by omega, hkeep _ _ n_gc_ga hk_gc, lt_gc, hkeep _ _ n_gr_ga hk_gr, lt_gr, lt_ga, hbw.trans (Below.mono hBl hle_ga), hX.trans (KeepX.of1 (X := (· = ga)) hkeep rfl), by omega⟩
      | c + 2, hE => cases hE; exact ⟨hsz, hk_gc, lt_gc, hk_gr, lt_gr, lt_ga, hbw, hX, hz⟩
    · refine ⟨?_, trivial⟩
      · intro s w w' hD hC hE hF
        replace hF : w.heap[ga]? = some (.cells #[.pointer (some ⟨gl, 0, none⟩), .int .i64 hold, .int .i64 0, .int .i64 t1, .int .i64 c0, .int .i64 c1, .slice aS n cS] 78 (0, 0)) := hF
        show w'.heap[ga]? = some (.cells #[.pointer (some ⟨gl, 0, none⟩), .int .i64 hold, .int .i64 0, .int .i64 t1, .int .i64 c0, .int .i64 c1, .slice aS n cS] 78 (0, 0))
        replace hE : Below w.heap.size w w' := hE
        exact bl_block hE (hF)
    · skip
      refine StepsP.cons ?_ ?_
      · intro Q s w hC hA K hK
        clear hC
        clear hA
        refine guard_none (by rfl) ?_
        refine wp_value (v := .pointer (some ⟨ga, 0, none⟩)) (w1 := w) ?_ (hK.out _ w (Below.refl _ _) rfl (fun h => by cases h))
        go_simp
        try (first | done | rfl | (simp; done))
      refine StepsP.cons ?_ ?_
      · intro Q s w hC hA K hK
        clear hC
        clear hA
        refine guard_none (by rfl) ?_
        refine wp_value (v := .pointer (some ⟨gc, 1, none⟩)) (w1 := w) ?_ (hK.out _ w (Below.refl _ _) rfl (fun h => by cases h))
        go_simp
        try (first | done | rfl | (simp; done))
      refine StepsP.cons ?_ ?_
      · intro Q s w hC hA K hK
        obtain ⟨hsz, hk_gc, lt_gc, hk_gr, lt_gr, lt_ga, hbw, hX, hz⟩ := hC
        obtain ⟨f1, -⟩ := hA
        replace f1 : (s 30) = .pointer (some ⟨gc, 1, none⟩) := f1
        refine guard_none (by rfl) ?_
        have m0_gc : w.cell? ⟨gc, 0, none⟩ = some (.int .i64 cmd) := blk_cell hk_gc 0 (by rfl)
        have m1_gc : w.cell? ⟨gc, 1, none⟩ = some (.int .i64 0) := blk_cell hk_gc 1 (by rfl)
        have m2_gc : w.cell? ⟨gc, 2, none⟩ = some (.int .i64 why) := blk_cell hk_gc 2 (by rfl)
        refine wp_value (v := .int .i64 0) (w1 := w) ?_ (hK.out _ w (Below.refl _ _) rfl (fun h => by cases h))
        try simp only [f1]
        go_simp
        try (first | done | rfl | (simp; done))
      refine StepsP.cons ?_ ?_
      · intro Q s w hC hA K hK
        clear hC
        clear hA
        refine guard_none (by rfl) ?_
        refine wp_value (v := .pointer (some ⟨ga, 0, none⟩)) (w1 := w) ?_ (hK.out _ w (Below.refl _ _) rfl (fun h => by cases h))
        go_simp
        try (first | done | rfl | (simp; done))
      refine StepsP.cons ?_ ?_
      · intro Q s w hC hA K hK
        clear hC
        clear hA
        refine guard_none (by rfl) ?_
        refine wp_value (v := .pointer (some ⟨gc, 1, none⟩)) (w1 := w) ?_ (hK.out _ w (Below.refl _ _) rfl (fun h => by cases h))
        go_simp
        try (first | done | rfl | (simp; done))
      refine StepsP.cons ?_ ?_
      · intro Q s w hC hA K hK
        obtain ⟨hsz, hk_gc, lt_gc, hk_gr, lt_gr, lt_ga, hbw, hX, hz⟩ := hC
        obtain ⟨f4, -⟩ := hA
        replace f4 : (s 33) = .pointer (some ⟨gc, 1, none⟩) := f4
        refine guard_none (by rfl) ?_
        have m0_gc : w.cell? ⟨gc, 0, none⟩ = some (.int .i64 cmd) := blk_cell hk_gc 0 (by rfl)
        have m1_gc : w.cell? ⟨gc, 1, none⟩ = some (.int .i64 0) := blk_cell hk_gc 1 (by rfl)
        have m2_gc : w.cell? ⟨gc, 2, none⟩ = some (.int .i64 why) := blk_cell hk_gc 2 (by rfl)
        refine wp_value (v := .int .i64 0) (w1 := w) ?_ (hK.out _ w (Below.refl _ _) rfl (fun h => by cases h))
        try simp only [f4]
        go_simp
        try (first | done | rfl | (simp; done))
      refine StepsP.cons ?_ ?_
      · intro Q s w hC hA K hK
        clear hC
        obtain ⟨f3, -⟩ := hA
        replace f3 : (s 32) = .pointer (some ⟨ga, 0, none⟩) := f3
        refine guard_none (by rfl) ?_
        refine wp_value (v := .pointer (some ⟨ga, 0, none⟩)) (w1 := w) ?_ (hK.out _ w (Below.refl _ _) rfl (fun h => by cases h))
        try simp only [f3]
        go_simp
        try (first | done | rfl | (simp; done))
      refine StepsP.cons ?_ ?_
      · intro Q s w hC hA K hK
        clear hC
        obtain ⟨f6, -⟩ := hA
        replace f6 : (s 35) = .pointer (some ⟨ga, 0, none⟩) := f6
        refine guard_none (by rfl) ?_
        refine wp_value (v := .pointer (some ⟨ga, 4, none⟩)) (w1 := w) ?_ (hK.out _ w (Below.refl _ _) rfl (fun h => by cases h))
        try simp only [f6]
        go_simp
        try (first | done | rfl | (simp; done))
      refine StepsP.cons ?_ ?_
      · intro Q s w hC hA K hK
        clear hC
        obtain ⟨f7, f5, -⟩ := hA
        replace f7 : (s 36) = .pointer (some ⟨ga, 4, none⟩) := f7
        replace f5 : (s 34) = .int .i64 0 := f5
        refine guard_none (by rfl) ?_
        refine wp_value (v := .pointer (some ⟨ga, 4, none⟩)) (w1 := w) ?_ (hK.out _ w (Below.refl _ _) rfl (fun h => by cases h))
        try simp only [f7, f5]
        go_simp
        first | done | rfl | (simp; done)
      refine StepsP.cons ?_ ?_
      · intro Q s w hC hA K hK
        obtain ⟨hsz, hk_gc, lt_gc, hk_gr, lt_gr, lt_ga, hbw, hX, hz⟩ := hC
        obtain ⟨f8, f16, -⟩ := hA
        replace f8 : (s 37) = .pointer (some ⟨ga, 4, none⟩) := f8
        replace f16 : w.heap[ga]? = some (.cells #[.pointer (some ⟨gl, 0, none⟩), .int .i64 hold, .int .i64 0, .int .i64 t1, .int .i64 c0, .int .i64 c1, .slice aS n cS] 78 (0, 0)) := f16
        refine guard_none (by rfl) ?_
        have hk_ga := f16
        have m0_ga : w.cell? ⟨ga, 0, none⟩ = some (.pointer (some ⟨gl, 0, none⟩)) := blk_cell hk_ga 0 (by rfl)
        have m1_ga : w.cell? ⟨ga, 1, none⟩ = some (.int .i64 hold) := blk_cell hk_ga 1 (by rfl)
        have m2_ga : w.cell? ⟨ga, 2, none⟩ = some (.int .i64 0) := blk_cell hk_ga 2 (by rfl)
        have m3_ga : w.cell? ⟨ga, 3, none⟩ = some (.int .i64 t1) := blk_cell hk_ga 3 (by rfl)
        have m4_ga : w.cell? ⟨ga, 4, none⟩ = some (.int .i64 c0) := blk_cell hk_ga 4 (by rfl)
        have m5_ga : w.cell? ⟨ga, 5, none⟩ = some (.int .i64 c1) := blk_cell hk_ga 5 (by rfl)
        have m6_ga : w.cell? ⟨ga, 6, none⟩ = some (.slice aS n cS) := blk_cell hk_ga 6 (by rfl)
        refine wp_value (v := .int .i64 c0) (w1 := w) ?_ (hK.out _ w (Below.refl _ _) rfl (fun h => by cases h))
        try simp only [f8]
        go_simp
        try (first | done | rfl | (simp; done))
      refine StepsP.cons ?_ ?_
      · intro Q s w hC hA K hK
        clear hC
        obtain ⟨f9, -⟩ := hA
        replace f9 : (s 38) = .int .i64 c0 := f9
        refine guard_none (by rfl) ?_
        refine wp_value (v := .int .i64 (c0 + 1)) (w1 := w) ?_ (hK.out _ w (Below.refl _ _) rfl (fun h => by cases h))
        try simp only [f9]
        go_simp
        first | done | rfl | (simp [hwc.out]; done) | (simp [hwc2.out]; done)
      refine StepsP.cons ?_ ?_
      · intro Q s w hC hA K hK
        clear hC
        obtain ⟨f10, -⟩ := hA
        replace f10 : (s 39) = .int .i64 (c0 + 1) := f10
        refine guard_none (by rfl) ?_
        refine wp_value (v := .int .i64 q1) (w1 := w) ?_ (hK.out _ w (Below.refl _ _) rfl (fun h => by cases h))
        try simp only [f10]
        go_simp
        first | done | rfl | exact hq2.out | (simp [hq2.out]; done) | (rw [hq2.out]; done)
      refine StepsP.cons ?_ ?_
      · intro Q s w hC hA K hK
        clear hC
        obtain ⟨f0, -⟩ := hA
        replace f0 : (s 29) = .pointer (some ⟨ga, 0, none⟩) := f0
        refine guard_none (by rfl) ?_
        refine wp_value (v := .pointer (some ⟨ga, 0, none⟩)) (w1 := w) ?_ (hK.out _ w (Below.refl _ _) rfl (fun h => by cases h))
        try simp only [f0]
        go_simp
        try (first | done | rfl | (simp; done))
      refine StepsP.cons ?_ ?_
      · intro Q s w hC hA K hK
        clear hC
        obtain ⟨f12, -⟩ := hA
        replace f12 : (s 41) = .pointer (some ⟨ga, 0, none⟩) := f12
        refine guard_none (by rfl) ?_
        refine wp_value (v := .pointer (some ⟨ga, 4, none⟩)) (w1 := w) ?_ (hK.out _ w (Below.refl _ _) rfl (fun h => by cases h))
        try simp only [f12]
        go_simp
        try (first | done | rfl | (simp; done))
      refine StepsP.cons ?_ ?_
      · intro Q s w hC hA K hK
        clear hC
        obtain ⟨f13, f2, -⟩ := hA
        replace f13 : (s 42) = .pointer (some ⟨ga, 4, none⟩) := f13
        replace f2 : (s 31) = .int .i64 0 := f2
        refine guard_none (by rfl) ?_
        refine wp_value (v := .pointer (some ⟨ga, 4, none⟩)) (w1 := w) ?_ (hK.out _ w (Below.refl _ _) rfl (fun h => by cases h))
        try simp only [f13, f2]
        go_simp
        first | done | rfl | (simp; done)
      refine StepsP.cons ?_ ?_
      · intro Q s w hC hA K hK
        obtain ⟨hsz, hk_gc, lt_gc, hk_gr, lt_gr, lt_ga, hbw, hX, hz⟩ := hC
        obtain ⟨f14, f11, f16, -⟩ := hA
        replace f14 : (s 43) = .pointer (some ⟨ga, 4, none⟩) := f14
        replace f11 : (s 40) = .int .i64 q1 := f11
        replace f16 : w.heap[ga]? = some (.cells #[.pointer (some ⟨gl, 0, none⟩), .int .i64 hold, .int .i64 0, .int .i64 t1, .int .i64 c0, .int .i64 c1, .slice aS n cS] 78 (0, 0)) := f16
        refine guard_none (by rfl) ?_
        have hk_ga := f16
        have m0_ga : w.cell? ⟨ga, 0, none⟩ = some (.pointer (some ⟨gl, 0, none⟩)) := blk_cell hk_ga 0 (by rfl)
        have z0_ga : w.frozen? ⟨ga, 0, none⟩ = false := blkf hk_ga 0
        have m1_ga : w.cell? ⟨ga, 1, none⟩ = some (.int .i64 hold) := blk_cell hk_ga 1 (by rfl)
        have z1_ga : w.frozen? ⟨ga, 1, none⟩ = false := blkf hk_ga 1
        have m2_ga : w.cell? ⟨ga, 2, none⟩ = some (.int .i64 0) := blk_cell hk_ga 2 (by rfl)
        have z2_ga : w.frozen? ⟨ga, 2, none⟩ = false := blkf hk_ga 2
        have m3_ga : w.cell? ⟨ga, 3, none⟩ = some (.int .i64 t1) := blk_cell hk_ga 3 (by rfl)
        have z3_ga : w.frozen? ⟨ga, 3, none⟩ = false := blkf hk_ga 3
        have m4_ga : w.cell? ⟨ga, 4, none⟩ = some (.int .i64 c0) := blk_cell hk_ga 4 (by rfl)
        have z4_ga : w.frozen? ⟨ga, 4, none⟩ = false := blkf hk_ga 4
        have m5_ga : w.cell? ⟨ga, 5, none⟩ = some (.int .i64 c1) := blk_cell hk_ga 5 (by rfl)
        have z5_ga : w.frozen? ⟨ga, 5, none⟩ = false := blkf hk_ga 5
        have m6_ga : w.cell? ⟨ga, 6, none⟩ = some (.slice aS n cS) := blk_cell hk_ga 6 (by rfl)
        have z6_ga : w.frozen? ⟨ga, 6, none⟩ = false := blkf hk_ga 6
        refine wp_skip_ (w1 := (w.setCell ⟨ga, 4, none⟩ (.int .i64 q1))) ?_ (hK.out undef _ (Or.inr ⟨fun k_ o_ hne_ h_ => (blk_far h_ (a := ⟨ga, 4, none⟩) (Ne.symm hne_) (.int .i64 q1)), by simp [World.setCell], (Below.setCell (Below.refl _ _) (p := ⟨ga, 4, none⟩) (Nat.le_refl _) (.int .i64 q1))⟩) (blk_set hk_ga 4 (.int .i64 q1)) (fun h => by cases h))
        try simp only [f14, f11]
        go_simp
        try rfl
      exact StepsP.nil
    obtain ⟨hsz, hk_gc, lt_gc, hk_gr, lt_gr, lt_ga, hbw, hX, hz⟩ := hC
    obtain ⟨f15, -⟩ := hA
    replace f15 : w.heap[ga]? = some (.cells #[.pointer (some ⟨gl, 0, none⟩), .int .i64 hold, .int .i64 0, .int .i64 t1, .int .i64 q1, .int .i64 c1, .slice aS n cS] 78 (0, 0)) := f15
    have hk_ga := f15
    have hA1 := hA1.trans ⟨hbw, hX, hz⟩
    have y0 : w.cell? ⟨gr, 0, none⟩ = some (.int .i64 0) := blk_cell hk_gr 0 (by rfl)
    have y1 : w.cell? ⟨gr, 1, none⟩ = some (.int .i64 0) := blk_cell hk_gr 1 (by rfl)
    have y2 : w.cell? ⟨gr, 2, none⟩ = some (.int .i64 0) := blk_cell hk_gr 2 (by rfl)
    have yc0 : w.cell? ⟨gc, 0, none⟩ = some (.int .i64 cmd) := blk_cell hk_gc 0 (by rfl)
    have yc1 : w.cell? ⟨gc, 1, none⟩ = some (.int .i64 0) := blk_cell hk_gc 1 (by rfl)
    have yc2 : w.cell? ⟨gc, 2, none⟩ = some (.int .i64 why) := blk_cell hk_gc 2 (by rfl)
    have z0 := blkf hk_gr 0
    have z1 := blkf hk_gr 1
    have z2 := blkf hk_gr 2
    go_wp2
    refine bodyPost_ret (results_cell_row rfl _ _ gr 73 #[.int .i64 cmd, .int .i64 0, .int .i64 why] (0, 0) _ rfl (blk_set (blk_set (blk_set hk_gr 0 (.int .i64 cmd)) 1 (.int .i64 0)) 2 (.int .i64 why)) Try.underlying73 rfl (by kernel_rfl)) rfl ?_
    exact ⟨rfl, ((hA1.set (a := ⟨gr, 0, none⟩) hwg hw0g (.int .i64 cmd)).set (a := ⟨gr, 1, none⟩) hwg hw0g (.int .i64 0)).set (a := ⟨gr, 2, none⟩) hwg hw0g (.int .i64 why), blk_far (blk_far (blk_far hk_ga (a := ⟨gr, 0, none⟩) hng (.int .i64 cmd)) (a := ⟨gr, 1, none⟩) hng (.int .i64 0)) (a := ⟨gr, 2, none⟩) hng (.int .i64 why)⟩
  · skip
    have ht2 : t1 = 1 := by rw [← ht1.out, if_neg hs]; decide
    subst ht2
    have dN : ((0 : Int) != src) = true := by simpa using hs
    have dN2 : ((0 : Int) == src) = false := by simpa using hs
    replace hs := hidI hs
    go_enter Try.func89, Try.ntmps89
    go_upto_region 1 with fail
    have hk_gc := blk_alloc (blk_new w (.cells #[.int .i64 cmd, .int .i64 0, .int .i64 why] 73)) (.cells #[.int .i64 0, .int .i64 0, .int .i64 0] 73)
    have hk_gr : ((w.alloc (.cells #[.int .i64 cmd, .int .i64 0, .int .i64 why] 73)).alloc (.cells #[.int .i64 0, .int .i64 0, .int .i64 0] 73)).heap[w.heap.size + 1]? = some (.cells #[.int .i64 0, .int .i64 0, .int .i64 0] 73 (0, 0)) := by have h_ := blk_new (w.alloc (.cells #[.int .i64 cmd, .int .i64 0, .int .i64 why] 73)) (.cells #[.int .i64 0, .int .i64 0, .int .i64 0] 73); simpa using h_
    have hbA := bl_alloc (bl_alloc (Below.refl w.heap.size w) (.cells #[.int .i64 cmd, .int .i64 0, .int .i64 why] 73)) (.cells #[.int .i64 0, .int .i64 0, .int .i64 0] 73)
    replace hk_ga := bl_block hbA hk_ga
    have hA1 := (Arm1.refl (ga := ga) hbw0).ext hbA
    generalize (w.alloc (.cells #[.int .i64 cmd, .int .i64 0, .int .i64 why] 73)).alloc (.cells #[.int .i64 0, .int .i64 0, .int .i64 0] 73) = W2 at *
    have hw0z := hbw0.size
    obtain ⟨gc, hgc⟩ : ∃ z, w.heap.size = z := ⟨_, rfl⟩
    have n_gc_ga : gc ≠ ga := by omega
    have hwc : w.heap.size ≤ gc := by omega
    obtain ⟨gr, hgr⟩ : ∃ z, w.heap.size + 1 = z := ⟨_, rfl⟩
    have n_gr_ga : gr ≠ ga := by omega
    have hng : gr ≠ ga := n_gr_ga
    have n_gc_gr : gc ≠ gr := by omega
    have hwg : w.heap.size ≤ gr := by omega
    have hw0g : w0.heap.size ≤ gr := by omega
    rw [hgr] at hk_gr
    rw [hgc] at hk_gc
    rw [hgr, hgc]
    clear hgr hgc hbA hw0z
    have y2 : W2.cell? ⟨ga, 2, none⟩ = some (.int .i64 src) := blk_cell hk_ga 2 (by rfl)
    have yc : W2.cell? ⟨gc, 1, none⟩ = some (.int .i64 0) := blk_cell hk_gc 1 (by rfl)
    go_quiet (fail)
    replace hk_ga := blk_drewN hk_ga nq
    replace hk_gc := blk_drewN hk_gc nq
    replace hk_gr := blk_drewN hk_gr nq
    replace hA1 := hA1.ext (bl_drewN (Below.refl _ _) nq)
    clear y2 yc
    generalize W2.drewN nq = W3 at *
    have y2 : W3.cell? ⟨ga, 2, none⟩ = some (.int .i64 src) := blk_cell hk_ga 2 (by rfl)
    have y3 : W3.cell? ⟨ga, 3, none⟩ = some (.int .i64 since) := blk_cell hk_ga 3 (by rfl)
    have yc : W3.cell? ⟨gc, 1, none⟩ = some (.int .i64 0) := blk_cell hk_gc 1 (by rfl)
    have z2 := blkf hk_ga 2
    have z3 := blkf hk_ga 3
    go_upto_region 4 with fail
    clear y2 y3 yc z2 z3
    have hk_g4 : (((W3.setCell ⟨ga, 2, none⟩ (.int .i64 0)).setCell ⟨ga, 3, none⟩ (.int .i64 0)).setCell ⟨ga, 3, none⟩ (.int .i64 1)).heap[ga]? = some (.cells #[.pointer (some ⟨gl, 0, none⟩), .int .i64 hold, .int .i64 0, .int .i64 1, .int .i64 c0, .int .i64 c1, .slice aS n cS] 78 (0, 0)) := by have h_ := blk_set (blk_set (blk_set hk_ga 2 (.int .i64 0)) 3 (.int .i64 0)) 3 (.int .i64 1); simpa using h_
    have hk_c4 := blk_far (blk_far (blk_far (hk_gc) (a := ⟨ga, 2, none⟩) n_gc_ga.symm (.int .i64 0)) (a := ⟨ga, 3, none⟩) n_gc_ga.symm (.int .i64 0)) (a := ⟨ga, 3, none⟩) n_gc_ga.symm (.int .i64 1)
    have hk_r4 := blk_far (blk_far (blk_far (hk_gr) (a := ⟨ga, 2, none⟩) n_gr_ga.symm (.int .i64 0)) (a := ⟨ga, 3, none⟩) n_gr_ga.symm (.int .i64 0)) (a := ⟨ga, 3, none⟩) n_gr_ga.symm (.int .i64 1)
    have hX4 := KeepX.set (KeepX.set (KeepX.set (hA1.k) (p := ⟨ga, 2, none⟩) rfl (.int .i64 0)) (p := ⟨ga, 3, none⟩) rfl (.int .i64 0)) (p := ⟨ga, 3, none⟩) rfl (.int .i64 1)
    have hb4 := bl_set (bl_set (bl_set (hA1.b) (p := ⟨ga, 2, none⟩) hga (.int .i64 0)) (p := ⟨ga, 3, none⟩) hga (.int .i64 0)) (p := ⟨ga, 3, none⟩) hga (.int .i64 1)
    have hz4 : w.heap.size ≤ (((W3.setCell ⟨ga, 2, none⟩ (.int .i64 0)).setCell ⟨ga, 3, none⟩ (.int .i64 0)).setCell ⟨ga, 3, none⟩ (.int .i64 1)).heap.size := by simp only [setCell_size]; exact hA1.z
    clear hk_ga hk_gc hk_gr hA1
    have hk_ga := hk_g4
    have hk_gc := hk_c4
    have hk_gr := hk_r4
    clear hk_g4 hk_c4 hk_r4
    generalize ((W3.setCell ⟨ga, 2, none⟩ (.int .i64 0)).setCell ⟨ga, 3, none⟩ (.int .i64 0)).setCell ⟨ga, 3, none⟩ (.int .i64 1) = W4 at *
    have hA1 : Arm1 w0 w W4 ga := ⟨hb4, hX4, hz4⟩
    clear hX4 hz4
    have hbw := hb4
    clear hb4
    have hle_ga := hga
    have c0_hX : KeepX (· = ga) W4 W4.drew := (KeepX.refl _ _).ext (bl_drew (Below.refl _ _))
    have c0_hz : W4.heap.size ≤ W4.drew.heap.size := Nat.le_refl _
    have hwc := hidI (IntWalk.i64_in (c0 + 1) (by omega))
    have hwc2 : Hid (wrap64 (c0 + 1) = c0 + 1) := by unfold Hid wrap64; omega
    obtain ⟨B0, hB0⟩ : ∃ B, B = W4.heap.size := ⟨_, rfl⟩
    have c0_hsz : B0 ≤ W4.heap.size := Nat.le_of_eq hB0
    have hw0B0 : w0.heap.size ≤ B0 := by rw [hB0]; exact hbw.size
    have c0_hle : W4.heap.size ≤ B0 := Nat.le_of_eq hB0.symm
    have c0_hk_ga := blk_drew hk_ga
    have c0_lt_ga : ga < B0 := by rw [hB0]; exact blk_lt hk_ga
    have c0_hk_gc := blk_drew hk_gc
    have c0_lt_gc : gc < B0 := by rw [hB0]; exact blk_lt hk_gc
    have c0_hk_gr := blk_drew hk_gr
    have c0_lt_gr : gr < B0 := by rw [hB0]; exact blk_lt hk_gr
    have c0_hbw := bl_drew hbw
    clear hB0 hbw hk_ga hk_gc hk_gr
    refine region_linM (n := 16) (st := ?st14) { R := [0, 0, 2, 0, 0, 16, 8, 72, 248, 504, 1016, 2040, 1, 4097, 16383, 32767], kill := [[], [], [], [], [], [], [], [], [], [], [], [], [], [], [], [], [15]], cls := [0, 0, 0, 0, 0, 0, 0, 0, 0, 0, 0, 0, 0, 0, 0, 1], dst := [some 29, some 30, some 31, some 32, some 33, some 34, some 35, some 36, some 37, some 38, some 39, some 40, some 41, some 42, some 43, none], pre := [[], [], [1], [], [], [4], [3], [6], [7, 5], [8, 16], [9], [10], [0], [12], [13, 2], [14, 11, 16]], cov := [(0, 16)], fin := [15], locs := [], tgt := [none, none], abt := [none, none, none, none, none, none, none, none, none, none, none, none, none, none, none, none], m := 1 }
      [.v [29] (fun vs => (vs.getD 0 undef) = .pointer (some ⟨ga, 0, none⟩)),
       .v [30] (fun vs => (vs.getD 0 undef) = .pointer (some ⟨gc, 1, none⟩)),
       .v [31] (fun vs => (vs.getD 0 undef) = .int .i64 0),
       .v [32] (fun vs => (vs.getD 0 undef) = .pointer (some ⟨ga, 0, none⟩)),
       .v [33] (fun vs => (vs.getD 0 undef) = .pointer (some ⟨gc, 1, none⟩)),
       .v [34] (fun vs => (vs.getD 0 undef) = .int .i64 0),
       .v [35] (fun vs => (vs.getD 0 undef) = .pointer (some ⟨ga, 0, none⟩)),
       .v [36] (fun vs => (vs.getD 0 undef) = .pointer (some ⟨ga, 4, none⟩)),
       .v [37] (fun vs => (vs.getD 0 undef) = .pointer (some ⟨ga, 4, none⟩)),
       .v [38] (fun vs => (vs.getD 0 undef) = .int .i64 c0),
       .v [39] (fun vs => (vs.getD 0 undef) = .int .i64 (c0 + 1)),
       .v [40] (fun vs => (vs.getD 0 undef) = .int .i64 q1),
       .v [41] (fun vs => (vs.getD 0 undef) = .pointer (some ⟨ga, 0, none⟩)),
       .v [42] (fun vs => (vs.getD 0 undef) = .pointer (some ⟨ga, 4, none⟩)),
       .v [43] (fun vs => (vs.getD 0 undef) = .pointer (some ⟨ga, 4, none⟩)),
       .w [] (fun vs w => w.heap[ga]? = some (.cells #[.pointer (some ⟨gl, 0, none⟩), .int .i64 hold, .int .i64 0, .int .i64 1, .int .i64 q1, .int .i64 c1, .slice aS n cS] 78 (0, 0))),
       .w [] (fun vs w => w.heap[ga]? = some (.cells #[.pointer (some ⟨gl, 0, none⟩), .int .i64 hold, .int .i64 0, .int .i64 1, .int .i64 c0, .int .i64 c1, .slice aS n cS] 78 (0, 0)))]
      (fun w => B0 ≤ w.heap.size ∧ w.heap[gc]? = some (.cells #[.int .i64 cmd, .int .i64 0, .int .i64 why] 73 (0, 0)) ∧ gc < B0 ∧ w.heap[gr]? = some (.cells #[.int .i64 0, .int .i64 0, .int .i64 0] 73 (0, 0)) ∧ gr < B0 ∧ ga < B0 ∧ Below w0.heap.size w0 w ∧ KeepX (· = ga) W4 w ∧ W4.heap.size ≤ w.heap.size)
      (fun c => ([fun s w w' => Below w.heap.size w w', fun s w w' => w' = w ∨ ((∀ k o, k ≠ ga → w.heap[k]? = some o → w'.heap[k]? = some o) ∧ w'.heap.size = w.heap.size ∧ Below ga w w')] : List ((Nat → Value) → World → World → Prop)).getD c (fun s w w' => w' = w))
      [29, 30, 31, 32, 33, 34, 35, 36, 37, 38, 39, 40, 41, 42, 43] (by kernel_rfl) ⟨by kernel_rfl, by kernel_rfl, by kernel_rfl, by kernel_rfl, by kernel_rfl, by kernel_rfl, by kernel_rfl, by kernel_rfl⟩ (fun s => ?_) ?_ ?_ ?_ ?_ ?_ ?_ (fun s w hC hA => ?_)
    rotate_left
    · simp only [fillS, List.foldl, List.setIfInBounds_toArray, List.set_cons_zero, List.set_cons_succ]; rfl
    · exact ⟨c0_hsz, c0_hk_gc, c0_lt_gc, c0_hk_gr, c0_lt_gr, c0_lt_ga, c0_hbw, c0_hX, c0_hz⟩
    · exact ⟨c0_hk_ga, trivial⟩
    · intro c s w w' hE
      match c, hE with
      | 0, hE => exact Below.size hE
      | 1, hE => replace hE : w' = w ∨ ((∀ k o, k ≠ ga → w.heap[k]? = some o → w'.heap[k]? = some o) ∧ w'.heap.size = w.heap.size ∧ Below ga w w') := hE; rcases hE with hE | ⟨_, hE, _⟩; exact Nat.le_of_eq (by rw [hE]); exact Nat.le_of_eq hE.symm
      | c + 2, hE => cases hE; exact Nat.le_refl _
    · rintro c s w w' ⟨hsz, hk_gc, lt_gc, hk_gr, lt_gr, lt_ga, hbw, hX, hz⟩ hE
      match c, hE with
      | 0, hE => replace hE : Below w.heap.size w w' := hE; exact ⟨Nat.le_trans hsz hE.size, bl_block hE hk_gc, lt_gc, bl_block hE hk_gr, lt_gr, lt_ga, bl_step hbw hE, hX.ext hE, Nat.le_trans hz hE.size⟩
      | 1, hE =>
        replace hE : w' = w ∨ ((∀ k o, k ≠ ga → w.heap[k]? = some o → w'.heap[k]? = some o) ∧ w'.heap.size = w.heap.size ∧ Below ga w w') := hE
        rcases hE with rfl | ⟨hkeep, hsz_, hBl⟩
        · exact ⟨hsz, hk_gc, lt_gc, hk_gr, lt_gr, lt_ga, hbw, hX, hz⟩
        · exact ⟨by omega, hkeep _ _ n_gc_ga hk_gc, lt_gc, hkeep _ _ n_gr_ga hk_gr, lt_gr, lt_ga, hbw.trans (Below.mono hBl hle_ga), hX.trans (KeepX.of1 (X := (· = ga)) hkeep rfl), by omega⟩
      | c + 2, hE => cases hE; exact ⟨hsz, hk_gc, lt_gc, hk_gr, lt_gr, lt_ga, hbw, hX, hz⟩
    · refine ⟨?_, trivial⟩
      · intro s w w' hD hC hE hF
        replace hF : w.heap[ga]? = some (.cells #[.pointer (some ⟨gl, 0, none⟩), .int .i64 hold, .int .i64 0, .int .i64 1, .int .i64 c0, .int .i64 c1, .slice aS n cS] 78 (0, 0)) := hF
        show w'.heap[ga]? = some (.cells #[.pointer (some ⟨gl, 0, none⟩), .int .i64 hold, .int .i64 0, .int .i64 1, .int .i64 c0, .int .i64 c1, .slice aS n cS] 78 (0, 0))
        replace hE : Below w.heap.size w w' := hE
        exact bl_block hE (hF)
    · skip
      refine StepsP.cons ?_ ?_
      · intro Q s w hC hA K hK
        clear hC
        clear hA
        refine guard_none (by rfl) ?_
        refine wp_value (v := .pointer (some ⟨ga, 0, none⟩)) (w1 := w) ?_ (hK.out _ w (Below.refl _ _) rfl (fun h => by cases h))
        go_simp
        try (first | done | rfl | (simp; done))
      refine StepsP.cons ?_ ?_
      · intro Q s w hC hA K hK
        clear hC
        clear hA
        refine guard_none (by rfl) ?_
        refine wp_value (v := .pointer (some ⟨gc, 1, none⟩)) (w1 := w) ?_ (hK.out _ w (Below.refl _ _) rfl (fun h => by cases h))
        go_simp
        try (first | done | rfl | (simp; done))
      refine StepsP.cons ?_ ?_
      · intro Q s w hC hA K hK
        obtain ⟨hsz, hk_gc, lt_gc, hk_gr, lt_gr, lt_ga, hbw, hX, hz⟩ := hC
        obtain ⟨f1, -⟩ := hA
        replace f1 : (s 30) = .pointer (some ⟨gc, 1, none⟩) := f1
        refine guard_none (by rfl) ?_
        have m0_gc : w.cell? ⟨gc, 0, none⟩ = some (.int .i64 cmd) := blk_cell hk_gc 0 (by rfl)
        have m1_gc : w.cell? ⟨gc, 1, none⟩ = some (.int .i64 0) := blk_cell hk_gc 1 (by rfl)
        have m2_gc : w.cell? ⟨gc, 2, none⟩ = some (.int .i64 why) := blk_cell hk_gc 2 (by rfl)
        refine wp_value (v := .int .i64 0) (w1 := w) ?_ (hK.out _ w (Below.refl _ _) rfl (fun h => by cases h))
        try simp only [f1]
        go_simp
        try (first | done | rfl | (simp; done))
      refine StepsP.cons ?_ ?_
      · intro Q s w hC hA K hK
        clear hC
        clear hA
        refine guard_none (by rfl) ?_
        refine wp_value (v := .pointer (some ⟨ga, 0, none⟩)) (w1 := w) ?_ (hK.out _ w (Below.refl _ _) rfl (fun h => by cases h))
        go_simp
        try (first | done | rfl | (simp; done))
      refine StepsP.cons ?_ ?_
      · intro Q s w hC hA K hK
        clear hC
        clear hA
        refine guard_none (by rfl) ?_
        refine wp_value (v := .pointer (some ⟨gc, 1, none⟩)) (w1 := w) ?_ (hK.out _ w (Below.refl _ _) rfl (fun h => by cases h))
        go_simp
        try (first | done | rfl | (simp; done))
      refine StepsP.cons ?_ ?_
      · intro Q s w hC hA K hK
        obtain ⟨hsz, hk_gc, lt_gc, hk_gr, lt_gr, lt_ga, hbw, hX, hz⟩ := hC
        obtain ⟨f4, -⟩ := hA
        replace f4 : (s 33) = .pointer (some ⟨gc, 1, none⟩) := f4
        refine guard_none (by rfl) ?_
        have m0_gc : w.cell? ⟨gc, 0, none⟩ = some (.int .i64 cmd) := blk_cell hk_gc 0 (by rfl)
        have m1_gc : w.cell? ⟨gc, 1, none⟩ = some (.int .i64 0) := blk_cell hk_gc 1 (by rfl)
        have m2_gc : w.cell? ⟨gc, 2, none⟩ = some (.int .i64 why) := blk_cell hk_gc 2 (by rfl)
        refine wp_value (v := .int .i64 0) (w1 := w) ?_ (hK.out _ w (Below.refl _ _) rfl (fun h => by cases h))
        try simp only [f4]
        go_simp
        try (first | done | rfl | (simp; done))
      refine StepsP.cons ?_ ?_
      · intro Q s w hC hA K hK
        clear hC
        obtain ⟨f3, -⟩ := hA
        replace f3 : (s 32) = .pointer (some ⟨ga, 0, none⟩) := f3
        refine guard_none (by rfl) ?_
        refine wp_value (v := .pointer (some ⟨ga, 0, none⟩)) (w1 := w) ?_ (hK.out _ w (Below.refl _ _) rfl (fun h => by cases h))
        try simp only [f3]
        go_simp
        try (first | done | rfl | (simp; done))
      refine StepsP.cons ?_ ?_
      · intro Q s w hC hA K hK
        clear hC
        obtain ⟨f6, -⟩ := hA
        replace f6 : (s 35) = .pointer (some ⟨ga, 0, none⟩) := f6
        refine guard_none (by rfl) ?_
        refine wp_value (v := .pointer (some ⟨ga, 4, none⟩)) (w1 := w) ?_ (hK.out _ w (Below.refl _ _) rfl (fun h => by cases h))
        try simp only [f6]
        go_simp
        try (first | done | rfl | (simp; done))
      refine StepsP.cons ?_ ?_
      · intro Q s w hC hA K hK
        clear hC
        obtain ⟨f7, f5, -⟩ := hA
        replace f7 : (s 36) = .pointer (some ⟨ga, 4, none⟩) := f7
        replace f5 : (s 34) = .int .i64 0 := f5
        refine guard_none (by rfl) ?_
        refine wp_value (v := .pointer (some ⟨ga, 4, none⟩)) (w1 := w) ?_ (hK.out _ w (Below.refl _ _) rfl (fun h => by cases h))
        try simp only [f7, f5]
        go_simp
        first | done | rfl | (simp; done)
      refine StepsP.cons ?_ ?_
      · intro Q s w hC hA K hK
        obtain ⟨hsz, hk_gc, lt_gc, hk_gr, lt_gr, lt_ga, hbw, hX, hz⟩ := hC
        obtain ⟨f8, f16, -⟩ := hA
        replace f8 : (s 37) = .pointer (some ⟨ga, 4, none⟩) := f8
        replace f16 : w.heap[ga]? = some (.cells #[.pointer (some ⟨gl, 0, none⟩), .int .i64 hold, .int .i64 0, .int .i64 1, .int .i64 c0, .int .i64 c1, .slice aS n cS] 78 (0, 0)) := f16
        refine guard_none (by rfl) ?_
        have hk_ga := f16
        have m0_ga : w.cell? ⟨ga, 0, none⟩ = some (.pointer (some ⟨gl, 0, none⟩)) := blk_cell hk_ga 0 (by rfl)
        have m1_ga : w.cell? ⟨ga, 1, none⟩ = some (.int .i64 hold) := blk_cell hk_ga 1 (by rfl)
        have m2_ga : w.cell? ⟨ga, 2, none⟩ = some (.int .i64 0) := blk_cell hk_ga 2 (by rfl)
        have m3_ga : w.cell? ⟨ga, 3, none⟩ = some (.int .i64 1) := blk_cell hk_ga 3 (by rfl)
        have m4_ga : w.cell? ⟨ga, 4, none⟩ = some (.int .i64 c0) := blk_cell hk_ga 4 (by rfl)
        have m5_ga : w.cell? ⟨ga, 5, none⟩ = some (.int .i64 c1) := blk_cell hk_ga 5 (by rfl)
        have m6_ga : w.cell? ⟨ga, 6, none⟩ = some (.slice aS n cS) := blk_cell hk_ga 6 (by rfl)
        refine wp_value (v := .int .i64 c0) (w1 := w) ?_ (hK.out _ w (Below.refl _ _) rfl (fun h => by cases h))
        try simp only [f8]
        go_simp
        try (first | done | rfl | (simp; done))
      refine StepsP.cons ?_ ?_
      · intro Q s w hC hA K hK
        clear hC
        obtain ⟨f9, -⟩ := hA
        replace f9 : (s 38) = .int .i64 c0 := f9
        refine guard_none (by rfl) ?_
        refine wp_value (v := .int .i64 (c0 + 1)) (w1 := w) ?_ (hK.out _ w (Below.refl _ _) rfl (fun h => by cases h))
        try simp only [f9]
        go_simp
        first | done | rfl | (simp [hwc.out]; done) | (simp [hwc2.out]; done)
      refine StepsP.cons ?_ ?_
      · intro Q s w hC hA K hK
        clear hC
        obtain ⟨f10, -⟩ := hA
        replace f10 : (s 39) = .int .i64 (c0 + 1) := f10
        refine guard_none (by rfl) ?_
        refine wp_value (v := .int .i64 q1) (w1 := w) ?_ (hK.out _ w (Below.refl _ _) rfl (fun h => by cases h))
        try simp only [f10]
        go_simp
        first | done | rfl | exact hq2.out | (simp [hq2.out]; done) | (rw [hq2.out]; done)
      refine StepsP.cons ?_ ?_
      · intro Q s w hC hA K hK
        clear hC
        obtain ⟨f0, -⟩ := hA
        replace f0 : (s 29) = .pointer (some ⟨ga, 0, none⟩) := f0
        refine guard_none (by rfl) ?_
        refine wp_value (v := .pointer (some ⟨ga, 0, none⟩)) (w1 := w) ?_ (hK.out _ w (Below.refl _ _) rfl (fun h => by cases h))
        try simp only [f0]
        go_simp
        try (first | done | rfl | (simp; done))
      refine StepsP.cons ?_ ?_
      · intro Q s w hC hA K hK
        clear hC
        obtain ⟨f12, -⟩ := hA
        replace f12 : (s 41) = .pointer (some ⟨ga, 0, none⟩) := f12
        refine guard_none (by rfl) ?_
        refine wp_value (v := .pointer (some ⟨ga, 4, none⟩)) (w1 := w) ?_ (hK.out _ w (Below.refl _ _) rfl (fun h => by cases h))
        try simp only [f12]
        go_simp
        try (first | done | rfl | (simp; done))
      refine StepsP.cons ?_ ?_
      · intro Q s w hC hA K hK
        clear hC
        obtain ⟨f13, f2, -⟩ := hA
        replace f13 : (s 42) = .pointer (some ⟨ga, 4, none⟩) := f13
        replace f2 : (s 31) = .int .i64 0 := f2
        refine guard_none (by rfl) ?_
        refine wp_value (v := .pointer (some ⟨ga, 4, none⟩)) (w1 := w) ?_ (hK.out _ w (Below.refl _ _) rfl (fun h => by cases h))
        try simp only [f13, f2]
        go_simp
        first | done | rfl | (simp; done)
      refine StepsP.cons ?_ ?_
      · intro Q s w hC hA K hK
        obtain ⟨hsz, hk_gc, lt_gc, hk_gr, lt_gr, lt_ga, hbw, hX, hz⟩ := hC
        obtain ⟨f14, f11, f16, -⟩ := hA
        replace f14 : (s 43) = .pointer (some ⟨ga, 4, none⟩) := f14
        replace f11 : (s 40) = .int .i64 q1 := f11
        replace f16 : w.heap[ga]? = some (.cells #[.pointer (some ⟨gl, 0, none⟩), .int .i64 hold, .int .i64 0, .int .i64 1, .int .i64 c0, .int .i64 c1, .slice aS n cS] 78 (0, 0)) := f16
        refine guard_none (by rfl) ?_
        have hk_ga := f16
        have m0_ga : w.cell? ⟨ga, 0, none⟩ = some (.pointer (some ⟨gl, 0, none⟩)) := blk_cell hk_ga 0 (by rfl)
        have z0_ga : w.frozen? ⟨ga, 0, none⟩ = false := blkf hk_ga 0
        have m1_ga : w.cell? ⟨ga, 1, none⟩ = some (.int .i64 hold) := blk_cell hk_ga 1 (by rfl)
        have z1_ga : w.frozen? ⟨ga, 1, none⟩ = false := blkf hk_ga 1
        have m2_ga : w.cell? ⟨ga, 2, none⟩ = some (.int .i64 0) := blk_cell hk_ga 2 (by rfl)
        have z2_ga : w.frozen? ⟨ga, 2, none⟩ = false := blkf hk_ga 2
        have m3_ga : w.cell? ⟨ga, 3, none⟩ = some (.int .i64 1) := blk_cell hk_ga 3 (by rfl)
        have z3_ga : w.frozen? ⟨ga, 3, none⟩ = false := blkf hk_ga 3
        have m4_ga : w.cell? ⟨ga, 4, none⟩ = some (.int .i64 c0) := blk_cell hk_ga 4 (by rfl)
        have z4_ga : w.frozen? ⟨ga, 4, none⟩ = false := blkf hk_ga 4
        have m5_ga : w.cell? ⟨ga, 5, none⟩ = some (.int .i64 c1) := blk_cell hk_ga 5 (by rfl)
        have z5_ga : w.frozen? ⟨ga, 5, none⟩ = false := blkf hk_ga 5
        have m6_ga : w.cell? ⟨ga, 6, none⟩ = some (.slice aS n cS) := blk_cell hk_ga 6 (by rfl)
        have z6_ga : w.frozen? ⟨ga, 6, none⟩ = false := blkf hk_ga 6
        refine wp_skip_ (w1 := (w.setCell ⟨ga, 4, none⟩ (.int .i64 q1))) ?_ (hK.out undef _ (Or.inr ⟨fun k_ o_ hne_ h_ => (blk_far h_ (a := ⟨ga, 4, none⟩) (Ne.symm hne_) (.int .i64 q1)), by simp [World.setCell], (Below.setCell (Below.refl _ _) (p := ⟨ga, 4, none⟩) (Nat.le_refl _) (.int .i64 q1))⟩) (blk_set hk_ga 4 (.int .i64 q1)) (fun h => by cases h))
        try simp only [f14, f11]
        go_simp
        try rfl
      exact StepsP.nil
    obtain ⟨hsz, hk_gc, lt_gc, hk_gr, lt_gr, lt_ga, hbw, hX, hz⟩ := hC
    obtain ⟨f15, -⟩ := hA
    replace f15 : w.heap[ga]? = some (.cells #[.pointer (some ⟨gl, 0, none⟩), .int .i64 hold, .int .i64 0, .int .i64 1, .int .i64 q1, .int .i64 c1, .slice aS n cS] 78 (0, 0)) := f15
    have hk_ga := f15
    have hA1 := hA1.trans ⟨hbw, hX, hz⟩
    have y0 : w.cell? ⟨gr, 0, none⟩ = some (.int .i64 0) := blk_cell hk_gr 0 (by rfl)
    have y1 : w.cell? ⟨gr, 1, none⟩ = some (.int .i64 0) := blk_cell hk_gr 1 (by rfl)
    have y2 : w.cell? ⟨gr, 2, none⟩ = some (.int .i64 0) := blk_cell hk_gr 2 (by rfl)
    have yc0 : w.cell? ⟨gc, 0, none⟩ = some (.int .i64 cmd) := blk_cell hk_gc 0 (by rfl)
    have yc1 : w.cell? ⟨gc, 1, none⟩ = some (.int .i64 0) := blk_cell hk_gc 1 (by rfl)
    have yc2 : w.cell? ⟨gc, 2, none⟩ = some (.int .i64 why) := blk_cell hk_gc 2 (by rfl)
    have z0 := blkf hk_gr 0
    have z1 := blkf hk_gr 1
    have z2 := blkf hk_gr 2
    go_wp2
    refine bodyPost_ret (results_cell_row rfl _ _ gr 73 #[.int .i64 cmd, .int .i64 0, .int .i64 why] (0, 0) _ rfl (blk_set (blk_set (blk_set hk_gr 0 (.int .i64 cmd)) 1 (.int .i64 0)) 2 (.int .i64 why)) Try.underlying73 rfl (by kernel_rfl)) rfl ?_
    exact ⟨rfl, ((hA1.set (a := ⟨gr, 0, none⟩) hwg hw0g (.int .i64 cmd)).set (a := ⟨gr, 1, none⟩) hwg hw0g (.int .i64 0)).set (a := ⟨gr, 2, none⟩) hwg hw0g (.int .i64 why), blk_far (blk_far (blk_far hk_ga (a := ⟨gr, 0, none⟩) hng (.int .i64 cmd)) (a := ⟨gr, 1, none⟩) hng (.int .i64 0)) (a := ⟨gr, 2, none⟩) hng (.int .i64 why)⟩
set_option maxHeartbeats 8000000 in
set_option maxRecDepth 100000 in
theorem chosen1_calls (w0 : World) (ga gl : Nat) (hold src since c0 c1 : Int) (aS : Option Addr) (n cS : Nat) (cmd why : Int) (w : World) (hga : w0.heap.size ≤ ga) (hbw0 : Below w0.heap.size w0 w) (hk_ga : w.heap[ga]? = some (.cells #[.pointer (some ⟨gl, 0, none⟩), .int .i64 hold, .int .i64 src, .int .i64 since, .int .i64 c0, .int .i64 c1, .slice aS n cS] 78 (0, 0))) (h1 : 0 ≤ since) (h2 : since ≤ 2147483647) (h3 : 0 ≤ c0) (h4 : c0 ≤ 2147483647) (h5 : 0 ≤ c1) (h6 : c1 ≤ 2147483647) :
    Calls Try.prog 89 #[.pointer (some ⟨ga, 0, none⟩), .agg #[.int .i64 cmd, .int .i64 1, .int .i64 why]] w fun e w' => e = .returned (.agg #[.int .i64 cmd, .int .i64 1, .int .i64 why]) ∧ Arm1 w0 w w' ga ∧ w'.heap[ga]? = some (.cells #[.pointer (some ⟨gl, 0, none⟩), .int .i64 hold, .int .i64 1, .int .i64 (mn31 ((if 1 = src then since else 0) + 1)), .int .i64 c0, .int .i64 (mn31 (c1 + 1)), .slice aS n cS] 78 (0, 0)) := by
  have hlt_ga := blk_lt hk_ga
  obtain ⟨t1, ht1⟩ : ∃ z, Hid (mn31 ((if 1 = src then since else 0) + 1) = z) := ⟨_, rfl⟩
  obtain ⟨q1, hq1⟩ : ∃ z, Hid (mn31 (c1 + 1) = z) := ⟨_, rfl⟩
  rw [ht1.out, hq1.out]
  have hq2 : (if 2147483647 < c1 + 1 then (2147483647 : Int) else c1 + 1) = q1 := by rw [← hq1.out]; rfl
  replace hq2 := hidI hq2
  by_cases hs : 1 = src
  · skip
    have ht2 : (if 2147483647 < since + 1 then (2147483647 : Int) else since + 1) = t1 := by rw [← ht1.out, if_pos hs]; rfl
    subst hs
    have dN : ((1 : Int) != 1) = false := by decide
    go_enter Try.func89, Try.ntmps89
    go_upto_region 1 with fail
    have hk_gc := blk_alloc (blk_new w (.cells #[.int .i64 cmd, .int .i64 1, .int .i64 why] 73)) (.cells #[.int .i64 0, .int .i64 0, .int .i64 0] 73)
    have hk_gr : ((w.alloc (.cells #[.int .i64 cmd, .int .i64 1, .int .i64 why] 73)).alloc (.cells #[.int .i64 0, .int .i64 0, .int .i64 0] 73)).heap[w.heap.size + 1]? = some (.cells #[.int .i64 0, .int .i64 0, .int .i64 0] 73 (0, 0)) := by have h_ := blk_new (w.alloc (.cells #[.int .i64 cmd, .int .i64 1, .int .i64 why] 73)) (.cells #[.int .i64 0, .int .i64 0, .int .i64 0] 73); simpa using h_
    have hbA := bl_alloc (bl_alloc (Below.refl w.heap.size w) (.cells #[.int .i64 cmd, .int .i64 1, .int .i64 why] 73)) (.cells #[.int .i64 0, .int .i64 0, .int .i64 0] 73)
    replace hk_ga := bl_block hbA hk_ga
    have hA1 := (Arm1.refl (ga := ga) hbw0).ext hbA
    generalize (w.alloc (.cells #[.int .i64 cmd, .int .i64 1, .int .i64 why] 73)).alloc (.cells #[.int .i64 0, .int .i64 0, .int .i64 0] 73) = W2 at *
    have hw0z := hbw0.size
    obtain ⟨gc, hgc⟩ : ∃ z, w.heap.size = z := ⟨_, rfl⟩
    have n_gc_ga : gc ≠ ga := by omega
    have hwc : w.heap.size ≤ gc := by omega
    obtain ⟨gr, hgr⟩ : ∃ z, w.heap.size + 1 = z := ⟨_, rfl⟩
    have n_gr_ga : gr ≠ ga := by omega
    have hng : gr ≠ ga := n_gr_ga
    have n_gc_gr : gc ≠ gr := by omega
    have hwg : w.heap.size ≤ gr := by omega
    have hw0g : w0.heap.size ≤ gr := by omega
    rw [hgr] at hk_gr
    rw [hgc] at hk_gc
    rw [hgr, hgc]
    clear hgr hgc hbA hw0z
    have y2 : W2.cell? ⟨ga, 2, none⟩ = some (.int .i64 1) := blk_cell hk_ga 2 (by rfl)
    have yc : W2.cell? ⟨gc, 1, none⟩ = some (.int .i64 1) := blk_cell hk_gc 1 (by rfl)
    go_quiet (fail)
    replace hk_ga := blk_drewN hk_ga nq
    replace hk_gc := blk_drewN hk_gc nq
    replace hk_gr := blk_drewN hk_gr nq
    replace hA1 := hA1.ext (bl_drewN (Below.refl _ _) nq)
    clear y2 yc
    generalize W2.drewN nq = W3 at *
    have y2 : W3.cell? ⟨ga, 2, none⟩ = some (.int .i64 1) := blk_cell hk_ga 2 (by rfl)
    have y3 : W3.cell? ⟨ga, 3, none⟩ = some (.int .i64 since) := blk_cell hk_ga 3 (by rfl)
    have yc : W3.cell? ⟨gc, 1, none⟩ = some (.int .i64 1) := blk_cell hk_gc 1 (by rfl)
    have z2 := blkf hk_ga 2
    have z3 := blkf hk_ga 3
    go_upto_region 4 with fail
    clear y2 y3 yc z2 z3
    have hk_g4 : (W3.setCell ⟨ga, 3, none⟩ (.int .i64 t1)).heap[ga]? = some (.cells #[.pointer (some ⟨gl, 0, none⟩), .int .i64 hold, .int .i64 1, .int .i64 t1, .int .i64 c0, .int .i64 c1, .slice aS n cS] 78 (0, 0)) := by have h_ := blk_set hk_ga 3 (.int .i64 t1); simpa using h_
    have hk_c4 := blk_far (hk_gc) (a := ⟨ga, 3, none⟩) n_gc_ga.symm (.int .i64 t1)
    have hk_r4 := blk_far (hk_gr) (a := ⟨ga, 3, none⟩) n_gr_ga.symm (.int .i64 t1)
    have hX4 := KeepX.set (hA1.k) (p := ⟨ga, 3, none⟩) rfl (.int .i64 t1)
    have hb4 := bl_set (hA1.b) (p := ⟨ga, 3, none⟩) hga (.int .i64 t1)
    have hz4 : w.heap.size ≤ (W3.setCell ⟨ga, 3, none⟩ (.int .i64 t1)).heap.size := by simp only [setCell_size]; exact hA1.z
    clear hk_ga hk_gc hk_gr hA1
    have hk_ga := hk_g4
    have hk_gc := hk_c4
    have hk_gr := hk_r4
    clear hk_g4 hk_c4 hk_r4
    generalize W3.setCell ⟨ga, 3, none⟩ (.int .i64 t1) = W4 at *
    have hA1 : Arm1 w0 w W4 ga := ⟨hb4, hX4, hz4⟩
    clear hX4 hz4
    have hbw := hb4
    clear hb4
    have hle_ga := hga
    have c0_hX : KeepX (· = ga) W4 W4.drew := (KeepX.refl _ _).ext (bl_drew (Below.refl _ _))
    have c0_hz : W4.heap.size ≤ W4.drew.heap.size := Nat.le_refl _
    have hwc := hidI (IntWalk.i64_in (c1 + 1) (by omega))
    have hwc2 : Hid (wrap64 (c1 + 1) = c1 + 1) := by unfold Hid wrap64; omega
    obtain ⟨B0, hB0⟩ : ∃ B, B = W4.heap.size := ⟨_, rfl⟩
    have c0_hsz : B0 ≤ W4.heap.size := Nat.le_of_eq hB0
    have hw0B0 : w0.heap.size ≤ B0 := by rw [hB0]; exact hbw.size
    have c0_hle : W4.heap.size ≤ B0 := Nat.le_of_eq hB0.symm
    have c0_hk_ga := blk_drew hk_ga
    have c0_lt_ga : ga < B0 := by rw [hB0]; exact blk_lt hk_ga
    have c0_hk_gc := blk_drew hk_gc
    have c0_lt_gc : gc < B0 := by rw [hB0]; exact blk_lt hk_gc
    have c0_hk_gr := blk_drew hk_gr
    have c0_lt_gr : gr < B0 := by rw [hB0]; exact blk_lt hk_gr
    have c0_hbw := bl_drew hbw
    clear hB0 hbw hk_ga hk_gc hk_gr
    refine region_linM (n := 16) (st := ?st15) { R := [0, 0, 2, 0, 0, 16, 8, 72, 248, 504, 1016, 2040, 1, 4097, 16383, 32767], kill := [[], [], [], [], [], [], [], [], [], [], [], [], [], [], [], [], [15]], cls := [0, 0, 0, 0, 0, 0, 0, 0, 0, 0, 0, 0, 0, 0, 0, 1], dst := [some 29, some 30, some 31, some 32, some 33, some 34, some 35, some 36, some 37, some 38, some 39, some 40, some 41, some 42, some 43, none], pre := [[], [], [1], [], [], [4], [3], [6], [7, 5], [8, 16], [9], [10], [0], [12], [13, 2], [14, 11, 16]], cov := [(0, 16)], fin := [15], locs := [], tgt := [none, none], abt := [none, none, none, none, none, none, none, none, none, none, none, none, none, none, none, none], m := 1 }
      [.v [29] (fun vs => (vs.getD 0 undef) = .pointer (some ⟨ga, 0, none⟩)),
       .v [30] (fun vs => (vs.getD 0 undef) = .pointer (some ⟨gc, 1, none⟩)),
       .v [31] (fun vs => (vs.getD 0 undef) = .int .i64 1),
       .v [32] (fun vs => (vs.getD 0 undef) = .pointer (some ⟨ga, 0, none⟩)),
       .v [33] (fun vs => (vs.getD 0 undef) = .pointer (some ⟨gc, 1, none⟩)),
       .v [34] (fun vs => (vs.getD 0 undef) = .int .i64 1),
       .v [35] (fun vs => (vs.getD 0 undef) = .pointer (some ⟨ga, 0, none⟩)),
       .v [36] (fun vs => (vs.getD 0 undef) = .pointer (some ⟨ga, 4, none⟩)),
       .v [37] (fun vs => (vs.getD 0 undef) = .pointer (some ⟨ga, 5, none⟩)),
       .v [38] (fun vs => (vs.getD 0 undef) = .int .i64 c1),
       .v [39] (fun vs => (vs.getD 0 undef) = .int .i64 (c1 + 1)),
       .v [40] (fun vs => (vs.getD 0 undef) = .int .i64 q1),
       .v [41] (fun vs => (vs.getD 0 undef) = .pointer (some ⟨ga, 0, none⟩)),
       .v [42] (fun vs => (vs.getD 0 undef) = .pointer (some ⟨ga, 4, none⟩)),
       .v [43] (fun vs => (vs.getD 0 undef) = .pointer (some ⟨ga, 5, none⟩)),
       .w [] (fun vs w => w.heap[ga]? = some (.cells #[.pointer (some ⟨gl, 0, none⟩), .int .i64 hold, .int .i64 1, .int .i64 t1, .int .i64 c0, .int .i64 q1, .slice aS n cS] 78 (0, 0))),
       .w [] (fun vs w => w.heap[ga]? = some (.cells #[.pointer (some ⟨gl, 0, none⟩), .int .i64 hold, .int .i64 1, .int .i64 t1, .int .i64 c0, .int .i64 c1, .slice aS n cS] 78 (0, 0)))]
      (fun w => B0 ≤ w.heap.size ∧ w.heap[gc]? = some (.cells #[.int .i64 cmd, .int .i64 1, .int .i64 why] 73 (0, 0)) ∧ gc < B0 ∧ w.heap[gr]? = some (.cells #[.int .i64 0, .int .i64 0, .int .i64 0] 73 (0, 0)) ∧ gr < B0 ∧ ga < B0 ∧ Below w0.heap.size w0 w ∧ KeepX (· = ga) W4 w ∧ W4.heap.size ≤ w.heap.size)
      (fun c => ([fun s w w' => Below w.heap.size w w', fun s w w' => w' = w ∨ ((∀ k o, k ≠ ga → w.heap[k]? = some o → w'.heap[k]? = some o) ∧ w'.heap.size = w.heap.size ∧ Below ga w w')] : List ((Nat → Value) → World → World → Prop)).getD c (fun s w w' => w' = w))
      [29, 30, 31, 32, 33, 34, 35, 36, 37, 38, 39, 40, 41, 42, 43] (by kernel_rfl) ⟨by kernel_rfl, by kernel_rfl, by kernel_rfl, by kernel_rfl, by kernel_rfl, by kernel_rfl, by kernel_rfl, by kernel_rfl⟩ (fun s => ?_) ?_ ?_ ?_ ?_ ?_ ?_ (fun s w hC hA => ?_)
    rotate_left
    · simp only [fillS, List.foldl, List.setIfInBounds_toArray, List.set_cons_zero, List.set_cons_succ]; rfl
    · exact ⟨c0_hsz, c0_hk_gc, c0_lt_gc, c0_hk_gr, c0_lt_gr, c0_lt_ga, c0_hbw, c0_hX, c0_hz⟩
    · exact ⟨c0_hk_ga, trivial⟩
    · intro c s w w' hE
      match c, hE with
      | 0, hE => exact Below.size hE
      | 1, hE => replace hE : w' = w ∨ ((∀ k o, k ≠ ga → w.heap[k]? = some o → w'.heap[k]? = some o) ∧ w'.heap.size = w.heap.size ∧ Below ga w w') := hE; rcases hE with hE | ⟨_, hE, _⟩; exact Nat.le_of_eq (by rw [hE]); exact Nat.le_of_eq hE.symm
      | c + 2, hE => cases hE; exact Nat.le_refl _
    · rintro c s w w' ⟨hsz, hk_gc, lt_gc, hk_gr, lt_gr, lt_ga, hbw, hX, hz⟩ hE
      match c, hE with
      | 0, hE => replace hE : Below w.heap.size w w' := hE; exact ⟨Nat.le_trans hsz hE.size, bl_block hE hk_gc, lt_gc, bl_block hE hk_gr, lt_gr, lt_ga, bl_step hbw hE, hX.ext hE, Nat.le_trans hz hE.size⟩
      | 1, hE =>
        replace hE : w' = w ∨ ((∀ k o, k ≠ ga → w.heap[k]? = some o → w'.heap[k]? = some o) ∧ w'.heap.size = w.heap.size ∧ Below ga w w') := hE
        rcases hE with rfl | ⟨hkeep, hsz_, hBl⟩
        · exact ⟨hsz, hk_gc, lt_gc, hk_gr, lt_gr, lt_ga, hbw, hX, hz⟩
        · exact ⟨by omega, hkeep _ _ n_gc_ga hk_gc, lt_gc, hkeep _ _ n_gr_ga hk_gr, lt_gr, lt_ga, hbw.trans (Below.mono hBl hle_ga), hX.trans (KeepX.of1 (X := (· = ga)) hkeep rfl), by omega⟩
      | c + 2, hE => cases hE; exact ⟨hsz, hk_gc, lt_gc, hk_gr, lt_gr, lt_ga, hbw, hX, hz⟩
    · refine ⟨?_, trivial⟩
      · intro s w w' hD hC hE hF
        replace hF : w.heap[ga]? = some (.cells #[.pointer (some ⟨gl, 0, none⟩), .int .i64 hold, .int .i64 1, .int .i64 t1, .int .i64 c0, .int .i64 c1, .slice aS n cS] 78 (0, 0)) := hF
        show w'.heap[ga]? = some (.cells #[.pointer (some ⟨gl, 0, none⟩), .int .i64 hold, .int .i64 1, .int .i64 t1, .int .i64 c0, .int .i64 c1, .slice aS n cS] 78 (0, 0))
        replace hE : Below w.heap.size w w' := hE
        exact bl_block hE (hF)
    · skip
      refine StepsP.cons ?_ ?_
      · intro Q s w hC hA K hK
        clear hC
        clear hA
        refine guard_none (by rfl) ?_
        refine wp_value (v := .pointer (some ⟨ga, 0, none⟩)) (w1 := w) ?_ (hK.out _ w (Below.refl _ _) rfl (fun h => by cases h))
        go_simp
        try (first | done | rfl | (simp; done))
      refine StepsP.cons ?_ ?_
      · intro Q s w hC hA K hK
        clear hC
        clear hA
        refine guard_none (by rfl) ?_
        refine wp_value (v := .pointer (some ⟨gc, 1, none⟩)) (w1 := w) ?_ (hK.out _ w (Below.refl _ _) rfl (fun h => by cases h))
        go_simp
        try (first | done | rfl | (simp; done))
      refine StepsP.cons ?_ ?_
      · intro Q s w hC hA K hK
        obtain ⟨hsz, hk_gc, lt_gc, hk_gr, lt_gr, lt_ga, hbw, hX, hz⟩ := hC
        obtain ⟨f1, -⟩ := hA
        replace f1 : (s 30) = .pointer (some ⟨gc, 1, none⟩) := f1
        refine guard_none (by rfl) ?_
        have m0_gc : w.cell? ⟨gc, 0, none⟩ = some (.int .i64 cmd) := blk_cell hk_gc 0 (by rfl)
        have m1_gc : w.cell? ⟨gc, 1, none⟩ = some (.int .i64 1) := blk_cell hk_gc 1 (by rfl)
        have m2_gc : w.cell? ⟨gc, 2, none⟩ = some (.int .i64 why) := blk_cell hk_gc 2 (by rfl)
        refine wp_value (v := .int .i64 1) (w1 := w) ?_ (hK.out _ w (Below.refl _ _) rfl (fun h => by cases h))
        try simp only [f1]
        go_simp
        try (first | done | rfl | (simp; done))
      refine StepsP.cons ?_ ?_
      · intro Q s w hC hA K hK
        clear hC
        clear hA
        refine guard_none (by rfl) ?_
        refine wp_value (v := .pointer (some ⟨ga, 0, none⟩)) (w1 := w) ?_ (hK.out _ w (Below.refl _ _) rfl (fun h => by cases h))
        go_simp
        try (first | done | rfl | (simp; done))
      refine StepsP.cons ?_ ?_
      · intro Q s w hC hA K hK
        clear hC
        clear hA
        refine guard_none (by rfl) ?_
        refine wp_value (v := .pointer (some ⟨gc, 1, none⟩)) (w1 := w) ?_ (hK.out _ w (Below.refl _ _) rfl (fun h => by cases h))
        go_simp
        try (first | done | rfl | (simp; done))
      refine StepsP.cons ?_ ?_
      · intro Q s w hC hA K hK
        obtain ⟨hsz, hk_gc, lt_gc, hk_gr, lt_gr, lt_ga, hbw, hX, hz⟩ := hC
        obtain ⟨f4, -⟩ := hA
        replace f4 : (s 33) = .pointer (some ⟨gc, 1, none⟩) := f4
        refine guard_none (by rfl) ?_
        have m0_gc : w.cell? ⟨gc, 0, none⟩ = some (.int .i64 cmd) := blk_cell hk_gc 0 (by rfl)
        have m1_gc : w.cell? ⟨gc, 1, none⟩ = some (.int .i64 1) := blk_cell hk_gc 1 (by rfl)
        have m2_gc : w.cell? ⟨gc, 2, none⟩ = some (.int .i64 why) := blk_cell hk_gc 2 (by rfl)
        refine wp_value (v := .int .i64 1) (w1 := w) ?_ (hK.out _ w (Below.refl _ _) rfl (fun h => by cases h))
        try simp only [f4]
        go_simp
        try (first | done | rfl | (simp; done))
      refine StepsP.cons ?_ ?_
      · intro Q s w hC hA K hK
        clear hC
        obtain ⟨f3, -⟩ := hA
        replace f3 : (s 32) = .pointer (some ⟨ga, 0, none⟩) := f3
        refine guard_none (by rfl) ?_
        refine wp_value (v := .pointer (some ⟨ga, 0, none⟩)) (w1 := w) ?_ (hK.out _ w (Below.refl _ _) rfl (fun h => by cases h))
        try simp only [f3]
        go_simp
        try (first | done | rfl | (simp; done))
      refine StepsP.cons ?_ ?_
      · intro Q s w hC hA K hK
        clear hC
        obtain ⟨f6, -⟩ := hA
        replace f6 : (s 35) = .pointer (some ⟨ga, 0, none⟩) := f6
        refine guard_none (by rfl) ?_
        refine wp_value (v := .pointer (some ⟨ga, 4, none⟩)) (w1 := w) ?_ (hK.out _ w (Below.refl _ _) rfl (fun h => by cases h))
        try simp only [f6]
        go_simp
        try (first | done | rfl | (simp; done))
      refine StepsP.cons ?_ ?_
      · intro Q s w hC hA K hK
        clear hC
        obtain ⟨f7, f5, -⟩ := hA
        replace f7 : (s 36) = .pointer (some ⟨ga, 4, none⟩) := f7
        replace f5 : (s 34) = .int .i64 1 := f5
        refine guard_none (by rfl) ?_
        refine wp_value (v := .pointer (some ⟨ga, 5, none⟩)) (w1 := w) ?_ (hK.out _ w (Below.refl _ _) rfl (fun h => by cases h))
        try simp only [f7, f5]
        go_simp
        first | done | rfl | (simp; done)
      refine StepsP.cons ?_ ?_
      · intro Q s w hC hA K hK
        obtain ⟨hsz, hk_gc, lt_gc, hk_gr, lt_gr, lt_ga, hbw, hX, hz⟩ := hC
        obtain ⟨f8, f16, -⟩ := hA
        replace f8 : (s 37) = .pointer (some ⟨ga, 5, none⟩) := f8
        replace f16 : w.heap[ga]? = some (.cells #[.pointer (some ⟨gl, 0, none⟩), .int .i64 hold, .int .i64 1, .int .i64 t1, .int .i64 c0, .int .i64 c1, .slice aS n cS] 78 (0, 0)) := f16
        refine guard_none (by rfl) ?_
        have hk_ga := f16
        have m0_ga : w.cell? ⟨ga, 0, none⟩ = some (.pointer (some ⟨gl, 0, none⟩)) := blk_cell hk_ga 0 (by rfl)
        have m1_ga : w.cell? ⟨ga, 1, none⟩ = some (.int .i64 hold) := blk_cell hk_ga 1 (by rfl)
        have m2_ga : w.cell? ⟨ga, 2, none⟩ = some (.int .i64 1) := blk_cell hk_ga 2 (by rfl)
        have m3_ga : w.cell? ⟨ga, 3, none⟩ = some (.int .i64 t1) := blk_cell hk_ga 3 (by rfl)
        have m4_ga : w.cell? ⟨ga, 4, none⟩ = some (.int .i64 c0) := blk_cell hk_ga 4 (by rfl)
        have m5_ga : w.cell? ⟨ga, 5, none⟩ = some (.int .i64 c1) := blk_cell hk_ga 5 (by rfl)
        have m6_ga : w.cell? ⟨ga, 6, none⟩ = some (.slice aS n cS) := blk_cell hk_ga 6 (by rfl)
        refine wp_value (v := .int .i64 c1) (w1 := w) ?_ (hK.out _ w (Below.refl _ _) rfl (fun h => by cases h))
        try simp only [f8]
        go_simp
        try (first | done | rfl | (simp; done))
      refine StepsP.cons ?_ ?_
      · intro Q s w hC hA K hK
        clear hC
        obtain ⟨f9, -⟩ := hA
        replace f9 : (s 38) = .int .i64 c1 := f9
        refine guard_none (by rfl) ?_
        refine wp_value (v := .int .i64 (c1 + 1)) (w1 := w) ?_ (hK.out _ w (Below.refl _ _) rfl (fun h => by cases h))
        try simp only [f9]
        go_simp
        first | done | rfl | (simp [hwc.out]; done) | (simp [hwc2.out]; done)
      refine StepsP.cons ?_ ?_
      · intro Q s w hC hA K hK
        clear hC
        obtain ⟨f10, -⟩ := hA
        replace f10 : (s 39) = .int .i64 (c1 + 1) := f10
        refine guard_none (by rfl) ?_
        refine wp_value (v := .int .i64 q1) (w1 := w) ?_ (hK.out _ w (Below.refl _ _) rfl (fun h => by cases h))
        try simp only [f10]
        go_simp
        first | done | rfl | exact hq2.out | (simp [hq2.out]; done) | (rw [hq2.out]; done)
      refine StepsP.cons ?_ ?_
      · intro Q s w hC hA K hK
        clear hC
        obtain ⟨f0, -⟩ := hA
        replace f0 : (s 29) = .pointer (some ⟨ga, 0, none⟩) := f0
        refine guard_none (by rfl) ?_
        refine wp_value (v := .pointer (some ⟨ga, 0, none⟩)) (w1 := w) ?_ (hK.out _ w (Below.refl _ _) rfl (fun h => by cases h))
        try simp only [f0]
        go_simp
        try (first | done | rfl | (simp; done))
      refine StepsP.cons ?_ ?_
      · intro Q s w hC hA K hK
        clear hC
        obtain ⟨f12, -⟩ := hA
        replace f12 : (s 41) = .pointer (some ⟨ga, 0, none⟩) := f12
        refine guard_none (by rfl) ?_
        refine wp_value (v := .pointer (some ⟨ga, 4, none⟩)) (w1 := w) ?_ (hK.out _ w (Below.refl _ _) rfl (fun h => by cases h))
        try simp only [f12]
        go_simp
        try (first | done | rfl | (simp; done))
      refine StepsP.cons ?_ ?_
      · intro Q s w hC hA K hK
        clear hC
        obtain ⟨f13, f2, -⟩ := hA
        replace f13 : (s 42) = .pointer (some ⟨ga, 4, none⟩) := f13
        replace f2 : (s 31) = .int .i64 1 := f2
        refine guard_none (by rfl) ?_
        refine wp_value (v := .pointer (some ⟨ga, 5, none⟩)) (w1 := w) ?_ (hK.out _ w (Below.refl _ _) rfl (fun h => by cases h))
        try simp only [f13, f2]
        go_simp
        first | done | rfl | (simp; done)
      refine StepsP.cons ?_ ?_
      · intro Q s w hC hA K hK
        obtain ⟨hsz, hk_gc, lt_gc, hk_gr, lt_gr, lt_ga, hbw, hX, hz⟩ := hC
        obtain ⟨f14, f11, f16, -⟩ := hA
        replace f14 : (s 43) = .pointer (some ⟨ga, 5, none⟩) := f14
        replace f11 : (s 40) = .int .i64 q1 := f11
        replace f16 : w.heap[ga]? = some (.cells #[.pointer (some ⟨gl, 0, none⟩), .int .i64 hold, .int .i64 1, .int .i64 t1, .int .i64 c0, .int .i64 c1, .slice aS n cS] 78 (0, 0)) := f16
        refine guard_none (by rfl) ?_
        have hk_ga := f16
        have m0_ga : w.cell? ⟨ga, 0, none⟩ = some (.pointer (some ⟨gl, 0, none⟩)) := blk_cell hk_ga 0 (by rfl)
        have z0_ga : w.frozen? ⟨ga, 0, none⟩ = false := blkf hk_ga 0
        have m1_ga : w.cell? ⟨ga, 1, none⟩ = some (.int .i64 hold) := blk_cell hk_ga 1 (by rfl)
        have z1_ga : w.frozen? ⟨ga, 1, none⟩ = false := blkf hk_ga 1
        have m2_ga : w.cell? ⟨ga, 2, none⟩ = some (.int .i64 1) := blk_cell hk_ga 2 (by rfl)
        have z2_ga : w.frozen? ⟨ga, 2, none⟩ = false := blkf hk_ga 2
        have m3_ga : w.cell? ⟨ga, 3, none⟩ = some (.int .i64 t1) := blk_cell hk_ga 3 (by rfl)
        have z3_ga : w.frozen? ⟨ga, 3, none⟩ = false := blkf hk_ga 3
        have m4_ga : w.cell? ⟨ga, 4, none⟩ = some (.int .i64 c0) := blk_cell hk_ga 4 (by rfl)
        have z4_ga : w.frozen? ⟨ga, 4, none⟩ = false := blkf hk_ga 4
        have m5_ga : w.cell? ⟨ga, 5, none⟩ = some (.int .i64 c1) := blk_cell hk_ga 5 (by rfl)
        have z5_ga : w.frozen? ⟨ga, 5, none⟩ = false := blkf hk_ga 5
        have m6_ga : w.cell? ⟨ga, 6, none⟩ = some (.slice aS n cS) := blk_cell hk_ga 6 (by rfl)
        have z6_ga : w.frozen? ⟨ga, 6, none⟩ = false := blkf hk_ga 6
        refine wp_skip_ (w1 := (w.setCell ⟨ga, 5, none⟩ (.int .i64 q1))) ?_ (hK.out undef _ (Or.inr ⟨fun k_ o_ hne_ h_ => (blk_far h_ (a := ⟨ga, 5, none⟩) (Ne.symm hne_) (.int .i64 q1)), by simp [World.setCell], (Below.setCell (Below.refl _ _) (p := ⟨ga, 5, none⟩) (Nat.le_refl _) (.int .i64 q1))⟩) (blk_set hk_ga 5 (.int .i64 q1)) (fun h => by cases h))
        try simp only [f14, f11]
        go_simp
        try rfl
      exact StepsP.nil
    obtain ⟨hsz, hk_gc, lt_gc, hk_gr, lt_gr, lt_ga, hbw, hX, hz⟩ := hC
    obtain ⟨f15, -⟩ := hA
    replace f15 : w.heap[ga]? = some (.cells #[.pointer (some ⟨gl, 0, none⟩), .int .i64 hold, .int .i64 1, .int .i64 t1, .int .i64 c0, .int .i64 q1, .slice aS n cS] 78 (0, 0)) := f15
    have hk_ga := f15
    have hA1 := hA1.trans ⟨hbw, hX, hz⟩
    have y0 : w.cell? ⟨gr, 0, none⟩ = some (.int .i64 0) := blk_cell hk_gr 0 (by rfl)
    have y1 : w.cell? ⟨gr, 1, none⟩ = some (.int .i64 0) := blk_cell hk_gr 1 (by rfl)
    have y2 : w.cell? ⟨gr, 2, none⟩ = some (.int .i64 0) := blk_cell hk_gr 2 (by rfl)
    have yc0 : w.cell? ⟨gc, 0, none⟩ = some (.int .i64 cmd) := blk_cell hk_gc 0 (by rfl)
    have yc1 : w.cell? ⟨gc, 1, none⟩ = some (.int .i64 1) := blk_cell hk_gc 1 (by rfl)
    have yc2 : w.cell? ⟨gc, 2, none⟩ = some (.int .i64 why) := blk_cell hk_gc 2 (by rfl)
    have z0 := blkf hk_gr 0
    have z1 := blkf hk_gr 1
    have z2 := blkf hk_gr 2
    go_wp2
    refine bodyPost_ret (results_cell_row rfl _ _ gr 73 #[.int .i64 cmd, .int .i64 1, .int .i64 why] (0, 0) _ rfl (blk_set (blk_set (blk_set hk_gr 0 (.int .i64 cmd)) 1 (.int .i64 1)) 2 (.int .i64 why)) Try.underlying73 rfl (by kernel_rfl)) rfl ?_
    exact ⟨rfl, ((hA1.set (a := ⟨gr, 0, none⟩) hwg hw0g (.int .i64 cmd)).set (a := ⟨gr, 1, none⟩) hwg hw0g (.int .i64 1)).set (a := ⟨gr, 2, none⟩) hwg hw0g (.int .i64 why), blk_far (blk_far (blk_far hk_ga (a := ⟨gr, 0, none⟩) hng (.int .i64 cmd)) (a := ⟨gr, 1, none⟩) hng (.int .i64 1)) (a := ⟨gr, 2, none⟩) hng (.int .i64 why)⟩
  · skip
    have ht2 : t1 = 1 := by rw [← ht1.out, if_neg hs]; decide
    subst ht2
    have dN : ((1 : Int) != src) = true := by simpa using hs
    have dN2 : ((1 : Int) == src) = false := by simpa using hs
    replace hs := hidI hs
    go_enter Try.func89, Try.ntmps89
    go_upto_region 1 with fail
    have hk_gc := blk_alloc (blk_new w (.cells #[.int .i64 cmd, .int .i64 1, .int .i64 why] 73)) (.cells #[.int .i64 0, .int .i64 0, .int .i64 0] 73)
    have hk_gr : ((w.alloc (.cells #[.int .i64 cmd, .int .i64 1, .int .i64 why] 73)).alloc (.cells #[.int .i64 0, .int .i64 0, .int .i64 0] 73)).heap[w.heap.size + 1]? = some (.cells #[.int .i64 0, .int .i64 0, .int .i64 0] 73 (0, 0)) := by have h_ := blk_new (w.alloc (.cells #[.int .i64 cmd, .int .i64 1, .int .i64 why] 73)) (.cells #[.int .i64 0, .int .i64 0, .int .i64 0] 73); simpa using h_
    have hbA := bl_alloc (bl_alloc (Below.refl w.heap.size w) (.cells #[.int .i64 cmd, .int .i64 1, .int .i64 why] 73)) (.cells #[.int .i64 0, .int .i64 0, .int .i64 0] 73)
    replace hk_ga := bl_block hbA hk_ga
    have hA1 := (Arm1.refl (ga := ga) hbw0).ext hbA
    generalize (w.alloc (.cells #[.int .i64 cmd, .int .i64 1, .int .i64 why] 73)).alloc (.cells #[.int .i64 0, .int .i64 0, .int .i64 0] 73) = W2 at *
    have hw0z := hbw0.size
    obtain ⟨gc, hgc⟩ : ∃ z, w.heap.size = z := ⟨_, rfl⟩
    have n_gc_ga : gc ≠ ga := by omega
    have hwc : w.heap.size ≤ gc := by omega
    obtain ⟨gr, hgr⟩ : ∃ z, w.heap.size + 1 = z := ⟨_, rfl⟩
    have n_gr_ga : gr ≠ ga := by omega
    have hng : gr ≠ ga := n_gr_ga
    have n_gc_gr : gc ≠ gr := by omega
    have hwg : w.heap.size ≤ gr := by omega
    have hw0g : w0.heap.size ≤ gr := by omega
    rw [hgr] at hk_gr
    rw [hgc] at hk_gc
    rw [hgr, hgc]
    clear hgr hgc hbA hw0z
    have y2 : W2.cell? ⟨ga, 2, none⟩ = some (.int .i64 src) := blk_cell hk_ga 2 (by rfl)
    have yc : W2.cell? ⟨gc, 1, none⟩ = some (.int .i64 1) := blk_cell hk_gc 1 (by rfl)
    go_quiet (fail)
    replace hk_ga := blk_drewN hk_ga nq
    replace hk_gc := blk_drewN hk_gc nq
    replace hk_gr := blk_drewN hk_gr nq
    replace hA1 := hA1.ext (bl_drewN (Below.refl _ _) nq)
    clear y2 yc
    generalize W2.drewN nq = W3 at *
    have y2 : W3.cell? ⟨ga, 2, none⟩ = some (.int .i64 src) := blk_cell hk_ga 2 (by rfl)
    have y3 : W3.cell? ⟨ga, 3, none⟩ = some (.int .i64 since) := blk_cell hk_ga 3 (by rfl)
    have yc : W3.cell? ⟨gc, 1, none⟩ = some (.int .i64 1) := blk_cell hk_gc 1 (by rfl)
    have z2 := blkf hk_ga 2
    have z3 := blkf hk_ga 3
    go_upto_region 4 with fail
    clear y2 y3 yc z2 z3
    have hk_g4 : (((W3.setCell ⟨ga, 2, none⟩ (.int .i64 1)).setCell ⟨ga, 3, none⟩ (.int .i64 0)).setCell ⟨ga, 3, none⟩ (.int .i64 1)).heap[ga]? = some (.cells #[.pointer (some ⟨gl, 0, none⟩), .int .i64 hold, .int .i64 1, .int .i64 1, .int .i64 c0, .int .i64 c1, .slice aS n cS] 78 (0, 0)) := by have h_ := blk_set (blk_set (blk_set hk_ga 2 (.int .i64 1)) 3 (.int .i64 0)) 3 (.int .i64 1); simpa using h_
    have hk_c4 := blk_far (blk_far (blk_far (hk_gc) (a := ⟨ga, 2, none⟩) n_gc_ga.symm (.int .i64 1)) (a := ⟨ga, 3, none⟩) n_gc_ga.symm (.int .i64 0)) (a := ⟨ga, 3, none⟩) n_gc_ga.symm (.int .i64 1)
    have hk_r4 := blk_far (blk_far (blk_far (hk_gr) (a := ⟨ga, 2, none⟩) n_gr_ga.symm (.int .i64 1)) (a := ⟨ga, 3, none⟩) n_gr_ga.symm (.int .i64 0)) (a := ⟨ga, 3, none⟩) n_gr_ga.symm (.int .i64 1)
    have hX4 := KeepX.set (KeepX.set (KeepX.set (hA1.k) (p := ⟨ga, 2, none⟩) rfl (.int .i64 1)) (p := ⟨ga, 3, none⟩) rfl (.int .i64 0)) (p := ⟨ga, 3, none⟩) rfl (.int .i64 1)
    have hb4 := bl_set (bl_set (bl_set (hA1.b) (p := ⟨ga, 2, none⟩) hga (.int .i64 1)) (p := ⟨ga, 3, none⟩) hga (.int .i64 0)) (p := ⟨ga, 3, none⟩) hga (.int .i64 1)
    have hz4 : w.heap.size ≤ (((W3.setCell ⟨ga, 2, none⟩ (.int .i64 1)).setCell ⟨ga, 3, none⟩ (.int .i64 0)).setCell ⟨ga, 3, none⟩ (.int .i64 1)).heap.size := by simp only [setCell_size]; exact hA1.z
    clear hk_ga hk_gc hk_gr hA1
    have hk_ga := hk_g4
    have hk_gc := hk_c4
    have hk_gr := hk_r4
    clear hk_g4 hk_c4 hk_r4
    generalize ((W3.setCell ⟨ga, 2, none⟩ (.int .i64 1)).setCell ⟨ga, 3, none⟩ (.int .i64 0)).setCell ⟨ga, 3, none⟩ (.int .i64 1) = W4 at *
    have hA1 : Arm1 w0 w W4 ga := ⟨hb4, hX4, hz4⟩
    clear hX4 hz4
    have hbw := hb4
    clear hb4
    have hle_ga := hga
    have c0_hX : KeepX (· = ga) W4 W4.drew := (KeepX.refl _ _).ext (bl_drew (Below.refl _ _))
    have c0_hz : W4.heap.size ≤ W4.drew.heap.size := Nat.le_refl _
    have hwc := hidI (IntWalk.i64_in (c1 + 1) (by omega))
    have hwc2 : Hid (wrap64 (c1 + 1) = c1 + 1) := by unfold Hid wrap64; omega
    obtain ⟨B0, hB0⟩ : ∃ B, B = W4.heap.size := ⟨_, rfl⟩
    have c0_hsz : B0 ≤ W4.heap.size := Nat.le_of_eq hB0
    have hw0B0 : w0.heap.size ≤ B0 := by rw [hB0]; exact hbw.size
    have c0_hle : W4.heap.size ≤ B0 := Nat.le_of_eq hB0.symm
    have c0_hk_ga := blk_drew hk_ga
    have c0_lt_ga : ga < B0 := by rw [hB0]; exact blk_lt hk_ga
    have c0_hk_gc := blk_drew hk_gc
    have c0_lt_gc : gc < B0 := by rw [hB0]; exact blk_lt hk_gc
    have c0_hk_gr := blk_drew hk_gr
    have c0_lt_gr : gr < B0 := by rw [hB0]; exact blk_lt hk_gr
    have c0_hbw := bl_drew hbw
    clear hB0 hbw hk_ga hk_gc hk_gr
    refine region_linM (n := 16) (st := ?st16) { R := [0, 0, 2, 0, 0, 16, 8, 72, 248, 504, 1016, 2040, 1, 4097, 16383, 32767], kill := [[], [], [], [], [], [], [], [], [], [], [], [], [], [], [], [], [15]], cls := [0, 0, 0, 0, 0, 0, 0, 0, 0, 0, 0, 0, 0, 0, 0, 1], dst := [some 29, some 30, some 31, some 32, some 33, some 34, some 35, some 36, some 37, some 38, some 39, some 40, some 41, some 42, some 43, none], pre := [[], [], [1], [], [], [4], [3], [6], [7, 5], [8, 16], [9], [10], [0], [12], [13, 2], [14, 11, 16]], cov := [(0, 16)], fin := [15], locs := [], tgt := [none, none], abt := [none, none, none, none, none, none, none, none, none, none, none, none, none, none, none, none], m := 1 }
      [.v [29] (fun vs => (vs.getD 0 undef) = .pointer (some ⟨ga, 0, none⟩)),
       .v [30] (fun vs => (vs.getD 0 undef) = .pointer (some ⟨gc, 1, none⟩)),
       .v [31] (fun vs => (vs.getD 0 undef) = .int .i64 1),
       .v [32] (fun vs => (vs.getD 0 undef) = .pointer (some ⟨ga, 0, none⟩)),
       .v [33] (fun vs => (vs.getD 0 undef) = .pointer (some ⟨gc, 1, none⟩)),
       .v [34] (fun vs => (vs.getD 0 undef) = .int .i64 1),
       .v [35] (fun vs => (vs.getD 0 undef) = .pointer (some ⟨ga, 0, none⟩)),
       .v [36] (fun vs => (vs.getD 0 undef) = .pointer (some ⟨ga, 4, none⟩)),
       .v [37] (fun vs => (vs.getD 0 undef) = .pointer (some ⟨ga, 5, none⟩)),
       .v [38] (fun vs => (vs.getD 0 undef) = .int .i64 c1),
       .v [39] (fun vs => (vs.getD 0 undef) = .int .i64 (c1 + 1)),
       .v [40] (fun vs => (vs.getD 0 undef) = .int .i64 q1),
       .v [41] (fun vs => (vs.getD 0 undef) = .pointer (some ⟨ga, 0, none⟩)),
       .v [42] (fun vs => (vs.getD 0 undef) = .pointer (some ⟨ga, 4, none⟩)),
       .v [43] (fun vs => (vs.getD 0 undef) = .pointer (some ⟨ga, 5, none⟩)),
       .w [] (fun vs w => w.heap[ga]? = some (.cells #[.pointer (some ⟨gl, 0, none⟩), .int .i64 hold, .int .i64 1, .int .i64 1, .int .i64 c0, .int .i64 q1, .slice aS n cS] 78 (0, 0))),
       .w [] (fun vs w => w.heap[ga]? = some (.cells #[.pointer (some ⟨gl, 0, none⟩), .int .i64 hold, .int .i64 1, .int .i64 1, .int .i64 c0, .int .i64 c1, .slice aS n cS] 78 (0, 0)))]
      (fun w => B0 ≤ w.heap.size ∧ w.heap[gc]? = some (.cells #[.int .i64 cmd, .int .i64 1, .int .i64 why] 73 (0, 0)) ∧ gc < B0 ∧ w.heap[gr]? = some (.cells #[.int .i64 0, .int .i64 0, .int .i64 0] 73 (0, 0)) ∧ gr < B0 ∧ ga < B0 ∧ Below w0.heap.size w0 w ∧ KeepX (· = ga) W4 w ∧ W4.heap.size ≤ w.heap.size)
      (fun c => ([fun s w w' => Below w.heap.size w w', fun s w w' => w' = w ∨ ((∀ k o, k ≠ ga → w.heap[k]? = some o → w'.heap[k]? = some o) ∧ w'.heap.size = w.heap.size ∧ Below ga w w')] : List ((Nat → Value) → World → World → Prop)).getD c (fun s w w' => w' = w))
      [29, 30, 31, 32, 33, 34, 35, 36, 37, 38, 39, 40, 41, 42, 43] (by kernel_rfl) ⟨by kernel_rfl, by kernel_rfl, by kernel_rfl, by kernel_rfl, by kernel_rfl, by kernel_rfl, by kernel_rfl, by kernel_rfl⟩ (fun s => ?_) ?_ ?_ ?_ ?_ ?_ ?_ (fun s w hC hA => ?_)
    rotate_left
    · simp only [fillS, List.foldl, List.setIfInBounds_toArray, List.set_cons_zero, List.set_cons_succ]; rfl
    · exact ⟨c0_hsz, c0_hk_gc, c0_lt_gc, c0_hk_gr, c0_lt_gr, c0_lt_ga, c0_hbw, c0_hX, c0_hz⟩
    · exact ⟨c0_hk_ga, trivial⟩
    · intro c s w w' hE
      match c, hE with
      | 0, hE => exact Below.size hE
      | 1, hE => replace hE : w' = w ∨ ((∀ k o, k ≠ ga → w.heap[k]? = some o → w'.heap[k]? = some o) ∧ w'.heap.size = w.heap.size ∧ Below ga w w') := hE; rcases hE with hE | ⟨_, hE, _⟩; exact Nat.le_of_eq (by rw [hE]); exact Nat.le_of_eq hE.symm
      | c + 2, hE => cases hE; exact Nat.le_refl _
    · rintro c s w w' ⟨hsz, hk_gc, lt_gc, hk_gr, lt_gr, lt_ga, hbw, hX, hz⟩ hE
      match c, hE with
      | 0, hE => replace hE : Below w.heap.size w w' := hE; exact ⟨Nat.le_trans hsz hE.size, bl_block hE hk_gc, lt_gc, bl_block hE hk_gr, lt_gr, lt_ga, bl_step hbw hE, hX.ext hE, Nat.le_trans hz hE.size⟩
      | 1, hE =>
        replace hE : w' = w ∨ ((∀ k o, k ≠ ga → w.heap[k]? = some o → w'.heap[k]? = some o) ∧ w'.heap.size = w.heap.size ∧ Below ga w w') := hE
        rcases hE with rfl | ⟨hkeep, hsz_, hBl⟩
        · exact ⟨hsz, hk_gc, lt_gc, hk_gr, lt_gr, lt_ga, hbw, hX, hz⟩
        · exact ⟨by omega, hkeep _ _ n_gc_ga hk_gc, lt_gc, hkeep _ _ n_gr_ga hk_gr, lt_gr, lt_ga, hbw.trans (Below.mono hBl hle_ga), hX.trans (KeepX.of1 (X := (· = ga)) hkeep rfl), by omega⟩
      | c + 2, hE => cases hE; exact ⟨hsz, hk_gc, lt_gc, hk_gr, lt_gr, lt_ga, hbw, hX, hz⟩
    · refine ⟨?_, trivial⟩
      · intro s w w' hD hC hE hF
        replace hF : w.heap[ga]? = some (.cells #[.pointer (some ⟨gl, 0, none⟩), .int .i64 hold, .int .i64 1, .int .i64 1, .int .i64 c0, .int .i64 c1, .slice aS n cS] 78 (0, 0)) := hF
        show w'.heap[ga]? = some (.cells #[.pointer (some ⟨gl, 0, none⟩), .int .i64 hold, .int .i64 1, .int .i64 1, .int .i64 c0, .int .i64 c1, .slice aS n cS] 78 (0, 0))
        replace hE : Below w.heap.size w w' := hE
        exact bl_block hE (hF)
    · skip
      refine StepsP.cons ?_ ?_
      · intro Q s w hC hA K hK
        clear hC
        clear hA
        refine guard_none (by rfl) ?_
        refine wp_value (v := .pointer (some ⟨ga, 0, none⟩)) (w1 := w) ?_ (hK.out _ w (Below.refl _ _) rfl (fun h => by cases h))
        go_simp
        try (first | done | rfl | (simp; done))
      refine StepsP.cons ?_ ?_
      · intro Q s w hC hA K hK
        clear hC
        clear hA
        refine guard_none (by rfl) ?_
        refine wp_value (v := .pointer (some ⟨gc, 1, none⟩)) (w1 := w) ?_ (hK.out _ w (Below.refl _ _) rfl (fun h => by cases h))
        go_simp
        try (first | done | rfl | (simp; done))
      refine StepsP.cons ?_ ?_
      · intro Q s w hC hA K hK
        obtain ⟨hsz, hk_gc, lt_gc, hk_gr, lt_gr, lt_ga, hbw, hX, hz⟩ := hC
        obtain ⟨f1, -⟩ := hA
        replace f1 : (s 30) = .pointer (some ⟨gc, 1, none⟩) := f1
        refine guard_none (by rfl) ?_
        have m0_gc : w.cell? ⟨gc, 0, none⟩ = some (.int .i64 cmd) := blk_cell hk_gc 0 (by rfl)
        have m1_gc : w.cell? ⟨gc, 1, none⟩ = some (.int .i64 1) := blk_cell hk_gc 1 (by rfl)
        have m2_gc : w.cell? ⟨gc, 2, none⟩ = some (.int .i64 why) := blk_cell hk_gc 2 (by rfl)
        refine wp_value (v := .int .i64 1) (w1 := w) ?_ (hK.out _ w (Below.refl _ _) rfl (fun h => by cases h))
        try simp only [f1]
        go_simp
        try (first | done | rfl | (simp; done))
      refine StepsP.cons ?_ ?_
      · intro Q s w hC hA K hK
        clear hC
        clear hA
        refine guard_none (by rfl) ?_
        refine wp_value (v := .pointer (some ⟨ga, 0, none⟩)) (w1 := w) ?_ (hK.out _ w (Below.refl _ _) rfl (fun h => by cases h))
        go_simp
        try (first | done | rfl | (simp; done))
      refine StepsP.cons ?_ ?_
      · intro Q s w hC hA K hK
        clear hC
        clear hA
        refine guard_none (by rfl) ?_
        refine wp_value (v := .pointer (some ⟨gc, 1, none⟩)) (w1 := w) ?_ (hK.out _ w (Below.refl _ _) rfl (fun h => by cases h))
        go_simp
        try (first | done | rfl | (simp; done))
      refine StepsP.cons ?_ ?_
      · intro Q s w hC hA K hK
        obtain ⟨hsz, hk_gc, lt_gc, hk_gr, lt_gr, lt_ga, hbw, hX, hz⟩ := hC
        obtain ⟨f4, -⟩ := hA
        replace f4 : (s 33) = .pointer (some ⟨gc, 1, none⟩) := f4
        refine guard_none (by rfl) ?_
        have m0_gc : w.cell? ⟨gc, 0, none⟩ = some (.int .i64 cmd) := blk_cell hk_gc 0 (by rfl)
        have m1_gc : w.cell? ⟨gc, 1, none⟩ = some (.int .i64 1) := blk_cell hk_gc 1 (by rfl)
        have m2_gc : w.cell? ⟨gc, 2, none⟩ = some (.int .i64 why) := blk_cell hk_gc 2 (by rfl)
        refine wp_value (v := .int .i64 1) (w1 := w) ?_ (hK.out _ w (Below.refl _ _) rfl (fun h => by cases h))
        try simp only [f4]
        go_simp
        try (first | done | rfl | (simp; done))
      refine StepsP.cons ?_ ?_
      · intro Q s w hC hA K hK
        clear hC
        obtain ⟨f3, -⟩ := hA
        replace f3 : (s 32) = .pointer (some ⟨ga, 0, none⟩) := f3
        refine guard_none (by rfl) ?_
        refine wp_value (v := .pointer (some ⟨ga, 0, none⟩)) (w1 := w) ?_ (hK.out _ w (Below.refl _ _) rfl (fun h => by cases h))
        try simp only [f3]
        go_simp
        try (first | done | rfl | (simp; done))
      refine StepsP.cons ?_ ?_
      · intro Q s w hC hA K hK
        clear hC
        obtain ⟨f6, -⟩ := hA
        replace f6 : (s 35) = .pointer (some ⟨ga, 0, none⟩) := f6
        refine guard_none (by rfl) ?_
        refine wp_value (v := .pointer (some ⟨ga, 4, none⟩)) (w1 := w) ?_ (hK.out _ w (Below.refl _ _) rfl (fun h => by cases h))
        try simp only [f6]
        go_simp
        try (first | done | rfl | (simp; done))
      refine StepsP.cons ?_ ?_
      · intro Q s w hC hA K hK
        clear hC
        obtain ⟨f7, f5, -⟩ := hA
        replace f7 : (s 36) = .pointer (some ⟨ga, 4, none⟩) := f7
        replace f5 : (s 34) = .int .i64 1 := f5
        refine guard_none (by rfl) ?_
        refine wp_value (v := .pointer (some ⟨ga, 5, none⟩)) (w1 := w) ?_ (hK.out _ w (Below.refl _ _) rfl (fun h => by cases h))
        try simp only [f7, f5]
        go_simp
        first | done | rfl | (simp; done)
      refine StepsP.cons ?_ ?_
      · intro Q s w hC hA K hK
        obtain ⟨hsz, hk_gc, lt_gc, hk_gr, lt_gr, lt_ga, hbw, hX, hz⟩ := hC
        obtain ⟨f8, f16, -⟩ := hA
        replace f8 : (s 37) = .pointer (some ⟨ga, 5, none⟩) := f8
        replace f16 : w.heap[ga]? = some (.cells #[.pointer (some ⟨gl, 0, none⟩), .int .i64 hold, .int .i64 1, .int .i64 1, .int .i64 c0, .int .i64 c1, .slice aS n cS] 78 (0, 0)) := f16
        refine guard_none (by rfl) ?_
        have hk_ga := f16
        have m0_ga : w.cell? ⟨ga, 0, none⟩ = some (.pointer (some ⟨gl, 0, none⟩)) := blk_cell hk_ga 0 (by rfl)
        have m1_ga : w.cell? ⟨ga, 1, none⟩ = some (.int .i64 hold) := blk_cell hk_ga 1 (by rfl)
        have m2_ga : w.cell? ⟨ga, 2, none⟩ = some (.int .i64 1) := blk_cell hk_ga 2 (by rfl)
        have m3_ga : w.cell? ⟨ga, 3, none⟩ = some (.int .i64 1) := blk_cell hk_ga 3 (by rfl)
        have m4_ga : w.cell? ⟨ga, 4, none⟩ = some (.int .i64 c0) := blk_cell hk_ga 4 (by rfl)
        have m5_ga : w.cell? ⟨ga, 5, none⟩ = some (.int .i64 c1) := blk_cell hk_ga 5 (by rfl)
        have m6_ga : w.cell? ⟨ga, 6, none⟩ = some (.slice aS n cS) := blk_cell hk_ga 6 (by rfl)
        refine wp_value (v := .int .i64 c1) (w1 := w) ?_ (hK.out _ w (Below.refl _ _) rfl (fun h => by cases h))
        try simp only [f8]
        go_simp
        try (first | done | rfl | (simp; done))
      refine StepsP.cons ?_ ?_
      · intro Q s w hC hA K hK
        clear hC
        obtain ⟨f9, -⟩ := hA
        replace f9 : (s 38) = .int .i64 c1 := f9
        refine guard_none (by rfl) ?_
        refine wp_value (v := .int .i64 (c1 + 1)) (w1 := w) ?_ (hK.out _ w (Below.refl _ _) rfl (fun h => by cases h))
        try simp only [f9]
        go_simp
        first | done | rfl | (simp [hwc.out]; done) | (simp [hwc2.out]; done)
      refine StepsP.cons ?_ ?_
      · intro Q s w hC hA K hK
        clear hC
        obtain ⟨f10, -⟩ := hA
        replace f10 : (s 39) = .int .i64 (c1 + 1) := f10
        refine guard_none (by rfl) ?_
        refine wp_value (v := .int .i64 q1) (w1 := w) ?_ (hK.out _ w (Below.refl _ _) rfl (fun h => by cases h))
        try simp only [f10]
        go_simp
        first | done | rfl | exact hq2.out | (simp [hq2.out]; done) | (rw [hq2.out]; done)
      refine StepsP.cons ?_ ?_
      · intro Q s w hC hA K hK
        clear hC
        obtain ⟨f0, -⟩ := hA
        replace f0 : (s 29) = .pointer (some ⟨ga, 0, none⟩) := f0
        refine guard_none (by rfl) ?_
        refine wp_value (v := .pointer (some ⟨ga, 0, none⟩)) (w1 := w) ?_ (hK.out _ w (Below.refl _ _) rfl (fun h => by cases h))
        try simp only [f0]
        go_simp
        try (first | done | rfl | (simp; done))
      refine StepsP.cons ?_ ?_
      · intro Q s w hC hA K hK
        clear hC
        obtain ⟨f12, -⟩ := hA
        replace f12 : (s 41) = .pointer (some ⟨ga, 0, none⟩) := f12
        refine guard_none (by rfl) ?_
        refine wp_value (v := .pointer (some ⟨ga, 4, none⟩)) (w1 := w) ?_ (hK.out _ w (Below.refl _ _) rfl (fun h => by cases h))
        try simp only [f12]
        go_simp
        try (first | done | rfl | (simp; done))
      refine StepsP.cons ?_ ?_
      · intro Q s w hC hA K hK
        clear hC
        obtain ⟨f13, f2, -⟩ := hA
        replace f13 : (s 42) = .pointer (some ⟨ga, 4, none⟩) := f13
        replace f2 : (s 31) = .int .i64 1 := f2
        refine guard_none (by rfl) ?_
        refine wp_value (v := .pointer (some ⟨ga, 5, none⟩)) (w1 := w) ?_ (hK.out _ w (Below.refl _ _) rfl (fun h => by cases h))
        try simp only [f13, f2]
        go_simp
        first | done | rfl | (simp; done)
      refine StepsP.cons ?_ ?_
      · intro Q s w hC hA K hK
        obtain ⟨hsz, hk_gc, lt_gc, hk_gr, lt_gr, lt_ga, hbw, hX, hz⟩ := hC
        obtain ⟨f14, f11, f16, -⟩ := hA
        replace f14 : (s 43) = .pointer (some ⟨ga, 5, none⟩) := f14
        replace f11 : (s 40) = .int .i64 q1 := f11
        replace f16 : w.heap[ga]? = some (.cells #[.pointer (some ⟨gl, 0, none⟩), .int .i64 hold, .int .i64 1, .int .i64 1, .int .i64 c0, .int .i64 c1, .slice aS n cS] 78 (0, 0)) := f16
        refine guard_none (by rfl) ?_
        have hk_ga := f16
        have m0_ga : w.cell? ⟨ga, 0, none⟩ = some (.pointer (some ⟨gl, 0, none⟩)) := blk_cell hk_ga 0 (by rfl)
        have z0_ga : w.frozen? ⟨ga, 0, none⟩ = false := blkf hk_ga 0
        have m1_ga : w.cell? ⟨ga, 1, none⟩ = some (.int .i64 hold) := blk_cell hk_ga 1 (by rfl)
        have z1_ga : w.frozen? ⟨ga, 1, none⟩ = false := blkf hk_ga 1
        have m2_ga : w.cell? ⟨ga, 2, none⟩ = some (.int .i64 1) := blk_cell hk_ga 2 (by rfl)
        have z2_ga : w.frozen? ⟨ga, 2, none⟩ = false := blkf hk_ga 2
        have m3_ga : w.cell? ⟨ga, 3, none⟩ = some (.int .i64 1) := blk_cell hk_ga 3 (by rfl)
        have z3_ga : w.frozen? ⟨ga, 3, none⟩ = false := blkf hk_ga 3
        have m4_ga : w.cell? ⟨ga, 4, none⟩ = some (.int .i64 c0) := blk_cell hk_ga 4 (by rfl)
        have z4_ga : w.frozen? ⟨ga, 4, none⟩ = false := blkf hk_ga 4
        have m5_ga : w.cell? ⟨ga, 5, none⟩ = some (.int .i64 c1) := blk_cell hk_ga 5 (by rfl)
        have z5_ga : w.frozen? ⟨ga, 5, none⟩ = false := blkf hk_ga 5
        have m6_ga : w.cell? ⟨ga, 6, none⟩ = some (.slice aS n cS) := blk_cell hk_ga 6 (by rfl)
        have z6_ga : w.frozen? ⟨ga, 6, none⟩ = false := blkf hk_ga 6
        refine wp_skip_ (w1 := (w.setCell ⟨ga, 5, none⟩ (.int .i64 q1))) ?_ (hK.out undef _ (Or.inr ⟨fun k_ o_ hne_ h_ => (blk_far h_ (a := ⟨ga, 5, none⟩) (Ne.symm hne_) (.int .i64 q1)), by simp [World.setCell], (Below.setCell (Below.refl _ _) (p := ⟨ga, 5, none⟩) (Nat.le_refl _) (.int .i64 q1))⟩) (blk_set hk_ga 5 (.int .i64 q1)) (fun h => by cases h))
        try simp only [f14, f11]
        go_simp
        try rfl
      exact StepsP.nil
    obtain ⟨hsz, hk_gc, lt_gc, hk_gr, lt_gr, lt_ga, hbw, hX, hz⟩ := hC
    obtain ⟨f15, -⟩ := hA
    replace f15 : w.heap[ga]? = some (.cells #[.pointer (some ⟨gl, 0, none⟩), .int .i64 hold, .int .i64 1, .int .i64 1, .int .i64 c0, .int .i64 q1, .slice aS n cS] 78 (0, 0)) := f15
    have hk_ga := f15
    have hA1 := hA1.trans ⟨hbw, hX, hz⟩
    have y0 : w.cell? ⟨gr, 0, none⟩ = some (.int .i64 0) := blk_cell hk_gr 0 (by rfl)
    have y1 : w.cell? ⟨gr, 1, none⟩ = some (.int .i64 0) := blk_cell hk_gr 1 (by rfl)
    have y2 : w.cell? ⟨gr, 2, none⟩ = some (.int .i64 0) := blk_cell hk_gr 2 (by rfl)
    have yc0 : w.cell? ⟨gc, 0, none⟩ = some (.int .i64 cmd) := blk_cell hk_gc 0 (by rfl)
    have yc1 : w.cell? ⟨gc, 1, none⟩ = some (.int .i64 1) := blk_cell hk_gc 1 (by rfl)
    have yc2 : w.cell? ⟨gc, 2, none⟩ = some (.int .i64 why) := blk_cell hk_gc 2 (by rfl)
    have z0 := blkf hk_gr 0
    have z1 := blkf hk_gr 1
    have z2 := blkf hk_gr 2
    go_wp2
    refine bodyPost_ret (results_cell_row rfl _ _ gr 73 #[.int .i64 cmd, .int .i64 1, .int .i64 why] (0, 0) _ rfl (blk_set (blk_set (blk_set hk_gr 0 (.int .i64 cmd)) 1 (.int .i64 1)) 2 (.int .i64 why)) Try.underlying73 rfl (by kernel_rfl)) rfl ?_
    exact ⟨rfl, ((hA1.set (a := ⟨gr, 0, none⟩) hwg hw0g (.int .i64 cmd)).set (a := ⟨gr, 1, none⟩) hwg hw0g (.int .i64 1)).set (a := ⟨gr, 2, none⟩) hwg hw0g (.int .i64 why), blk_far (blk_far (blk_far hk_ga (a := ⟨gr, 0, none⟩) hng (.int .i64 cmd)) (a := ⟨gr, 1, none⟩) hng (.int .i64 1)) (a := ⟨gr, 2, none⟩) hng (.int .i64 why)⟩
end Go.Proofs.Ythdaidmjjcmccaa
