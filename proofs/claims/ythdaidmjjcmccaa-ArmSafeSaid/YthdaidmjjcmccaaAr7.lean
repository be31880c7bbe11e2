/- Proved here: lemmas and contracts (what a function of the program computes) that the proofs of the laws of this seat lean on. Conditions: as each theorem states. -/
import Derived.Test.YthdaidmjjcmccaaAr6
import Derived.Test.YthdaidmjjcmccaaPl29
set_option linter.unusedVariables false
set_option linter.unusedSimpArgs false
namespace Go.Pk
open Go.RowKit Go.Pk.Rx
/-! The arm of the chapter's example. -/
theorem half_box6 : prRes (boxG (holdsP halfP (slP halfP [])) (depthN 6) halfP.Inv) = 0 := by rw [boxG_yes (by decide)]; rfl
theorem cmd_x : cmdE ⟨#[120]⟩ = 4 := by decide
theorem cmd_one : cmdE ⟨#[0, 0, 0, 1, 0, 0, 0, 0]⟩ = 0 := by decide
theorem cmdU_one : cmdU ⟨#[0, 0, 0, 1, 0, 0, 0, 0]⟩ = 4294967296 := by decide +kernel
theorem half_why_x (hold : Int) (a : ASt) (v : Int) : decWhy halfP [0] hold a ⟨#[120]⟩ [v] = 4 := by
  unfold decWhy whyW
  rw [cmd_x, if_pos (show [v].length = halfP.B.length from rfl), if_neg (by decide)]
theorem half_acc4 : acceptP halfP [0] 4294967296 [17179869184] = 0 := by decide
theorem half_why_one (hold : Int) (a : ASt) (v : Int) (h : acceptP halfP [0] 4294967296 [v] = 0) : decWhy halfP [0] hold a ⟨#[0, 0, 0, 1, 0, 0, 0, 0]⟩ [v] = if a.src = 1 ∧ a.since < hold then 43 else 0 := by
  unfold decWhy whyW
  rw [cmd_one, cmdU_one, if_pos (show [v].length = halfP.B.length from rfl), if_pos rfl, if_pos h]
theorem ach1 : (⟨0, 0, 0, 0⟩ : ASt).chosen 1 = ⟨1, 1, 0, 1⟩ := by simp [ASt.chosen, mn31]
theorem ach2 : (⟨1, 1, 0, 1⟩ : ASt).chosen 1 = ⟨1, 2, 0, 2⟩ := by simp [ASt.chosen, mn31]
theorem ach3 : (⟨1, 2, 0, 2⟩ : ASt).chosen 0 = ⟨0, 1, 1, 2⟩ := by simp [ASt.chosen, mn31]
/-- What comes of making the example's arm. -/
def HalfArmPost (W w' : World) (hold : Int) (TL TK TA : Nat) (e : Ending) : Prop :=
  ∃ w1 gl ga aS cS, e = .returned (.tuple #[.pointer (some ⟨ga, 0, none⟩), .int .i64 0]) ∧ Below W.heap.size W w1 ∧ Below w1.heap.size w1 w' ∧ ArmX w1 ga gl aS halfP [0] TL TK ∧ w'.heap[ga]? = some (.cells (armV gl hold ⟨0, 0, 0, 0⟩ aS 1 cS) TA (0, 0))
end Go.Pk
namespace Go.Proofs.Ythdaidmjjcmccaa
open Go.RowKit Go.Pk Go.Proofs.YthdaidmjjcmccaaW.PrintLast
theorem HalfArm_calls (n : Nat) (hold : Int) (w : World) (h0 : 0 ≤ hold) (h1 : hold ≤ 1000) (hH : HalfAt w n 3 25 23) :
    Calls Try.prog 35 #[.agg ((halfQ n).cells halfP).toArray, .int .i64 hold, .slice none 0 0] w fun e w' => HalfArmPost w w' hold 51 116 78 e := by
  have h := NewArm_calls (halfQ n) halfP hold none [] 0 w hH.rd halfP_in ⟨by simp, RdC.nil _ _⟩ (fun x hx => by cases hx)
  refine h.mono fun e w' hp => ?_
  unfold NewArmPost at hp
  obtain ⟨-, -, -, -, h5⟩ := hp
  obtain ⟨w1, gl, ga, aS, cS, e1, e2, e3, -, e5, e6⟩ := h5 halfP_ok (by omega) half_box6
  exact ⟨w1, gl, ga, aS, cS, e1, e2, e3, e5, e6⟩
set_option maxHeartbeats 8000000 in
set_option maxRecDepth 100000 in
theorem alive20_calls (w : World) : Calls Try.prog 37 #[] w fun e w' => e = .returned (.bool true) ∧ Below w.heap.size w w' := by
  have hHA := hidI (fun n W hH => HalfArm_calls n 2 W (by omega) (by omega) hH)
  go_enter Try.func37, Try.ntmps37
  go_wp2_with fail
  refine (Half_calls w).mono ?_
  rintro e w1 ⟨n, hn, rfl, hH, hb1⟩
  clear hn
  obtain ⟨hv, hhv⟩ : ∃ z, ((halfQ n).cells halfP).toArray = z := ⟨_, rfl⟩
  have hHB := hidI (hHA.out n w1 hH)
  rw [hhv] at hHB ⊢
  clear hhv hHA
  go_wp2_with fail
  refine hHB.out.mono ?_
  rintro e w2 ⟨V, gl, ga, aS, cS, rfl, hbV, hbw, hX, hk_ga⟩
  replace hbV := bl_step hb1 hbV
  clear hb1 hHB hH
  have hnn : n = n := rfl
  clear hnn
  go_upto_region 4 with fail
  obtain ⟨gk, hgk, hkit⟩ := hX.lk.ptr
  have hga := hX.hg
  have hDec := hidI (fun (a : ASt) b v g W (ha : a.ok) (h : Below V.heap.size V W) hk (hkk : W.heap[g]? = some (.cells #[.int .i64 v] 3 (0, 0))) (hv : -9223372036854775808 ≤ v ∧ v ≤ 9223372036854775807) (hbm : b.size ≤ 9223372036854775807) => aDecide_calls V ga gl 2 a aS halfP [0] cS b [v] (some ⟨g, 0, none⟩) 1 W hX ha h hk (RdI.of_blk (l := [v]) hkk (by simp)) (by intro x hx; simp at hx; subst hx; exact hv) hbm)
  have o0 : (⟨0, 0, 0, 0⟩ : ASt).ok := ⟨Or.inl rfl, by decide, by decide, by decide, by decide, by decide, by decide⟩
  have o1 : (⟨1, 1, 0, 1⟩ : ASt).ok := ⟨Or.inr rfl, by decide, by decide, by decide, by decide, by decide, by decide⟩
  have o2 : (⟨1, 2, 0, 2⟩ : ASt).ok := ⟨Or.inr rfl, by decide, by decide, by decide, by decide, by decide, by decide⟩
  have D1 := hidI (fun g W h hk hkk => hDec.out ⟨0, 0, 0, 0⟩ ⟨#[120]⟩ 17179869184 g W o0 h hk hkk (by omega) (by decide))
  have D2 := hidI (fun g W h hk hkk => hDec.out ⟨1, 1, 0, 1⟩ ⟨#[0, 0, 0, 1, 0, 0, 0, 0]⟩ 17179869184 g W o1 h hk hkk (by omega) (by decide))
  have D3 := hidI (fun g W h hk hkk => hDec.out ⟨1, 2, 0, 2⟩ ⟨#[0, 0, 0, 1, 0, 0, 0, 0]⟩ 17179869184 g W o2 h hk hkk (by omega) (by decide))
  have q1 := half_why_x 2 ⟨0, 0, 0, 0⟩ 17179869184
  have q2 := half_why_one 2 ⟨1, 1, 0, 1⟩ 17179869184 half_acc4
  have q3 := half_why_one 2 ⟨1, 2, 0, 2⟩ 17179869184 half_acc4
  rw [if_pos (by decide)] at q2
  rw [if_neg (by decide)] at q3
  unfold decSrc decCmd at D1 D2 D3
  rw [q1] at D1
  rw [q2] at D2
  rw [q3] at D3
  simp only [show ((4 : Int) = 0) = False by decide, show ((43 : Int) = 0) = False by decide, if_false, if_true, ach1, ach2, ach3, cmdU_one, halfP_base] at D1 D2 D3
  have hBa := hidI (fun W g (h : Below V.heap.size V W) (hkk : W.heap[g]? = some (.cells #[.int .i64 17179869184] 3 (0, 0))) => Base_calls gk halfP [17179869184] (some ⟨g, 0, none⟩) 1 W (hkit.below h) (by decide) (by decide) hX.good.2.2.2.2.2.2.2.2.1 hX.good.2.2.2.2.2.2.2.2.2.1 hX.good.2.2.2.2.2.2.2.2.2.2 (RdI.of_blk (l := [17179869184]) hkk (by simp)) (by intro x hx; simp at hx; subst hx; omega))
  rw [halfP_base] at hBa
  have hDi := hidI (fun W (h : Below V.heap.size V W) => Dim_calls gk halfP W (hkit.below h))
  clear hDec q1 q2 q3 o0 o1 o2 hX hkit
  go_wp2_with fail
  have hk_g := blk_new w2 (.cells #[.int .i64 17179869184] 3)
  have hbA := bl_alloc (Below.refl w2.heap.size w2) (.cells #[.int .i64 17179869184] 3)
  replace hbw := bl_step hbw hbA
  have hlt := blk_lt hk_ga
  replace hk_ga := bl_block hbA hk_ga
  generalize w2.alloc (.cells #[.int .i64 17179869184] 3) = wa0 at *
  generalize w2.heap.size = g0 at *
  clear hbA
  refine (D1.out g0 wa0 hbw hk_ga hk_g).mono ?_
  rintro e wb0 ⟨rfl, hA, hk2⟩
  clear hk_ga
  have hk_ga := hk2
  replace hbw := hA.b
  clear hk2 hk_g hA D1
  go_upto_region 5 with fail
  have hk_c0 := blk_new wb0 (.cells #[.int .i64 8589934592, .int .i64 1, .int .i64 4] 73)
  have hbA := bl_alloc (Below.refl wb0.heap.size wb0) (.cells #[.int .i64 8589934592, .int .i64 1, .int .i64 4] 73)
  have n_c0 : wb0.heap.size ≠ ga := by have := blk_lt hk_ga; omega
  replace hbw := bl_step hbw hbA
  replace hk_ga := bl_block hbA hk_ga
  generalize wb0.alloc (.cells #[.int .i64 8589934592, .int .i64 1, .int .i64 4] 73) = wc0 at *
  generalize wb0.heap.size = c0 at *
  clear hbA hlt
  go_wp2_with fail
  have hk_g := blk_new wc0 (.cells #[.int .i64 17179869184] 3)
  have hbA := bl_alloc (Below.refl wc0.heap.size wc0) (.cells #[.int .i64 17179869184] 3)
  replace hbw := bl_step hbw hbA
  have hlt := blk_lt hk_ga
  replace hk_ga := bl_block hbA hk_ga
  replace hk_c0 := bl_block hbA hk_c0
  generalize wc0.alloc (.cells #[.int .i64 17179869184] 3) = wa1 at *
  generalize wc0.heap.size = g1 at *
  clear hbA
  refine (D2.out g1 wa1 hbw hk_ga hk_g).mono ?_
  rintro e wb1 ⟨rfl, hA, hk2⟩
  clear hk_ga
  have hk_ga := hk2
  replace hbw := hA.b
  replace hk_c0 := hA.k _ _ n_c0 hk_c0
  clear hk2 hk_g hA D2
  go_upto_region 6 with fail
  have hk_c1 := blk_new wb1 (.cells #[.int .i64 8589934592, .int .i64 1, .int .i64 43] 73)
  have hbA := bl_alloc (Below.refl wb1.heap.size wb1) (.cells #[.int .i64 8589934592, .int .i64 1, .int .i64 43] 73)
  have n_c1 : wb1.heap.size ≠ ga := by have := blk_lt hk_ga; omega
  replace hbw := bl_step hbw hbA
  replace hk_ga := bl_block hbA hk_ga
  replace hk_c0 := bl_block hbA hk_c0
  generalize wb1.alloc (.cells #[.int .i64 8589934592, .int .i64 1, .int .i64 43] 73) = wc1 at *
  generalize wb1.heap.size = c1 at *
  clear hbA hlt
  go_wp2_with fail
  have hk_g := blk_new wc1 (.cells #[.int .i64 17179869184] 3)
  have hbA := bl_alloc (Below.refl wc1.heap.size wc1) (.cells #[.int .i64 17179869184] 3)
  replace hbw := bl_step hbw hbA
  have hlt := blk_lt hk_ga
  replace hk_ga := bl_block hbA hk_ga
  replace hk_c0 := bl_block hbA hk_c0
  replace hk_c1 := bl_block hbA hk_c1
  generalize wc1.alloc (.cells #[.int .i64 17179869184] 3) = wa2 at *
  generalize wc1.heap.size = g2 at *
  clear hbA
  refine (D3.out g2 wa2 hbw hk_ga hk_g).mono ?_
  rintro e wb2 ⟨rfl, hA, hk2⟩
  clear hk_ga
  have hk_ga := hk2
  replace hbw := hA.b
  replace hk_c0 := hA.k _ _ n_c0 hk_c0
  replace hk_c1 := hA.k _ _ n_c1 hk_c1
  clear hk2 hk_g hA D3
  go_upto_region 7 with fail
  have hk_c2 := blk_new wb2 (.cells #[.int .i64 4294967296, .int .i64 0, .int .i64 0] 73)
  have hbA := bl_alloc (Below.refl wb2.heap.size wb2) (.cells #[.int .i64 4294967296, .int .i64 0, .int .i64 0] 73)
  have n_c2 : wb2.heap.size ≠ ga := by have := blk_lt hk_ga; omega
  replace hbw := bl_step hbw hbA
  replace hk_ga := bl_block hbA hk_ga
  replace hk_c0 := bl_block hbA hk_c0
  replace hk_c1 := bl_block hbA hk_c1
  generalize wb2.alloc (.cells #[.int .i64 4294967296, .int .i64 0, .int .i64 0] 73) = wc2 at *
  generalize wb2.heap.size = c2 at *
  clear hbA hlt
  have yc00 : wc2.cell? ⟨c0, 0, none⟩ = some (.int .i64 8589934592) := blk_cell hk_c0 0 (by rfl)
  have yc01 : wc2.cell? ⟨c0, 1, none⟩ = some (.int .i64 1) := blk_cell hk_c0 1 (by rfl)
  have yc02 : wc2.cell? ⟨c0, 2, none⟩ = some (.int .i64 4) := blk_cell hk_c0 2 (by rfl)
  have yc10 : wc2.cell? ⟨c1, 0, none⟩ = some (.int .i64 8589934592) := blk_cell hk_c1 0 (by rfl)
  have yc11 : wc2.cell? ⟨c1, 1, none⟩ = some (.int .i64 1) := blk_cell hk_c1 1 (by rfl)
  have yc12 : wc2.cell? ⟨c1, 2, none⟩ = some (.int .i64 43) := blk_cell hk_c1 2 (by rfl)
  have yc20 : wc2.cell? ⟨c2, 0, none⟩ = some (.int .i64 4294967296) := blk_cell hk_c2 0 (by rfl)
  have yc21 : wc2.cell? ⟨c2, 1, none⟩ = some (.int .i64 0) := blk_cell hk_c2 1 (by rfl)
  have yc22 : wc2.cell? ⟨c2, 2, none⟩ = some (.int .i64 0) := blk_cell hk_c2 2 (by rfl)
  unfold armV at hk_ga
  have ya0 : wc2.cell? ⟨ga, 0, none⟩ = some (.pointer (some ⟨gl, 0, none⟩)) := blk_cell hk_ga 0 (by rfl)
  have yl0 : wc2.cell? ⟨gl, 0, none⟩ = some (.pointer (some ⟨gk, 0, none⟩)) := bl_cell hbw hgk
  go_wp2_with fail
  refine (hDi.out _ hbw).mono ?_
  rintro e w4 ⟨rfl, hw4⟩
  subst hw4
  rw [show (halfP.B.length : Int) = 1 from rfl]
  go_wp2_with fail
  have hk_g := blk_new w4 (.cells #[.int .i64 17179869184] 3)
  have hbA := bl_alloc (Below.refl w4.heap.size w4) (.cells #[.int .i64 17179869184] 3)
  replace hbw := bl_step hbw hbA
  replace hk_ga := bl_block hbA hk_ga
  generalize w4.alloc (.cells #[.int .i64 17179869184] 3) = w5 at *
  generalize w4.heap.size = g5 at *
  clear hbA ya0 yl0 yc00 yc01 yc02 yc10 yc11 yc12 yc20 yc21 yc22
  refine (hBa.out _ _ hbw hk_g).mono ?_
  rintro e w6 ⟨rfl, hb6⟩
  replace hbw := bl_step hbw hb6
  replace hk_ga := bl_block hb6 hk_ga
  clear hb6 hk_g hBa
  have ya0 : w6.cell? ⟨ga, 0, none⟩ = some (.pointer (some ⟨gl, 0, none⟩)) := blk_cell hk_ga 0 (by rfl)
  have ya3 : w6.cell? ⟨ga, 3, none⟩ = some (.int .i64 1) := blk_cell hk_ga 3 (by rfl)
  have yl0 : w6.cell? ⟨gl, 0, none⟩ = some (.pointer (some ⟨gk, 0, none⟩)) := bl_cell hbw hgk
  go_wp2_with fail
  refine (aSince_calls ga gl gk 1 w6 ya0 yl0 ya3).mono ?_
  rintro e w7 ⟨rfl, hw7⟩
  subst hw7
  go_wp2
  go_ret
  exact ⟨rfl, bl_step hbV hbw⟩
end Go.Proofs.Ythdaidmjjcmccaa
