/- Proved here: lemmas and contracts (what a function of the program computes) that the proofs of the laws of this seat lean on. Conditions: as each theorem states. -/
import Derived.Test.YthdaidmjjcmccaaPl29
set_option linter.unusedVariables false
set_option linter.unusedSimpArgs false
namespace Go.Pk
open Go.RowKit
theorem slP_half : slP halfP [] = [0] := by decide
theorem slP_far : slP farP [] = [0] := by decide
theorem inI_zero : InI [0] := by unfold InI; simp
theorem good_half : GoodP halfP := kitOk_good (by decide) halfP_in
theorem good_far : GoodP farP := kitOk_good (by decide) farP_in
end Go.Pk
namespace Go.Proofs.Ythdaidmjjcmccaa
open Go.RowKit Go.Pk Go.Proofs.YthdaidmjjcmccaaW.PrintLast
theorem half_c9 (n : Nat) : ((halfQ n).cells halfP).toArray = #[.slice (some ⟨n + 1 + 1, 0, none⟩) 1 1, .slice (some ⟨n + 1 + 1 + 1, 0, none⟩) 1 1, .int .i64 (-34359738368), .int .i64 34359738368, .slice (some ⟨n + 1 + 1 + 1 + 1, 0, none⟩) 1 1, .slice (some ⟨n + 1 + 1 + 1 + 1 + 1, 0, none⟩) 1 1, .slice (some ⟨n + 1 + 1 + 1 + 1 + 1 + 1, 0, none⟩) 1 1, .slice (some ⟨n + 1 + 1 + 1 + 1 + 1 + 1 + 1, 0, none⟩) 1 1, .int .i64 0] := rfl
theorem Prove_half (gl : Nat) (w : World) (hk : LkAt w gl 51 116 halfP (slP halfP [])) :
    Calls Try.prog 31 #[.pointer (some ⟨gl, 0, none⟩), .int .i64 0] w fun e w' => ∃ A' c', e = .returned (.agg #[.int .i64 0, .int .i64 1, .slice A' 0 c']) ∧ Below w.heap.size w w' := by
  have h := Prove_calls gl halfP (slP halfP []) 0 w good_half hk (by rw [slP_half]; exact inI_zero) (by omega) (by omega)
  rw [halfP_box] at h
  exact h.mono fun e w' ⟨A', c', h1, h2, h3, h4⟩ => ⟨A', c', h1, h4⟩
theorem Prove_far (gl : Nat) (w : World) (hk : LkAt w gl 51 116 farP (slP farP [])) :
    Calls Try.prog 31 #[.pointer (some ⟨gl, 0, none⟩), .int .i64 0] w fun e w' => ∃ A' c', e = .returned (.agg #[.int .i64 2, .int .i64 1, .slice A' 1 c']) ∧ RdI w' A' [-34359738368] ∧ Below w.heap.size w w' := by
  have h := Prove_calls gl farP (slP farP []) 0 w good_far hk (by rw [slP_far]; exact inI_zero) (by omega) (by omega)
  rw [farP_box] at h
  exact h.mono fun e w' ⟨A', c', h1, h2, h3, h4⟩ => ⟨A', c', h1, h3, h4⟩
theorem New_half (n : Nat) (w : World) (hH : HalfAt w n 3 25 23) :
    Calls Try.prog 26 #[.agg ((halfQ n).cells halfP).toArray, .slice none 0 0] w fun e w' => Below w.heap.size w w' ∧ ∃ gl, e = .returned (.tuple #[.pointer (some ⟨gl, 0, none⟩), .int .i64 0]) ∧ LkAt w' gl 51 116 halfP (slP halfP []) :=
  (New16_calls (halfQ n) halfP none [] 0 w hH.rd halfP_in ⟨by simp, RdC.nil _ _⟩).mono fun e w' ⟨h1, _, h2⟩ => ⟨h1, (h2 halfP_ok).elim fun gl h => ⟨gl, h.1, h.2.1⟩⟩
theorem New_far (n : Nat) (w : World) (hH : (halfQ n).rd w farP) :
    Calls Try.prog 26 #[.agg ((halfQ n).cells farP).toArray, .slice none 0 0] w fun e w' => Below w.heap.size w w' ∧ ∃ gl, e = .returned (.tuple #[.pointer (some ⟨gl, 0, none⟩), .int .i64 0]) ∧ LkAt w' gl 51 116 farP (slP farP []) :=
  (New16_calls (halfQ n) farP none [] 0 w hH farP_in ⟨by simp, RdC.nil _ _⟩).mono fun e w' ⟨h1, _, h2⟩ => ⟨h1, (h2 farP_ok).elim fun gl h => ⟨gl, h.1, h.2.1⟩⟩
set_option maxHeartbeats 8000000 in
set_option maxRecDepth 100000 in
theorem alive16_calls (w : World) : Calls Try.prog 27 #[] w fun e w' => e = .returned (.bool true) ∧ Below w.heap.size w w' := by
  go_enter Try.func27, Try.ntmps27
  go_wp2_with fail
  refine (Half_calls w).mono ?_
  rintro e w1 ⟨n, hn, rfl, hH, hbw⟩
  go_wp2_with fail
  refine (New_half n w1 hH).mono ?_
  rintro e w2 ⟨hb2, gl, rfl, hlk⟩
  replace hbw := bl_step hbw hb2
  clear hb2 hn hH w1
  go_wp2_with fail
  refine (Prove_half gl w2 hlk).mono ?_
  rintro e w3 ⟨A3, c3, rfl, hb3⟩
  replace hbw := bl_step hbw hb3
  replace hlk := hlk.below hb3
  clear hb3 w2
  go_upto_region 5 with fail
  have k3 := blk_new w3 (.cells #[.int .i64 0, .int .i64 1, .slice A3 0 c3] 58)
  have hba := bl_alloc (Below.refl w3.heap.size w3) (.cells #[.int .i64 0, .int .i64 1, .slice A3 0 c3] 58)
  replace hbw := bl_step hbw hba
  replace hlk := hlk.below hba
  clear hba
  generalize w3.alloc (.cells #[.int .i64 0, .int .i64 1, .slice A3 0 c3] 58) = W4 at *
  generalize w3.heap.size = g3 at *
  go_wp2_with fail
  refine (Half_calls W4).mono ?_
  rintro e w5 ⟨n2, hn2, rfl, hH2, hc⟩
  rw [half_c9]
  go_upto_region 6 with fail
  have hlt4 := blk_lt hH2.k4
  have k4 := blk_new w5 (.cells #[.slice (some ⟨n2 + 1 + 1, 0, none⟩) 1 1, .slice (some ⟨n2 + 1 + 1 + 1, 0, none⟩) 1 1, .int .i64 (-34359738368), .int .i64 34359738368, .slice (some ⟨n2 + 1 + 1 + 1 + 1, 0, none⟩) 1 1, .slice (some ⟨n2 + 1 + 1 + 1 + 1 + 1, 0, none⟩) 1 1, .slice (some ⟨n2 + 1 + 1 + 1 + 1 + 1 + 1, 0, none⟩) 1 1, .slice (some ⟨n2 + 1 + 1 + 1 + 1 + 1 + 1 + 1, 0, none⟩) 1 1, .int .i64 0] 28)
  have hba := bl_alloc (Below.refl w5.heap.size w5) (.cells #[.slice (some ⟨n2 + 1 + 1, 0, none⟩) 1 1, .slice (some ⟨n2 + 1 + 1 + 1, 0, none⟩) 1 1, .int .i64 (-34359738368), .int .i64 34359738368, .slice (some ⟨n2 + 1 + 1 + 1 + 1, 0, none⟩) 1 1, .slice (some ⟨n2 + 1 + 1 + 1 + 1 + 1, 0, none⟩) 1 1, .slice (some ⟨n2 + 1 + 1 + 1 + 1 + 1 + 1, 0, none⟩) 1 1, .slice (some ⟨n2 + 1 + 1 + 1 + 1 + 1 + 1 + 1, 0, none⟩) 1 1, .int .i64 0] 28)
  replace hc := bl_step hc hba
  replace hH2 := hH2.below hba
  clear hba
  generalize w5.alloc (.cells #[.slice (some ⟨n2 + 1 + 1, 0, none⟩) 1 1, .slice (some ⟨n2 + 1 + 1 + 1, 0, none⟩) 1 1, .int .i64 (-34359738368), .int .i64 34359738368, .slice (some ⟨n2 + 1 + 1 + 1 + 1, 0, none⟩) 1 1, .slice (some ⟨n2 + 1 + 1 + 1 + 1 + 1, 0, none⟩) 1 1, .slice (some ⟨n2 + 1 + 1 + 1 + 1 + 1 + 1, 0, none⟩) 1 1, .slice (some ⟨n2 + 1 + 1 + 1 + 1 + 1 + 1 + 1, 0, none⟩) 1 1, .int .i64 0] 28) = W6 at *
  generalize w5.heap.size = g4 at *
  have y4 : W6.cell? ⟨g4, 4, none⟩ = some (.slice (some ⟨n2 + 1 + 1 + 1 + 1, 0, none⟩) 1 1) := blk_cell k4 4 (by rfl)
  have m6 := blk_two hH2.k4
  have hr7 := hH2.far
  have hX7 := ((KeepX.refl (· = n2 + 1 + 1 + 1 + 1) W6).set (p := ⟨n2 + 1 + 1 + 1 + 1, 0, none⟩) rfl (.int .i64 38654705664)).set (p := ⟨n2 + 1 + 1 + 1 + 1, 1, none⟩) rfl (.int .i64 38654705664)
  have hc7 := bl_set (bl_set hc (p := ⟨n2 + 1 + 1 + 1 + 1, 0, none⟩) (by simp only []; omega) (.int .i64 38654705664)) (p := ⟨n2 + 1 + 1 + 1 + 1, 1, none⟩) (by simp only []; omega) (.int .i64 38654705664)
  go_upto_region 7 with fail
  clear y4 m6
  have hne : ¬ (g4 = n2 + 1 + 1 + 1 + 1) := by omega
  replace k4 := hX7 g4 _ hne k4
  generalize (W6.setCell ⟨n2 + 1 + 1 + 1 + 1, 0, none⟩ (.int .i64 38654705664)).setCell ⟨n2 + 1 + 1 + 1 + 1, 1, none⟩ (.int .i64 38654705664) = W7 at *
  clear hc hX7 hH2
  have y0 : W7.cell? ⟨g4, 0, none⟩ = some (.slice (some ⟨n2 + 1 + 1, 0, none⟩) 1 1) := blk_cell k4 0 (by rfl)
  have y1 : W7.cell? ⟨g4, 1, none⟩ = some (.slice (some ⟨n2 + 1 + 1 + 1, 0, none⟩) 1 1) := blk_cell k4 1 (by rfl)
  have y2 : W7.cell? ⟨g4, 2, none⟩ = some (.int .i64 (-34359738368)) := blk_cell k4 2 (by rfl)
  have y3 : W7.cell? ⟨g4, 3, none⟩ = some (.int .i64 34359738368) := blk_cell k4 3 (by rfl)
  have y4 : W7.cell? ⟨g4, 4, none⟩ = some (.slice (some ⟨n2 + 1 + 1 + 1 + 1, 0, none⟩) 1 1) := blk_cell k4 4 (by rfl)
  have y5 : W7.cell? ⟨g4, 5, none⟩ = some (.slice (some ⟨n2 + 1 + 1 + 1 + 1 + 1, 0, none⟩) 1 1) := blk_cell k4 5 (by rfl)
  have y6 : W7.cell? ⟨g4, 6, none⟩ = some (.slice (some ⟨n2 + 1 + 1 + 1 + 1 + 1 + 1, 0, none⟩) 1 1) := blk_cell k4 6 (by rfl)
  have y7 : W7.cell? ⟨g4, 7, none⟩ = some (.slice (some ⟨n2 + 1 + 1 + 1 + 1 + 1 + 1 + 1, 0, none⟩) 1 1) := blk_cell k4 7 (by rfl)
  have y8 : W7.cell? ⟨g4, 8, none⟩ = some (.int .i64 0) := blk_cell k4 8 (by rfl)
  go_wp2_with fail
  refine (New_far n2 W7 hr7).mono ?_
  rintro e w8 ⟨hb8, gm, rfl, hlk2⟩
  replace hc := bl_step hc7 hb8
  clear hb8 y0 y1 y2 y3 y4 y5 y6 y7 y8 k4 hr7
  go_wp2_with fail
  refine (Prove_far gm w8 hlk2).mono ?_
  rintro e w9 ⟨A9, c9, rfl, hr9, hb9⟩
  replace hc := bl_step hc hb9
  clear hb9 hlk2
  go_upto_region 11 with fail
  have k9 := blk_new w9 (.cells #[.int .i64 2, .int .i64 1, .slice A9 1 c9] 58)
  have hba := bl_alloc (Below.refl w9.heap.size w9) (.cells #[.int .i64 2, .int .i64 1, .slice A9 1 c9] 58)
  replace hc := bl_step hc hba
  replace hr9 := hr9.below hba
  clear hba
  generalize w9.alloc (.cells #[.int .i64 2, .int .i64 1, .slice A9 1 c9] 58) = W10 at *
  generalize w9.heap.size = g7 at *
  obtain ⟨b9, o9, rfl, c9'⟩ := hr9.at (i := 0) (by decide)
  have yc9 : W10.cell? ⟨b9, o9, none⟩ = some (.int .i64 (-34359738368)) := c9'
  replace k3 := bl_block hc k3
  replace hlk := hlk.below hc
  replace hbw := bl_step hbw hc
  clear hr9 c9' hc
  obtain ⟨gk, aS, cS, hkl, -, -, hkit⟩ := hlk
  have u0 : W10.cell? ⟨g3, 0, none⟩ = some (.int .i64 0) := blk_cell k3 0 (by rfl)
  have u1 : W10.cell? ⟨g3, 1, none⟩ = some (.int .i64 1) := blk_cell k3 1 (by rfl)
  have u2 : W10.cell? ⟨g3, 2, none⟩ = some (.slice A3 0 c3) := blk_cell k3 2 (by rfl)
  have v0 : W10.cell? ⟨g7, 0, none⟩ = some (.int .i64 2) := blk_cell k9 0 (by rfl)
  have v2 : W10.cell? ⟨g7, 2, none⟩ = some (.slice (some ⟨b9, o9, none⟩) 1 c9) := blk_cell k9 2 (by rfl)
  have x0 : W10.cell? ⟨gl, 0, none⟩ = some (.pointer (some ⟨gk, 0, none⟩)) := blk_cell hkl 0 (by rfl)
  clear k3 k9
  go_wp2_with fail
  refine (Dim_calls gk halfP _ hkit).mono ?_
  rintro e w11 ⟨rfl, hw11⟩
  subst hw11
  rw [show (halfP.B.length : Int) = 1 from rfl]
  go_wp2_with fail
  obtain ⟨V4, e4⟩ : ∃ W, W = w11.alloc (.cells #[Value.int IntKind.i64 17179869184] 3) := ⟨_, rfl⟩
  rw [← e4]
  obtain ⟨n4, hn4⟩ : ∃ n, w11.heap.size = n := ⟨_, rfl⟩
  rw [hn4]
  obtain ⟨k4, s4⟩ := al_step e4 hn4
  have b4 : Below w11.heap.size w11 V4 := by rw [e4]; exact bl_alloc (Below.refl _ _) _
  replace hbw := bl_step hbw b4
  replace hkit := hkit.below b4
  clear yc9 u0 u1 u2 v0 v2 x0
  have hba := Base_calls gk halfP [17179869184] _ 1 V4 hkit rfl (by decide) halfP_in.2.2.2.2.2.2.1 (by decide) (by decide) (RdI.of_blk (l := [17179869184]) k4 (by decide)) (by unfold InI; simp)
  rw [halfP_base] at hba
  clear e4 k4 s4 b4 hn4
  refine hba.mono ?_
  clear hba
  rintro e w12 ⟨rfl, hb12⟩
  replace hbw := bl_step hbw hb12
  go_wp2
  go_ret
  exact ⟨rfl, hbw⟩
end Go.Proofs.Ythdaidmjjcmccaa
