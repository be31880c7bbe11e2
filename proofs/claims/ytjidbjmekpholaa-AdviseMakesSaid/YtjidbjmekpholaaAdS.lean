/- Proved here: lemmas and contracts (what a function of the program computes) that the proofs of the laws of this seat lean on. Conditions: as each theorem states. -/
import Derived.Test.YtjidbjmekpholaaLin
import Derived.Test.YtjidbjmekpholaaAd6
set_option linter.unusedVariables false
set_option linter.unusedSimpArgs false
namespace Go.Proofs.Ytjidbjmekpholaa
open Go.RowKit Go.Pk Go.Pk.Ad Go.Proofs.YtjidbjmekpholaaW.PrintMore
def clampR (x lo hi : Int) : Int := if hi < x then hi else if x < lo then lo else x
def stayR (h high : Int) : Int := clampR h (wrap64 (-high)) high
theorem refClamp_calls (x lo hi : Int) (w : World) : Calls Try.prog 51 #[.int .i64 x, .int .i64 lo, .int .i64 hi] w fun e w' => e = .returned (.int .i64 (clampR x lo hi)) ∧ w' = w := by
  have d : clampR x lo hi = if hi < x then hi else if x < lo then lo else x := rfl
  by_cases h1 : hi < x
  · rw [d, if_pos h1]; clear d
    go_enter Try.func51, Try.ntmps51
    go_wp2
    go_ret
    exact ⟨rfl, rfl⟩
  · rw [d, if_neg h1]; clear d
    by_cases h2 : x < lo
    · rw [if_pos h2]
      go_enter Try.func51, Try.ntmps51
      go_wp2
      go_ret
      exact ⟨rfl, rfl⟩
    · rw [if_neg h2]
      go_enter Try.func51, Try.ntmps51
      go_wp2
      go_ret
      exact ⟨rfl, rfl⟩
theorem refStay_calls (h high : Int) (w : World) : Calls Try.prog 52 #[.int .i64 h, .int .i64 high] w fun e w' => e = .returned (.int .i64 (stayR h high)) ∧ w' = w := by
  go_enter Try.func52, Try.ntmps52
  go_wp2_with fail
  refine (refClamp_calls _ _ _ _).mono ?_
  rintro e w1 ⟨rfl, rfl⟩
  go_wp2
  go_ret
  exact ⟨rfl, rfl⟩
set_option maxHeartbeats 100000000 in
set_option maxRecDepth 100000 in
theorem refAsk_yes (high ticks near climb h k : Int) (S : ByteArray) (n : Nat) (w : World) (h0 : 0 ≤ high) (h1 : high ≤ 1048576) (t0 : 0 ≤ ticks) (t1 : ticks ≤ 1048576) (hl : ((S.size : Int) != wrap64 ((ticks + 1) * (2 * high + 1))) = false)
    (hn : wrap64 (wrap64 (wrap64 (clampR k 0 ticks * wrap64 (wrap64 (2 * high) + 1)) + high) + stayR h high) = (n : Int)) (hnS : n < S.size) :
    Calls Try.prog 25 #[.agg #[.int .i64 high, .int .i64 ticks, .int .i64 near, .int .i64 climb, .string S], .int .i64 h, .int .i64 k] w fun e w' => e = .returned (.int .i64 (S[n].toNat : Int)) ∧ Below w.heap.size w w' := by
  have e1 : decide (high < 0) = false := decide_eq_false (by omega)
  have e2 : decide ((1048576 : Int) < high) = false := decide_eq_false (by omega)
  have e3 : decide (ticks < 0) = false := decide_eq_false (by omega)
  have e4 : decide ((1048576 : Int) < ticks) = false := decide_eq_false (by omega)
  have hb := S[n].toNat_lt
  have hcv : wrap64 (S[n].toNat : Int) = (S[n].toNat : Int) := w64 (by omega) (by omega)
  generalize hC : clampR k 0 ticks = kc at *
  generalize hS : stayR h high = hs at *
  replace hC := hidI hC
  replace hS := hidI hS
  go_enter Try.func25, Try.ntmps25
  go_upto_region 1 with fail
  have hk_g0 : (w.alloc (.cells #[.int .i64 high, .int .i64 ticks, .int .i64 near, .int .i64 climb, .string S] 38)).heap[w.heap.size]? = some (.cells #[.int .i64 high, .int .i64 ticks, .int .i64 near, .int .i64 climb, .string S] 38 (0, 0)) := blk_new _ _
  have hbw := bl_alloc (Below.refl w.heap.size w) (.cells #[.int .i64 high, .int .i64 ticks, .int .i64 near, .int .i64 climb, .string S] 38)
  generalize w.alloc (.cells #[.int .i64 high, .int .i64 ticks, .int .i64 near, .int .i64 climb, .string S] 38) = W1 at *
  obtain ⟨w0, hw0⟩ : ∃ z : World, z = w := ⟨_, rfl⟩
  obtain ⟨g0, hg0⟩ : ∃ z : Nat, z = w0.heap.size := ⟨_, rfl⟩
  rw [← hw0] at hbw hk_g0 ⊢
  rw [← hg0] at hk_g0 ⊢
  clear hg0
  have c0 := blkc hk_g0 0
  have c1 := blkc hk_g0 1
  have c4 := blkc hk_g0 4
  simp at c0 c1 c4
  go_upto_region 3 with fail
  clear c0 c1 c4 e1 e2 e3 e4 hl
  obtain ⟨B0, hB0⟩ : ∃ B, B = W1.heap.size := ⟨_, rfl⟩
  have c0_hsz : B0 ≤ W1.heap.size := Nat.le_of_eq hB0
  have hw0B0 : w0.heap.size ≤ B0 := by rw [hB0]; exact hbw.size
  have c0_hle : W1.heap.size ≤ B0 := Nat.le_of_eq hB0.symm
  have c0_hk_g0 := blk_drew hk_g0
  have c0_lt_g0 : g0 < B0 := by rw [hB0]; exact blk_lt hk_g0
  have c0_hbw := bl_drew hbw
  clear hB0 hbw hk_g0
  refine region_lin (n := 22) (st := ?st1) { R := [0, 1, 0, 0, 8, 28, 0, 64, 192, 448, 1020, 0, 2048, 8188, 0, 0, 32768, 114748, 262140, 524287, 1048575, 2097151], kill := [[], [], [], [], [], [], [], [], [], [], [], [], [], [], [], [], [], [], [], [], [], []], cls := [0, 0, 0, 0, 0, 0, 0, 0, 0, 0, 0, 0, 0, 0, 0, 0, 0, 0, 0, 0, 0, 0], dst := [some 39, some 40, some 41, some 42, some 43, some 44, some 45, some 46, some 47, some 48, some 49, some 50, some 51, some 52, some 53, some 54, some 55, some 56, some 57, some 58, some 59, some 6], pre := [[], [0], [], [], [3], [2, 4], [], [6], [7], [8], [5, 9], [], [11], [10, 12], [], [], [15], [14, 16], [13, 17], [1, 18], [19], [20]], cov := [], fin := [21], locs := [], tgt := [none], abt := [none, none, none, none, none, none, none, none, none, none, none, none, none, none, none, none, none, none, none, none, none, none] }
    [.v [39] (fun vs => (vs.getD 0 undef) = .pointer (some ⟨g0, 4, none⟩)),
     .v [40] (fun vs => (vs.getD 0 undef) = .string S),
     .v [41] (fun vs => (vs.getD 0 undef) = .int .i64 k),
     .v [42] (fun vs => (vs.getD 0 undef) = .pointer (some ⟨g0, 1, none⟩)),
     .v [43] (fun vs => (vs.getD 0 undef) = .int .i64 ticks),
     .v [44] (fun vs => (vs.getD 0 undef) = .int .i64 kc),
     .v [45] (fun vs => (vs.getD 0 undef) = .pointer (some ⟨g0, 0, none⟩)),
     .v [46] (fun vs => (vs.getD 0 undef) = .int .i64 high),
     .v [47] (fun vs => (vs.getD 0 undef) = .int .i64 (wrap64 (2 * high))),
     .v [48] (fun vs => (vs.getD 0 undef) = .int .i64 (wrap64 (wrap64 (2 * high) + 1))),
     .v [49] (fun vs => (vs.getD 0 undef) = .int .i64 (wrap64 (kc * wrap64 (wrap64 (2 * high) + 1)))),
     .v [50] (fun vs => (vs.getD 0 undef) = .pointer (some ⟨g0, 0, none⟩)),
     .v [51] (fun vs => (vs.getD 0 undef) = .int .i64 high),
     .v [52] (fun vs => (vs.getD 0 undef) = .int .i64 (wrap64 (wrap64 (kc * wrap64 (wrap64 (2 * high) + 1)) + high))),
     .v [53] (fun vs => (vs.getD 0 undef) = .int .i64 h),
     .v [54] (fun vs => (vs.getD 0 undef) = .pointer (some ⟨g0, 0, none⟩)),
     .v [55] (fun vs => (vs.getD 0 undef) = .int .i64 high),
     .v [56] (fun vs => (vs.getD 0 undef) = .int .i64 hs),
     .v [57] (fun vs => (vs.getD 0 undef) = .int .i64 (n : Int)),
     .v [58] (fun vs => (vs.getD 0 undef) = .int .u8 (S[n].toNat : Int)),
     .v [59] (fun vs => (vs.getD 0 undef) = .int .i64 (S[n].toNat : Int)),
     .v [6] (fun vs => (vs.getD 0 undef) = .int .i64 (S[n].toNat : Int))]
    (fun w => B0 ≤ w.heap.size ∧ w.heap[g0]? = some (.cells #[.int .i64 high, .int .i64 ticks, .int .i64 near, .int .i64 climb, .string S] 38 (0, 0)) ∧ g0 < B0 ∧ Below w0.heap.size w0 w)
    (fun c => ([fun s w w' => Below w.heap.size w w'] : List ((Nat → Value) → World → World → Prop)).getD c (fun s w w' => w' = w))
    [6, 39, 40, 41, 42, 43, 44, 45, 46, 47, 48, 49, 50, 51, 52, 53, 54, 55, 56, 57, 58, 59] (by kernel_rfl) ⟨by kernel_rfl, by kernel_rfl, by kernel_rfl, by kernel_rfl, by kernel_rfl, by kernel_rfl, by kernel_rfl, by kernel_rfl⟩ (fun s => ?_) ?_ ?_ ?_ ?_ ?_ (fun s w hC hA => ?_)
  rotate_left
  · simp only [fillS, List.foldl, List.setIfInBounds_toArray, List.set_cons_zero, List.set_cons_succ]; rfl
  · exact ⟨c0_hsz, c0_hk_g0, c0_lt_g0, c0_hbw⟩
  · intro c s w w' hE
    match c, hE with
    | 0, hE => exact Below.size hE
    | c + 1, hE => cases hE; exact Nat.le_refl _
  · rintro c s w w' ⟨hsz, hk_g0, lt_g0, hbw⟩ hE
    match c, hE with
    | 0, hE => replace hE : Below w.heap.size w w' := hE; exact ⟨Nat.le_trans hsz hE.size, bl_block hE hk_g0, lt_g0, bl_step hbw hE⟩
    | c + 1, hE => cases hE; exact ⟨hsz, hk_g0, lt_g0, hbw⟩
  · exact trivial
  · skip
    refine StepsP.cons ?_ ?_
    · intro Q s w hC hA K hK
      clear hC
      clear hA
      refine guard_none (by rfl) ?_
      refine wp_value (v := .pointer (some ⟨g0, 4, none⟩)) (w1 := w) ?_ (hK.out _ w (Below.refl _ _) rfl (fun h => by cases h))
      go_simp
      try (first | done | rfl | (simp; done))
    refine StepsP.cons ?_ ?_
    · intro Q s w hC hA K hK
      obtain ⟨hsz, hk_g0, lt_g0, hbw⟩ := hC
      obtain ⟨f0, -⟩ := hA
      replace f0 : (s 39) = .pointer (some ⟨g0, 4, none⟩) := f0
      refine guard_none (by rfl) ?_
      have m0_g0 : w.cell? ⟨g0, 0, none⟩ = some (.int .i64 high) := blk_cell hk_g0 0 (by rfl)
      have m1_g0 : w.cell? ⟨g0, 1, none⟩ = some (.int .i64 ticks) := blk_cell hk_g0 1 (by rfl)
      have m2_g0 : w.cell? ⟨g0, 2, none⟩ = some (.int .i64 near) := blk_cell hk_g0 2 (by rfl)
      have m3_g0 : w.cell? ⟨g0, 3, none⟩ = some (.int .i64 climb) := blk_cell hk_g0 3 (by rfl)
      have m4_g0 : w.cell? ⟨g0, 4, none⟩ = some (.string S) := blk_cell hk_g0 4 (by rfl)
      refine wp_value (v := .string S) (w1 := w) ?_ (hK.out _ w (Below.refl _ _) rfl (fun h => by cases h))
      try simp only [f0]
      go_simp
      try (first | done | rfl | (simp; done))
    refine StepsP.cons ?_ ?_
    · intro Q s w hC hA K hK
      clear hC
      clear hA
      refine guard_none (by rfl) ?_
      refine wp_value (v := .int .i64 k) (w1 := w) ?_ (hK.out _ w (Below.refl _ _) rfl (fun h => by cases h))
      go_simp
      try (first | done | rfl | (simp; done))
    refine StepsP.cons ?_ ?_
    · intro Q s w hC hA K hK
      clear hC
      clear hA
      refine guard_none (by rfl) ?_
      refine wp_value (v := .pointer (some ⟨g0, 1, none⟩)) (w1 := w) ?_ (hK.out _ w (Below.refl _ _) rfl (fun h => by cases h))
      go_simp
      try (first | done | rfl | (simp; done))
    refine StepsP.cons ?_ ?_
    · intro Q s w hC hA K hK
      obtain ⟨hsz, hk_g0, lt_g0, hbw⟩ := hC
      obtain ⟨f3, -⟩ := hA
      replace f3 : (s 42) = .pointer (some ⟨g0, 1, none⟩) := f3
      refine guard_none (by rfl) ?_
      have m0_g0 : w.cell? ⟨g0, 0, none⟩ = some (.int .i64 high) := blk_cell hk_g0 0 (by rfl)
      have m1_g0 : w.cell? ⟨g0, 1, none⟩ = some (.int .i64 ticks) := blk_cell hk_g0 1 (by rfl)
      have m2_g0 : w.cell? ⟨g0, 2, none⟩ = some (.int .i64 near) := blk_cell hk_g0 2 (by rfl)
      have m3_g0 : w.cell? ⟨g0, 3, none⟩ = some (.int .i64 climb) := blk_cell hk_g0 3 (by rfl)
      have m4_g0 : w.cell? ⟨g0, 4, none⟩ = some (.string S) := blk_cell hk_g0 4 (by rfl)
      refine wp_value (v := .int .i64 ticks) (w1 := w) ?_ (hK.out _ w (Below.refl _ _) rfl (fun h => by cases h))
      try simp only [f3]
      go_simp
      try (first | done | rfl | (simp; done))
    refine StepsP.cons ?_ ?_
    · intro Q s w hC hA K hK
      obtain ⟨hsz, hk_g0, lt_g0, hbw⟩ := hC
      obtain ⟨f2, f4, -⟩ := hA
      replace f2 : (s 41) = .int .i64 k := f2
      replace f4 : (s 43) = .int .i64 ticks := f4
      refine guard_none (by rfl) ?_
      refine wp_call (N := some 44) (by rfl) Try.func51 (by kernel_rfl) #[.int .i64 k, .int .i64 0, .int .i64 ticks] rfl (by rfl) ?_ ?_
      · show [s 41, .int .i64 0, s 43] = [.int .i64 k, .int .i64 0, .int .i64 ticks]
        first | rfl | simp only [f2, f4]
      refine (refClamp_calls _ _ _ _).mono ?_
      rintro e w1 ⟨rfl, rfl⟩
      refine ⟨_, rfl, ?_⟩
      rw [hC.out]
      exact hK.out _ _ (Below.refl _ _) rfl (fun h => by cases h)
    refine StepsP.cons ?_ ?_
    · intro Q s w hC hA K hK
      clear hC
      clear hA
      refine guard_none (by rfl) ?_
      refine wp_value (v := .pointer (some ⟨g0, 0, none⟩)) (w1 := w) ?_ (hK.out _ w (Below.refl _ _) rfl (fun h => by cases h))
      go_simp
      try (first | done | rfl | (simp; done))
    refine StepsP.cons ?_ ?_
    · intro Q s w hC hA K hK
      obtain ⟨hsz, hk_g0, lt_g0, hbw⟩ := hC
      obtain ⟨f6, -⟩ := hA
      replace f6 : (s 45) = .pointer (some ⟨g0, 0, none⟩) := f6
      refine guard_none (by rfl) ?_
      have m0_g0 : w.cell? ⟨g0, 0, none⟩ = some (.int .i64 high) := blk_cell hk_g0 0 (by rfl)
      have m1_g0 : w.cell? ⟨g0, 1, none⟩ = some (.int .i64 ticks) := blk_cell hk_g0 1 (by rfl)
      have m2_g0 : w.cell? ⟨g0, 2, none⟩ = some (.int .i64 near) := blk_cell hk_g0 2 (by rfl)
      have m3_g0 : w.cell? ⟨g0, 3, none⟩ = some (.int .i64 climb) := blk_cell hk_g0 3 (by rfl)
      have m4_g0 : w.cell? ⟨g0, 4, none⟩ = some (.string S) := blk_cell hk_g0 4 (by rfl)
      refine wp_value (v := .int .i64 high) (w1 := w) ?_ (hK.out _ w (Below.refl _ _) rfl (fun h => by cases h))
      try simp only [f6]
      go_simp
      try (first | done | rfl | (simp; done))
    refine StepsP.cons ?_ ?_
    · intro Q s w hC hA K hK
      clear hC
      obtain ⟨f7, -⟩ := hA
      replace f7 : (s 46) = .int .i64 high := f7
      refine guard_none (by rfl) ?_
      refine wp_value (v := .int .i64 (wrap64 (2 * high))) (w1 := w) ?_ (hK.out _ w (Below.refl _ _) rfl (fun h => by cases h))
      try simp only [f7]
      go_simp
      first | done | rfl | (simp only [IntWalk.i64_left]; done)
    refine StepsP.cons ?_ ?_
    · intro Q s w hC hA K hK
      clear hC
      obtain ⟨f8, -⟩ := hA
      replace f8 : (s 47) = .int .i64 (wrap64 (2 * high)) := f8
      refine guard_none (by rfl) ?_
      refine wp_value (v := .int .i64 (wrap64 (wrap64 (2 * high) + 1))) (w1 := w) ?_ (hK.out _ w (Below.refl _ _) rfl (fun h => by cases h))
      try simp only [f8]
      go_simp
      first | done | rfl | (simp only [IntWalk.i64_left]; done)
    refine StepsP.cons ?_ ?_
    · intro Q s w hC hA K hK
      clear hC
      obtain ⟨f5, f9, -⟩ := hA
      replace f5 : (s 44) = .int .i64 kc := f5
      replace f9 : (s 48) = .int .i64 (wrap64 (wrap64 (2 * high) + 1)) := f9
      refine guard_none (by rfl) ?_
      refine wp_value (v := .int .i64 (wrap64 (kc * wrap64 (wrap64 (2 * high) + 1)))) (w1 := w) ?_ (hK.out _ w (Below.refl _ _) rfl (fun h => by cases h))
      try simp only [f5, f9]
      go_simp
      first | done | rfl | (simp only [IntWalk.i64_left]; done)
    refine StepsP.cons ?_ ?_
    · intro Q s w hC hA K hK
      clear hC
      clear hA
      refine guard_none (by rfl) ?_
      refine wp_value (v := .pointer (some ⟨g0, 0, none⟩)) (w1 := w) ?_ (hK.out _ w (Below.refl _ _) rfl (fun h => by cases h))
      go_simp
      try (first | done | rfl | (simp; done))
    refine StepsP.cons ?_ ?_
    · intro Q s w hC hA K hK
      obtain ⟨hsz, hk_g0, lt_g0, hbw⟩ := hC
      obtain ⟨f11, -⟩ := hA
      replace f11 : (s 50) = .pointer (some ⟨g0, 0, none⟩) := f11
      refine guard_none (by rfl) ?_
      have m0_g0 : w.cell? ⟨g0, 0, none⟩ = some (.int .i64 high) := blk_cell hk_g0 0 (by rfl)
      have m1_g0 : w.cell? ⟨g0, 1, none⟩ = some (.int .i64 ticks) := blk_cell hk_g0 1 (by rfl)
      have m2_g0 : w.cell? ⟨g0, 2, none⟩ = some (.int .i64 near) := blk_cell hk_g0 2 (by rfl)
      have m3_g0 : w.cell? ⟨g0, 3, none⟩ = some (.int .i64 climb) := blk_cell hk_g0 3 (by rfl)
      have m4_g0 : w.cell? ⟨g0, 4, none⟩ = some (.string S) := blk_cell hk_g0 4 (by rfl)
      refine wp_value (v := .int .i64 high) (w1 := w) ?_ (hK.out _ w (Below.refl _ _) rfl (fun h => by cases h))
      try simp only [f11]
      go_simp
      try (first | done | rfl | (simp; done))
    refine StepsP.cons ?_ ?_
    · intro Q s w hC hA K hK
      clear hC
      obtain ⟨f10, f12, -⟩ := hA
      replace f10 : (s 49) = .int .i64 (wrap64 (kc * wrap64 (wrap64 (2 * high) + 1))) := f10
      replace f12 : (s 51) = .int .i64 high := f12
      refine guard_none (by rfl) ?_
      refine wp_value (v := .int .i64 (wrap64 (wrap64 (kc * wrap64 (wrap64 (2 * high) + 1)) + high))) (w1 := w) ?_ (hK.out _ w (Below.refl _ _) rfl (fun h => by cases h))
      try simp only [f10, f12]
      go_simp
      first | done | rfl | (simp only [IntWalk.i64_left]; done)
    refine StepsP.cons ?_ ?_
    · intro Q s w hC hA K hK
      clear hC
      clear hA
      refine guard_none (by rfl) ?_
      refine wp_value (v := .int .i64 h) (w1 := w) ?_ (hK.out _ w (Below.refl _ _) rfl (fun h => by cases h))
      go_simp
      try (first | done | rfl | (simp; done))
    refine StepsP.cons ?_ ?_
    · intro Q s w hC hA K hK
      clear hC
      clear hA
      refine guard_none (by rfl) ?_
      refine wp_value (v := .pointer (some ⟨g0, 0, none⟩)) (w1 := w) ?_ (hK.out _ w (Below.refl _ _) rfl (fun h => by cases h))
      go_simp
      try (first | done | rfl | (simp; done))
    refine StepsP.cons ?_ ?_
    · intro Q s w hC hA K hK
      obtain ⟨hsz, hk_g0, lt_g0, hbw⟩ := hC
      obtain ⟨f15, -⟩ := hA
      replace f15 : (s 54) = .pointer (some ⟨g0, 0, none⟩) := f15
      refine guard_none (by rfl) ?_
      have m0_g0 : w.cell? ⟨g0, 0, none⟩ = some (.int .i64 high) := blk_cell hk_g0 0 (by rfl)
      have m1_g0 : w.cell? ⟨g0, 1, none⟩ = some (.int .i64 ticks) := blk_cell hk_g0 1 (by rfl)
      have m2_g0 : w.cell? ⟨g0, 2, none⟩ = some (.int .i64 near) := blk_cell hk_g0 2 (by rfl)
      have m3_g0 : w.cell? ⟨g0, 3, none⟩ = some (.int .i64 climb) := blk_cell hk_g0 3 (by rfl)
      have m4_g0 : w.cell? ⟨g0, 4, none⟩ = some (.string S) := blk_cell hk_g0 4 (by rfl)
      refine wp_value (v := .int .i64 high) (w1 := w) ?_ (hK.out _ w (Below.refl _ _) rfl (fun h => by cases h))
      try simp only [f15]
      go_simp
      try (first | done | rfl | (simp; done))
    refine StepsP.cons ?_ ?_
    · intro Q s w hC hA K hK
      obtain ⟨hsz, hk_g0, lt_g0, hbw⟩ := hC
      obtain ⟨f14, f16, -⟩ := hA
      replace f14 : (s 53) = .int .i64 h := f14
      replace f16 : (s 55) = .int .i64 high := f16
      refine guard_none (by rfl) ?_
      refine wp_call (N := some 56) (by rfl) Try.func52 (by kernel_rfl) #[.int .i64 h, .int .i64 high] rfl (by rfl) ?_ ?_
      · show [s 53, s 55] = [.int .i64 h, .int .i64 high]
        first | rfl | simp only [f14, f16]
      refine (refStay_calls _ _ _).mono ?_
      rintro e w1 ⟨rfl, rfl⟩
      refine ⟨_, rfl, ?_⟩
      rw [hS.out]
      exact hK.out _ _ (Below.refl _ _) rfl (fun h => by cases h)
    refine StepsP.cons ?_ ?_
    · intro Q s w hC hA K hK
      clear hC
      obtain ⟨f13, f17, -⟩ := hA
      replace f13 : (s 52) = .int .i64 (wrap64 (wrap64 (kc * wrap64 (wrap64 (2 * high) + 1)) + high)) := f13
      replace f17 : (s 56) = .int .i64 hs := f17
      refine guard_none (by rfl) ?_
      refine wp_value (v := .int .i64 (n : Int)) (w1 := w) ?_ (hK.out _ w (Below.refl _ _) rfl (fun h => by cases h))
      try simp only [f13, f17]
      go_simp
      first | done | (simp only [IntWalk.i64_left, hn]; done) | (rw [IntWalk.i64_left]; exact hn)
    refine StepsP.cons ?_ ?_
    · intro Q s w hC hA K hK
      clear hC
      obtain ⟨f1, f18, -⟩ := hA
      replace f1 : (s 40) = .string S := f1
      replace f18 : (s 57) = .int .i64 (n : Int) := f18
      refine guard_none (by rfl) ?_
      refine wp_value (v := .int .u8 (S[n].toNat : Int)) (w1 := w) ?_ (hK.out _ w (Below.refl _ _) rfl (fun h => by cases h))
      try simp only [f1, f18]
      go_simp
      first | done | (simp [hnS]; done)
    refine StepsP.cons ?_ ?_
    · intro Q s w hC hA K hK
      clear hC
      obtain ⟨f19, -⟩ := hA
      replace f19 : (s 58) = .int .u8 (S[n].toNat : Int) := f19
      refine guard_none (by rfl) ?_
      refine wp_value (v := .int .i64 (S[n].toNat : Int)) (w1 := w) ?_ (hK.out _ w (Below.refl _ _) rfl (fun h => by cases h))
      try simp only [f19]
      go_simp
      first | done | (simp [IntWalk.i64_left, hcv]; done)
    refine StepsP.cons ?_ ?_
    · intro Q s w hC hA K hK
      clear hC
      obtain ⟨f20, -⟩ := hA
      replace f20 : (s 59) = .int .i64 (S[n].toNat : Int) := f20
      refine guard_none (by rfl) ?_
      refine wp_value (v := .int .i64 (S[n].toNat : Int)) (w1 := w) ?_ (hK.out _ w (Below.refl _ _) rfl (fun h => by cases h))
      try simp only [f20]
      go_simp
      try (first | done | rfl | (simp; done))
    exact StepsP.nil
  obtain ⟨hsz, hk_g0, lt_g0, hbw⟩ := hC
  obtain ⟨f21, -⟩ := hA
  replace f21 : (s 6) = .int .i64 (S[n].toNat : Int) := f21
  refine act_eq (b' := ?b1) ?h1 ?q1
  case h1 => simp only [f21]; rfl
  go_wp2
  go_ret
  subst hw0
  exact ⟨rfl, hbw⟩
set_option maxHeartbeats 100000000 in
set_option maxRecDepth 100000 in
theorem refAsk_no (high ticks near climb h k : Int) (S : ByteArray) (w : World) (hno : ¬ (0 ≤ high ∧ high ≤ 1048576 ∧ 0 ≤ ticks ∧ ticks ≤ 1048576 ∧ (S.size : Int) = wrap64 ((ticks + 1) * (2 * high + 1)))) :
    Calls Try.prog 25 #[.agg #[.int .i64 high, .int .i64 ticks, .int .i64 near, .int .i64 climb, .string S], .int .i64 h, .int .i64 k] w fun e w' => e = .returned (.int .i64 0) ∧ Below w.heap.size w w' := by
  by_cases q1 : high < 0
  · have e1 : decide (high < 0) = true := decide_eq_true q1
    go_enter Try.func25, Try.ntmps25
    go_upto_region 1 with fail
    have c0 := blkc (blk_new w (.cells #[.int .i64 high, .int .i64 ticks, .int .i64 near, .int .i64 climb, .string S] 38)) 0
    have c1 := blkc (blk_new w (.cells #[.int .i64 high, .int .i64 ticks, .int .i64 near, .int .i64 climb, .string S] 38)) 1
    have c4 := blkc (blk_new w (.cells #[.int .i64 high, .int .i64 ticks, .int .i64 near, .int .i64 climb, .string S] 38)) 4
    simp at c0 c1 c4
    go_wp2
    go_ret
    exact ⟨rfl, bl_alloc (Below.refl _ _) _⟩
  have e1 : decide (high < 0) = false := decide_eq_false q1
  by_cases q2 : (1048576 : Int) < high
  · have e2 : decide ((1048576 : Int) < high) = true := decide_eq_true q2
    go_enter Try.func25, Try.ntmps25
    go_upto_region 1 with fail
    have c0 := blkc (blk_new w (.cells #[.int .i64 high, .int .i64 ticks, .int .i64 near, .int .i64 climb, .string S] 38)) 0
    have c1 := blkc (blk_new w (.cells #[.int .i64 high, .int .i64 ticks, .int .i64 near, .int .i64 climb, .string S] 38)) 1
    have c4 := blkc (blk_new w (.cells #[.int .i64 high, .int .i64 ticks, .int .i64 near, .int .i64 climb, .string S] 38)) 4
    simp at c0 c1 c4
    go_wp2
    go_ret
    exact ⟨rfl, bl_alloc (Below.refl _ _) _⟩
  have e2 : decide ((1048576 : Int) < high) = false := decide_eq_false q2
  by_cases q3 : ticks < 0
  · have e3 : decide (ticks < 0) = true := decide_eq_true q3
    go_enter Try.func25, Try.ntmps25
    go_upto_region 1 with fail
    have c0 := blkc (blk_new w (.cells #[.int .i64 high, .int .i64 ticks, .int .i64 near, .int .i64 climb, .string S] 38)) 0
    have c1 := blkc (blk_new w (.cells #[.int .i64 high, .int .i64 ticks, .int .i64 near, .int .i64 climb, .string S] 38)) 1
    have c4 := blkc (blk_new w (.cells #[.int .i64 high, .int .i64 ticks, .int .i64 near, .int .i64 climb, .string S] 38)) 4
    simp at c0 c1 c4
    go_wp2
    go_ret
    exact ⟨rfl, bl_alloc (Below.refl _ _) _⟩
  have e3 : decide (ticks < 0) = false := decide_eq_false q3
  by_cases q4 : (1048576 : Int) < ticks
  · have e4 : decide ((1048576 : Int) < ticks) = true := decide_eq_true q4
    go_enter Try.func25, Try.ntmps25
    go_upto_region 1 with fail
    have c0 := blkc (blk_new w (.cells #[.int .i64 high, .int .i64 ticks, .int .i64 near, .int .i64 climb, .string S] 38)) 0
    have c1 := blkc (blk_new w (.cells #[.int .i64 high, .int .i64 ticks, .int .i64 near, .int .i64 climb, .string S] 38)) 1
    have c4 := blkc (blk_new w (.cells #[.int .i64 high, .int .i64 ticks, .int .i64 near, .int .i64 climb, .string S] 38)) 4
    simp at c0 c1 c4
    go_wp2
    go_ret
    exact ⟨rfl, bl_alloc (Below.refl _ _) _⟩
  have e4 : decide ((1048576 : Int) < ticks) = false := decide_eq_false q4
  have hl : ((S.size : Int) != wrap64 ((ticks + 1) * (2 * high + 1))) = true := by
    have : ¬ (S.size : Int) = wrap64 ((ticks + 1) * (2 * high + 1)) := fun e => hno ⟨by omega, by omega, by omega, by omega, e⟩
    simpa using this
  have h0 : 0 ≤ high := by omega
  have h1 : high ≤ 1048576 := by omega
  have t0 : 0 ≤ ticks := by omega
  have t1 : ticks ≤ 1048576 := by omega
  go_enter Try.func25, Try.ntmps25
  go_upto_region 1 with fail
  have c0 := blkc (blk_new w (.cells #[.int .i64 high, .int .i64 ticks, .int .i64 near, .int .i64 climb, .string S] 38)) 0
  have c1 := blkc (blk_new w (.cells #[.int .i64 high, .int .i64 ticks, .int .i64 near, .int .i64 climb, .string S] 38)) 1
  have c4 := blkc (blk_new w (.cells #[.int .i64 high, .int .i64 ticks, .int .i64 near, .int .i64 climb, .string S] 38)) 4
  simp at c0 c1 c4
  go_wp2
  go_ret
  exact ⟨rfl, bl_alloc (Below.refl _ _) _⟩
def refIdx (high ticks h k : Int) : Int := wrap64 (wrap64 (wrap64 (clampR k 0 ticks * wrap64 (wrap64 (2 * high) + 1)) + high) + stayR h high)
def refAskF (high ticks : Int) (S : ByteArray) (h k : Int) : Option Int :=
  if 0 ≤ high ∧ high ≤ 1048576 ∧ 0 ≤ ticks ∧ ticks ≤ 1048576 ∧ (S.size : Int) = wrap64 ((ticks + 1) * (2 * high + 1)) then
    (if 0 ≤ refIdx high ticks h k ∧ refIdx high ticks h k < (S.size : Int) then some (Go.Proofs.YtjidbjmekpholaaW.PrintWords.bt S (refIdx high ticks h k)) else none)
  else some 0
theorem refAsk_calls (high ticks near climb h k r : Int) (S : ByteArray) (w : World) (hf : refAskF high ticks S h k = some r) :
    Calls Try.prog 25 #[.agg #[.int .i64 high, .int .i64 ticks, .int .i64 near, .int .i64 climb, .string S], .int .i64 h, .int .i64 k] w fun e w' => e = .returned (.int .i64 r) ∧ Below w.heap.size w w' := by
  unfold refAskF at hf
  by_cases hm : 0 ≤ high ∧ high ≤ 1048576 ∧ 0 ≤ ticks ∧ ticks ≤ 1048576 ∧ (S.size : Int) = wrap64 ((ticks + 1) * (2 * high + 1))
  · rw [if_pos hm] at hf
    by_cases hi : 0 ≤ refIdx high ticks h k ∧ refIdx high ticks h k < (S.size : Int)
    · rw [if_pos hi] at hf
      obtain ⟨n, hn⟩ := Int.eq_ofNat_of_zero_le hi.1
      have hnS : n < S.size := by omega
      obtain rfl := Option.some.inj hf
      refine (refAsk_yes high ticks near climb h k S n w hm.1 hm.2.1 hm.2.2.1 hm.2.2.2.1 (by simp [hm.2.2.2.2]) hn hnS).mono ?_
      rintro e w' ⟨rfl, hb⟩
      refine ⟨?_, hb⟩
      rw [hn]
      unfold Go.Proofs.YtjidbjmekpholaaW.PrintWords.bt
      rw [Int.toNat_natCast, dif_pos hnS]
    · rw [if_neg hi] at hf
      cases hf
  · rw [if_neg hm] at hf
    obtain rfl := Option.some.inj hf
    exact refAsk_no high ticks near climb h k S w hm
end Go.Proofs.Ytjidbjmekpholaa
