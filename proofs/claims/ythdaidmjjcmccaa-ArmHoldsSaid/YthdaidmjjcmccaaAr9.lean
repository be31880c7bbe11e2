/- Proved here: lemmas and contracts (what a function of the program computes) that the proofs of the laws of this seat lean on. Conditions: as each theorem states. -/
import Derived.Test.YthdaidmjjcmccaaAr7
import Derived.Test.YthdaidmjjcmccaaR3
set_option linter.unusedVariables false
set_option linter.unusedSimpArgs false
namespace Go.Pk
open Go.RowKit Go.Pk.Rx
/-- How many base commands in a row, and where the last command came from. -/
def HoldRel (hold base was : Int) (a : ASt) (i : Nat) : Prop := a.ok ∧ was = a.src ∧ (a.src = 1 → base = a.since) ∧ a.since ≤ i ∧ 0 ≤ base ∧ base ≤ 1000 + i
theorem ASt.src_chosen (a : ASt) (k : Int) : (a.chosen k).src = k := rfl
theorem hold_step0 {hold base was : Int} {a : ASt} {i : Nat} (h : HoldRel hold base was a i) (hi : i ≤ 1000000) : HoldRel hold 1 0 (a.chosen 0) (i + 1) := by
  obtain ⟨h1, h2, h3, h4, h5, h6⟩ := h
  refine ⟨ASt.chosen_ok h1 (Or.inl rfl), rfl, (fun e => by cases e), ?_, by omega, by omega⟩
  unfold ASt.chosen mn31
  simp only []
  have := h1.t0
  (repeat' split) <;> omega
theorem hold_step1 {hold base was : Int} {a : ASt} {i : Nat} (h : HoldRel hold base was a i) (hi : i ≤ 1000000) : HoldRel hold (if was = 1 then base + 1 else 1) 1 (a.chosen 1) (i + 1) := by
  obtain ⟨h1, h2, h3, h4, h5, h6⟩ := h
  have := h1.t0
  refine ⟨ASt.chosen_ok h1 (Or.inr rfl), rfl, (fun _ => ?_), ?_, by split <;> omega, by split <;> omega⟩
  · unfold ASt.chosen mn31
    simp only []
    rw [h2]
    by_cases hs : a.src = 1
    · have e : (if (1 : Int) = a.src then a.since else 0) = a.since := if_pos hs.symm
      rw [if_pos hs, e, h3 hs, if_neg (by omega)]
    · have e : (if (1 : Int) = a.src then a.since else 0) = 0 := if_neg (fun e => hs e.symm)
      rw [if_neg hs, e, if_neg (by omega)]
      rfl
  · unfold ASt.chosen mn31
    simp only []
    (repeat' split) <;> omega
end Go.Pk
namespace Go.Proofs.Ythdaidmjjcmccaa
open Go.RowKit Go.Pk Go.Proofs.YthdaidmjjcmccaaW.PrintLast
set_option maxHeartbeats 8000000 in
set_option maxRecDepth 100000 in
theorem AHolds_walk (hold : Int) (lg : List Bool) (ag : Option Addr) (cg : Nat) (w : World) (hgd : RdBo w ag lg) :
    Calls Try.prog 8 #[.int .i64 hold, .slice ag lg.length cg] w fun e w' => e = .returned (.bool true) ∧ Below w.heap.size w w' := by
  have hNw := hidI (fun n W (hH : HalfAt W n 3 25 23) => NewArm_calls (halfQ n) halfP hold none [] 0 W hH.rd halfP_in ⟨by simp, RdC.nil _ _⟩ (fun x hx => by cases hx))
  have hHA := hidI (fun n W hH h0 h1 => HalfArm_calls n hold W h0 h1 hH)
  simp only [List.length_nil] at hNw
  obtain ⟨w0, hw0⟩ : ∃ z : World, z = w := ⟨_, rfl⟩
  go_enter Try.func8, Try.ntmps8
  go_wp2_with fail
  refine (Half_calls w).mono ?_
  rintro e w1 ⟨n, hn, rfl, hH, hb1⟩
  have hbw : Below w0.heap.size w0 w1 := by rw [hw0]; exact hb1
  replace hgd := hgd.below hb1
  clear hn hb1
  have hNw2 := hidI (hNw.out n w1 hH)
  have hHA2 := hidI (fun h0 h1 => hHA.out n w1 hH h0 h1)
  obtain ⟨hv, hhv⟩ : ∃ z, ((halfQ n).cells halfP).toArray = z := ⟨_, rfl⟩
  rw [hhv] at hNw2 hHA2 ⊢
  clear hhv hNw hHA hH
  by_cases hbad : hold < 0 ∨ 1000 < hold
  · clear hHA2
    go_wp2_with fail
    refine hNw2.out.mono ?_
    intro e w2 hp
    unfold NewArmPost at hp
    obtain ⟨hb2, -, h3, -⟩ := hp
    obtain rfl := h3 halfP_ok hbad
    replace hbw := bl_step hbw hb2
    clear hb2 h3 hNw2
    by_cases hb1 : hold < 0
    · skip
      go_wp2_with fail
      refine (alive20_calls _).mono ?_
      rintro e wz ⟨rfl, hbz⟩
      replace hbw := bl_step hbw hbz
      subst hw0
      go_wp2
      go_ret
      exact ⟨rfl, hbw⟩
    · have hb3 : 1000 < hold := by omega
      go_wp2_with fail
      refine (alive20_calls _).mono ?_
      rintro e wz ⟨rfl, hbz⟩
      replace hbw := bl_step hbw hbz
      subst hw0
      go_wp2
      go_ret
      exact ⟨rfl, hbw⟩
  have hh0 : 0 ≤ hold := by omega
  have hh1 : hold ≤ 1000 := by omega
  clear hbad hNw2
  go_wp2_with fail
  refine (hHA2.out hh0 hh1).mono ?_
  rintro e w2 ⟨V, gl, ga, aS, cS, rfl, hbV, hbw2, hX, hk_ga⟩
  have hbw0 := bl_step hbw hbV
  replace hgd := hgd.below hbV
  clear hbV hHA2 hbw
  by_cases h3 : 300 < lg.length
  · have d3 : decide ((300 : Int) < (lg.length : Int)) = true := decide_eq_true (by omega)
    have hbw := bl_step hbw0 hbw2
    go_wp2_with fail
    refine (alive20_calls _).mono ?_
    rintro e wz ⟨rfl, hbz⟩
    replace hbw := bl_step hbw hbz
    subst hw0
    go_wp2
    go_ret
    exact ⟨rfl, hbw⟩
  have d3 : decide ((300 : Int) < (lg.length : Int)) = false := decide_eq_false (by omega)
  have hl3 : lg.length ≤ 300 := by omega
  go_wp2
  clear d3
  obtain ⟨gk, hgk, hkit⟩ := hX.lk.ptr
  have hga := hX.hg
  have hDec := hidI (fun (a : ASt) b g W (ha : a.ok) (h : Below V.heap.size V W) hk (hkk : W.heap[g]? = some (.cells #[.int .i64 4294967296] 3 (0, 0))) (hbm : b.size ≤ 9223372036854775807) => aDecide_calls V ga gl hold a aS halfP [0] cS b [4294967296] (some ⟨g, 0, none⟩) 1 W hX ha h hk (RdI.of_blk (l := [4294967296]) hkk (by simp)) (by intro x hx; simp at hx; subst hx; omega) hbm)
  have hDx := hidI (fun (a : ASt) g W ha h hk hkk => hDec.out a ⟨#[120]⟩ g W ha h hk hkk (by decide))
  have hDo := hidI (fun (a : ASt) g W ha h hk hkk => hDec.out a ⟨#[0, 0, 0, 1, 0, 0, 0, 0]⟩ g W ha h hk hkk (by decide))
  unfold decSrc decCmd at hDx hDo
  simp only [half_why_x, half_why_one _ _ _ half_acc1, show ((4 : Int) = 0) = False by decide, if_false, cmdU_one, half_base1] at hDx hDo
  simp only [show ([0] : List Int).length = 1 from rfl, show ([4294967296] : List Int).length = 1 from rfl] at hDx hDo
  clear hDec hX hkit
  go_loopw [7, 8, 9] (fun x7 x8 x9 wr => ∃ (i : Nat) (base was : Int) (a : ASt), i ≤ lg.length ∧ x9 = .int .i64 i ∧ x7 = .int .i64 base ∧ x8 = .int .i64 was ∧ HoldRel hold base was a i ∧ Below V.heap.size V wr ∧ wr.heap[ga]? = some (.cells (armV gl hold a aS 1 cS) 78 (0, 0))) (fun _ _ x9 _ => (lg.length - intOf x9).toNat)
  case atStart => exact ⟨0, hold, 0, ⟨0, 0, 0, 0⟩, by omega, rfl, rfl, rfl, ⟨⟨Or.inl rfl, by decide, by decide, by decide, by decide, by decide, by decide⟩, rfl, (fun e => by cases e), by decide, by omega, by omega⟩, hbw2, hk_ga⟩
  case round =>
    clear hbw2 hk_ga
    obtain ⟨i, base, was, a, hi, rfl, rfl, rfl, hrl, hbw2, hk_ga⟩ := hrel
    by_cases hlt : i < lg.length
    · have hd : decide ((i : Int) < (lg.length : Int)) = true := decide_eq_true (by omega)
      obtain ⟨bg, og, rfl, heg⟩ := hgd.at (i := i) hlt
      obtain ⟨gd, hgdv⟩ : ∃ z, lg.getD i false = z := ⟨_, rfl⟩
      rw [hgdv] at heg
      have hs0 := hold_step0 hrl (by omega)
      have hs1 := hold_step1 hrl (by omega)
      obtain ⟨hao, hws, hbs, hsi, hb0, hb1⟩ := hrl
      have hdx := hidI (fun g W h hk hkk => hDx.out a g W hao h hk hkk)
      have hdo := hidI (fun g W h hk hkk => hDo.out a g W hao h hk hkk)
      have hb64 : ((i : Int) + 1) ≤ 9223372036854775807 := by omega
      have hwas : was = 0 ∨ was = 1 := by rw [hws]; exact hao.s
      replace hgdv := hidI hgdv
      replace hbs := hidI hbs
      replace hsi := hidI hsi
      cases gd
      · rcases hwas with rfl | rfl
        · rw [if_neg (by decide)] at hs1
          replace hws := hidI hws
          have ke := bl_cell hbw2 heg
          go_wp2_with fail
          have hk_g := blk_new wr (.cells #[.int .i64 4294967296] 3)
          have hbA := bl_alloc (Below.refl wr.heap.size wr) (.cells #[.int .i64 4294967296] 3)
          have hlt2 := blk_lt hk_ga
          replace hbw2 := bl_step hbw2 hbA
          replace hk_ga := bl_block hbA hk_ga
          generalize wr.alloc (.cells #[.int .i64 4294967296] 3) = wa at *
          generalize wr.heap.size = g at *
          clear hbA ke
          refine (hdx.out g wa hbw2 hk_ga hk_g).mono ?_
          rintro e wb ⟨rfl, hA, hk2⟩
          replace hbw2 := hA.b
          clear hk_g hA hk_ga
          go_upto_region 17 with fail
          have hk_c := blk_new wb (.cells #[.int .i64 2147483648, .int .i64 1, .int .i64 4] 73)
          have hbA := bl_alloc (Below.refl wb.heap.size wb) (.cells #[.int .i64 2147483648, .int .i64 1, .int .i64 4] 73)
          replace hbw2 := bl_step hbw2 hbA
          replace hk2 := bl_block hbA hk2
          generalize wb.alloc (.cells #[.int .i64 2147483648, .int .i64 1, .int .i64 4] 73) = wc at *
          generalize wb.heap.size = gc at *
          clear hbA hlt2
          have ke := bl_cell hbw2 heg
          have y1 : wc.cell? ⟨gc, 1, none⟩ = some (.int .i64 1) := blk_cell hk_c 1 (by rfl)
          have y2 : wc.cell? ⟨gc, 2, none⟩ = some (.int .i64 4) := blk_cell hk_c 2 (by rfl)
          go_wp2
          go_roundw
          case rel => exact ⟨i + 1, _, _, _, by omega, by go_num, rfl, rfl, hs1, hbw2, hk2⟩
          case measure => simp [intOf]; omega
        · rw [if_pos rfl] at hs1
          replace hws := hidI hws
          have ke := bl_cell hbw2 heg
          go_wp2_with fail
          have hk_g := blk_new wr (.cells #[.int .i64 4294967296] 3)
          have hbA := bl_alloc (Below.refl wr.heap.size wr) (.cells #[.int .i64 4294967296] 3)
          have hlt2 := blk_lt hk_ga
          replace hbw2 := bl_step hbw2 hbA
          replace hk_ga := bl_block hbA hk_ga
          generalize wr.alloc (.cells #[.int .i64 4294967296] 3) = wa at *
          generalize wr.heap.size = g at *
          clear hbA ke
          refine (hdx.out g wa hbw2 hk_ga hk_g).mono ?_
          rintro e wb ⟨rfl, hA, hk2⟩
          replace hbw2 := hA.b
          clear hk_g hA hk_ga
          go_upto_region 17 with fail
          have hk_c := blk_new wb (.cells #[.int .i64 2147483648, .int .i64 1, .int .i64 4] 73)
          have hbA := bl_alloc (Below.refl wb.heap.size wb) (.cells #[.int .i64 2147483648, .int .i64 1, .int .i64 4] 73)
          replace hbw2 := bl_step hbw2 hbA
          replace hk2 := bl_block hbA hk2
          generalize wb.alloc (.cells #[.int .i64 2147483648, .int .i64 1, .int .i64 4] 73) = wc at *
          generalize wb.heap.size = gc at *
          clear hbA hlt2
          have ke := bl_cell hbw2 heg
          have y1 : wc.cell? ⟨gc, 1, none⟩ = some (.int .i64 1) := blk_cell hk_c 1 (by rfl)
          have y2 : wc.cell? ⟨gc, 2, none⟩ = some (.int .i64 4) := blk_cell hk_c 2 (by rfl)
          go_wp2
          go_roundw
          case rel => exact ⟨i + 1, _, _, _, by omega, by go_num, rfl, rfl, hs1, hbw2, hk2⟩
          case measure => simp [intOf]; omega
      · rcases hwas with rfl | rfl
        · have hc : ¬ (a.src = 1 ∧ a.since < hold) := fun h => by have := h.1; omega
          simp only [if_neg hc, if_true] at hdo
          replace hws := hidI hws
          clear hc
          have ke := bl_cell hbw2 heg
          go_wp2_with fail
          have hk_g := blk_new wr (.cells #[.int .i64 4294967296] 3)
          have hbA := bl_alloc (Below.refl wr.heap.size wr) (.cells #[.int .i64 4294967296] 3)
          have hlt2 := blk_lt hk_ga
          replace hbw2 := bl_step hbw2 hbA
          replace hk_ga := bl_block hbA hk_ga
          generalize wr.alloc (.cells #[.int .i64 4294967296] 3) = wa at *
          generalize wr.heap.size = g at *
          clear hbA ke
          refine (hdo.out g wa hbw2 hk_ga hk_g).mono ?_
          rintro e wb ⟨rfl, hA, hk2⟩
          replace hbw2 := hA.b
          clear hk_g hA hk_ga
          go_upto_region 17 with fail
          have hk_c := blk_new wb (.cells #[.int .i64 4294967296, .int .i64 0, .int .i64 0] 73)
          have hbA := bl_alloc (Below.refl wb.heap.size wb) (.cells #[.int .i64 4294967296, .int .i64 0, .int .i64 0] 73)
          replace hbw2 := bl_step hbw2 hbA
          replace hk2 := bl_block hbA hk2
          generalize wb.alloc (.cells #[.int .i64 4294967296, .int .i64 0, .int .i64 0] 73) = wc at *
          generalize wb.heap.size = gc at *
          clear hbA hlt2
          have ke := bl_cell hbw2 heg
          have y1 : wc.cell? ⟨gc, 1, none⟩ = some (.int .i64 0) := blk_cell hk_c 1 (by rfl)
          have y2 : wc.cell? ⟨gc, 2, none⟩ = some (.int .i64 0) := blk_cell hk_c 2 (by rfl)
          go_wp2
          go_roundw
          case rel => exact ⟨i + 1, _, _, _, by omega, by go_num, rfl, rfl, hs0, hbw2, hk2⟩
          case measure => simp [intOf]; omega
        · have hsr : a.src = 1 := hws.symm
          have hbb := hbs.out hsr
          rw [if_pos rfl] at hs1
          by_cases hc1 : a.since < hold
          · have hc : a.src = 1 ∧ a.since < hold := ⟨hsr, hc1⟩
            simp only [if_pos hc, show ((43 : Int) = 0) = False by decide, if_false] at hdo
            have hlb : base < hold := by omega
            have dlb : decide (hold ≤ base) = false := decide_eq_false (by omega)
            replace hbb := hidI hbb
            replace hsr := hidI hsr
            replace hws := hidI hws
            have ke := bl_cell hbw2 heg
            go_wp2_with fail
            have hk_g := blk_new wr (.cells #[.int .i64 4294967296] 3)
            have hbA := bl_alloc (Below.refl wr.heap.size wr) (.cells #[.int .i64 4294967296] 3)
            have hlt2 := blk_lt hk_ga
            replace hbw2 := bl_step hbw2 hbA
            replace hk_ga := bl_block hbA hk_ga
            generalize wr.alloc (.cells #[.int .i64 4294967296] 3) = wa at *
            generalize wr.heap.size = g at *
            clear hbA ke
            refine (hdo.out g wa hbw2 hk_ga hk_g).mono ?_
            rintro e wb ⟨rfl, hA, hk2⟩
            replace hbw2 := hA.b
            clear hk_g hA hk_ga
            go_upto_region 17 with fail
            have hk_c := blk_new wb (.cells #[.int .i64 2147483648, .int .i64 1, .int .i64 43] 73)
            have hbA := bl_alloc (Below.refl wb.heap.size wb) (.cells #[.int .i64 2147483648, .int .i64 1, .int .i64 43] 73)
            replace hbw2 := bl_step hbw2 hbA
            replace hk2 := bl_block hbA hk2
            generalize wb.alloc (.cells #[.int .i64 2147483648, .int .i64 1, .int .i64 43] 73) = wc at *
            generalize wb.heap.size = gc at *
            clear hbA hlt2
            have ke := bl_cell hbw2 heg
            have y1 : wc.cell? ⟨gc, 1, none⟩ = some (.int .i64 1) := blk_cell hk_c 1 (by rfl)
            have y2 : wc.cell? ⟨gc, 2, none⟩ = some (.int .i64 43) := blk_cell hk_c 2 (by rfl)
            go_wp2
            go_roundw
            case rel => exact ⟨i + 1, _, _, _, by omega, by go_num, rfl, rfl, hs1, hbw2, hk2⟩
            case measure => simp [intOf]; omega
          · have hc : ¬ (a.src = 1 ∧ a.since < hold) := fun h => hc1 h.2
            simp only [if_neg hc, if_true] at hdo
            have hlb : hold ≤ base := by omega
            have dlb : decide (hold ≤ base) = true := decide_eq_true (by omega)
            replace hbb := hidI hbb
            replace hsr := hidI hsr
            replace hws := hidI hws
            have ke := bl_cell hbw2 heg
            go_wp2_with fail
            have hk_g := blk_new wr (.cells #[.int .i64 4294967296] 3)
            have hbA := bl_alloc (Below.refl wr.heap.size wr) (.cells #[.int .i64 4294967296] 3)
            have hlt2 := blk_lt hk_ga
            replace hbw2 := bl_step hbw2 hbA
            replace hk_ga := bl_block hbA hk_ga
            generalize wr.alloc (.cells #[.int .i64 4294967296] 3) = wa at *
            generalize wr.heap.size = g at *
            clear hbA ke
            refine (hdo.out g wa hbw2 hk_ga hk_g).mono ?_
            rintro e wb ⟨rfl, hA, hk2⟩
            replace hbw2 := hA.b
            clear hk_g hA hk_ga
            go_upto_region 17 with fail
            have hk_c := blk_new wb (.cells #[.int .i64 4294967296, .int .i64 0, .int .i64 0] 73)
            have hbA := bl_alloc (Below.refl wb.heap.size wb) (.cells #[.int .i64 4294967296, .int .i64 0, .int .i64 0] 73)
            replace hbw2 := bl_step hbw2 hbA
            replace hk2 := bl_block hbA hk2
            generalize wb.alloc (.cells #[.int .i64 4294967296, .int .i64 0, .int .i64 0] 73) = wc at *
            generalize wb.heap.size = gc at *
            clear hbA hlt2
            have ke := bl_cell hbw2 heg
            have y1 : wc.cell? ⟨gc, 1, none⟩ = some (.int .i64 0) := blk_cell hk_c 1 (by rfl)
            have y2 : wc.cell? ⟨gc, 2, none⟩ = some (.int .i64 0) := blk_cell hk_c 2 (by rfl)
            go_wp2
            go_roundw
            case rel => exact ⟨i + 1, _, _, _, by omega, by go_num, rfl, rfl, hs0, hbw2, hk2⟩
            case measure => simp [intOf]; omega
    · have hie : i = lg.length := by omega
      subst hie
      have hd : decide ((lg.length : Int) < (lg.length : Int)) = false := decide_eq_false (by omega)
      have hbw := bl_step hbw0 hbw2
      go_wp2_with fail
      refine (alive20_calls _).mono ?_
      rintro e wz ⟨rfl, hbz⟩
      replace hbw := bl_step hbw hbz
      subst hw0
      go_wp2
      go_ret
      exact ⟨rfl, hbw⟩
end Go.Proofs.Ythdaidmjjcmccaa
