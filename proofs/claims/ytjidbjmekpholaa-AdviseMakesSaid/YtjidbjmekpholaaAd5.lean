/- Proved here: lemmas and contracts (what a function of the program computes) that the proofs of the laws of this seat lean on. Conditions: as each theorem states. -/
import Derived.Test.YtjidbjmekpholaaAd4
import Derived.Laws.BytesArg
set_option linter.unusedVariables false
set_option linter.unusedSimpArgs false
namespace Go.Proofs.Ytjidbjmekpholaa
open Go.RowKit Go.Pk Go.Pk.Ad Go.Proofs.YtjidbjmekpholaaW.PrintMore
attribute [local go_sem] max2_int min2_int max_two min_two
theorem adMake_no (a0 a1 a2 a3 : Int) (w : World) (hm : mayB a0 a1 a2 a3 = false) :
    Calls Try.prog 18 #[.int .i64 a0, .int .i64 a1, .int .i64 a2, .int .i64 a3] w fun e w' => e = .returned (.tuple #[.agg #[.int .i64 0, .int .i64 0, .int .i64 0, .int .i64 0, .string ⟨#[]⟩], .int .i64 1]) ∧ Below w.heap.size w w' := by
  have HM := hidI hm
  clear hm
  go_enter Try.func18, Try.ntmps18
  go_wp2_with fail
  refine (adMay_calls _ _ _ _ _).mono ?_
  rintro e w1 ⟨rfl, hw1⟩
  obtain rfl := hw1
  rw [HM.out]
  go_wp2
  refine bodyPost_ret (Go.Proofs.YtjidbjmekpholaaW.PrintWords.results_list (rs := [.cell 8 38, .tmp 9]) rfl (by simp) (.cell w.heap.size 38 #[.int .i64 0, .int .i64 0, .int .i64 0, .int .i64 0, .string ⟨#[]⟩] (0, 0) _ rfl (by (repeat (first | with_reducible assumption | with_reducible exact blk_new _ _ | with_reducible apply blk_drew | (with_reducible refine blk_newE ?_; (first | done | (simp; done))) | with_reducible apply blk_put2 | (with_reducible refine blk_far ?_ (by first | omega | (simp; done) | (simp; omega)) _) | with_reducible apply blk_alloc | (with_reducible refine bl_block (by assumption) ?_) | (with_reducible refine blk_grown ?_ (by assumption) (by assumption)) | (with_reducible refine blk_acc (by assumption) ?_ (by assumption))))) Try.underlying38 rfl (by kernel_rfl) (.tmp .nil))) rfl ?_
  exact ⟨rfl, (by (repeat (first | with_reducible exact Below.refl _ _ | with_reducible assumption | with_reducible apply bl_alloc | with_reducible apply bl_drew | with_reducible apply bl_drewN | (with_reducible refine bl_set ?_ (by first | omega | (simp; done) | (simp; omega)) _) | (with_reducible refine bl_step ?_ (by assumption)) | (with_reducible refine bl_grown ?_ (by assumption) (by assumption)) | (with_reducible refine bl_own ?_ (by assumption) (by assumption)))))⟩
set_option maxHeartbeats 2000000 in
set_option maxRecDepth 100000 in
theorem adMake_yes (high ticks near climb : Int) (w : World) (hg0 : 1 ≤ high) (hg1 : high ≤ 60) (ht0 : 0 ≤ ticks) (ht1 : ticks ≤ 60) (hn0 : 0 ≤ near) (hn1 : near ≤ high) (hm0 : 1 ≤ climb) (hm1 : climb ≤ 10) :
    Calls Try.prog 18 #[.int .i64 high, .int .i64 ticks, .int .i64 near, .int .i64 climb] w fun e w' => e = .returned (.tuple #[.agg #[.int .i64 high, .int .i64 ticks, .int .i64 near, .int .i64 climb, .string (strOfNums (bestK high near climb ticks.toNat))], .int .i64 0]) ∧ Below w.heap.size w w' := by
  have HM : Hid (mayB high ticks near climb = true) := mayB_iff.2 ⟨hg0, hg1, ht0, ht1, hn0, hn1, hm0, hm1⟩
  obtain ⟨T, hT⟩ := Int.eq_ofNat_of_zero_le ht0
  subst hT
  have hTt : ((T : Int)).toNat = T := Int.toNat_natCast T
  rw [hTt]
  clear hTt
  obtain ⟨N, hN⟩ : ∃ N, N = (2 * high + 1).toNat := ⟨_, rfl⟩
  have hN2 : (N : Int) ≤ 2 * high + 1 ∧ 2 * high + 1 ≤ (N : Int) := by omega
  have HN := hidI hN
  clear hN
  obtain ⟨ib, hib, hz0, hz1, hz2⟩ := info_parts adInfoB
  go_enter Try.func18, Try.ntmps18
  go_wp2_with fail
  refine (adMay_calls _ _ _ _ _).mono ?_
  rintro e w1 ⟨rfl, hw1⟩
  obtain rfl := hw1
  rw [HM.out]
  go_upto_region 3 with fail
  have hk0 := blk_new w (.cells #[.int .i64 0, .int .i64 0, .int .i64 0, .int .i64 0, .string ⟨#[]⟩] 38)
  have hbw := bl_alloc (Below.refl w.heap.size w) (.cells #[.int .i64 0, .int .i64 0, .int .i64 0, .int .i64 0, .string ⟨#[]⟩] 38)
  generalize w.alloc (.cells #[.int .i64 0, .int .i64 0, .int .i64 0, .int .i64 0, .string ⟨#[]⟩] 38) = W0 at *
  obtain ⟨g0, hg0'⟩ : ∃ g, g = w.heap.size := ⟨_, rfl⟩
  rw [← hg0'] at hk0 ⊢
  have hgw : w.heap.size ≤ g0 := Nat.le_of_eq hg0'.symm
  clear hg0'
  have hlt0 : g0 < W0.heap.size := blk_lt hk0
  have hle0 : w.heap.size ≤ W0.heap.size := hbw.size
  go_cut [10] (fun s10 wx => ∃ g, s10 = .pointer (some ⟨g, 0, none⟩) ∧ MkAt wx g W0.heap.size high climb (endW high near) (List.replicate N 0) ∧ Below w.heap.size w wx ∧ wx.heap[g0]? = some (.cells #[.int .i64 0, .int .i64 0, .int .i64 0, .int .i64 0, .string ⟨#[]⟩] 38 (0, 0)))
  case first =>
    have hmk : ∀ W : World, (Instr.makeSlice 35 (.int .i64 (2 * high + 1)) (.int .i64 (2 * high + 1))).run Try.prog W = .ok (.slice (some ⟨W.heap.size, 0, none⟩) N N) (W.alloc (.cells (madeCells #[.int .u8 0] N) 5)) := by
      intro W
      have h := run_make (P := Try.prog) W 35 5 ib (.int .u8 0) Try.underlying35 hib hz0 .i64 .i64 (2 * high + 1) (2 * high + 1) (by omega) (by omega) (by rw [hz2]; omega) (by omega)
      rw [h, hz1, ← HN.out]
      simp [Value.cells]
    have hw1 : IntKind.i64.wrap (2 * high) = 2 * high := IntWalk.i64_in _ (by omega)
    have hw2 : IntKind.i64.wrap (2 * high + 1) = 2 * high + 1 := IntWalk.i64_in _ (by omega)
    go_region_with (first | (go_at_call 40; refine (adEnd_calls _ _ _ _ hg0 hg1 hn0 (by omega) (by omega) (by omega)).mono ?_; rintro e w2 ⟨v, rfl, ho, hb1⟩))
    · have ho1 := own_alloc (own_alloc ho (.cells (madeCells #[.int .u8 0] N) 5)) (.cells #[.int .i64 high, .int .i64 climb, v, .slice (some ⟨w2.heap.size, 0, none⟩) N N] 76)
      have hs := hb1.size
      simp at hs
      have hs0 := hbw.size
      have hm := blk_alloc (blk_new w2 (.cells (madeCells #[.int .u8 0] N) 5)) (.cells #[.int .i64 high, .int .i64 climb, v, .slice (some ⟨w2.heap.size, 0, none⟩) N N] 76)
      have hbF : Below w.heap.size w w2 := (by (repeat (first | with_reducible exact Below.refl _ _ | with_reducible assumption | with_reducible apply bl_alloc | with_reducible apply bl_drew | with_reducible apply bl_drewN | (with_reducible refine bl_set ?_ (by first | omega | (simp; done) | (simp; omega)) _) | (with_reducible refine bl_step ?_ (by assumption)) | (with_reducible refine bl_grown ?_ (by assumption) (by assumption)) | (with_reducible refine bl_own ?_ (by assumption) (by assumption)))))
      have hkF := bl_block hb1 (blk_drew hk0)
      go_wp2
      go_meet
      refine ⟨_, rfl, ⟨v, .slice (some ⟨w2.heap.size, 0, none⟩) N N, by simpa using blk_new (w2.alloc (.cells (madeCells #[.int .u8 0] N) 5)) _, ?_, ?_, by omega, by simp; omega⟩, bl_alloc (bl_alloc hbF _) _, blk_alloc (blk_alloc hkF _) _⟩
      · rw [(endW_good high near).1]
        exact own_lower ho1 (by first | omega | (simp; done) | (simp; omega))
      · have := own_made _ (base := W0.heap.size) hm (by omega) (show N ≤ maxLen by unfold maxLen; omega)
        simpa [encB] using this
    · have ho1 := own_alloc ho (.cells #[.int .i64 high, .int .i64 climb, v, .slice (some ⟨W0.heap.size, 0, none⟩) N N] 76)
      have hs := hb1.size
      simp at hs
      have hs0 := hbw.size
      have hm := blk_alloc (bl_block hb1 (blk_drew (blk_new W0 (.cells (madeCells #[.int .u8 0] N) 5)))) (.cells #[.int .i64 high, .int .i64 climb, v, .slice (some ⟨W0.heap.size, 0, none⟩) N N] 76)
      have hbF : Below w.heap.size w w2 := (by (repeat (first | with_reducible exact Below.refl _ _ | with_reducible assumption | with_reducible apply bl_alloc | with_reducible apply bl_drew | with_reducible apply bl_drewN | (with_reducible refine bl_set ?_ (by first | omega | (simp; done) | (simp; omega)) _) | (with_reducible refine bl_step ?_ (by assumption)) | (with_reducible refine bl_grown ?_ (by assumption) (by assumption)) | (with_reducible refine bl_own ?_ (by assumption) (by assumption)))))
      have hkF := bl_block hb1 (blk_drew (blk_alloc hk0 _))
      go_wp2
      go_meet
      refine ⟨_, rfl, ⟨v, .slice (some ⟨W0.heap.size, 0, none⟩) N N, by simpa using blk_new w2 _, ?_, ?_, by omega, by simp; omega⟩, bl_alloc hbF _, blk_alloc hkF _⟩
      · rw [(endW_good high near).1]
        exact own_lower ho1 (by first | omega | (simp; done) | (simp; omega))
      · have := own_made _ (base := W0.heap.size) hm (by omega) (show N ≤ maxLen by unfold maxLen; omega)
        simpa [encB] using this
  case rest =>
    clear hbw hk0
    obtain ⟨g, rfl, hM, hbw, hk0⟩ := hcut
    rw [HN.out] at hM
    go_wp2
    go_loopw [29] (fun i wr => ∃ k : Nat, k ≤ T ∧ i = .int .i64 k ∧ MkAt wr g W0.heap.size high climb (worthK high near climb k) (bestK high near climb k) ∧ Below w.heap.size w wr ∧ wr.heap[g0]? = some (.cells #[.int .i64 0, .int .i64 0, .int .i64 0, .int .i64 0, .string ⟨#[]⟩] 38 (0, 0))) (fun i _ => T - (intOf i).toNat)
    case atStart => exact ⟨0, by omega, rfl, hM, hbw, hk0⟩
    case round =>
      clear hM hbw hk0
      obtain ⟨k, hk, rfl, hM, hbw, hk0⟩ := hrel
      by_cases hlt : k < T
      · have hlen := bestK_length high near climb k
        have hk60 : k ≤ 59 := by omega
        have hN121 : (2 * high + 1).toNat ≤ 121 := by omega
        have hlen2 : (bestK high near climb k).length ≤ 1000000 := by
          rw [hlen]
          have h1 : (k + 1) * (2 * high + 1).toNat ≤ 60 * 121 := Nat.mul_le_mul (by omega) hN121
          omega
        go_wp2_with fail
        refine (adTick_calls g W0.heap.size high climb _ _ _ _ hM (worthK_good high near climb k) (by omega) (by omega) hg0 hg1 hm0 hm1 hlen2).mono ?_
        rintro e w3 ⟨rfl, hM3, hb3⟩
        have hk3 := (hb3.block g0 hlt0).trans hk0
        go_wp2
        go_roundw
        case rel => exact ⟨k + 1, by omega, by go_num, hM3, hbw.trans (hb3.mono hle0), hk3⟩
        case measure => simp [intOf]; omega
      · have hkT : k = T := by omega
        subst hkT
        obtain ⟨vw, vb, hx, how, hob, hB0g, hB0⟩ := hM
        have hob2 := hob
        obtain ⟨A1, c1, rfl, -⟩ := own_reads hob2
        have m3 := blkc hx 3
        simp at m3
        have hcv : (convert 35 9 (.slice A1 (bestK high near climb k).length c1)).run Try.prog wr = .ok (.string (strOfNums (bestK high near climb k))) wr := Go.Proofs.YtjidbjmekpholaaW.PrintWords.own_string Try.underlying35 Try.underlying5 Try.underlying9 hob
        have y0 := blkc hk0 0
        have y1 := blkc hk0 1
        have y2 := blkc hk0 2
        have y3 := blkc hk0 3
        have y4 := blkc hk0 4
        simp at y0 y1 y2 y3 y4
        have z0 := blkf hk0 0
        have z1 := blkf hk0 1
        have z2 := blkf hk0 2
        have z3 := blkf hk0 3
        have z4 := blkf hk0 4
        obtain ⟨S, hS⟩ : ∃ S, Hid (strOfNums (bestK high near climb k) = S) := ⟨_, rfl⟩
        rw [hS.out] at hcv
        go_wp2
        have hF := blk_set (blk_set (blk_set (blk_set (blk_set hk0 0 (.int .i64 high)) 1 (.int .i64 k)) 2 (.int .i64 near)) 3 (.int .i64 climb)) 4 (.string S)
        refine bodyPost_ret (Go.Proofs.YtjidbjmekpholaaW.PrintWords.results_list (rs := [.cell 8 38, .tmp 9]) rfl (by simp) (.cell g0 38 #[.int .i64 high, .int .i64 k, .int .i64 near, .int .i64 climb, .string S] (0, 0) _ rfl (by simpa using hF) Try.underlying38 rfl (by kernel_rfl) (.tmp .nil))) rfl ?_
        exact ⟨by rw [hS.out]; rfl, bl_set (bl_set (bl_set (bl_set (bl_set hbw (p := ⟨g0, 0, none⟩) hgw _) (p := ⟨g0, 1, none⟩) hgw _) (p := ⟨g0, 2, none⟩) hgw _) (p := ⟨g0, 3, none⟩) hgw _) (p := ⟨g0, 4, none⟩) hgw _⟩
end Go.Proofs.Ytjidbjmekpholaa
