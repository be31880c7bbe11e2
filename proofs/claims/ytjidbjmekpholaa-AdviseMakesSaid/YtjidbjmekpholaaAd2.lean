/- Proved here: lemmas and contracts (what a function of the program computes) that the proofs of the laws of this seat lean on. Conditions: as each theorem states. -/
import Derived.Test.YtjidbjmekpholaaAd
set_option linter.unusedVariables false
set_option linter.unusedSimpArgs false
namespace Go.Pk.Ad
def maxTo (high : Int) (W : List Int) (m : Int) : Nat → Int
  | 0 => 0
  | n + 1 => max (maxTo high W m n) (ofW high W (stayI (m + ((n : Int) - 1)) high))
theorem maxTo_3 (high : Int) (W : List Int) (m : Int) : maxTo high W m 3 = worstA high W m := by
  unfold worstA
  simp only [maxTo]
  rfl
theorem maxTo_rng {high b : Int} {W : List Int} (hW : GoodW high W b) (hb : 0 ≤ b) (m : Int) : ∀ n, 0 ≤ maxTo high W m n ∧ maxTo high W m n ≤ b
  | 0 => ⟨Int.le_refl _, hb⟩
  | n + 1 => by
    have := maxTo_rng hW hb m n
    have h2 := ofW_rng hW hb (stayI (m + ((n : Int) - 1)) high)
    simp only [maxTo]; omega
end Go.Pk.Ad
namespace Go.Proofs.Ytjidbjmekpholaa
open Go.RowKit Go.Pk Go.Pk.Ad Go.Proofs.YtjidbjmekpholaaW.PrintMore
attribute [local go_sem] max2_int min2_int max_two min_two
set_option maxHeartbeats 1000000 in
theorem adDoes_calls (g : Nat) (high climb h d b : Int) (W : List Int) (w : World) (hB : BehAt w g high climb W) (hW : GoodW high W b) (hb : 0 ≤ b) (hb2 : b ≤ 1000000) (hg0 : 1 ≤ high) (hg1 : high ≤ 60) (hm0 : 1 ≤ climb) (hm1 : climb ≤ 10) (hh0 : -high ≤ h) (hh1 : h ≤ high) :
    Calls Try.prog 53 #[.pointer (some ⟨g, 0, none⟩), .int .i64 h, .int .i64 d] w fun e w' => e = .returned (.int .i64 (doesA high climb W h d)) ∧ Below w.heap.size w w' := by
  have hby : -10 ≤ byA climb d ∧ byA climb d ≤ 10 := by unfold byA; split <;> (try split) <;> omega
  have hlen := hW.1
  obtain ⟨y, hy⟩ : ∃ y, y = byA climb d := ⟨_, rfl⟩
  obtain ⟨m, hm⟩ : ∃ m, m = stayI (h + y) high := ⟨_, rfl⟩
  have hm2 := stayI_rng (show 0 ≤ high by omega) (h + y)
  rw [← hm] at hm2
  have hres : Hid (doesA high climb W h d = maxTo high W m 3 + if y = 0 then 0 else 1) := by unfold Hid doesA; rw [maxTo_3, ← hy, ← hm]
  rw [← hy] at hby
  have HY := hidI hy
  have HM := hidI hm
  clear hy hm
  go_enter Try.func53, Try.ntmps53
  go_wp2
  go_loopw [7, 8] (fun v i wr => ∃ n : Nat, n ≤ 3 ∧ i = .int .i64 ((n : Int) - 1) ∧ v = .int .i64 (maxTo high W m n) ∧ Below w.heap.size w wr) (fun _ i _ => (2 - intOf i).toNat)
  case atStart => exact ⟨0, by omega, rfl, rfl, (by (repeat (first | with_reducible exact Below.refl _ _ | with_reducible assumption | with_reducible apply bl_alloc | with_reducible apply bl_drew | with_reducible apply bl_drewN | (with_reducible refine bl_set ?_ (by first | omega | (simp; done) | (simp; omega)) _) | (with_reducible refine bl_step ?_ (by assumption)) | (with_reducible refine bl_grown ?_ (by assumption) (by assumption)) | (with_reducible refine bl_own ?_ (by assumption) (by assumption)))))⟩
  case round =>
    obtain ⟨n, hn, rfl, rfl, hbw⟩ := hrel
    have hmr := maxTo_rng hW hb m n
    by_cases hlt : n < 3
    · have hst := stayI_rng (show 0 ≤ high by omega) (m + ((n : Int) - 1))
      have hnx : Hid (maxTo high W m (n + 1) = Go.Proofs.YtjidbjmekpholaaW.PrintWords.mx (maxTo high W m n) (ofW high W (stayI (m + ((n : Int) - 1)) high))) := by unfold Hid Go.Proofs.YtjidbjmekpholaaW.PrintWords.mx; simp only [maxTo]; omega
      have hlt2 : decide ((n : Int) - 1 ≤ 1) = true := decide_eq_true (by omega)
      generalize hs : stayI (m + ((n : Int) - 1)) high = st at hst hnx
      replace hs := hidI hs
      generalize hmx : maxTo high W m n = mv at *
      replace hmx := hidI hmx
      go_wp2_with fail
      refine (adBy_calls g high climb d W _ (hB.below hbw) (by omega) (by omega)).mono ?_
      rintro e w1 ⟨rfl, hb1⟩
      rw [← HY.out]
      replace hbw := bl_step hbw hb1
      clear hb1
      go_wp2_with fail
      refine (adMove_calls g high climb h y W _ (hB.below hbw) (by omega) (by omega) (by omega) (by omega) (by omega) (by omega)).mono ?_
      rintro e w2 ⟨rfl, hb1⟩
      rw [← HM.out]
      replace hbw := bl_step hbw hb1
      clear hb1 w1
      go_wp2_with fail
      refine (adMove_calls g high climb m ((n : Int) - 1) W _ (hB.below hbw) (by omega) (by omega) (by omega) (by omega) (by omega) (by omega)).mono ?_
      rintro e w3 ⟨rfl, hb1⟩
      rw [hs.out]
      replace hbw := bl_step hbw hb1
      clear hb1 w2
      go_wp2_with fail
      refine (adOf_calls g high climb st W _ (hB.below hbw) (by omega) (by omega) (by omega) (by omega) (by omega) (by omega)).mono ?_
      rintro e w4 ⟨rfl, hb1⟩
      replace hbw := bl_step hbw hb1
      clear hb1 w3
      go_wp2
      go_roundw
      case rel => exact ⟨n + 1, by omega, by go_num, by rw [hnx.out]; rfl, hbw⟩
      case measure => simp [intOf]; omega
    · have hn3 : n = 3 := by omega
      subst hn3
      generalize maxTo high W m 3 = mv at *
      by_cases hy0 : y = 0
      · have hy1 : (y != 0) = false := by simp [hy0]
        rw [if_pos hy0] at hres
        go_wp2_with fail
        refine (adBy_calls g high climb d W _ (hB.below hbw) (by omega) (by omega)).mono ?_
        rintro e w1 ⟨rfl, hb1⟩
        rw [← HY.out]
        replace hbw := bl_step hbw hb1
        go_wp2
        go_ret
        exact ⟨by rw [hres.out, Int.add_zero]; rfl, hbw⟩
      · have hy1 : (y != 0) = true := by simp [hy0]
        rw [if_neg hy0] at hres
        go_wp2_with fail
        refine (adBy_calls g high climb d W _ (hB.below hbw) (by omega) (by omega)).mono ?_
        rintro e w1 ⟨rfl, hb1⟩
        rw [← HY.out]
        replace hbw := bl_step hbw hb1
        go_wp2
        go_ret
        exact ⟨by rw [hres.out]; rfl, hbw⟩
set_option maxHeartbeats 1000000 in
theorem adBest_calls (g : Nat) (high climb h b : Int) (W : List Int) (w : World) (hB : BehAt w g high climb W) (hW : GoodW high W b) (hb : 0 ≤ b) (hb2 : b ≤ 1000000) (hg0 : 1 ≤ high) (hg1 : high ≤ 60) (hm0 : 1 ≤ climb) (hm1 : climb ≤ 10) (hh0 : -high ≤ h) (hh1 : h ≤ high) :
    Calls Try.prog 64 #[.pointer (some ⟨g, 0, none⟩), .int .i64 h] w fun e w' => e = .returned (.tuple #[.int .i64 (bestA high climb W h).1, .int .i64 (bestA high climb W h).2]) ∧ Below w.heap.size w w' := by
  have r0 := doesA_rng (climb := climb) hW hb h 0
  have r1 := doesA_rng (climb := climb) hW hb h 1
  have r2 := doesA_rng (climb := climb) hW hb h 2
  have hres : Hid (bestA high climb W h = pickA (pickA (0, doesA high climb W h 0) 1 (doesA high climb W h 1)) 2 (doesA high climb W h 2)) := rfl
  generalize hd0 : doesA high climb W h 0 = d0 at *
  generalize hd1 : doesA high climb W h 1 = d1 at *
  generalize hd2 : doesA high climb W h 2 = d2 at *
  replace hd0 := hidI hd0
  replace hd1 := hidI hd1
  replace hd2 := hidI hd2
  go_enter Try.func64, Try.ntmps64
  go_wp2_with fail
  refine (adDoes_calls g high climb h 0 b W _ (hB.below (by (repeat (first | with_reducible exact Below.refl _ _ | with_reducible assumption | with_reducible apply bl_alloc | with_reducible apply bl_drew | with_reducible apply bl_drewN | (with_reducible refine bl_set ?_ (by first | omega | (simp; done) | (simp; omega)) _) | (with_reducible refine bl_step ?_ (by assumption)) | (with_reducible refine bl_grown ?_ (by assumption) (by assumption)) | (with_reducible refine bl_own ?_ (by assumption) (by assumption)))))) hW hb hb2 hg0 hg1 hm0 hm1 hh0 hh1).mono ?_
  rintro e w1 ⟨rfl, hb1⟩
  rw [hd0.out]
  have hbw : Below w.heap.size w w1 := (by (repeat (first | with_reducible exact Below.refl _ _ | with_reducible assumption | with_reducible apply bl_alloc | with_reducible apply bl_drew | with_reducible apply bl_drewN | (with_reducible refine bl_set ?_ (by first | omega | (simp; done) | (simp; omega)) _) | (with_reducible refine bl_step ?_ (by assumption)) | (with_reducible refine bl_grown ?_ (by assumption) (by assumption)) | (with_reducible refine bl_own ?_ (by assumption) (by assumption)))))
  clear hb1
  go_wp2
  have hk := blk_new w1 (.cells #[.int .i64 1, .int .i64 2] 3)
  replace hbw := bl_alloc hbw (.cells #[.int .i64 1, .int .i64 2] 3)
  generalize w1.alloc (.cells #[.int .i64 1, .int .i64 2] 3) = W1 at *
  generalize w1.heap.size = ga at *
  go_loopw [6, 7, 9, 10, 16] (fun a v p q i wr => ∃ n : Nat, n ≤ 2 ∧ i = .int .i64 n ∧ (∃ s : Int × Int, a = .int .i64 s.1 ∧ v = .int .i64 s.2 ∧ s = (if n = 0 then (0, d0) else if n = 1 then pickA (0, d0) 1 d1 else pickA (pickA (0, d0) 1 d1) 2 d2)) ∧ Below w.heap.size w wr ∧ wr.heap[ga]? = some (.cells #[.int .i64 1, .int .i64 2] 3 (0, 0))) (fun _ _ _ _ i _ => (2 - intOf i).toNat)
  case atStart => exact ⟨0, by omega, rfl, ⟨(0, d0), rfl, rfl, rfl⟩, hbw, hk⟩
  case round =>
    obtain ⟨n, hn, rfl, ⟨s, rfl, rfl, hs⟩, hbw, hk⟩ := hrel
    have m0 := blk_two hk
    by_cases h2 : n = 2
    · subst h2
      replace hs := hidI hs
      go_wp2
      go_ret2
      have hs' := hs.out
      exact ⟨by rw [hres.out, ← show s = pickA (pickA (0, d0) 1 d1) 2 d2 from hs']; rfl, hbw⟩
    · by_cases h1 : n = 0
      · subst h1
        simp only [if_true] at hs
        subst hs
        by_cases hlt : d1 < d0
        · have hp : Hid (pickA (0, d0) 1 d1 = (1, d1)) := by unfold Hid pickA; rw [if_pos hlt]
          go_wp2_with fail
          refine (adDoes_calls g high climb h 1 b W _ (hB.below hbw) hW hb hb2 hg0 hg1 hm0 hm1 hh0 hh1).mono ?_
          rintro e w2 ⟨rfl, hb1⟩
          rw [hd1.out]
          replace hbw := bl_step hbw hb1
          replace hk := bl_block hb1 hk
          clear hb1 m0
          go_wp2
          go_roundw
          case rel => exact ⟨1, by omega, by go_num, ⟨(1, d1), rfl, rfl, by simp [hp.out]⟩, hbw, hk⟩
          case measure => simp [intOf]
        · have hp : Hid (pickA (0, d0) 1 d1 = (0, d0)) := by unfold Hid pickA; rw [if_neg hlt]
          go_wp2_with fail
          refine (adDoes_calls g high climb h 1 b W _ (hB.below hbw) hW hb hb2 hg0 hg1 hm0 hm1 hh0 hh1).mono ?_
          rintro e w2 ⟨rfl, hb1⟩
          rw [hd1.out]
          replace hbw := bl_step hbw hb1
          replace hk := bl_block hb1 hk
          clear hb1 m0
          go_wp2
          go_roundw
          case rel => exact ⟨1, by omega, by go_num, ⟨(0, d0), rfl, rfl, by simp [hp.out]⟩, hbw, hk⟩
          case measure => simp [intOf]
      · obtain rfl : n = 1 := by omega
        replace hs : s = pickA (0, d0) 1 d1 := by simpa using hs
        obtain ⟨s1, s2⟩ := s
        replace hs := hidI hs
        simp only []
        by_cases hlt : d2 < s2
        · have hp : Hid (pickA (pickA (0, d0) 1 d1) 2 d2 = (2, d2)) := by rw [← hs.out]; unfold Hid pickA; rw [if_pos hlt]
          go_wp2_with fail
          refine (adDoes_calls g high climb h 2 b W _ (hB.below hbw) hW hb hb2 hg0 hg1 hm0 hm1 hh0 hh1).mono ?_
          rintro e w2 ⟨rfl, hb1⟩
          rw [hd2.out]
          replace hbw := bl_step hbw hb1
          replace hk := bl_block hb1 hk
          clear hb1 m0
          go_wp2
          go_roundw
          case rel => exact ⟨2, by omega, by go_num, ⟨(2, d2), rfl, rfl, by simp [hp.out]⟩, hbw, hk⟩
          case measure => simp [intOf]
        · have hp : Hid (pickA (pickA (0, d0) 1 d1) 2 d2 = (s1, s2)) := by rw [← hs.out]; unfold Hid pickA; rw [if_neg hlt]
          go_wp2_with fail
          refine (adDoes_calls g high climb h 2 b W _ (hB.below hbw) hW hb hb2 hg0 hg1 hm0 hm1 hh0 hh1).mono ?_
          rintro e w2 ⟨rfl, hb1⟩
          rw [hd2.out]
          replace hbw := bl_step hbw hb1
          replace hk := bl_block hb1 hk
          clear hb1 m0
          go_wp2
          go_roundw
          case rel => exact ⟨2, by omega, by go_num, ⟨(s1, s2), rfl, rfl, by simp [hp.out]⟩, hbw, hk⟩
          case measure => simp [intOf]
end Go.Proofs.Ytjidbjmekpholaa
