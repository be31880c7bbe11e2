/- Proved here: the plain statement of AdviseFar: who is too far away to come near is told nothing, and pays nothing. Conditions: none beyond the statement. -/
import Derived.Test.YtjidbjmekpholaaAdQ
namespace Go.Proofs.Ytjidbjmekpholaa.Pure
open Go.RowKit Go.Pk Go.Pk.Ad Go.Proofs.Ytjidbjmekpholaa Go.Proofs.Ytjidbjmekpholaa.GA Go.Proofs.Ytjidbjmekpholaa.AdQ Go.Proofs.YtjidbjmekpholaaW.PrintWords Go.Proofs.YtjidbjmekpholaaW.PrintLast
theorem far_alive (x1 x4 : Int) (a b c d : Int) (s : ByteArray) : ∃ k, picketlaw18_AdviseFar.j0 k x1 x4 true a b c d s = some true := by
  obtain ⟨k, h⟩ := alive18
  exact ⟨k + 1, by simp only [picketlaw18_AdviseFar.j0]; rw [if_pos trivial, h]; rfl⟩
theorem far_loop (high near climb : Int) (T : Nat) (x : Int) (hm : mayB high T near climb = true) (hx1 : x ≤ high) (hx2 : near + T ≤ x) : ∀ (d : Nat) (n : Nat), n + d = T + 1 → ∃ k, picketlaw18_AdviseFar.l0 k T x n high T near climb (tbl high near climb T) = some true
  | 0, n, hn => by
    obtain ⟨k, h⟩ := alive18
    refine ⟨k + 1, ?_⟩
    simp only [picketlaw18_AdviseFar.l0]
    rw [if_neg (by omega), h]
    rfl
  | d + 1, n, hn => by
    have hb := mayB_iff.1 hm
    obtain ⟨k, h⟩ := far_loop high near climb T x hm hx1 hx2 d (n + 1) (by omega)
    refine ⟨k + 1, ?_⟩
    have e1 : stayI x high = x := by unfold stayI; omega
    have e2 : stayI (-x) high = -x := by unfold stayI; omega
    have e3 : (min (max (n : Int) 0) (T : Int)).toNat = n := by omega
    have t1 : tabA high near climb n x = 0 := by
      unfold tabA
      split
      · rfl
      · exact best_far (by omega) (n - 1) x (by omega) hx1 (by omega) (by omega)
    have t2 : tabA high near climb n (-x) = 0 := by
      unfold tabA
      split
      · rfl
      · exact best_far (by omega) (n - 1) (-x) (by omega) (by omega) (by omega) (by omega)
    have t3 : ofW high (worthK high near climb n) x = 0 := worth_far (by omega) n x (by omega) hx1 (by omega) (by omega)
    simp only [picketlaw18_AdviseFar.l0]
    rw [if_pos (by omega), ask_tbl high near climb T (by omega) (by omega) (by omega), e1, e3, t1]
    simp only [Option.bind_some, if_true]
    rw [w64 (n := -x) (by omega) (by omega), ask_tbl high near climb T (by omega) (by omega) (by omega), e2, e3, t2]
    simp only [Option.bind_some, if_true]
    rw [cost_nil high near climb T hm, e1, e3, t3]
    simp only [Option.bind_some, if_true]
    rw [w64 (by omega) (by omega)]
    exact h
theorem AdviseFar : picketlaw18_AdviseFar.Pure := by
  intro a0 a1 a2 a3 a4 _ _ _ _ _
  by_cases hm : mayB a0 a1 a2 a3 = true
  · have hb := mayB_iff.1 hm
    obtain ⟨T, rfl⟩ := Int.eq_ofNat_of_zero_le hb.2.2.1
    unfold picketlaw18_AdviseFar.f
    rw [make_tbl _ _ _ _ hm, Int.toNat_natCast]
    simp only [Option.bind_some, if_true]
    obtain ⟨k, h⟩ := far_alive T a4 a0 T a2 a3 (tbl a0 a2 a3 T)
    by_cases c1 : a0 > 60
    · exact ⟨k, by rw [if_pos c1]; exact h⟩
    simp only [if_neg c1]
    by_cases c2 : a4 > a0
    · exact ⟨k, by rw [if_pos c2]; exact h⟩
    have hw : wrap64 (a2 + T) = a2 + T := w64 (by omega) (by omega)
    simp only [if_neg c2, hw]
    by_cases c3 : a4 < a2 + T
    · exact ⟨k, by rw [if_pos c3]; exact h⟩
    simp only [if_neg c3]
    by_cases c4 : a2 = 0
    · exact ⟨k, by rw [show (a2 == 0) = true by simp [c4]]; exact h⟩
    have h4 : (a2 == 0) = false := by simp [c4]
    simp only [h4]
    obtain ⟨k2, h2⟩ := far_loop a0 a2 a3 T a4 hm (by omega) (by omega) (T + 1) 0 (by omega)
    refine ⟨k2 + 1, ?_⟩
    simp only [picketlaw18_AdviseFar.j0]
    rw [if_neg (by simp)]
    exact h2
  · unfold picketlaw18_AdviseFar.f
    rw [make_no _ _ _ _ hm]
    simp only [Option.bind_some]
    obtain ⟨k, h⟩ := far_alive a1 a4 0 0 0 0 ⟨#[]⟩
    exact ⟨k, by rw [if_neg (by decide)]; exact h⟩
end Go.Proofs.Ytjidbjmekpholaa.Pure
