/- Proved here: the plain statement of AdviseBest: no plan costs less than what the table says to do. Conditions: none beyond the statement. -/
import Derived.Test.YtjidbjmekpholaaAdQ
namespace Go.Proofs.Ytjidbjmekpholaa.Pure
open Go.RowKit Go.Pk Go.Pk.Ad Go.Proofs.Ytjidbjmekpholaa Go.Proofs.Ytjidbjmekpholaa.GA Go.Proofs.Ytjidbjmekpholaa.AdQ Go.Proofs.YtjidbjmekpholaaW.PrintWords Go.Proofs.YtjidbjmekpholaaW.PrintLast
theorem best_alive (x4 x5 : Int) (l : List Int) (a b c d : Int) (s : ByteArray) : ∃ k, picketlaw18_AdviseBest.j0 k x4 x5 l true a b c d s = some true := by
  obtain ⟨k, h⟩ := alive18
  exact ⟨k + 1, by simp only [picketlaw18_AdviseBest.j0]; rw [if_pos trivial, h]; rfl⟩
theorem AdviseBest : picketlaw18_AdviseBest.Pure := by
  intro a0 a1 a2 a3 a4 a5 l6 _ _ _ _ _ _ _ _ _
  by_cases hm : mayB a0 a1 a2 a3 = true
  · have hb := mayB_iff.1 hm
    unfold picketlaw18_AdviseBest.f
    rw [make_tbl _ _ _ _ hm]
    simp only [Option.bind_some, if_true]
    by_cases c1 : (l6.length : Int) > 70
    · obtain ⟨k, h⟩ := best_alive a4 a5 l6 a0 a1 a2 a3 (tbl a0 a2 a3 a1.toNat)
      exact ⟨k, by rw [if_pos c1]; exact h⟩
    simp only [if_neg c1]
    by_cases c2 : a0 > 30
    · obtain ⟨k, h⟩ := best_alive a4 a5 l6 a0 a1 a2 a3 (tbl a0 a2 a3 a1.toNat)
      exact ⟨k, by rw [if_pos c2]; exact h⟩
    simp only [if_neg c2]
    by_cases c3 : a1 > 30
    · obtain ⟨k, h⟩ := best_alive a4 a5 l6 a0 a1 a2 a3 (tbl a0 a2 a3 a1.toNat)
      exact ⟨k, by rw [decide_eq_true c3]; exact h⟩
    simp only [decide_eq_false c3]
    obtain ⟨T, rfl⟩ := Int.eq_ofNat_of_zero_le hb.2.2.1
    simp only [Int.toNat_natCast]
    obtain ⟨k, h⟩ := alive18
    refine ⟨k + 1, ?_⟩
    simp only [picketlaw18_AdviseBest.j0]
    rw [if_neg (by simp), h]
    simp only [Option.bind_some, if_true]
    have hst := stayI_rng (show 0 ≤ a0 by omega) a4
    rw [cost_nil a0 a2 a3 T hm a4 a5, cost_tbl a0 a2 a3 T hm a4 a5 l6]
    simp only [Option.bind_some]
    rw [if_pos (worth_le (by omega) _ _ _ hst.1 hst.2), ask_tbl a0 a2 a3 T (by omega) (by omega) (by omega)]
    simp only [Option.bind_some]
    rw [cost_tbl a0 a2 a3 T hm a4 a5]
    simp only [Option.bind_some, Option.some.injEq, beq_iff_eq]
    generalize hK : (min (max a5 0) (T : Int)).toNat = K
    have hKT : K ≤ T := by omega
    cases K with
    | zero => rfl
    | succ n =>
      rw [ofW_cost_succ _ _ _ hst.1 hst.2, ofW_worth_succ _ _ hst.1 hst.2, planF_tbl a0 a2 a3 T (by omega) (by omega) (by omega) _ hKT _ _ hKT _ hst.1 hst.2]
      rw [if_pos (by simp)]
      have e : costK a0 a2 a3 (planF a0 (tbl a0 a2 a3 T) (n + 1) [tabA a0 a2 a3 (n + 1) (stayI a4 a0)]) n = worthK a0 a2 a3 n := by
        apply cost_eq (by omega)
        intro m hm2 x h0 h1
        rw [planF_tbl a0 a2 a3 T (by omega) (by omega) (by omega) _ hKT _ _ (by omega) _ h0 h1, if_neg (by simp; omega)]
        unfold tabA
        rw [if_neg (by omega), Nat.add_sub_cancel]
      rw [e, show n + 1 - (n + 1) = 0 by omega]
      show doesA a0 a3 (worthK a0 a2 a3 n) (stayI a4 a0) (tabA a0 a2 a3 (n + 1) (stayI a4 a0)) = _
      unfold tabA
      rw [if_neg (by omega), Nat.add_sub_cancel, bestA_val]
  · unfold picketlaw18_AdviseBest.f
    rw [make_no _ _ _ _ hm]
    simp only [Option.bind_some]
    obtain ⟨k, h⟩ := best_alive a4 a5 l6 0 0 0 0 ⟨#[]⟩
    exact ⟨k, by rw [if_neg (by decide)]; exact h⟩
end Go.Proofs.Ytjidbjmekpholaa.Pure
