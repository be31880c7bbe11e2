/- Proved here: lemmas and contracts (what a function of the program computes) that the proofs of the laws of this seat lean on. Conditions: as each theorem states. -/
import Derived.Test.YtljkhfookegmaaaLaw2f
import Derived.Test.YtljkhfookegmaaaLin
set_option linter.unusedVariables false
set_option linter.unusedSimpArgs false
namespace Go.Proofs.Ytljkhfookegmaaa
open Go.RowKit Go.Pk
theorem ovI_rng {z : Int} (h : ovI z = false) : -9223372036854775808 ≤ z ∧ z ≤ 9223372036854775807 := by unfold ovI at h; simp at h; omega
theorem ovI_ok {z : Int} (h : -9223372036854775808 ≤ z) (k : z ≤ 9223372036854775807) : ovI z = false := by unfold ovI; simp; omega
theorem clampTo_in (x : Int) {lo hi : Int} (h : ¬ hi < lo) : lo ≤ clampTo x lo hi ∧ clampTo x lo hi ≤ hi := by unfold clampTo; (repeat' split) <;> omega
theorem gu_lo {a u b : Int} (h : a ≤ u) (k : u ≤ b) (v : Int) (up : Bool) : min (fmul a v up) (fmul b v up) ≤ fmul u v up := by
  by_cases hv : 0 ≤ v
  · have := gw_mono h hv up; omega
  · have := gw_anti k (show v ≤ 0 by omega) up; omega
theorem gu_hi {a u b : Int} (h : a ≤ u) (k : u ≤ b) (v : Int) (up : Bool) : fmul u v up ≤ max (fmul a v up) (fmul b v up) := by
  by_cases hv : 0 ≤ v
  · have := gw_mono k hv up; omega
  · have := gw_anti h (show v ≤ 0 by omega) up; omega
theorem fmul_ft (a b : Int) : fmul a b false ≤ fmul a b true := by
  unfold fmul
  simp only [Bool.false_eq_true, if_false, if_true]
  generalize a * b = z
  omega
theorem hold_plus {xl xh yl yh u v : Int} (h0 : xl ≤ u) (h1 : u ≤ xh) (k0 : yl ≤ v) (k1 : v ≤ yh) (ho : (ovI (plusLo [⟨xl, xh⟩, ⟨yl, yh⟩]) || ovI (plusHi [⟨xl, xh⟩, ⟨yl, yh⟩])) = false) :
    hasS ⟨clampI (plusLo [⟨xl, xh⟩, ⟨yl, yh⟩]), clampI (plusHi [⟨xl, xh⟩, ⟨yl, yh⟩])⟩ (clampI (sumI [u, v])) = true ∧ ovI (sumI [u, v]) = false := by
  rw [Bool.or_eq_false_iff] at ho
  have a := ovI_rng ho.1
  have b := ovI_rng ho.2
  have e1 : plusLo [⟨xl, xh⟩, ⟨yl, yh⟩] = 0 + xl + yl := rfl
  have e2 : plusHi [⟨xl, xh⟩, ⟨yl, yh⟩] = 0 + xh + yh := rfl
  have e3 : sumI [u, v] = 0 + u + v := rfl
  rw [e1] at a ⊢
  rw [e2] at b ⊢
  rw [e3]
  refine ⟨?_, ovI_ok (by omega) (by omega)⟩
  rw [has_iff]
  exact ⟨gw_clamp (by omega), gw_clamp (by omega)⟩
theorem hold_minus {xl xh yl yh u v : Int} (h0 : xl ≤ u) (h1 : u ≤ xh) (k0 : yl ≤ v) (k1 : v ≤ yh) (ho : (ovI (xl - yh) || ovI (xh - yl)) = false) :
    hasS ⟨clampI (xl - yh), clampI (xh - yl)⟩ (clampI (u - v)) = true ∧ ovI (u - v) = false := by
  rw [Bool.or_eq_false_iff] at ho
  have a := ovI_rng ho.1
  have b := ovI_rng ho.2
  refine ⟨?_, ovI_ok (by omega) (by omega)⟩
  rw [has_iff]
  exact ⟨gw_clamp (by omega), gw_clamp (by omega)⟩
theorem hold_times {xl xh c u : Int} (h0 : xl ≤ u) (h1 : u ≤ xh) (ho : ovP [xl, xh] [c] = false) (up : Bool) :
    hasS ⟨minL (prodL [xl, xh] [c] false), maxL (prodL [xl, xh] [c] true)⟩ (clampI (fmul u c up)) = true ∧ ovI (fmul u c up) = false := by
  simp only [ovP, List.any_cons, List.any_nil, Bool.or_false, Bool.or_eq_false_iff] at ho
  obtain ⟨⟨o1, o2⟩, o3, o4⟩ := ho
  replace o1 := ovI_rng o1
  replace o2 := ovI_rng o2
  replace o3 := ovI_rng o3
  replace o4 := ovI_rng o4
  have a1 := gu_lo h0 h1 c false
  have a2 := gu_lo h0 h1 c true
  have a3 := gu_hi h0 h1 c false
  have a4 := gu_hi h0 h1 c true
  have a5 := fmul_ft u c
  rw [has_iff, pr21_lo, pr21_hi, clampI_id o1.1 o1.2, clampI_id o2.1 o2.2, clampI_id o3.1 o3.2, clampI_id o4.1 o4.2]
  cases up
  · rw [clampI_id (by omega) (by omega)]
    exact ⟨⟨by simp only []; omega, by simp only []; omega⟩, ovI_ok (by omega) (by omega)⟩
  · rw [clampI_id (by omega) (by omega)]
    exact ⟨⟨by simp only []; omega, by simp only []; omega⟩, ovI_ok (by omega) (by omega)⟩
theorem hold_cross {xl xh yl yh u v : Int} (h0 : xl ≤ u) (h1 : u ≤ xh) (k0 : yl ≤ v) (k1 : v ≤ yh) (ho : ovP [xl, xh] [yl, yh] = false) (up : Bool) :
    hasS ⟨minL (prodL [xl, xh] [yl, yh] false), maxL (prodL [xl, xh] [yl, yh] true)⟩ (clampI (fmul u v up)) = true ∧ ovI (fmul u v up) = false := by
  simp only [ovP, List.any_cons, List.any_nil, Bool.or_false, Bool.or_eq_false_iff] at ho
  obtain ⟨⟨⟨o1, o2⟩, o3, o4⟩, ⟨o5, o6⟩, o7, o8⟩ := ho
  replace o1 := ovI_rng o1
  replace o2 := ovI_rng o2
  replace o3 := ovI_rng o3
  replace o4 := ovI_rng o4
  replace o5 := ovI_rng o5
  replace o6 := ovI_rng o6
  replace o7 := ovI_rng o7
  replace o8 := ovI_rng o8
  have key : ∀ up, min (min (fmul xl yl up) (fmul xl yh up)) (min (fmul xh yl up) (fmul xh yh up)) ≤ fmul u v up ∧ fmul u v up ≤ max (max (fmul xl yl up) (fmul xl yh up)) (max (fmul xh yl up) (fmul xh yh up)) := by
    intro up
    have a1 := gu_lo h0 h1 v up
    have a2 := gu_hi h0 h1 v up
    have b1 := gu_lo k0 k1 xl up
    have b2 := gu_hi k0 k1 xl up
    have b3 := gu_lo k0 k1 xh up
    have b4 := gu_hi k0 k1 xh up
    rw [gw_comm v xl, gw_comm yl xl, gw_comm yh xl] at b1 b2
    rw [gw_comm v xh, gw_comm yl xh, gw_comm yh xh] at b3 b4
    omega
  have c1 := key false
  have c2 := key true
  have a5 := fmul_ft u v
  rw [has_iff, pr22_lo, pr22_hi, clampI_id o1.1 o1.2, clampI_id o2.1 o2.2, clampI_id o3.1 o3.2, clampI_id o4.1 o4.2, clampI_id o5.1 o5.2, clampI_id o6.1 o6.2, clampI_id o7.1 o7.2, clampI_id o8.1 o8.2]
  cases up
  · rw [clampI_id (by omega) (by omega)]
    exact ⟨⟨by simp only []; omega, by simp only []; omega⟩, ovI_ok (by omega) (by omega)⟩
  · rw [clampI_id (by omega) (by omega)]
    exact ⟨⟨by simp only []; omega, by simp only []; omega⟩, ovI_ok (by omega) (by omega)⟩
end Go.Proofs.Ytljkhfookegmaaa
