/- Proved here: lemmas and contracts (what a function of the program computes) that the proofs of the laws of this seat lean on. Conditions: as each theorem states. -/
import Derived.Test.YtjidbjmekpholaaAdG
set_option linter.unusedVariables false
set_option linter.unusedSimpArgs false
namespace Go.Proofs.Ytjidbjmekpholaa.AdY
open Go.RowKit Go.Pk Go.Pk.Ad Go.Proofs.Ytjidbjmekpholaa.GD Go.Proofs.Ytjidbjmekpholaa.AdW Go.Proofs.YtjidbjmekpholaaW.PrintMore
open Go.Proofs.YtjidbjmekpholaaW.PrintWords (bt bt_at results_list ReadsInt)
theorem reads_of_A {w : World} {A : Option Addr} {l : List Int} (h : RdA w A l) : ReadsInt w .i64 A l.length l := by
  refine ⟨rfl, h.1, fun hn => ?_⟩
  obtain ⟨ad, e, h0⟩ := h.at hn
  refine ⟨ad, e, fun j hj => ?_⟩
  obtain ⟨ad2, e2, h2⟩ := h.at hj
  rw [e] at e2
  injection e2 with e2
  subst e2
  exact h2
theorem reads_to_A {w : World} {A : Option Addr} {n : Nat} {l : List Int} (h : ReadsInt w .i64 A n l) : RdA w A l := by
  have h1 := h.1
  refine ⟨by rw [h1]; exact h.2.1, fun i hi => ?_⟩
  obtain ⟨ad, e, hc⟩ := h.2.2 (by omega)
  exact ⟨ad, e, hc i (by omega)⟩
attribute [local go_sem] max2_int min2_int max_two min_two
theorem RdA.pre {w : World} {A : Option Addr} {l : List Int} {x : Int} (h : RdA w A (l ++ [x])) : RdA w A l :=
  ⟨by have := h.1; simp at this; omega, fun i hi => by
    obtain ⟨ad, e, hc⟩ := h.2 i (by simp; omega)
    exact ⟨ad, e, by rw [hc]; simp [List.getD_eq_getElem?_getD, List.getElem?_append_left hi]⟩⟩
theorem kd_of_RdA {w : World} {A : Option Addr} {l : List Int} (h : RdA w A l) : Go.Proofs.YtjidbjmekpholaaW.PrintWords.Kd.C (Go.Proofs.YtjidbjmekpholaaW.PrintWords.Kd.int .i64) w A l.length l :=
  Go.Proofs.YtjidbjmekpholaaW.PrintWords.Kd.C_of_reads (d := (0 : Int)) (h1 := fun _ => rfl) (reads_of_A h)
/-- What both say of bytes. -/
theorem get_both (sb : ByteArray) : ∃ x1 x2 x3 x4 x5 xe, (∀ w, Calls Try.prog 22 #[.string sb] w fun e w' => e = .returned (TabV x1 x2 x3 x4 x5 xe) ∧ Below w.heap.size w w') ∧
    ∀ w, Calls Try.prog 23 #[.string sb] w fun e w' => e = .returned (TabV x1 x2 x3 x4 x5 xe) ∧ Below w.heap.size w w' := by
  by_cases hs : (sb.size : Int) = 9
  · obtain ⟨Km, hm⟩ := make_ends (bt sb 0) (bt sb 1) (bt sb 2) (bt sb 3)
    replace hm := hm Km (Nat.le_refl _)
    simp only [] at hm
    have hma : advise_Make.f (bt sb 0) (bt sb 1) (bt sb 2) (bt sb 3) = some (if mayB (bt sb 0) (bt sb 1) (bt sb 2) (bt sb 3) = true then (bt sb 0, bt sb 1, bt sb 2, bt sb 3, strOfNums (bestK (bt sb 0) (bt sb 2) (bt sb 3) (bt sb 1).toNat), 0) else (0, 0, 0, 0, (⟨#[]⟩ : ByteArray), 1)) := by
      unfold advise_Make.f; split <;> rfl
    have hsz : mayB (bt sb 0) (bt sb 1) (bt sb 2) (bt sb 3) = true → (strOfNums (bestK (bt sb 0) (bt sb 2) (bt sb 3) (bt sb 1).toNat)).size ≤ 4611686018427387000 := by
      intro h
      have hb := mayB_iff.1 h
      obtain ⟨T, hT⟩ := Int.eq_ofNat_of_zero_le (show 0 ≤ bt sb 1 by omega)
      have := AdZ.tbl_size (bt sb 0) (bt sb 2) (bt sb 3) T (by omega)
      unfold AdZ.tbl at this
      rw [hT, Int.toNat_natCast]
      have hp := prodB (show 0 ≤ (T : Int) + 1 by omega) (show (T : Int) + 1 ≤ 61 by omega) (show 0 ≤ 2 * bt sb 0 + 1 by omega) (show 2 * bt sb 0 + 1 ≤ 121 by omega)
      omega
    obtain ⟨r1, r2, r3, r4, r5, r6, hr, hz⟩ : ∃ r1 r2 r3 r4 r5 r6, (if mayB (bt sb 0) (bt sb 1) (bt sb 2) (bt sb 3) = true then (bt sb 0, bt sb 1, bt sb 2, bt sb 3, strOfNums (bestK (bt sb 0) (bt sb 2) (bt sb 3) (bt sb 1).toNat), 0) else (0, 0, 0, 0, (⟨#[]⟩ : ByteArray), (1 : Int))) = (r1, r2, r3, r4, r5, r6) ∧ r5.size ≤ 4611686018427387000 := by
      by_cases h : mayB (bt sb 0) (bt sb 1) (bt sb 2) (bt sb 3) = true
      · exact ⟨_, _, _, _, _, _, if_pos h, hsz h⟩
      · exact ⟨_, _, _, _, _, _, if_neg h, by decide⟩
    rw [hr] at hm hma
    obtain ⟨⟨p, q⟩, ⟨K1, e1⟩, ⟨K2, e2⟩⟩ := putAny r1 r2 r3 r4 r5 hz
    replace e1 := e1 K1 (Nat.le_refl _)
    replace e2 := e2 K2 (Nat.le_refl _)
    simp only [] at e1 e2
    by_cases hf : r6 = 0 ∧ p.toList = sb.toList
    · exact ⟨r1, r2, r3, r4, r5, 0, fun w => advGet_long K1 sb p r1 r2 r3 r4 r6 q r5 w (by omega) hma (fun _ => e1) _ (fun _ _ => rfl) (fun h => absurd hf.2 (h hf.1)),
        fun w => refGet_long Km K2 sb p r1 r2 r3 r4 r6 q r5 w (by omega) hm (fun _ => e2) _ (fun _ _ => rfl) (fun h => absurd hf.2 (h hf.1))⟩
    · exact ⟨0, 0, 0, 0, ⟨#[]⟩, 4, fun w => advGet_long K1 sb p r1 r2 r3 r4 r6 q r5 w (by omega) hma (fun _ => e1) _ (fun a b => absurd ⟨a, b⟩ hf) (fun _ => rfl),
        fun w => refGet_long Km K2 sb p r1 r2 r3 r4 r6 q r5 w (by omega) hm (fun _ => e2) _ (fun a b => absurd ⟨a, b⟩ hf) (fun _ => rfl)⟩
  · exact ⟨0, 0, 0, 0, ⟨#[]⟩, 4, fun w => advGet_short sb w hs, fun w => refGet_short sb w hs⟩
end Go.Proofs.Ytjidbjmekpholaa.AdY
