/- Proved here: lemmas and contracts (what a function of the program computes) that the proofs of the laws of this seat lean on. Conditions: as each theorem states. -/
import Derived.Test.YtjidbjmekpholaaChecked
import Derived.Test.YtjidbjmekpholaaA1
import Derived.Test.YtjidbjmekpholaaAdM
import Derived.Test.YtjidbjmekpholaaWMoreX
import Derived.Test.YtjidbjmekpholaaWWords
import Derived.Laws.MakeOwn
import Derived.Outline
set_option linter.unusedVariables false
set_option linter.unusedSimpArgs false
namespace Go.Pk.Ad
open Go.RowKit Go.Pk
theorem hidI {p : Prop} (h : p) : Hid p := h
/-- What knows the worth of each height: its cells, and the list. -/
def BehAt (w : World) (g : Nat) (high climb : Int) (W : List Int) : Prop := ∃ A c, w.cell? ⟨g, 0, none⟩ = some (.int .i64 high) ∧ w.cell? ⟨g, 1, none⟩ = some (.int .i64 climb) ∧ w.cell? ⟨g, 2, none⟩ = some (.slice A W.length c) ∧ RdI w A W
theorem BehAt.below {w w1 : World} {g : Nat} {high climb : Int} {W : List Int} (h : BehAt w g high climb W) (hb : Below w.heap.size w w1) : BehAt w1 g high climb W := by
  obtain ⟨A, c, h0, h1, h2, hl⟩ := h
  exact ⟨A, c, bl_cell hb h0, bl_cell hb h1, bl_cell hb h2, hl.below hb⟩
end Go.Pk.Ad
namespace Go.Proofs.Ytjidbjmekpholaa
open Go.RowKit Go.Pk Go.Pk.Ad Go.Proofs.YtjidbjmekpholaaW.PrintMore
attribute [local go_sem] max2_int min2_int max_two min_two

theorem adMay1_calls (n a b : Int) (w : World) : Calls Try.prog 63 #[.int .i64 n, .int .i64 a, .int .i64 b] w fun e w' => e = .returned (.bool (decide (a ≤ n) && decide (n ≤ b))) ∧ w' = w := by
  by_cases h1 : a ≤ n
  · simp only [h1, decide_true, Bool.true_and]
    go_enter Try.func63, Try.ntmps63
    go_wp2
    go_ret
    exact ⟨rfl, rfl⟩
  · have h2 : decide (a ≤ n) = false := decide_eq_false h1
    simp only [h1, decide_false, Bool.false_and]
    go_enter Try.func63, Try.ntmps63
    go_wp2
    go_ret
    exact ⟨rfl, rfl⟩
set_option maxHeartbeats 2000000 in
theorem adMay_calls (a0 a1 a2 a3 : Int) (w : World) : Calls Try.prog 39 #[.int .i64 a0, .int .i64 a1, .int .i64 a2, .int .i64 a3] w fun e w' => e = .returned (.bool (mayB a0 a1 a2 a3)) ∧ w' = w := by
  have d : mayB a0 a1 a2 a3 = (((decide (1 ≤ a0) && decide (a0 ≤ 60)) && (decide (0 ≤ a1) && decide (a1 ≤ 60))) && (decide (0 ≤ a2) && decide (a2 ≤ a0)) && (decide (1 ≤ a3) && decide (a3 ≤ 10))) := rfl
  rw [d]; clear d
  obtain ⟨b1, h1⟩ : ∃ b, Hid ((decide (1 ≤ a0) && decide (a0 ≤ 60)) = b) := ⟨_, rfl⟩
  obtain ⟨b2, h2⟩ : ∃ b, Hid ((decide (0 ≤ a1) && decide (a1 ≤ 60)) = b) := ⟨_, rfl⟩
  obtain ⟨b3, h3⟩ : ∃ b, Hid ((decide (0 ≤ a2) && decide (a2 ≤ a0)) = b) := ⟨_, rfl⟩
  obtain ⟨b4, h4⟩ : ∃ b, Hid ((decide (1 ≤ a3) && decide (a3 ≤ 10)) = b) := ⟨_, rfl⟩
  rw [h1.out, h2.out, h3.out, h4.out]
  cases b1
  · simp only [Bool.false_and]
    go_enter Try.func39, Try.ntmps39
    go_wp2_with fail
    refine (adMay1_calls _ _ _ _).mono ?_
    rintro e w1 ⟨rfl, hw1⟩
    obtain rfl := hw1
    rw [h1.out]
    go_wp2
    go_ret
    exact ⟨rfl, rfl⟩
  cases b2
  · simp only [Bool.false_and, Bool.true_and]
    go_enter Try.func39, Try.ntmps39
    go_wp2_with fail
    refine (adMay1_calls _ _ _ _).mono ?_
    rintro e w1 ⟨rfl, hw1⟩
    obtain rfl := hw1
    rw [h1.out]
    go_wp2_with fail
    refine (adMay1_calls _ _ _ _).mono ?_
    rintro e w1 ⟨rfl, hw1⟩
    obtain rfl := hw1
    rw [h2.out]
    go_wp2
    go_ret
    exact ⟨rfl, rfl⟩
  cases b3
  · simp only [Bool.false_and, Bool.true_and]
    go_enter Try.func39, Try.ntmps39
    go_wp2_with fail
    refine (adMay1_calls _ _ _ _).mono ?_
    rintro e w1 ⟨rfl, hw1⟩
    obtain rfl := hw1
    rw [h1.out]
    go_wp2_with fail
    refine (adMay1_calls _ _ _ _).mono ?_
    rintro e w1 ⟨rfl, hw1⟩
    obtain rfl := hw1
    rw [h2.out]
    go_wp2_with fail
    refine (adMay1_calls _ _ _ _).mono ?_
    rintro e w1 ⟨rfl, hw1⟩
    obtain rfl := hw1
    rw [h3.out]
    go_wp2
    go_ret
    exact ⟨rfl, rfl⟩
  · simp only [Bool.true_and]
    go_enter Try.func39, Try.ntmps39
    go_wp2_with fail
    refine (adMay1_calls _ _ _ _).mono ?_
    rintro e w1 ⟨rfl, hw1⟩
    obtain rfl := hw1
    rw [h1.out]
    go_wp2_with fail
    refine (adMay1_calls _ _ _ _).mono ?_
    rintro e w1 ⟨rfl, hw1⟩
    obtain rfl := hw1
    rw [h2.out]
    go_wp2_with fail
    refine (adMay1_calls _ _ _ _).mono ?_
    rintro e w1 ⟨rfl, hw1⟩
    obtain rfl := hw1
    rw [h3.out]
    go_wp2_with fail
    refine (adMay1_calls _ _ _ _).mono ?_
    rintro e w1 ⟨rfl, hw1⟩
    obtain rfl := hw1
    rw [h4.out]
    go_wp2
    go_ret
    exact ⟨rfl, rfl⟩
theorem adOf_calls (g : Nat) (high climb h : Int) (W : List Int) (w : World) (hB : BehAt w g high climb W) (h0 : 0 ≤ high + h) (h1 : high + h < W.length) (hb0 : -1000 ≤ high) (hb1 : high ≤ 1000) (hh0 : -1000 ≤ h) (hh1 : h ≤ 1000) :
    Calls Try.prog 54 #[.pointer (some ⟨g, 0, none⟩), .int .i64 h] w fun e w' => e = .returned (.int .i64 (ofW high W h)) ∧ Below w.heap.size w w' := by
  obtain ⟨A, c, hc0, hc1, hc2, hl⟩ := hB
  have hu : Hid (ofW high W h = W.getD (high + h).toNat 0) := rfl
  obtain ⟨n, hn⟩ := Int.eq_ofNat_of_zero_le h0
  have hnl : n < W.length := by omega
  obtain ⟨b, off, rfl, hc⟩ := hl.at hnl
  have hu2 : Hid (ofW high W h = W.getD n 0) := by rw [hu.out, hn]; rfl
  clear hu
  have hlen := hl.1
  generalize W.getD n 0 = x at hc hu2
  have hs1 : IntKind.i64.wrap (high + h) = (n : Int) := by rw [IntWalk.i64_in _ (by omega)]; exact hn
  go_enter Try.func54, Try.ntmps54
  go_wp2
  go_quiet (fail)
  go_wp2
  go_ret
  exact ⟨by rw [hu2.out]; rfl, (by (repeat (first | with_reducible exact Below.refl _ _ | with_reducible assumption | with_reducible apply bl_alloc | with_reducible apply bl_drew | with_reducible apply bl_drewN | (with_reducible refine bl_set ?_ (by first | omega | (simp; done) | (simp; omega)) _) | (with_reducible refine bl_step ?_ (by assumption)) | (with_reducible refine bl_grown ?_ (by assumption) (by assumption)) | (with_reducible refine bl_own ?_ (by assumption) (by assumption)))))⟩
theorem adMove_calls (g : Nat) (high climb h d : Int) (W : List Int) (w : World) (hB : BehAt w g high climb W) (hb0 : 0 ≤ high) (hb1 : high ≤ 1000) (hh0 : -100000 ≤ h) (hh1 : h ≤ 100000) (hd0 : -100000 ≤ d) (hd1 : d ≤ 100000) :
    Calls Try.prog 66 #[.pointer (some ⟨g, 0, none⟩), .int .i64 h, .int .i64 d] w fun e w' => e = .returned (.int .i64 (stayI (h + d) high)) ∧ Below w.heap.size w w' := by
  obtain ⟨A, c, hc0, hc1, hc2, hl⟩ := hB
  have hs1 : IntKind.i64.wrap (h + d) = h + d := IntWalk.i64_in _ (by omega)
  have hs2 : IntKind.i64.wrap (-high) = -high := IntWalk.i64_in _ (by omega)
  go_enter Try.func66, Try.ntmps66
  go_wp2
  go_quiet (fail)
  go_wp2
  all_goals
    go_ret
    refine ⟨?_, (by (repeat (first | with_reducible exact Below.refl _ _ | with_reducible assumption | with_reducible apply bl_alloc | with_reducible apply bl_drew | with_reducible apply bl_drewN | (with_reducible refine bl_set ?_ (by first | omega | (simp; done) | (simp; omega)) _) | (with_reducible refine bl_step ?_ (by assumption)) | (with_reducible refine bl_grown ?_ (by assumption) (by assumption)) | (with_reducible refine bl_own ?_ (by assumption) (by assumption)))))⟩
    show Ending.returned (.int .i64 _) = Ending.returned (.int .i64 _)
    congr 2
    unfold stayI
    first | omega | (split at * <;> omega)
theorem adBy_calls (g : Nat) (high climb d : Int) (W : List Int) (w : World) (hB : BehAt w g high climb W) (hb0 : 0 ≤ climb) (hb1 : climb ≤ 1000) :
    Calls Try.prog 67 #[.pointer (some ⟨g, 0, none⟩), .int .i64 d] w fun e w' => e = .returned (.int .i64 (byA climb d)) ∧ Below w.heap.size w w' := by
  obtain ⟨A, c, hc0, hc1, hc2, hl⟩ := hB
  have u : byA climb d = if d = 1 then climb else if d = 2 then -climb else 0 := rfl
  by_cases h1 : d = 1
  · subst h1
    rw [u, if_pos rfl]; clear u
    go_enter Try.func67, Try.ntmps67
    go_wp2
    go_ret
    exact ⟨rfl, (by (repeat (first | with_reducible exact Below.refl _ _ | with_reducible assumption | with_reducible apply bl_alloc | with_reducible apply bl_drew | with_reducible apply bl_drewN | (with_reducible refine bl_set ?_ (by first | omega | (simp; done) | (simp; omega)) _) | (with_reducible refine bl_step ?_ (by assumption)) | (with_reducible refine bl_grown ?_ (by assumption) (by assumption)) | (with_reducible refine bl_own ?_ (by assumption) (by assumption)))))⟩
  · have h1' : ((d : Int) == 1) = false := beq_eq_false_iff_ne.2 h1
    rw [u, if_neg h1]; clear u
    by_cases h2 : d = 2
    · subst h2
      rw [if_pos rfl]
      go_enter Try.func67, Try.ntmps67
      go_wp2
      go_ret
      exact ⟨rfl, (by (repeat (first | with_reducible exact Below.refl _ _ | with_reducible assumption | with_reducible apply bl_alloc | with_reducible apply bl_drew | with_reducible apply bl_drewN | (with_reducible refine bl_set ?_ (by first | omega | (simp; done) | (simp; omega)) _) | (with_reducible refine bl_step ?_ (by assumption)) | (with_reducible refine bl_grown ?_ (by assumption) (by assumption)) | (with_reducible refine bl_own ?_ (by assumption) (by assumption)))))⟩
    · have h2' : ((d : Int) == 2) = false := beq_eq_false_iff_ne.2 h2
      rw [if_neg h2]
      go_enter Try.func67, Try.ntmps67
      go_wp2
      go_ret
      exact ⟨rfl, (by (repeat (first | with_reducible exact Below.refl _ _ | with_reducible assumption | with_reducible apply bl_alloc | with_reducible apply bl_drew | with_reducible apply bl_drewN | (with_reducible refine bl_set ?_ (by first | omega | (simp; done) | (simp; omega)) _) | (with_reducible refine bl_step ?_ (by assumption)) | (with_reducible refine bl_grown ?_ (by assumption) (by assumption)) | (with_reducible refine bl_own ?_ (by assumption) (by assumption)))))⟩
end Go.Proofs.Ytjidbjmekpholaa
