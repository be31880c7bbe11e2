/- Proved here: lemmas and contracts (what a function of the program computes) that the proofs of the laws of this seat lean on. Conditions: as each theorem states. -/
import Derived.Test.YtjidbjmekpholaaAd5
set_option linter.unusedVariables false
set_option linter.unusedSimpArgs false
namespace Go.Pk.Ad
open Go.RowKit
theorem prodB {a b A B : Int} (ha : 0 ≤ a) (hA : a ≤ A) (hb : 0 ≤ b) (hB : b ≤ B) : 0 ≤ a * b ∧ a * b ≤ A * B :=
  ⟨Int.mul_nonneg ha hb, Int.mul_le_mul hA hB hb (Int.le_trans ha hA)⟩
theorem w64 {n : Int} (h0 : -9223372036854775808 ≤ n) (h1 : n ≤ 9223372036854775807) : wrap64 n = n := by unfold wrap64; omega
/-- A slice of whole numbers that is read, wherever it lies. -/
def RdA (w : World) (A : Option Addr) (l : List Int) : Prop := l.length ≤ 9223372036854775807 ∧ ∀ i, i < l.length → ∃ ad, A = some ad ∧ w.cell? (ad.add i) = some (.int .i64 (l.getD i 0))
theorem RdA.below {w w1 : World} {A : Option Addr} {l : List Int} (h : RdA w A l) (hb : Below w.heap.size w w1) : RdA w1 A l := ⟨h.1, fun i hi => by
  obtain ⟨ad, e, hc⟩ := h.2 i hi
  exact ⟨ad, e, bl_cell hb hc⟩⟩
theorem RdA.at {w : World} {A : Option Addr} {l : List Int} (h : RdA w A l) {i : Nat} (hi : i < l.length) : ∃ ad, A = some ad ∧ w.cell? (ad.add i) = some (.int .i64 (l.getD i 0)) := h.2 i hi
end Go.Pk.Ad
namespace Go.Proofs.YtjidbjmekpholaaW.PrintWords
open Go.Pk Go.Pk.Ad
theorem RdA_of_C {w : World} {A : Option Addr} {l : List Int} (h : Kd.C (Kd.int .i64) w A l.length l) : RdA w A l := by
  refine ⟨h.2.1, fun i hi => ?_⟩
  obtain ⟨ad, e, hc⟩ := h.2.2 (by omega)
  obtain ⟨c, hs, hr, hcell⟩ := hc i (l.getD i 0) (by rw [List.getD_eq_getElem?_getD, List.getElem?_eq_getElem hi]; rfl)
  have hr' : c = [.int .i64 (l.getD i 0)] := hr
  subst hr'
  refine ⟨ad, e, ?_⟩
  have := hcell 0 _ rfl
  simpa [Kd.int, Kd.scalar] using this
end Go.Proofs.YtjidbjmekpholaaW.PrintWords
namespace Go.Proofs.Ytjidbjmekpholaa
open Go.RowKit Go.Pk Go.Pk.Ad Go.Proofs.YtjidbjmekpholaaW.PrintMore
attribute [local go_sem] max2_int min2_int max_two min_two
theorem adLong_calls (high ticks near climb : Int) (S : ByteArray) (w : World) (hg0 : 1 ≤ high) (hg1 : high ≤ 60) (ht0 : 0 ≤ ticks) (ht1 : ticks ≤ 60) :
    Calls Try.prog 50 #[.agg #[.int .i64 high, .int .i64 ticks, .int .i64 near, .int .i64 climb, .string S]] w fun e w' => e = .returned (.bool ((S.size : Int) == (ticks + 1) * (2 * high + 1))) ∧ Below w.heap.size w w' := by
  have hp := prodB (show 0 ≤ ticks + 1 by omega) (show ticks + 1 ≤ 61 by omega) (show 0 ≤ 2 * high + 1 by omega) (show 2 * high + 1 ≤ 121 by omega)
  have hw1 : IntKind.i64.wrap ((ticks + 1) * (2 * high + 1)) = (ticks + 1) * (2 * high + 1) := IntWalk.i64_in _ (by omega)
  have hw2 : wrap64 ((ticks + 1) * (2 * high + 1)) = (ticks + 1) * (2 * high + 1) := w64 (by omega) (by omega)
  have hu : Hid (((S.size : Int) == (ticks + 1) * (2 * high + 1)) = ((S.size : Int) == (ticks + 1) * (2 * high + 1))) := rfl
  go_enter Try.func50, Try.ntmps50
  go_wp2
  go_ret
  exact ⟨rfl, (by (repeat (first | with_reducible exact Below.refl _ _ | with_reducible assumption | with_reducible apply bl_alloc | with_reducible apply bl_drew | with_reducible apply bl_drewN | (with_reducible refine bl_set ?_ (by first | omega | (simp; done) | (simp; omega)) _) | (with_reducible refine bl_step ?_ (by assumption)) | (with_reducible refine bl_grown ?_ (by assumption) (by assumption)) | (with_reducible refine bl_own ?_ (by assumption) (by assumption)))))⟩
theorem adAsk_calls (high ticks near climb h left : Int) (S : ByteArray) (n : Nat) (w : World) (hg0 : 1 ≤ high) (hg1 : high ≤ 60) (ht0 : 0 ≤ ticks) (ht1 : ticks ≤ 60) (hl : ((S.size : Int) == (ticks + 1) * (2 * high + 1)) = true) (hh0 : -high ≤ h) (hh1 : h ≤ high) (hl0 : 0 ≤ left) (hl1 : left ≤ ticks) (hn : left * (2 * high + 1) + high + h = (n : Int)) (hnS : n < S.size) :
    Calls Try.prog 24 #[.agg #[.int .i64 high, .int .i64 ticks, .int .i64 near, .int .i64 climb, .string S], .int .i64 h, .int .i64 left] w fun e w' => e = .returned (.int .i64 (S[n].toNat : Int)) ∧ Below w.heap.size w w' := by
  have HL := hidI hl
  clear hl
  have hp := prodB hl0 (show left ≤ 60 by omega) (show 0 ≤ 2 * high + 1 by omega) (show 2 * high + 1 ≤ 121 by omega)
  have HN := hidI hn
  go_enter Try.func24, Try.ntmps24
  go_wp2_with fail
  refine (adLong_calls high ticks near climb S _ hg0 hg1 ht0 ht1).mono ?_
  rintro e w1 ⟨rfl, hb1⟩
  rw [HL.out]
  have hk : w1.heap[w.heap.size]? = some (.cells #[.int .i64 high, .int .i64 ticks, .int .i64 near, .int .i64 climb, .string S] 38 (0, 0)) := bl_block hb1 (blk_new _ _)
  have hbw : Below w.heap.size w w1 := (by (repeat (first | with_reducible exact Below.refl _ _ | with_reducible assumption | with_reducible apply bl_alloc | with_reducible apply bl_drew | with_reducible apply bl_drewN | (with_reducible refine bl_set ?_ (by first | omega | (simp; done) | (simp; omega)) _) | (with_reducible refine bl_step ?_ (by assumption)) | (with_reducible refine bl_grown ?_ (by assumption) (by assumption)) | (with_reducible refine bl_own ?_ (by assumption) (by assumption)))))
  clear hb1 hn
  have c0 := blkc hk 0
  have c1 := blkc hk 1
  have c4 := blkc hk 4
  simp at c0 c1 c4
  have hs1 : IntKind.i64.wrap (-high) = -high := IntWalk.i64_in _ (by omega)
  have q1 : decide (h < -high) = false := decide_eq_false (by omega)
  have q2 : decide (high < h) = false := decide_eq_false (by omega)
  have q3 : decide (left < 0) = false := decide_eq_false (by omega)
  have q4 : decide (ticks < left) = false := decide_eq_false (by omega)
  go_upto_region 3 with fail
  go_quiet (fail)
  clear q1 q2 q3 q4
  have hw1 : wrap64 (left * (2 * high + 1)) = left * (2 * high + 1) := w64 (by omega) (by omega)
  have hw2 : wrap64 (left * (2 * high + 1) + high) = left * (2 * high + 1) + high := w64 (by omega) (by omega)
  have hw3 : wrap64 (left * (2 * high + 1) + high + h) = (n : Int) := by rw [w64 (by omega) (by omega)]; exact HN.out
  have hw4 : IntKind.i64.wrap (left * (2 * high + 1)) = left * (2 * high + 1) := IntWalk.i64_in _ (by omega)
  have hw5 : IntKind.i64.wrap (left * (2 * high + 1) + high) = left * (2 * high + 1) + high := IntWalk.i64_in _ (by omega)
  have hw6 : IntKind.i64.wrap (left * (2 * high + 1) + high + h) = (n : Int) := by rw [IntWalk.i64_in _ (by omega)]; exact HN.out
  go_wp2
  go_ret
  refine ⟨?_, (by (repeat (first | with_reducible exact Below.refl _ _ | with_reducible assumption | with_reducible apply bl_alloc | with_reducible apply bl_drew | with_reducible apply bl_drewN | (with_reducible refine bl_set ?_ (by first | omega | (simp; done) | (simp; omega)) _) | (with_reducible refine bl_step ?_ (by assumption)) | (with_reducible refine bl_grown ?_ (by assumption) (by assumption)) | (with_reducible refine bl_own ?_ (by assumption) (by assumption)))))⟩
  show Ending.returned (.int .i64 (wrap64 (S[n].toNat : Int))) = _
  have hb := S[n].toNat_lt
  rw [w64 (by omega) (by omega)]
end Go.Proofs.Ytjidbjmekpholaa
