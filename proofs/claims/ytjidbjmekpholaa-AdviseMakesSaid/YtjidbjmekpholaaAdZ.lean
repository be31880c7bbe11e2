/- Proved here: lemmas and contracts (what a function of the program computes) that the proofs of the laws of this seat lean on. Conditions: as each theorem states. -/
import Derived.Test.YtjidbjmekpholaaGDx
import Derived.Test.YtjidbjmekpholaaAdP
import Derived.Test.YtjidbjmekpholaaAdB
set_option linter.unusedVariables false
set_option linter.unusedSimpArgs false
set_option linter.unusedSectionVars false
namespace Go.Pk.Ad
/-- What the table says with so many ticks left. -/
def tabA (high near climb : Int) (n : Nat) (x : Int) : Int := if n = 0 then 0 else (bestA high climb (worthK high near climb (n - 1)) x).1
theorem tabA_rng (high near climb : Int) (n : Nat) (x : Int) : 0 ≤ tabA high near climb n x ∧ tabA high near climb n x ≤ 2 := by
  unfold tabA; split
  · omega
  · exact bestA_do _ _ _ _
end Go.Pk.Ad
namespace Go.Proofs.Ytjidbjmekpholaa.AdZ
open Go.Proofs.Ytjidbjmekpholaa.AdB Go.RowKit Go.Pk Go.Pk.Ad Go.Proofs.Ytjidbjmekpholaa.GD Go.Proofs.YtjidbjmekpholaaW.PrintWords
def r32 (x : Int) : Prop := 0 ≤ x ∧ x < 4294967296
theorem xor_r32 (a b : Int) (ha : r32 a) (hb : r32 b) : r32 (Go.bits .xor .u32 a b) := by
  rw [u32_xor _ _ ha.1 ha.2 hb.1 hb.2]
  have h := Nat.xor_lt_two_pow (n := 32) (x := a.toNat) (y := b.toNat) (by unfold r32 at ha; omega) (by unfold r32 at hb; omega)
  exact ⟨by omega, by omega⟩
theorem sum_l1 (s : ByteArray) (n i : Int) (h : ∀ x, r32 x → ∃ k c, fix_Sum.l0 k s x n (wrap64 (i + 1)) = some c ∧ r32 c) : ∀ (e : Nat) (j x : Int), j + e = 8 → 0 ≤ j → r32 x → ∃ k c, fix_Sum.l1 k s x n i j = some c ∧ r32 c
  | 0, j, x, hj, h0, hx => by
    obtain ⟨k, c, hc, hr⟩ := h x hx
    refine ⟨k + 1, c, ?_, hr⟩
    simp only [fix_Sum.l1]
    rw [if_neg (by omega)]
    exact hc
  | e + 1, j, x, hj, h0, hx => by
    have hw : wrap64 (j + 1) = j + 1 := w64 (by omega) (by omega)
    have hx2 : r32 (x / 2) := by unfold r32 at *; omega
    by_cases hb : (Go.bits .and .u32 x 1) = 1
    · obtain ⟨k, c, hc, hr⟩ := sum_l1 s n i h e (j + 1) _ (by omega) (by omega) (xor_r32 _ 3988292384 hx2 (by unfold r32; omega))
      refine ⟨k + 1, c, ?_, hr⟩
      simp only [fix_Sum.l1]
      rw [if_pos (by omega), if_pos hb, hw]
      exact hc
    · obtain ⟨k, c, hc, hr⟩ := sum_l1 s n i h e (j + 1) _ (by omega) (by omega) hx2
      refine ⟨k + 1, c, ?_, hr⟩
      simp only [fix_Sum.l1]
      rw [if_pos (by omega), if_neg hb, hw]
      exact hc
theorem sum_l0 (s : ByteArray) (hs : s.size ≤ 4611686018427387904) : ∀ (d : Nat) (i x : Int), 0 ≤ i → i + d = s.size → r32 x → ∃ k c, fix_Sum.l0 k s x s.size i = some c ∧ r32 c
  | 0, i, x, h0, hd, hx => by
    have hx2 := xor_r32 x 4294967295 hx (by unfold r32; omega)
    refine ⟨1, _, ?_, hx2⟩
    simp only [fix_Sum.l0]
    rw [if_neg (by omega), w64 (by unfold r32 at hx2; omega) (by unfold r32 at hx2; omega)]
  | d + 1, i, x, h0, hd, hx => by
    have hb := bt_rng s i
    have hm : bt s i % 4294967296 = bt s i := by omega
    have hw : wrap64 (i + 1) = i + 1 := w64 (by omega) (by omega)
    have hxx := xor_r32 x (bt s i) hx (by unfold r32; omega)
    obtain ⟨k, c, hc, hr⟩ := sum_l1 s s.size i (fun y hy => by rw [hw]; exact sum_l0 s hs d (i + 1) y (by omega) (by omega) hy) 8 0 _ (by omega) (by omega) hxx
    refine ⟨k + 1, c, ?_, hr⟩
    simp only [fix_Sum.l0]
    rw [if_pos (by omega), if_pos h0, if_pos (by omega), hm]
    exact hc
theorem sum_ends (s : ByteArray) (hs : s.size ≤ 4611686018427387904) : ∃ k c, fix_Sum.f k s = some c ∧ r32 c := by
  unfold fix_Sum.f
  exact sum_l0 s hs s.size 0 _ (by omega) (by omega) (by unfold r32; omega)
variable (high near climb : Int) (T : Nat)
def tbl : ByteArray := strOfNums (bestK high near climb T)
theorem tbl_size (hg : 1 ≤ high) : ((tbl high near climb T).size : Int) = ((T : Int) + 1) * (2 * high + 1) := by
  unfold tbl
  rw [strOf_size, bestK_length]
  push_cast
  rw [Int.toNat_of_nonneg (by omega)]
theorem tbl_at (hg : 1 ≤ high) (hg1 : high ≤ 60) (hT : T ≤ 60) (n : Nat) (hn : n ≤ T) (x : Int) (h0 : -high ≤ x) (h1 : x ≤ high) : bt (tbl high near climb T) ((n : Int) * (2 * high + 1) + high + x) = tabA high near climb n x := by
  have hM : ((2 * high + 1).toNat : Int) = 2 * high + 1 := Int.toNat_of_nonneg (by omega)
  have e : ((n : Int) * (2 * high + 1) + high + x).toNat = n * (2 * high + 1).toNat + (high + x).toNat := by
    have h2 : ((n * (2 * high + 1).toNat : Nat) : Int) = (n : Int) * (2 * high + 1) := by push_cast; rw [hM]
    omega
  have hl := bestK_length high near climb T
  have hlt : n * (2 * high + 1).toNat + (high + x).toNat < (bestK high near climb T).length := by
    rw [hl]
    have : (n + 1) * (2 * high + 1).toNat ≤ (T + 1) * (2 * high + 1).toNat := Nat.mul_le_mul_right _ (by omega)
    rw [Nat.add_mul, Nat.one_mul] at this
    omega
  unfold tbl
  rw [bt_strOf _ _ (fun y hy => by have := bestK_rng high near climb T y hy; omega) (by rw [e]; exact hlt), e, bestK_at high near climb (by omega) T n x hn h0 h1]
  rfl
theorem long_tbl (hg : 1 ≤ high) (hg1 : high ≤ 60) (hT : T ≤ 60) : advise_long.f high T near climb (tbl high near climb T) = some true := by
  have hp := prodB (show 0 ≤ (T : Int) + 1 by omega) (show (T : Int) + 1 ≤ 61 by omega) (show 0 ≤ 2 * high + 1 by omega) (show 2 * high + 1 ≤ 121 by omega)
  unfold advise_long.f
  rw [if_pos (by omega), if_pos (by omega), if_pos (by omega), if_pos (by omega), tbl_size _ _ _ _ hg, w64 (n := (T : Int) + 1) (by omega) (by omega), w64 (n := 2 * high) (by omega) (by omega), w64 (n := 2 * high + 1) (by omega) (by omega), w64 (by omega) (by omega)]
  simp
theorem mx_eq (a b : Int) : mx a b = max a b := by unfold mx; omega
theorem mn_eq (a b : Int) : mn a b = min a b := by unfold mn; omega
theorem ask_tbl (hg : 1 ≤ high) (hg1 : high ≤ 60) (hT : T ≤ 60) (h k : Int) : advise_Ask.f high T near climb (tbl high near climb T) h k = some (tabA high near climb (min (max k 0) (T : Int)).toNat (stayI h high)) := by
  unfold advise_Ask.f
  rw [long_tbl high near climb T hg hg1 hT]
  simp only [Option.bind_some, if_true]
  rw [w64 (n := -high) (by omega) (by omega), w64 (n := 2 * high) (by omega) (by omega), w64 (n := 2 * high + 1) (by omega) (by omega), mn_eq, mx_eq, mn_eq, mx_eq]
  show (if 0 ≤ wrap64 (wrap64 (wrap64 (min (max k 0) (T : Int) * (2 * high + 1)) + high) + stayI h high) then _ else _) = _
  obtain ⟨K, hK⟩ : ∃ K : Nat, min (max k 0) (T : Int) = K := Int.eq_ofNat_of_zero_le (by omega)
  have hKT : K ≤ T := by omega
  have hs := stayI_rng (show 0 ≤ high by omega) h
  rw [hK, Int.toNat_natCast]
  have hp := prodB (show 0 ≤ (K : Int) by omega) (show (K : Int) ≤ 60 by omega) (show 0 ≤ 2 * high + 1 by omega) (show 2 * high + 1 ≤ 121 by omega)
  have hle : ((K : Int) + 1) * (2 * high + 1) ≤ ((T : Int) + 1) * (2 * high + 1) := Int.mul_le_mul_of_nonneg_right (by omega) (by omega)
  rw [Int.add_mul, Int.one_mul] at hle
  have hsz := tbl_size high near climb T hg
  have ht := tbl_at high near climb T hg hg1 hT K hKT (stayI h high) hs.1 hs.2
  have hr := tabA_rng high near climb K (stayI h high)
  show (if 0 ≤ wrap64 (wrap64 (wrap64 ((K : Int) * (2 * high + 1)) + high) + stayI h high) then (if wrap64 (wrap64 (wrap64 ((K : Int) * (2 * high + 1)) + high) + stayI h high) < ((tbl high near climb T).size : Int) then some (wrap64 (bt (tbl high near climb T) (wrap64 (wrap64 (wrap64 ((K : Int) * (2 * high + 1)) + high) + stayI h high)))) else none) else none) = _
  rw [w64 (n := (K : Int) * (2 * high + 1)) (by omega) (by omega), w64 (n := (K : Int) * (2 * high + 1) + high) (by omega) (by omega), w64 (n := (K : Int) * (2 * high + 1) + high + stayI h high) (by omega) (by omega), if_pos (by omega), if_pos (by omega), ht, w64 (by omega) (by omega)]
theorem planF_tbl (hg : 1 ≤ high) (hg1 : high ≤ 60) (hT : T ≤ 60) (K : Nat) (hK : K ≤ T) (plan : List Int) (n : Nat) (hn : n ≤ T) (x : Int) (h0 : -high ≤ x) (h1 : x ≤ high) : planF high (tbl high near climb T) K plan n x = if K - n < plan.length then plan.getD (K - n) 0 else tabA high near climb n x := by
  unfold planF
  split
  · rfl
  · exact tbl_at high near climb T hg hg1 hT n hn x h0 h1
theorem cost_tbl (hm : mayB high T near climb = true) (h k : Int) (plan : List Int) : advise_Cost.f high T near climb (tbl high near climb T) h k plan = some (ofW high (costK high near climb (planF high (tbl high near climb T) (min (max k 0) (T : Int)).toNat plan) (min (max k 0) (T : Int)).toNat) (stayI h high)) := by
  unfold advise_Cost.f costV
  have hb := mayB_iff.1 hm
  rw [if_pos ⟨hm, by unfold longB; rw [tbl_size _ _ _ _ hb.1]; simp⟩]
theorem cost_nil (hm : mayB high T near climb = true) (h k : Int) : advise_Cost.f high T near climb (tbl high near climb T) h k [] = some (ofW high (worthK high near climb (min (max k 0) (T : Int)).toNat) (stayI h high)) := by
  have hb := mayB_iff.1 hm
  rw [cost_tbl _ _ _ _ hm, cost_eq (by omega)]
  intro m hm2 x h0 h1
  rw [planF_tbl _ _ _ _ (by omega) (by omega) (by omega) _ (by omega) _ _ (by omega) _ h0 h1, if_neg (by simp)]
  unfold tabA
  rw [if_neg (by omega), Nat.add_sub_cancel]
theorem make_tbl (a1 : Int) (hm : mayB high a1 near climb = true) : advise_Make.f high a1 near climb = some (high, a1, near, climb, tbl high near climb a1.toNat, 0) := by
  unfold advise_Make.f
  rw [if_pos hm]
  rfl
theorem make_no (a1 : Int) (hm : ¬ mayB high a1 near climb = true) : advise_Make.f high a1 near climb = some (0, 0, 0, 0, (⟨#[]⟩ : ByteArray), 1) := by
  unfold advise_Make.f
  rw [if_neg hm]
theorem valid_tbl (hm : mayB high T near climb = true) : advise_Valid.f high T near climb (tbl high near climb T) = some true := by
  unfold advise_Valid.f
  rw [make_tbl _ _ _ _ hm]
  simp
theorem put_tbl (hm : mayB high T near climb = true) : ∃ (k : Nat) (s : ByteArray), advise_Put.f k high T near climb (tbl high near climb T) = some (s, 0) ∧ s.size = 9 ∧ bt s 0 = high ∧ bt s 1 = T ∧ bt s 2 = near ∧ bt s 3 = climb := by
  have hb := mayB_iff.1 hm
  have hp := prodB (show 0 ≤ (T : Int) + 1 by omega) (show (T : Int) + 1 ≤ 61 by omega) (show 0 ≤ 2 * high + 1 by omega) (show 2 * high + 1 ≤ 121 by omega)
  have hsz := tbl_size high near climb T hb.1
  have hlen : (strOfNums ([high % 256, (T : Int) % 256, near % 256, climb % 256] : List Int)).size = 4 := by rw [strOf_size]; rfl
  have hcat : (tbl high near climb T ++ strOfNums ([high % 256, (T : Int) % 256, near % 256, climb % 256] : List Int)).size = (tbl high near climb T).size + 4 := by rw [ByteArray.size_append, hlen]
  obtain ⟨k, c, hc, hr⟩ := sum_ends (tbl high near climb T ++ strOfNums ([high % 256, (T : Int) % 256, near % 256, climb % 256] : List Int)) (by rw [hcat]; omega)
  have hput : fix_Put.f c 5 = some (strOfNums (Go.Pk.Fx.putL c 5), 0) := by
    unfold fix_Put.f putF
    rw [if_pos rfl, if_pos]
    left
    unfold r32 at hr
    omega
  have hl5 : (strOfNums (Go.Pk.Fx.putL c 5)).size = 5 := by rw [strOf_size]; simp [Go.Pk.Fx.putL]
  refine ⟨k, strOfNums ([high % 256, (T : Int) % 256, near % 256, climb % 256] : List Int) ++ strOfNums (Go.Pk.Fx.putL c 5), ?_, ?_, ?_⟩
  · unfold advise_Put.f advise_laid.f
    rw [valid_tbl high near climb T hm]
    simp only [Option.bind_some, if_true]
    rw [if_pos (by rw [hlen]; omega), hc]
    simp only [Option.bind_some]
    rw [hput]
    simp only [Option.bind_some]
    rw [if_pos (by rw [hlen, hl5]; omega)]
  · rw [ByteArray.size_append, hlen, hl5]
  · have e : strOfNums ([high % 256, (T : Int) % 256, near % 256, climb % 256] : List Int) ++ strOfNums (Go.Pk.Fx.putL c 5) = strOfNums ([high % 256, (T : Int) % 256, near % 256, climb % 256] ++ Go.Pk.Fx.putL c 5) := by
      apply ByteArray.ext
      simp [strOfNums, ByteArray.data_append]
    have hall : ∀ x ∈ ([high % 256, (T : Int) % 256, near % 256, climb % 256] ++ Go.Pk.Fx.putL c 5), 0 ≤ x ∧ x ≤ 255 := by
      intro x hx
      rcases List.mem_append.1 hx with h | h
      · simp only [List.mem_cons, List.not_mem_nil, or_false] at h
        rcases h with rfl | rfl | rfl | rfl <;> omega
      · obtain ⟨j, _, rfl⟩ := List.mem_map.1 h
        omega
    have hl : ([high % 256, (T : Int) % 256, near % 256, climb % 256] ++ Go.Pk.Fx.putL c 5).length = 9 := by simp [Go.Pk.Fx.putL]
    rw [e]
    refine ⟨?_, ?_, ?_, ?_⟩
    · rw [bt_strOf _ _ hall (by rw [hl]; decide)]; show high % 256 = high; omega
    · rw [bt_strOf _ _ hall (by rw [hl]; decide)]; show (T : Int) % 256 = T; omega
    · rw [bt_strOf _ _ hall (by rw [hl]; decide)]; show near % 256 = near; omega
    · rw [bt_strOf _ _ hall (by rw [hl]; decide)]; show climb % 256 = climb; omega
end Go.Proofs.Ytjidbjmekpholaa.AdZ
