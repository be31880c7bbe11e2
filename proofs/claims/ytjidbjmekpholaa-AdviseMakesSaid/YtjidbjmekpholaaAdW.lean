/- Proved here: lemmas and contracts (what a function of the program computes) that the proofs of the laws of this seat lean on. Conditions: as each theorem states. -/
import Derived.Test.YtjidbjmekpholaaAdZ
set_option linter.unusedVariables false
set_option linter.unusedSimpArgs false
set_option linter.unusedSectionVars false
namespace Go.Proofs.Ytjidbjmekpholaa.AdW
open Go.RowKit Go.Pk Go.Pk.Ad Go.Proofs.Ytjidbjmekpholaa.GD Go.Proofs.YtjidbjmekpholaaW.PrintWords
/-- From so many rounds on, the answer. -/
def Ends {α : Type} (F : Nat → Option α) (r : α) : Prop := ∃ K, ∀ k, K ≤ k → F k = some r
theorem Ends.at {α : Type} {F : Nat → Option α} {r : α} (h : Ends F r) : ∃ k, F k = some r := by obtain ⟨K, hK⟩ := h; exact ⟨K, hK K (Nat.le_refl _)⟩
theorem Ends.succ {α : Type} {F B : Nat → Option α} {r : α} (h : Ends B r) (e : ∀ k, F (k + 1) = B k) : Ends F r := by
  obtain ⟨K, hK⟩ := h
  refine ⟨K + 1, fun k hk => ?_⟩
  obtain ⟨j, rfl⟩ : ∃ j, k = j + 1 := ⟨k - 1, by omega⟩
  rw [e]; exact hK j (by omega)
theorem Ends.bind {α β : Type} {F : Nat → Option α} {G : Nat → α → Option β} {r : α} {q : β} (h : Ends F r) (g : Ends (fun k => G k r) q) : Ends (fun k => (F k).bind (G k)) q := by
  obtain ⟨K, hK⟩ := h
  obtain ⟨L, hL⟩ := g
  exact ⟨max K L, fun k hk => by simp only []; rw [hK k (by omega)]; exact hL k (by omega)⟩
theorem Ends.some {α : Type} (r : α) : Ends (fun _ => Option.some r) r := ⟨0, fun _ _ => rfl⟩
theorem stay_eq {x high : Int} (hh : 0 ≤ high) (hh1 : high ≤ 1000000) : picketref18_stay.f x high = some (stayI x high) := by
  unfold picketref18_stay.f picketref1_Clamp.f
  rw [w64 (n := -high) (by omega) (by omega)]
  unfold stayI
  split
  · simp only [Option.bind_some, Option.some.injEq]; omega
  · split
    · simp only [Option.bind_some, Option.some.injEq]; omega
    · simp only [Option.bind_some, Option.some.injEq]; omega
theorem right_eq (a0 a1 a2 a3 : Int) : picketref18_Right.f a0 a1 a2 a3 = some (mayB a0 a1 a2 a3) := by
  unfold picketref18_Right.f mayB
  (repeat' split) <;> simp only [Option.some.injEq] <;> rw [Bool.eq_iff_iff] <;> simp only [Bool.and_eq_true, decide_eq_true_eq] <;> constructor <;> intro h <;> (first | omega | (exfalso; cases h) | (exfalso; omega))
theorem near_eq (a b near c x : Int) (S : ByteArray) (h0 : -1000000 ≤ x) (h1 : x ≤ 1000000) : picketref18_near.f a b near c S x = some (nearV near x) := by
  unfold picketref18_near.f nearV
  rw [w64 (n := -x) (by omega) (by omega)]
  (repeat' split) <;> first | rfl | (exfalso; omega)
theorem max2_ends (a b : Int) : Ends (fun k => picketref1_Max.f k [a, b]) (max a b) := by
  refine ⟨3, fun k hk => ?_⟩
  obtain ⟨j, rfl⟩ : ∃ j, k = j + 3 := ⟨k - 3, by omega⟩
  show picketref1_Max.l0 (j + 3) [a, b] 0 0 = _
  have e1 : wrap64 ((0 : Int) + 1) = 1 := w64 (by omega) (by omega)
  have e2 : wrap64 ((1 : Int) + 1) = 2 := w64 (by omega) (by omega)
  by_cases h : b > a
  · simp [picketref1_Max.l0, rd, w64, h, e1, e2]; omega
  · simp [picketref1_Max.l0, rd, w64, h, e1, e2]; omega
theorem step_eq (high b near climb x d : Int) (S : ByteArray) (hh : 0 ≤ high) (hh1 : high ≤ 1000) (hx0 : -1000 ≤ x) (hx1 : x ≤ 1000) (hxr : -high ≤ x ∧ x ≤ high) (hc0 : 0 ≤ climb) (hc1 : climb ≤ 1000) : picketref18_step.f high b near climb S x d = some (stayI (x + byA climb d) high) := by
  unfold picketref18_step.f byA
  by_cases h1 : d = 1
  · rw [if_pos h1, if_pos h1, stay_eq hh (by omega), w64 (by omega) (by omega)]; rfl
  · rw [if_neg h1, if_neg h1]
    by_cases h2 : d = 2
    · rw [if_pos h2, if_pos h2, stay_eq hh (by omega), w64 (by omega) (by omega), Int.sub_eq_add_neg]; rfl
    · rw [if_neg h2, if_neg h2]
      congr 1
      unfold stayI; omega
theorem rd_eq (l : List Int) (i : Int) : rd l i = l.getD i.toNat 0 := rfl
theorem worst_step (high b near climb m d acc : Int) (S : ByteArray) (W : List Int) (hW : W.length = (2 * high + 1).toNat) (hh : 0 ≤ high) (hh1 : high ≤ 1000) (hm0 : -1000 ≤ m) (hm1 : m ≤ 1000) (hd0 : -1 ≤ d) (hd : d ≤ 1) {r : Int}
    (h : Ends (fun k => picketref18_worst.l0 k W m (max acc (ofW high W (stayI (m + d) high))) (d + 1) high b near climb S) r) : Ends (fun k => picketref18_worst.l0 k W m acc d high b near climb S) r := by
  have hs := stayI_rng hh (m + d)
  refine Ends.succ (B := fun k => (picketref1_Max.f k [acc, ofW high W (stayI (m + d) high)]).bind fun t => picketref18_worst.l0 k W m t (d + 1) high b near climb S) ?_ fun k => ?_
  · exact Ends.bind (max2_ends _ _) h
  · simp only [picketref18_worst.l0]
    rw [if_pos hd, w64 (n := m + d) (by omega) (by omega), stay_eq hh (by omega), Option.bind_some, w64 (n := high + stayI (m + d) high) (by omega) (by omega), if_pos (by omega), if_pos (by rw [hW]; omega), w64 (n := d + 1) (by omega) (by omega)]
    rfl
theorem worst_ends (high b near climb m : Int) (S : ByteArray) (W : List Int) (hW : W.length = (2 * high + 1).toNat) (hh : 0 ≤ high) (hh1 : high ≤ 1000) (hm0 : -1000 ≤ m) (hm1 : m ≤ 1000) : Ends (fun k => picketref18_worst.f k high b near climb S W m) (worstA high W m) := by
  unfold picketref18_worst.f
  refine worst_step high b near climb m (-1) 0 S W hW hh hh1 hm0 hm1 (by omega) (by omega) ?_
  refine worst_step high b near climb m (-1 + 1) _ S W hW hh hh1 hm0 hm1 (by omega) (by omega) ?_
  refine worst_step high b near climb m (-1 + 1 + 1) _ S W hW hh hh1 hm0 hm1 (by omega) (by omega) ?_
  refine Ends.succ (B := fun _ => some (worstA high W m)) (Ends.some _) fun k => ?_
  simp only [picketref18_worst.l0]
  rw [if_neg (by omega)]
  rfl
theorem price_eq (climb d : Int) (hc : 1 ≤ climb) (h0 : 0 ≤ d) (h2 : d ≤ 2) : picketref18_price.f d = some (if byA climb d = 0 then 0 else 1) := by
  unfold picketref18_price.f byA
  by_cases h : d = 0
  · subst h; simp
  · rw [if_neg h]
    have hne : ¬ (if d = 1 then climb else if d = 2 then -climb else 0) = 0 := by
      by_cases h1 : d = 1
      · rw [if_pos h1]; omega
      · rw [if_neg h1, if_pos (show d = 2 by omega)]; omega
    rw [if_neg hne]
section
variable (high b near climb T : Int) (S : ByteArray) (W : List Int) (hW : GoodW high W 100000) (hh : 1 ≤ high) (hh1 : high ≤ 60) (hc : 1 ≤ climb) (hc1 : climb ≤ 10)
include hW hh hh1 hc hc1
theorem l3_step (bl nw : List Int) (n x least what d : Int) (hx0 : -high ≤ x) (hx1 : x ≤ high) (hd0 : 0 ≤ d) (hd2 : d ≤ 2) {r : Int × Int × Int × Int × ByteArray × Int}
    (h : Ends (fun k => picketref18_Make.l3 k high T W bl n nw x (if what < 0 ∨ doesA high climb W x d < least then doesA high climb W x d else least) (if what < 0 ∨ doesA high climb W x d < least then d else what) (d + 1) high b near climb S) r) :
    Ends (fun k => picketref18_Make.l3 k high T W bl n nw x least what d high b near climb S) r := by
  have hs := stayI_rng (show 0 ≤ high by omega) (x + byA climb d)
  have hv : Ends (fun k => picketref18_worst.f k high b near climb S W (stayI (x + byA climb d) high)) (worstA high W (stayI (x + byA climb d) high)) := worst_ends high b near climb _ S W hW.1 (by omega) (by omega) (by omega) (by omega)
  have hr := doesA_rng (climb := climb) hW (by omega) x d
  have he : (if byA climb d = 0 then (0 : Int) else 1) + worstA high W (stayI (x + byA climb d) high) = doesA high climb W x d := by unfold doesA; omega
  obtain ⟨K, hK⟩ := hv
  obtain ⟨L, hL⟩ := h
  refine ⟨max K L + 1, fun k hk => ?_⟩
  obtain ⟨j, rfl⟩ : ∃ j, k = j + 1 := ⟨k - 1, by omega⟩
  have e1 := hK j (by omega)
  have e2 := hL j (by omega)
  simp only [] at e1 e2
  rw [← e2]
  simp only [picketref18_Make.l3]
  rw [if_pos hd2, price_eq climb d hc hd0 hd2, Option.bind_some, step_eq high b near climb x d S (by omega) (by omega) (by omega) (by omega) ⟨hx0, hx1⟩ (by omega) (by omega), Option.bind_some, e1, Option.bind_some, he, w64 (n := doesA high climb W x d) (by omega) (by omega), w64 (n := d + 1) (by omega) (by omega)]
  by_cases h1 : what < 0
  · simp only [h1, true_or, if_true]
  · by_cases h2 : doesA high climb W x d < least
    · simp only [h1, h2, or_true, if_true, if_false]
    · simp only [h1, h2, or_self, if_false]
theorem l3_pick (bl nw : List Int) (n x d : Int) (s : Int × Int) (hs : 0 ≤ s.1) (hx0 : -high ≤ x) (hx1 : x ≤ high) (hd0 : 0 ≤ d) (hd2 : d ≤ 2) {r : Int × Int × Int × Int × ByteArray × Int}
    (h : Ends (fun k => picketref18_Make.l3 k high T W bl n nw x (pickA s d (doesA high climb W x d)).2 (pickA s d (doesA high climb W x d)).1 (d + 1) high b near climb S) r) :
    Ends (fun k => picketref18_Make.l3 k high T W bl n nw x s.2 s.1 d high b near climb S) r := by
  refine l3_step high b near climb T S W hW hh hh1 hc hc1 bl nw n x s.2 s.1 d hx0 hx1 hd0 hd2 ?_
  have e1 : (if s.1 < 0 ∨ doesA high climb W x d < s.2 then doesA high climb W x d else s.2) = (pickA s d (doesA high climb W x d)).2 := by
    unfold pickA
    by_cases q : doesA high climb W x d < s.2
    · rw [if_pos (Or.inr q), if_pos q]
    · rw [if_neg (by omega), if_neg q]
  have e2 : (if s.1 < 0 ∨ doesA high climb W x d < s.2 then d else s.1) = (pickA s d (doesA high climb W x d)).1 := by
    unfold pickA
    by_cases q : doesA high climb W x d < s.2
    · rw [if_pos (Or.inr q), if_pos q]
    · rw [if_neg (by omega), if_neg q]
  rw [e1, e2]
  exact h
theorem l3_ends (bl nw : List Int) (n x : Int) (hx0 : -high ≤ x) (hx1 : x ≤ high) (hbl : bl.length ≤ 1000000) (hnw : nw.length ≤ 1000000) {r : Int × Int × Int × Int × ByteArray × Int}
    (h : Ends (fun k => picketref18_Make.l2 k high T W (bl ++ [(bestA high climb W x).1]) n (nw ++ [(bestA high climb W x).2]) (x + 1) high b near climb S) r) :
    Ends (fun k => picketref18_Make.l3 k high T W bl n nw x 0 (-1) 0 high b near climb S) r := by
  refine l3_step high b near climb T S W hW hh hh1 hc hc1 bl nw n x 0 (-1) 0 hx0 hx1 (by omega) (by omega) ?_
  rw [if_pos (Or.inl (by omega)), if_pos (Or.inl (by omega))]
  refine l3_pick high b near climb T S W hW hh hh1 hc hc1 bl nw n x (0 + 1) (0, doesA high climb W x 0) (by simp) hx0 hx1 (by omega) (by omega) ?_
  have p1 : 0 ≤ (pickA (0, doesA high climb W x 0) (0 + 1) (doesA high climb W x (0 + 1))).1 := by unfold pickA; split <;> simp
  refine l3_pick high b near climb T S W hW hh hh1 hc hc1 bl nw n x (0 + 1 + 1) (pickA (0, doesA high climb W x 0) (0 + 1) (doesA high climb W x (0 + 1))) p1 hx0 hx1 (by omega) (by omega) ?_
  have hd := bestA_do high climb W x
  have e : pickA (pickA (0, doesA high climb W x 0) (0 + 1) (doesA high climb W x (0 + 1))) (0 + 1 + 1) (doesA high climb W x (0 + 1 + 1)) = bestA high climb W x := rfl
  rw [e]
  refine Ends.succ h fun k => ?_
  simp only [picketref18_Make.l3]
  rw [if_neg (by omega), if_pos (by omega), if_pos (by omega), show (bestA high climb W x).1 % 256 = (bestA high climb W x).1 by omega, w64 (n := x + 1) (by omega) (by omega)]
theorem l2_ends (bl : List Int) (n : Int) (hbl : bl.length ≤ 100000) (hn0 : 0 ≤ n) (hn1 : n ≤ 1000) {r : Int × Int × Int × Int × ByteArray × Int}
    (h : Ends (fun k => picketref18_Make.l1 k high T (tickW high climb W) (bl ++ tickB high climb W) (n + 1) high b near climb S) r) :
    ∀ e j : Nat, j + e = (2 * high + 1).toNat → Ends (fun k => picketref18_Make.l2 k high T W (bl ++ (tickB high climb W).take j) n ((tickW high climb W).take j) ((j : Int) - high) high b near climb S) r
  | 0, j, hj => by
    refine Ends.succ h fun k => ?_
    simp only [picketref18_Make.l2]
    rw [if_neg (by omega), w64 (n := n + 1) (by omega) (by omega)]
    have e1 : (tickB high climb W).take j = tickB high climb W := by rw [show j = (2 * high + 1).toNat by omega]; exact hsL_all high _
    have e2 : (tickW high climb W).take j = tickW high climb W := by rw [show j = (2 * high + 1).toNat by omega]; exact hsL_all high _
    rw [e1, e2]
  | e + 1, j, hj => by
    have ih := l2_ends bl n hbl hn0 hn1 h e (j + 1) (by omega)
    have hjN : j < (2 * high + 1).toNat := by omega
    have t1 : (tickB high climb W).take (j + 1) = (tickB high climb W).take j ++ [(bestA high climb W ((j : Int) - high)).1] := hsL_take high _ j hjN
    have t2 : (tickW high climb W).take (j + 1) = (tickW high climb W).take j ++ [(bestA high climb W ((j : Int) - high)).2] := hsL_take high _ j hjN
    rw [t1, t2, ← List.append_assoc, show (((j + 1 : Nat) : Int) - high) = (j : Int) - high + 1 by omega] at ih
    have hl1 : ((tickB high climb W).take j).length ≤ 1000 := by rw [List.length_take]; omega
    have hl2 : ((tickW high climb W).take j).length ≤ 1000 := by rw [List.length_take]; omega
    refine Ends.succ (l3_ends high b near climb T S W hW hh hh1 hc hc1 (bl ++ (tickB high climb W).take j) ((tickW high climb W).take j) n ((j : Int) - high) (by omega) (by omega) (by rw [List.length_append]; omega) (by omega) ih) fun k => ?_
    simp only [picketref18_Make.l2]
    rw [if_pos (by omega)]
end
theorem good_mono {high a b : Int} {W : List Int} (h : GoodW high W a) (hab : a ≤ b) : GoodW high W b := ⟨h.1, fun x hx => ⟨(h.2 x hx).1, Int.le_trans (h.2 x hx).2 hab⟩⟩
section
variable (high near climb : Int) (T : Nat) (S : ByteArray) (hh : 1 ≤ high) (hh1 : high ≤ 60) (hc : 1 ≤ climb) (hc1 : climb ≤ 10) (hT : T ≤ 60)
include hh hh1 hc hc1 hT
theorem l1_ends : ∀ e m : Nat, m + e = T → Ends (fun k => picketref18_Make.l1 k high T (worthK high near climb m) (bestK high near climb m) ((m : Int) + 1) high T near climb S) (high, (T : Int), near, climb, strOfNums (bestK high near climb T), 0)
  | 0, m, hm => by
    obtain rfl : m = T := by omega
    refine ⟨1, fun k hk => ?_⟩
    obtain ⟨j, rfl⟩ : ∃ j, k = j + 1 := ⟨k - 1, by omega⟩
    simp only [picketref18_Make.l1]
    rw [if_neg (by omega)]
  | e + 1, m, hm => by
    have ih := l1_ends e (m + 1) (by omega)
    have hW : GoodW high (worthK high near climb m) 100000 := good_mono (worthK_good high near climb m) (by omega)
    have hlen := bestK_length high near climb m
    have hb : (bestK high near climb m).length ≤ 100000 := by
      rw [hlen]
      have : (m + 1) * (2 * high + 1).toNat ≤ 61 * 121 := Nat.mul_le_mul (by omega) (by omega)
      omega
    have h2 := l2_ends high (T : Int) near climb (T : Int) S (worthK high near climb m) hW hh hh1 hc hc1 (bestK high near climb m) ((m : Int) + 1) hb (by omega) (by omega) (r := (high, (T : Int), near, climb, strOfNums (bestK high near climb T), 0)) (by
      have e1 : (((m + 1 : Nat) : Int) + 1) = (m : Int) + 1 + 1 := by omega
      rw [e1] at ih
      exact ih) (2 * high + 1).toNat 0 (by omega)
    simp only [List.take_zero, List.append_nil, Int.natCast_zero, Int.zero_sub] at h2
    refine Ends.succ h2 fun k => ?_
    simp only [picketref18_Make.l1]
    rw [if_pos (by omega), w64 (n := -high) (by omega) (by omega)]
theorem l0_ends : ∀ e j : Nat, j + e = (2 * high + 1).toNat → Ends (fun k => picketref18_Make.l0 k high T ((endW high near).take j) (List.replicate j 0) ((j : Int) - high) high T near climb S) (high, (T : Int), near, climb, strOfNums (bestK high near climb T), 0)
  | 0, j, hj => by
    have h1 := l1_ends high near climb T S hh hh1 hc hc1 hT T 0 (by omega)
    refine Ends.succ h1 fun k => ?_
    simp only [picketref18_Make.l0]
    rw [if_neg (by omega)]
    have e1 : (endW high near).take j = endW high near := by rw [show j = (2 * high + 1).toNat by omega]; exact hsL_all high _
    have e2 : List.replicate j (0 : Int) = bestK high near climb 0 := by
      rw [show j = (2 * high + 1).toNat by omega]
      rfl
    rw [e1, e2]
    rfl
  | e + 1, j, hj => by
    have ih := l0_ends e (j + 1) (by omega)
    have hjN : j < (2 * high + 1).toNat := by omega
    have t1 : (endW high near).take (j + 1) = (endW high near).take j ++ [nearV near ((j : Int) - high)] := hsL_take high _ j hjN
    rw [t1, show List.replicate (j + 1) (0 : Int) = List.replicate j 0 ++ [0] from List.replicate_succ', show (((j + 1 : Nat) : Int) - high) = (j : Int) - high + 1 by omega] at ih
    have hl1 : ((endW high near).take j).length ≤ 1000 := by rw [List.length_take]; omega
    refine Ends.succ ih fun k => ?_
    simp only [picketref18_Make.l0]
    rw [if_pos (by omega), near_eq _ _ _ _ _ _ (by omega) (by omega), Option.bind_some, if_pos (by omega), if_pos (by rw [List.length_replicate]; omega), w64 (n := (j : Int) - high + 1) (by omega) (by omega)]
end
theorem make_ends (a0 a1 a2 a3 : Int) : Ends (fun k => picketref18_Make.f k a0 a1 a2 a3) (if mayB a0 a1 a2 a3 = true then (a0, a1, a2, a3, strOfNums (bestK a0 a2 a3 a1.toNat), 0) else (0, 0, 0, 0, (⟨#[]⟩ : ByteArray), 1)) := by
  by_cases hm : mayB a0 a1 a2 a3 = true
  · rw [if_pos hm]
    have hb := mayB_iff.1 hm
    obtain ⟨T, rfl⟩ := Int.eq_ofNat_of_zero_le (show 0 ≤ a1 by omega)
    rw [Int.toNat_natCast]
    obtain ⟨K, hK⟩ := l0_ends a0 a2 a3 T ⟨#[]⟩ (by omega) (by omega) (by omega) (by omega) (by omega) (2 * a0 + 1).toNat 0 (by omega)
    refine ⟨K, fun k hk => ?_⟩
    have h := hK k hk
    simp only [List.take_zero, List.replicate_zero, Int.natCast_zero, Int.zero_sub] at h
    simp only [picketref18_Make.f]
    rw [right_eq, Option.bind_some, if_pos hm, w64 (n := -a0) (by omega) (by omega)]
    exact h
  · rw [if_neg hm]
    refine ⟨0, fun k hk => ?_⟩
    simp only [picketref18_Make.f]
    rw [right_eq, Option.bind_some, if_neg hm]
def validV (a0 a1 a2 a3 : Int) (S : ByteArray) : Bool := mayB a0 a1 a2 a3 && ((strOfNums (bestK a0 a2 a3 a1.toNat)).toList == S.toList)
theorem valid_adv (a0 a1 a2 a3 : Int) (S : ByteArray) : advise_Valid.f a0 a1 a2 a3 S = some (validV a0 a1 a2 a3 S) := by
  unfold advise_Valid.f advise_Make.f validV
  by_cases hm : mayB a0 a1 a2 a3 = true
  · rw [if_pos hm, hm]
    simp
  · rw [if_neg hm, Bool.eq_false_iff.2 hm]
    simp
theorem toList_length (b : ByteArray) : b.toList.length = b.size := by
  have key : ∀ (n i : Nat) (r : List UInt8), i + n = b.size → (ByteArray.toList.loop b i r).length = r.length + n := by
    intro n
    induction n with
    | zero => intro i r h; unfold ByteArray.toList.loop; rw [if_neg (by omega)]; simp
    | succ n ih => intro i r h; unfold ByteArray.toList.loop; rw [if_pos (by omega), ih (i + 1) _ (by omega)]; simp; omega
  have := key b.size 0 [] (by omega)
  unfold ByteArray.toList
  simpa using this
theorem long_ref (a0 a1 a2 a3 : Int) (S : ByteArray) (hm : mayB a0 a1 a2 a3 = true) : picketref18_long.f a0 a1 a2 a3 S = some ((S.size : Int) == (a1 + 1) * (2 * a0 + 1)) := by
  have hb := mayB_iff.1 hm
  have hp := prodB (show 0 ≤ a1 + 1 by omega) (show a1 + 1 ≤ 61 by omega) (show 0 ≤ 2 * a0 + 1 by omega) (show 2 * a0 + 1 ≤ 121 by omega)
  unfold picketref18_long.f
  rw [right_eq, Option.bind_some, if_pos hm, w64 (n := a1 + 1) (by omega) (by omega), w64 (n := 2 * a0) (by omega) (by omega), w64 (n := 2 * a0 + 1) (by omega) (by omega), w64 (n := (a1 + 1) * (2 * a0 + 1)) (by omega) (by omega)]
theorem valid_ref (a0 a1 a2 a3 : Int) (S : ByteArray) : Ends (fun k => picketref18_Valid.f k a0 a1 a2 a3 S) (validV a0 a1 a2 a3 S) := by
  by_cases hm : mayB a0 a1 a2 a3 = true
  · have hb := mayB_iff.1 hm
    obtain ⟨T, hT⟩ := Int.eq_ofNat_of_zero_le (show 0 ≤ a1 by omega)
    have hsz := Go.Proofs.Ytjidbjmekpholaa.AdZ.tbl_size a0 a2 a3 T (by omega)
    unfold Go.Proofs.Ytjidbjmekpholaa.AdZ.tbl at hsz
    by_cases hl : ((S.size : Int) == (a1 + 1) * (2 * a0 + 1)) = true
    · obtain ⟨K, hK⟩ := make_ends a0 a1 a2 a3
      refine ⟨K, fun k hk => ?_⟩
      have h := hK k hk
      simp only [] at h
      rw [if_pos hm] at h
      simp only [picketref18_Valid.f]
      rw [long_ref _ _ _ _ _ hm, Option.bind_some, if_pos hl, h]
      unfold validV
      rw [hm]
      simp
    · refine ⟨0, fun k hk => ?_⟩
      simp only [picketref18_Valid.f]
      rw [long_ref _ _ _ _ _ hm, Option.bind_some, if_neg hl]
      unfold validV
      rw [hm, Bool.true_and]
      congr 1
      symm
      rw [Bool.eq_false_iff]
      intro e
      have e' := congrArg List.length (eq_of_beq e)
      rw [toList_length, toList_length, hT, Int.toNat_natCast] at e'
      refine hl ?_
      rw [beq_iff_eq, ← e', hsz, hT]
  · refine ⟨0, fun k hk => ?_⟩
    simp only [picketref18_Valid.f, picketref18_long.f]
    rw [right_eq, Option.bind_some, if_neg hm, Option.bind_some]
    unfold validV
    rw [Bool.eq_false_iff.2 hm]
    simp
theorem ask_eq (a0 a1 a2 a3 h k : Int) (S : ByteArray) (hS : S.size ≤ 20000) : ∃ r, advise_Ask.f a0 a1 a2 a3 S h k = some r ∧ picketref18_Ask.f a0 a1 a2 a3 S h k = some r := by
  unfold advise_Ask.f advise_long.f picketref18_Ask.f refAskF
  by_cases hr : 0 ≤ a0 ∧ a0 < 65536 ∧ 0 ≤ a1 ∧ a1 < 65536
  · have hp := prodB (show 0 ≤ a1 + 1 by omega) (show a1 + 1 ≤ 65536 by omega) (show 0 ≤ 2 * a0 + 1 by omega) (show 2 * a0 + 1 ≤ 131072 by omega)
    rw [if_pos (show a0 ≥ 0 by omega), if_pos (by omega), if_pos (show a1 ≥ 0 by omega), if_pos (by omega), Option.bind_some, w64 (n := a1 + 1) (by omega) (by omega), w64 (n := 2 * a0) (by omega) (by omega), w64 (n := 2 * a0 + 1) (by omega) (by omega), w64 (n := (a1 + 1) * (2 * a0 + 1)) (by omega) (by omega)]
    by_cases hl : (S.size : Int) = (a1 + 1) * (2 * a0 + 1)
    · have hA : 0 ≤ a0 ∧ a0 ≤ 1048576 ∧ 0 ≤ a1 ∧ a1 ≤ 1048576 ∧ (S.size : Int) = (a1 + 1) * (2 * a0 + 1) := ⟨by omega, by omega, by omega, by omega, hl⟩
      rw [if_pos (beq_iff_eq.2 hl), if_pos hA]
      have hidx : refIdx a0 a1 h k = wrap64 (wrap64 (wrap64 (mn (mx k 0) a1 * (2 * a0 + 1)) + a0) + mn (mx h (wrap64 (-a0))) a0) := by
        unfold refIdx stayR clampR mn mx
        rw [w64 (n := 2 * a0) (by omega) (by omega), w64 (n := 2 * a0 + 1) (by omega) (by omega), w64 (n := -a0) (by omega) (by omega)]
        congr 2
        · congr 2
          congr 1
          (repeat' split) <;> omega
        · (repeat' split) <;> omega
      rw [← hidx]
      have hin : 0 ≤ refIdx a0 a1 h k ∧ refIdx a0 a1 h k < (S.size : Int) := by
        rw [hidx, w64 (n := -a0) (by omega) (by omega), Go.Proofs.Ytjidbjmekpholaa.AdZ.mn_eq, Go.Proofs.Ytjidbjmekpholaa.AdZ.mx_eq, Go.Proofs.Ytjidbjmekpholaa.AdZ.mn_eq, Go.Proofs.Ytjidbjmekpholaa.AdZ.mx_eq]
        obtain ⟨q, hq⟩ : ∃ q, q = min (max k 0) a1 := ⟨_, rfl⟩
        rw [← hq]
        have hq2 := prodB (show 0 ≤ q by omega) (show q ≤ 65535 by omega) (show 0 ≤ 2 * a0 + 1 by omega) (show 2 * a0 + 1 ≤ 131072 by omega)
        have hle : (q + 1) * (2 * a0 + 1) ≤ (a1 + 1) * (2 * a0 + 1) := Int.mul_le_mul_of_nonneg_right (by omega) (by omega)
        rw [Int.add_mul, Int.one_mul] at hle
        rw [w64 (n := q * (2 * a0 + 1)) (by omega) (by omega), w64 (n := q * (2 * a0 + 1) + a0) (by omega) (by omega), w64 (by omega) (by omega)]
        omega
      rw [if_pos hin.1, if_pos hin.2, if_pos hin]
      have hb := bt_range S (refIdx a0 a1 h k)
      rw [w64 (n := bt S (refIdx a0 a1 h k)) (by omega) (by omega)]
      exact ⟨_, rfl, rfl⟩
    · have hA : ¬ (0 ≤ a0 ∧ a0 ≤ 1048576 ∧ 0 ≤ a1 ∧ a1 ≤ 1048576 ∧ (S.size : Int) = (a1 + 1) * (2 * a0 + 1)) := fun e => hl e.2.2.2.2
      rw [if_neg (fun e => hl (beq_iff_eq.1 e)), if_neg hA]
      exact ⟨0, rfl, rfl⟩
  · have hz : ¬ (0 ≤ a0 ∧ a0 ≤ 1048576 ∧ 0 ≤ a1 ∧ a1 ≤ 1048576 ∧ (S.size : Int) = wrap64 ((a1 + 1) * (2 * a0 + 1))) := by
      rintro ⟨q0, q1, q2, q3, q4⟩
      have hp := prodB (show 0 ≤ a1 + 1 by omega) (show a1 + 1 ≤ 1048577 by omega) (show 0 ≤ 2 * a0 + 1 by omega) (show 2 * a0 + 1 ≤ 2097153 by omega)
      rw [w64 (by omega) (by omega)] at q4
      by_cases c : 65536 ≤ a0
      · have : 1 * (2 * a0 + 1) ≤ (a1 + 1) * (2 * a0 + 1) := Int.mul_le_mul_of_nonneg_right (by omega) (by omega)
        omega
      · have : (a1 + 1) * 1 ≤ (a1 + 1) * (2 * a0 + 1) := Int.mul_le_mul_of_nonneg_left (by omega) (by omega)
        omega
    rw [if_neg hz]
    refine ⟨0, ?_, rfl⟩
    (repeat' split) <;> first | rfl | (exfalso; omega)
theorem i64_xor32 (a b : Int) (ha : 0 ≤ a) (ha2 : a < 4294967296) (hb : 0 ≤ b) (hb2 : b < 4294967296) : Go.bits .xor .i64 a b = Go.bits .xor .u32 a b := by
  rw [u32_xor a b ha ha2 hb hb2]
  obtain ⟨A, rfl⟩ := Int.eq_ofNat_of_zero_le ha
  obtain ⟨B, rfl⟩ := Int.eq_ofNat_of_zero_le hb
  have hx : A ^^^ B < 2 ^ 32 := Nat.xor_lt_two_pow (by omega) (by omega)
  show IntKind.i64.wrap ((BitVec.ofInt 64 (A : Int) ^^^ BitVec.ofInt 64 (B : Int)).toNat : Int) = _
  rw [BitVec.toNat_xor, ofInt_u64 A (by omega), ofInt_u64 B (by omega), IntWalk.i64_left, Int.toNat_natCast, Int.toNat_natCast]
  exact w64 (by omega) (by omega)
theorem and_one32 (a : Int) (ha : 0 ≤ a) (ha2 : a < 4294967296) : Go.bits .and .u32 a 1 = a % 2 := by
  rw [u32_and a 1 ha ha2 (by omega) (by omega)]
  obtain ⟨A, rfl⟩ := Int.eq_ofNat_of_zero_le ha
  rw [Int.toNat_natCast, show (1 : Int).toNat = 1 from rfl, Nat.and_one_is_mod]
  omega
theorem sum_eq (s : ByteArray) (hs : s.size ≤ 4611686018427387904) : ∀ (k : Nat) (x i : Int), Go.Proofs.Ytjidbjmekpholaa.AdZ.r32 x → 0 ≤ i → i ≤ s.size →
    fix_Sum.l0 k s x s.size i = picketref1_Sum.l0 k s x i ∧ (i < s.size → ∀ j, 0 ≤ j → j ≤ 8 → fix_Sum.l1 k s x s.size i j = picketref1_Sum.l1 k s x i j)
  | 0, x, i, hx, h0, h1 => ⟨rfl, fun _ _ _ _ => rfl⟩
  | k + 1, x, i, hx, h0, h1 => by
    constructor
    · simp only [fix_Sum.l0, picketref1_Sum.l0]
      by_cases hi : i < (s.size : Int)
      · have hb := bt_range s i
        rw [if_pos hi, if_pos h0, if_pos hi, if_pos hi, if_pos h0, w64 (n := bt s i) (by omega) (by omega), Int.emod_eq_of_lt (by omega) (by omega), i64_xor32 x (bt s i) hx.1 hx.2 (by omega) (by omega)]
        exact (sum_eq s hs k _ i (Go.Proofs.Ytjidbjmekpholaa.AdZ.xor_r32 x (bt s i) hx ⟨by omega, by omega⟩) h0 h1).2 hi 0 (by omega) (by omega)
      · rw [if_neg hi, if_neg hi, i64_xor32 x 4294967295 hx.1 hx.2 (by omega) (by omega)]
        have hr := Go.Proofs.Ytjidbjmekpholaa.AdZ.xor_r32 x 4294967295 hx ⟨by omega, by omega⟩
        rw [w64 (by have := hr.1; omega) (by have := hr.2; omega)]
    · intro hi j hj0 hj8
      simp only [fix_Sum.l1, picketref1_Sum.l1]
      by_cases hj : j < 8
      · have hd : Int.tdiv x 2 = x / 2 := Int.tdiv_eq_ediv_of_nonneg hx.1
        have hm : Int.tmod x 2 = x % 2 := Int.tmod_eq_emod_of_nonneg hx.1
        have hx2 : Go.Proofs.Ytjidbjmekpholaa.AdZ.r32 (x / 2) := by have := hx.1; have := hx.2; unfold Go.Proofs.Ytjidbjmekpholaa.AdZ.r32; omega
        rw [if_pos hj, if_pos hj, and_one32 x hx.1 hx.2, hd, hm, w64 (n := x / 2) (by have := hx2.1; omega) (by have := hx2.2; omega), w64 (n := j + 1) (by omega) (by omega), i64_xor32 (x / 2) 3988292384 hx2.1 hx2.2 (by omega) (by omega)]
        by_cases ho : x % 2 = 1
        · rw [if_pos ho, if_pos ho]
          exact (sum_eq s hs k _ i (Go.Proofs.Ytjidbjmekpholaa.AdZ.xor_r32 (x / 2) 3988292384 hx2 ⟨by omega, by omega⟩) h0 h1).2 hi (j + 1) (by omega) (by omega)
        · rw [if_neg ho, if_neg ho]
          exact (sum_eq s hs k _ i hx2 h0 h1).2 hi (j + 1) (by omega) (by omega)
      · rw [if_neg hj, if_neg hj, w64 (n := i + 1) (by omega) (by omega)]
        exact (sum_eq s hs k x (i + 1) hx (by omega) (by omega)).1
end Go.Proofs.Ytjidbjmekpholaa.AdW
namespace Go.Pk.Ad
theorem nxOf_cong {N : Nat} {at_ p nx : Nat → Int} {t : Nat → Nat → Nat} {S S' : Nat → Nat → Prop} (h : NxOf N at_ p t S nx) (e : ∀ i d, i < N → d < 3 → (S i d ↔ S' i d)) : NxOf N at_ p t S' nx := by
  obtain ⟨n1, n2, n3⟩ := h
  refine ⟨fun i d hi hd hs ha => n1 i d hi hd ((e i d hi hd).2 hs) ha, fun j hj => ?_, n3⟩
  obtain ⟨i, d, q1, q2, q3, q4⟩ := n2 j hj
  exact ⟨i, d, q1, q2, (e i d q1 q2).1 q3, q4⟩
theorem nxOf_skipLt {N : Nat} {at_ p nx : Nat → Int} {t : Nat → Nat → Nat} {i : Nat} (ha : at_ i = 0) (hn : NxOf N at_ p t (fun i' _ => i' < i) nx) : NxOf N at_ p t (fun i' _ => i' < i + 1) nx :=
  nxOf_skip (S := fun i' _ => i' < i) (S' := fun i' _ => i' < i + 1) (i0 := i) (by omega) hn (fun i' d' (q : i' < i + 1) => show i' < i ∨ i' = i by omega) (fun i' d' (q : i' < i) => show i' < i + 1 by omega)
theorem getD_set_eq (l : List Int) (j : Nat) (v : Int) (h : j < l.length) : (l.set j v).getD j 0 = v := by simp [List.getD_eq_getElem?_getD, h]
theorem getD_set_other (l : List Int) (j i : Nat) (v : Int) (h : i ≠ j) : (l.set j v).getD i 0 = l.getD i 0 := by simp [List.getD_eq_getElem?_getD, List.getElem?_set_ne (Ne.symm h)]
end Go.Pk.Ad
namespace Go.Proofs.Ytjidbjmekpholaa.AdW
open Go.RowKit Go.Pk Go.Pk.Ad Go.Proofs.Ytjidbjmekpholaa.GD Go.Proofs.Ytjidbjmekpholaa.AdW Go.Proofs.YtjidbjmekpholaaW.PrintWords
section
variable (high near climb : Int) (T : Int) (S : ByteArray) (hh : 1 ≤ high) (hh1 : high ≤ 60) (hc : 1 ≤ climb) (hc1 : climb ≤ 10)
include hh hh1
/-- The end: the most of what was paid and the price of the place. -/
theorem c3_ends (at_ : List Int) (hat : at_.length = (2 * high + 1).toNat) (hb : ∀ i, i < at_.length → 0 ≤ at_.getD i 0 ∧ at_.getD i 0 ≤ 1000) (m : Int) (hm : m ≤ 1000000)
    (hle : ∀ i, i < at_.length → 0 < at_.getD i 0 → at_.getD i 0 - 1 + nearV near ((i : Int) - high) ≤ m) :
    ∀ (e i : Nat) (acc : Int), i + e = at_.length → 0 ≤ acc → acc ≤ m → (acc = m ∨ ∃ j, i ≤ j ∧ j < at_.length ∧ 0 < at_.getD j 0 ∧ at_.getD j 0 - 1 + nearV near ((j : Int) - high) = m) → Ends (fun k => picketref18_Cost.l3 k at_ acc (i : Int) high T near climb S) m
  | 0, i, acc, hi, h0, h1, hx => by
    obtain rfl : acc = m := by
      rcases hx with h | ⟨j, q1, q2, -⟩
      · exact h
      · omega
    refine ⟨1, fun k hk => ?_⟩
    obtain ⟨j, rfl⟩ : ∃ j, k = j + 1 := ⟨k - 1, by omega⟩
    simp only [picketref18_Cost.l3]
    rw [if_neg (by omega)]
  | e + 1, i, acc, hi, h0, h1, hx => by
    have hil : i < at_.length := by omega
    have hbi := hb i hil
    have hrd : rd at_ (i : Int) = at_.getD i 0 := by unfold rd; rw [Int.toNat_natCast]
    have hw : wrap64 ((i : Int) + 1) = ((i + 1 : Nat) : Int) := by rw [w64 (by omega) (by omega)]; omega
    by_cases ha : 0 < at_.getD i 0
    · have hnv : 0 ≤ nearV near ((i : Int) - high) ∧ nearV near ((i : Int) - high) ≤ 1000 := by unfold nearV; split <;> omega
      have hlei := hle i hil ha
      have ih := c3_ends at_ hat hb m hm hle e (i + 1) (max acc (at_.getD i 0 - 1 + nearV near ((i : Int) - high))) (by omega) (by omega) (by omega) (by
        rcases hx with h | ⟨j, q1, q2, q3, q4⟩
        · left; omega
        · by_cases hj : j = i
          · subst hj; left; omega
          · right; exact ⟨j, by omega, q2, q3, q4⟩)
      refine Ends.succ (Ends.bind (max2_ends acc (at_.getD i 0 - 1 + nearV near ((i : Int) - high))) (G := fun k t => picketref18_Cost.l3 k at_ t ((i + 1 : Nat) : Int) high T near climb S) ih) fun k => ?_
      simp only [picketref18_Cost.l3]
      rw [if_pos (by omega), if_pos (by omega), hrd, if_pos ha, w64 (n := (i : Int) - high) (by omega) (by omega), near_eq _ _ _ _ _ _ (by omega) (by omega), Option.bind_some, w64 (n := at_.getD i 0 - 1) (by omega) (by omega), w64 (n := at_.getD i 0 - 1 + nearV near ((i : Int) - high)) (by omega) (by omega), hw]
    · have ih := c3_ends at_ hat hb m hm hle e (i + 1) acc (by omega) h0 h1 (by
        rcases hx with h | ⟨j, q1, q2, q3, q4⟩
        · exact Or.inl h
        · by_cases hj : j = i
          · subst hj; exact absurd q3 ha
          · right; exact ⟨j, by omega, q2, q3, q4⟩)
      refine Ends.succ ih fun k => ?_
      simp only [picketref18_Cost.l3]
      rw [if_pos (by omega), if_pos (by omega), hrd, if_neg ha, hw]
theorem byA_clip (d : Int) : byA climb (if d < 0 ∨ d > 2 then 0 else d) = byA climb d := by
  unfold byA
  (repeat' split) <;> omega
end
/-- Where the table is long enough: what it says. -/
theorem ask_at {high T near climb : Int} {S : ByteArray} (hh : 1 ≤ high) (hh1 : high ≤ 60) (hT0 : 0 ≤ T) (hT1 : T ≤ 60) (hl : (S.size : Int) = (T + 1) * (2 * high + 1)) (n : Nat) (hn : (n : Int) ≤ T) (x : Int) (hx0 : -high ≤ x) (hx1 : x ≤ high) :
    picketref18_Ask.f high T near climb S x (n : Int) = some (bt S ((n : Int) * (2 * high + 1) + high + x)) := by
  have hp := prodB (show 0 ≤ T + 1 by omega) (show T + 1 ≤ 61 by omega) (show 0 ≤ 2 * high + 1 by omega) (show 2 * high + 1 ≤ 121 by omega)
  have hq := prodB (show 0 ≤ (n : Int) by omega) (show (n : Int) ≤ 60 by omega) (show 0 ≤ 2 * high + 1 by omega) (show 2 * high + 1 ≤ 121 by omega)
  have hle : ((n : Int) + 1) * (2 * high + 1) ≤ (T + 1) * (2 * high + 1) := Int.mul_le_mul_of_nonneg_right (by omega) (by omega)
  rw [Int.add_mul, Int.one_mul] at hle
  have hidx : refIdx high T x (n : Int) = (n : Int) * (2 * high + 1) + high + x := by
    unfold refIdx stayR clampR
    rw [w64 (n := 2 * high) (by omega) (by omega), w64 (n := 2 * high + 1) (by omega) (by omega), w64 (n := -high) (by omega) (by omega), if_neg (by omega), if_neg (by omega), if_neg (by omega), if_neg (by omega), w64 (n := (n : Int) * (2 * high + 1)) (by omega) (by omega), w64 (n := (n : Int) * (2 * high + 1) + high) (by omega) (by omega), w64 (by omega) (by omega)]
  unfold picketref18_Ask.f refAskF
  rw [hidx, if_pos ⟨by omega, by omega, by omega, by omega, by rw [hl, w64 (by omega) (by omega)]⟩, if_pos ⟨by omega, by omega⟩]
section
variable (high near climb T : Int) (S : ByteArray) (K : Nat) (plan : List Int) (hh : 1 ≤ high) (hh1 : high ≤ 60) (hc : 1 ≤ climb) (hc1 : climb ≤ 10) (hT0 : 0 ≤ T) (hT1 : T ≤ 60) (hK : (K : Int) ≤ T) (hl : (S.size : Int) = (T + 1) * (2 * high + 1))
include hh hh1 hc hc1 hT0 hT1 hK hl
theorem c2_ends (f : Int → Int) (at_ : List Int) (n i : Nat) (dx : Int) (hd0 : 0 ≤ dx) (hd2 : dx ≤ 2) (hdx : byA climb dx = byA climb (f ((i : Int) - high))) (hi : i < (2 * high + 1).toNat) (hat : at_.length = (2 * high + 1).toNat) (c : Int) (hcc : c ≤ 1000) (hb : ∀ i, i < at_.length → 0 ≤ at_.getD i 0 ∧ at_.getD i 0 ≤ c) (ha : 0 < at_.getD i 0) {r : Int}
    (hnext : ∀ nx : List Int, nx.length = (2 * high + 1).toNat → (∀ j, j < nx.length → 0 ≤ nx.getD j 0 ∧ nx.getD j 0 ≤ c + 1) → NxOf (2 * high + 1).toNat (fun i => at_.getD i 0) (fun i => if byA climb (f ((i : Int) - high)) = 0 then 0 else 1) (toI high climb f) (fun i' _ => i' < i + 1) (fun j => nx.getD j 0) →
      Ends (fun k => picketref18_Cost.l1 k (K : Int) plan at_ (n : Int) nx ((i + 1 : Nat) : Int) high T near climb S) r) :
    ∀ (e d : Nat) (nx : List Int), d + e = 3 → nx.length = (2 * high + 1).toNat → (∀ j, j < nx.length → 0 ≤ nx.getD j 0 ∧ nx.getD j 0 ≤ c + 1) → NxOf (2 * high + 1).toNat (fun i => at_.getD i 0) (fun i => if byA climb (f ((i : Int) - high)) = 0 then 0 else 1) (toI high climb f) (fun i' d' => i' < i ∨ (i' = i ∧ d' < d)) (fun j => nx.getD j 0) →
      Ends (fun k => picketref18_Cost.l2 k (K : Int) plan at_ (n : Int) nx (i : Int) dx (stayI ((i : Int) - high + byA climb (f ((i : Int) - high))) high) ((d : Int) - 1) high T near climb S) r
  | 0, d, nx, he, hlen, hnb, hn => by
    obtain rfl : d = 3 := by omega
    have h := hnext nx hlen hnb (nxOf_cong hn fun i' d' _ hd => by constructor <;> intro q <;> omega)
    refine Ends.succ h fun k => ?_
    simp only [picketref18_Cost.l2]
    rw [if_neg (by omega), w64 (n := (i : Int) + 1) (by omega) (by omega)]
    rfl
  | e + 1, d, nx, he, hlen, hnb, hn => by
    have hs := stayI_rng (show 0 ≤ high by omega) (stayI ((i : Int) - high + byA climb (f ((i : Int) - high))) high + ((d : Int) - 1))
    have hs2 := stayI_rng (show 0 ≤ high by omega) ((i : Int) - high + byA climb (f ((i : Int) - high)))
    have hp := price_eq climb dx hc hd0 hd2
    rw [hdx] at hp
    have ht : (high + stayI (stayI ((i : Int) - high + byA climb (f ((i : Int) - high))) high + ((d : Int) - 1)) high).toNat = toI high climb f i d := rfl
    have htl := toI_lt (show 0 ≤ high by omega) climb f i d
    obtain ⟨p, hpe⟩ : ∃ p, p = (if byA climb (f ((i : Int) - high)) = 0 then (0 : Int) else 1) := ⟨_, rfl⟩
    have hp01 : 0 ≤ p ∧ p ≤ 1 := by rw [hpe]; split <;> omega
    have hbi := hb i (by rw [hat]; exact hi)
    have hnt := hnb (toI high climb f i d) (by rw [hlen]; exact htl)
    have hval : 0 ≤ max (nx.getD (toI high climb f i d) 0) (at_.getD i 0 + p) ∧ max (nx.getD (toI high climb f i d) 0) (at_.getD i 0 + p) ≤ c + 1 := by omega
    obtain ⟨K1, h1⟩ := c2_ends f at_ n i dx hd0 hd2 hdx hi hat c hcc hb ha hnext e (d + 1) (nx.set (toI high climb f i d) (max (nx.getD (toI high climb f i d) 0) (at_.getD i 0 + p))) (by omega) (by rw [List.length_set]; exact hlen)
      (fun j hj => by
        rw [List.length_set] at hj
        by_cases q : j = toI high climb f i d
        · subst q; rw [getD_set_eq _ _ _ hj]; exact hval
        · rw [getD_set_other _ _ _ _ q]; exact hnb j hj)
      (nxOf_more (S := fun i' d' => i' < i ∨ (i' = i ∧ d' < d)) (i0 := i) (d0 := d) (nx := fun j => nx.getD j 0) hi (by omega) ha (by show (0 : Int) ≤ (if byA climb (f ((i : Int) - high)) = 0 then 0 else 1); rw [← hpe]; exact hp01.1) hn (fun i' d' => by constructor <;> intro q <;> omega)
        (by show (nx.set _ _).getD _ 0 = max (nx.getD _ 0) (at_.getD i 0 + (if byA climb (f ((i : Int) - high)) = 0 then 0 else 1)); rw [← hpe]; exact getD_set_eq _ _ _ (by rw [hlen]; exact htl))
        (fun j q => getD_set_other _ _ _ _ q))
    obtain ⟨K2, h2⟩ := max2_ends (nx.getD (toI high climb f i d) 0) (at_.getD i 0 + p)
    refine ⟨max K1 K2 + 1, fun k hk => ?_⟩
    obtain ⟨j, rfl⟩ : ∃ j, k = j + 1 := ⟨k - 1, by omega⟩
    have e1 := h1 j (by omega)
    have e2 := h2 j (by omega)
    simp only [] at e1 e2
    rw [show ((d + 1 : Nat) : Int) - 1 = (d : Int) by omega] at e1
    simp only [picketref18_Cost.l2]
    rw [if_pos (by omega), w64 (n := stayI ((i : Int) - high + byA climb (f ((i : Int) - high))) high + ((d : Int) - 1)) (by omega) (by omega), stay_eq (by omega) (by omega), Option.bind_some, w64 (n := high + stayI (stayI ((i : Int) - high + byA climb (f ((i : Int) - high))) high + ((d : Int) - 1)) high) (by omega) (by omega), if_pos (by omega), if_pos (by rw [hlen]; omega), if_pos (by omega), if_pos (by rw [hat]; omega), hp, Option.bind_some, ← hpe]
    have hr1 : rd nx (high + stayI (stayI ((i : Int) - high + byA climb (f ((i : Int) - high))) high + ((d : Int) - 1)) high) = nx.getD (toI high climb f i d) 0 := rfl
    have hr2 : rd at_ (i : Int) = at_.getD i 0 := by unfold rd; rw [Int.toNat_natCast]
    rw [hr1, hr2, w64 (n := at_.getD i 0 + p) (by omega) (by omega), e2, Option.bind_some, ht, w64 (n := (d : Int) - 1 + 1) (by omega) (by omega), show (d : Int) - 1 + 1 = (d : Int) by omega]
    exact e1
theorem c1_ends (at_ : List Int) (n : Nat) (hnK : n + 1 ≤ K) (hat : at_.length = (2 * high + 1).toNat) (c : Int) (hcc : c ≤ 1000) (hb : ∀ i, i < at_.length → 0 ≤ at_.getD i 0 ∧ at_.getD i 0 ≤ c) {r : Int}
    (hnext : ∀ nx : List Int, nx.length = (2 * high + 1).toNat → (∀ j, j < nx.length → 0 ≤ nx.getD j 0 ∧ nx.getD j 0 ≤ c + 1) → NxOf (2 * high + 1).toNat (fun i => at_.getD i 0) (fun i => if byA climb (planF high S K plan (n + 1) ((i : Int) - high)) = 0 then 0 else 1) (toI high climb (planF high S K plan (n + 1))) (fun _ _ => True) (fun j => nx.getD j 0) →
      Ends (fun k => picketref18_Cost.l0 k (K : Int) plan nx (n : Int) high T near climb S) r) :
    ∀ (e i : Nat) (nx : List Int), i + e = (2 * high + 1).toNat → nx.length = (2 * high + 1).toNat → (∀ j, j < nx.length → 0 ≤ nx.getD j 0 ∧ nx.getD j 0 ≤ c + 1) → NxOf (2 * high + 1).toNat (fun i => at_.getD i 0) (fun i => if byA climb (planF high S K plan (n + 1) ((i : Int) - high)) = 0 then 0 else 1) (toI high climb (planF high S K plan (n + 1))) (fun i' _ => i' < i) (fun j => nx.getD j 0) →
      Ends (fun k => picketref18_Cost.l1 k (K : Int) plan at_ ((n + 1 : Nat) : Int) nx (i : Int) high T near climb S) r
  | 0, i, nx, he, hlen, hnb, hn => by
    have h := hnext nx hlen hnb (nxOf_cong hn fun i' d' hi _ => ⟨fun _ => trivial, fun _ => by omega⟩)
    refine Ends.succ h fun k => ?_
    simp only [picketref18_Cost.l1]
    rw [if_neg (by rw [hat]; omega), w64 (n := ((n + 1 : Nat) : Int) - 1) (by omega) (by omega), show ((n + 1 : Nat) : Int) - 1 = (n : Int) by omega]
  | e + 1, i, nx, he, hlen, hnb, hn => by
    have hi : i < (2 * high + 1).toNat := by omega
    have ih := c1_ends at_ n hnK hat c hcc hb hnext e (i + 1)
    have hbi := hb i (by rw [hat]; exact hi)
    by_cases ha : at_.getD i 0 = 0
    · have hsk := nxOf_skipLt (i := i) ha hn
      have h := ih nx (by omega) hlen hnb hsk
      refine Ends.succ h fun k => ?_
      simp only [picketref18_Cost.l1]
      have q1 : (i : Int) < (at_.length : Int) := by rw [hat]; omega
      have q2 : (0 : Int) ≤ (i : Int) := by omega
      have hw : wrap64 ((i : Int) + 1) = ((i + 1 : Nat) : Int) := by rw [w64 (by omega) (by omega)]; omega
      have hr2 : rd at_ (i : Int) = at_.getD i 0 := by unfold rd; rw [Int.toNat_natCast]
      rw [if_pos q1, if_pos q2, hr2, if_pos ha, hw]
    · obtain ⟨dx, hdx⟩ : ∃ dx, dx = (if planF high S K plan (n + 1) ((i : Int) - high) < 0 ∨ planF high S K plan (n + 1) ((i : Int) - high) > 2 then 0 else planF high S K plan (n + 1) ((i : Int) - high)) := ⟨_, rfl⟩
      have hd02 : 0 ≤ dx ∧ dx ≤ 2 := by rw [hdx]; split <;> omega
      have hby : byA climb dx = byA climb (planF high S K plan (n + 1) ((i : Int) - high)) := by rw [hdx]; exact byA_clip high climb hh hh1 _
      obtain ⟨K2, h2⟩ := c2_ends high near climb T S K plan hh hh1 hc hc1 hT0 hT1 hK hl (planF high S K plan (n + 1)) at_ (n + 1) i dx hd02.1 hd02.2 hby hi hat c hcc hb (by omega) (fun nx' a b c' => ih nx' (by omega) a b c') 3 0 nx (by omega) hlen hnb (nxOf_cong hn fun i' d' _ _ => by constructor <;> intro q <;> omega)
      refine ⟨K2 + 4, fun k hk => ?_⟩
      obtain ⟨j, rfl⟩ : ∃ j, k = j + 4 := ⟨k - 4, by omega⟩
      have e2 := h2 j (by omega)
      simp only [] at e2
      have hask : picketref18_Ask.f high T near climb S ((i : Int) - high) ((n + 1 : Nat) : Int) = some (bt S (((n + 1 : Nat) : Int) * (2 * high + 1) + high + ((i : Int) - high))) := ask_at hh hh1 hT0 hT1 hl (n + 1) (by omega) ((i : Int) - high) (by omega) (by omega)
      have hst := step_eq high T near climb ((i : Int) - high) dx S (by omega) (by omega) (by omega) (by omega) (by omega) (by omega) (by omega)
      rw [hby] at hst
      have j4 : picketref18_Cost.j4 (j + 1) (K : Int) plan at_ ((n + 1 : Nat) : Int) nx (i : Int) dx high T near climb S = some r := by
        simp only [picketref18_Cost.j4]
        rw [w64 (n := (i : Int) - high) (by omega) (by omega)]
        rw [show picketref18_step.f high T near climb S ((i : Int) - high) dx = some (stayI ((i : Int) - high + byA climb (planF high S K plan (n + 1) ((i : Int) - high))) high) from hst, Option.bind_some]
        exact e2
      have j2 : ∀ v, v = planF high S K plan (n + 1) ((i : Int) - high) → picketref18_Cost.j2 (j + 3) (K : Int) plan at_ ((n + 1 : Nat) : Int) nx (i : Int) v high T near climb S = some r := by
        intro v hv
        rw [← hv] at hdx
        simp only [picketref18_Cost.j2, picketref18_Cost.j3, if_true]
        by_cases q : v < 0
        · rw [if_pos q]
          rw [if_pos (Or.inl q)] at hdx
          rw [hdx] at j4; exact j4
        · rw [if_neg q]
          by_cases q2 : v > 2
          · rw [if_pos (decide_eq_true q2)]
            rw [if_pos (Or.inr q2)] at hdx
            rw [hdx] at j4; exact j4
          · rw [if_neg (by simpa using q2)]
            rw [if_neg (by omega)] at hdx
            rw [hdx] at j4; exact j4
      simp only [picketref18_Cost.l1]
      have q1 : (i : Int) < (at_.length : Int) := by rw [hat]; omega
      have q2 : (0 : Int) ≤ (i : Int) := by omega
      have w1 : wrap64 ((i : Int) - high) = (i : Int) - high := w64 (by omega) (by omega)
      have hr2 : rd at_ (i : Int) = at_.getD i 0 := by unfold rd; rw [Int.toNat_natCast]
      rw [if_pos q1, if_pos q2, hr2, if_neg ha, w1, hask, Option.bind_some, w64 (n := (K : Int) - ((n + 1 : Nat) : Int)) (by omega) (by omega)]
      by_cases q : K - (n + 1) < plan.length
      · rw [if_pos (by omega), if_pos (by omega)]
        refine j2 _ ?_
        unfold planF rd
        rw [if_pos q, show ((K : Int) - ((n + 1 : Nat) : Int)).toNat = K - (n + 1) by omega]
      · rw [if_neg (by omega)]
        refine j2 _ ?_
        unfold planF
        rw [if_neg q]
theorem costK_at (f : Nat → Int → Int) (n i : Nat) (hi : i < (2 * high + 1).toNat) : (costK high near climb f (n + 1)).getD i 0 = doesA high climb (costK high near climb f n) ((i : Int) - high) (f (n + 1) ((i : Int) - high)) := by
  have h := ofW_cost_succ (high := high) (near := near) (climb := climb) f n ((i : Int) - high) (by omega) (by omega)
  unfold ofW at h
  rw [show (high + ((i : Int) - high)).toNat = i by omega] at h
  exact h
theorem c0_ends : ∀ (n : Nat) (at_ : List Int) (c m : Int), n ≤ K → at_.length = (2 * high + 1).toNat → c + n ≤ 1000 → (∀ i, i < at_.length → 0 ≤ at_.getD i 0 ∧ at_.getD i 0 ≤ c) → IsMx (2 * high + 1).toNat (fun i => at_.getD i 0) (fun i => (costK high near climb (planF high S K plan) n).getD i 0) m →
    Ends (fun k => picketref18_Cost.l0 k (K : Int) plan at_ (n : Int) high T near climb S) m
  | 0, at_, c, m, hn, hat, hcc, hb, hm => by
    have hend : ∀ i, i < (2 * high + 1).toNat → (costK high near climb (planF high S K plan) 0).getD i 0 = nearV near ((i : Int) - high) := by
      intro i hi
      have h := ofW_map (high := high) (nearV near) ((i : Int) - high) (by omega) (by omega)
      unfold ofW at h
      rw [show (high + ((i : Int) - high)).toNat = i by omega] at h
      exact h
    obtain ⟨m1, i0, q1, q2, q3⟩ := hm
    have hnv : ∀ x, 0 ≤ nearV near x ∧ nearV near x ≤ 1000 := by intro x; unfold nearV; split <;> omega
    have hb0 := hb i0 (by omega)
    have q3' := q3
    simp only [] at q2 q3'
    rw [hend i0 q1] at q3'
    have hnv0 := hnv ((i0 : Int) - high)
    have h3 := c3_ends high near climb T S hh hh1 at_ hat (fun i hi => ⟨(hb i hi).1, by have := (hb i hi).2; omega⟩) m (by omega) (fun i hi ha => by rw [← hend i (by omega)]; exact m1 i (by omega) ha) at_.length 0 0 (by omega) (by omega) (by omega) (Or.inr ⟨i0, by omega, by omega, q2, q3'⟩)
    refine Ends.succ h3 fun k => ?_
    simp only [picketref18_Cost.l0]
    rw [if_neg (by omega)]
    rfl
  | n + 1, at_, c, m, hn, hat, hcc, hb, hm => by
    have hc0 : 0 ≤ c := by have := hb 0 (by omega); omega
    have h1 := c1_ends high near climb T S K plan hh hh1 hc hc1 hT0 hT1 hK hl at_ n (by omega) hat c (by omega) hb (r := m) (fun nx hlen hnb hnx => by
      refine c0_ends n nx (c + 1) m (by omega) hlen (by omega) hnb ?_
      refine isMx_step (C' := fun i => (costK high near climb (planF high S K plan) (n + 1)).getD i 0) (fun i d _ _ => toI_lt (by omega) climb _ i d) (fun i => by show (0 : Int) ≤ (if _ then _ else _); split <;> omega) (fun i hi => ?_) hnx hm
      show (∀ d, d < 3 → _ ≤ (costK high near climb (planF high S K plan) (n + 1)).getD i 0) ∧ ∃ d, d < 3 ∧ (costK high near climb (planF high S K plan) (n + 1)).getD i 0 = _
      rw [costK_at high near climb T S K hh hh1 hc hc1 hT0 hT1 hK hl (planF high S K plan) n i hi]
      exact does_way (by omega) (by omega) (costK_good high near climb (planF high S K plan) n) (planF high S K plan (n + 1)) i) (2 * high + 1).toNat 0 (List.replicate (2 * high + 1).toNat 0) (by omega) (by simp) (fun j hj => by rw [List.length_replicate] at hj; simp [List.getD_eq_getElem?_getD, hj]; omega) (by
        have e : (fun j => (List.replicate (2 * high + 1).toNat (0 : Int)).getD j 0) = fun _ => 0 := by
          funext j
          simp only [List.getD_eq_getElem?_getD, List.getElem?_replicate]
          split <;> rfl
        rw [e]
        exact nxOf_cong (nxOf_none _ _ _ _) fun i' d' _ _ => by constructor <;> intro q <;> first | exact q.elim | omega)
    refine Ends.succ h1 fun k => ?_
    simp only [picketref18_Cost.l0]
    rw [if_pos (by omega), if_pos (by omega), if_pos (by rw [Int.toNat_natCast, hat]; omega), Int.toNat_natCast, hat]
    rfl
end
theorem cost_ref (a0 a1 a2 a3 h q : Int) (S : ByteArray) (plan : List Int) : Ends (fun k => picketref18_Cost.f k a0 a1 a2 a3 S h q plan) (costV a0 a1 a2 a3 S h q plan) := by
  by_cases hm : mayB a0 a1 a2 a3 = true
  · have hb := mayB_iff.1 hm
    by_cases hl : ((S.size : Int) == (a1 + 1) * (2 * a0 + 1)) = true
    · have hl' := eq_of_beq hl
      have hs := stayI_rng (show 0 ≤ a0 by omega) h
      obtain ⟨K, hK⟩ : ∃ K, K = (min (max q 0) a1).toNat := ⟨_, rfl⟩
      have hKi : (K : Int) = min (max q 0) a1 := by omega
      have hat : ((List.replicate (2 * a0 + 1).toNat (0 : Int)).set (a0 + stayI h a0).toNat 1).length = (2 * a0 + 1).toNat := by rw [List.length_set, List.length_replicate]
      have hg1 : ((List.replicate (2 * a0 + 1).toNat (0 : Int)).set (a0 + stayI h a0).toNat 1).getD (a0 + stayI h a0).toNat 0 = 1 := getD_set_eq _ _ _ (by rw [List.length_replicate]; omega)
      have hg0 : ∀ i, i ≠ (a0 + stayI h a0).toNat → ((List.replicate (2 * a0 + 1).toNat (0 : Int)).set (a0 + stayI h a0).toNat 1).getD i 0 = 0 := by
        intro i hi
        rw [getD_set_other _ _ _ _ hi]
        simp only [List.getD_eq_getElem?_getD, List.getElem?_replicate]
        split <;> rfl
      have hc : costV a0 a1 a2 a3 S h q plan = (costK a0 a2 a3 (planF a0 S K plan) K).getD (a0 + stayI h a0).toNat 0 := by
        unfold costV
        rw [if_pos ⟨hm, hl⟩, ← hK]
        rfl
      rw [hc]
      obtain ⟨K0, h0⟩ := c0_ends a0 a2 a3 a1 S K plan (by omega) (by omega) (by omega) (by omega) (by omega) (by omega) (by omega) hl' K ((List.replicate (2 * a0 + 1).toNat (0 : Int)).set (a0 + stayI h a0).toNat 1) 1 _ (by omega) hat (by omega) (fun i hi => by
          by_cases e : i = (a0 + stayI h a0).toNat
          · rw [e, hg1]; omega
          · rw [hg0 i e]; omega) (isMx_start (C := fun i => (costK a0 a2 a3 (planF a0 S K plan) K).getD i 0) (i0 := (a0 + stayI h a0).toNat) (by omega) hg1 hg0)
      refine ⟨K0, fun k hk => ?_⟩
      have e0 := h0 k hk
      simp only [] at e0
      have hcl : picketref1_Clamp.f q 0 a1 = some (K : Int) := by
        unfold picketref1_Clamp.f
        (repeat' split) <;> simp only [Option.some.injEq] <;> omega
      simp only [picketref18_Cost.f]
      rw [long_ref _ _ _ _ _ hm, Option.bind_some, if_pos hl, stay_eq (by omega) (by omega), Option.bind_some, hcl, Option.bind_some, w64 (n := 2 * a0) (by omega) (by omega), w64 (n := 2 * a0 + 1) (by omega) (by omega), if_pos (by omega), if_pos (by omega), Option.bind_some, w64 (n := a0 + stayI h a0) (by omega) (by omega), if_pos (by omega), if_pos (by rw [List.length_replicate]; omega)]
      exact e0
    · refine ⟨0, fun k _ => ?_⟩
      simp only [picketref18_Cost.f]
      rw [long_ref _ _ _ _ _ hm, Option.bind_some, if_neg hl]
      unfold costV
      rw [if_neg (fun e => hl e.2)]
  · refine ⟨0, fun k _ => ?_⟩
    simp only [picketref18_Cost.f, picketref18_long.f]
    rw [right_eq, Option.bind_some, if_neg hm, Option.bind_some, show costV a0 a1 a2 a3 S h q plan = 0 from if_neg (fun e => hm e.1)]
    rfl
theorem putAny (a0 a1 a2 a3 : Int) (S : ByteArray) (hS : S.size ≤ 4611686018427387000) : ∃ r, Ends (fun k => advise_Put.f k a0 a1 a2 a3 S) r ∧ Ends (fun k => picketref18_Put.f k a0 a1 a2 a3 S) r := by
  obtain ⟨Kv, hv⟩ := valid_ref a0 a1 a2 a3 S
  by_cases hV : validV a0 a1 a2 a3 S = true
  · have hlen : (strOfNums ([a0 % 256, a1 % 256, a2 % 256, a3 % 256] : List Int)).size = 4 := by rw [Go.Proofs.Ytjidbjmekpholaa.AdB.strOf_size]; rfl
    have hcat : (S ++ strOfNums ([a0 % 256, a1 % 256, a2 % 256, a3 % 256] : List Int)).size = S.size + 4 := by rw [ByteArray.size_append, hlen]
    obtain ⟨k0, c, hc, hr⟩ := Go.Proofs.Ytjidbjmekpholaa.AdZ.sum_ends (S ++ strOfNums ([a0 % 256, a1 % 256, a2 % 256, a3 % 256] : List Int)) (by rw [hcat]; omega)
    have hsame : ∀ k, fix_Sum.f k (S ++ strOfNums ([a0 % 256, a1 % 256, a2 % 256, a3 % 256] : List Int)) = picketref1_Sum.f k (S ++ strOfNums ([a0 % 256, a1 % 256, a2 % 256, a3 % 256] : List Int)) := fun k => (sum_eq _ (by rw [hcat]; omega) k _ 0 ⟨by omega, by omega⟩ (by omega) (by omega)).1
    have hf : ∀ k, k0 ≤ k → fix_Sum.f k (S ++ strOfNums ([a0 % 256, a1 % 256, a2 % 256, a3 % 256] : List Int)) = some c := by
      intro k hk
      have e0 : fix_Sum.f k0 (S ++ strOfNums ([a0 % 256, a1 % 256, a2 % 256, a3 % 256] : List Int)) = some c := hc
      obtain ⟨d, rfl⟩ : ∃ d, k = k0 + d := ⟨k - k0, by omega⟩
      clear hk
      induction d with
      | zero => exact e0
      | succ d ih =>
        exact fix_Sum.mono _ (k0 + d) _ ih
    have hr' := hr
    unfold Go.Proofs.Ytjidbjmekpholaa.AdZ.r32 at hr'
    have hput : fix_Put.f c 5 = some (strOfNums (Go.Pk.Fx.putL c 5), 0) := by
      unfold fix_Put.f putF
      rw [if_pos rfl, if_pos]
      left
      omega
    have hput2 : picketref1_Put.f c 5 = some (strOfNums (Go.Pk.Fx.putL c 5), 0) := by
      unfold picketref1_Put.f
      rw [if_pos ⟨rfl, by omega, by omega⟩]
    have hl5 : (strOfNums (Go.Pk.Fx.putL c 5)).size = 5 := by rw [Go.Proofs.Ytjidbjmekpholaa.AdB.strOf_size]; simp [Go.Pk.Fx.putL]
    refine ⟨(strOfNums ([a0 % 256, a1 % 256, a2 % 256, a3 % 256] : List Int) ++ strOfNums (Go.Pk.Fx.putL c 5), 0), ⟨k0, fun k hk => ?_⟩, ⟨max k0 Kv, fun k hk => ?_⟩⟩
    · simp only [advise_Put.f, advise_laid.f]
      rw [valid_adv, Option.bind_some, if_pos hV, Option.bind_some, if_pos (by rw [hlen]; omega), hf k hk, Option.bind_some, hput, Option.bind_some, Option.bind_some, if_pos (by rw [hlen, hl5]; omega)]
    · have e := hv k (by omega)
      simp only [] at e
      simp only [picketref18_Put.f]
      rw [e, Option.bind_some, if_pos hV, Option.bind_some, if_pos (by rw [hlen]; omega), ← hsame, hf k (by omega), Option.bind_some, hput2, Option.bind_some, if_pos (by rw [hlen, hl5]; omega)]
  · refine ⟨((⟨#[]⟩ : ByteArray), 1), ⟨0, fun k hk => ?_⟩, ⟨Kv, fun k hk => ?_⟩⟩
    · simp only [advise_Put.f]
      rw [valid_adv, Option.bind_some, if_neg hV]
    · have e := hv k hk
      simp only [] at e
      simp only [picketref18_Put.f]
      rw [e, Option.bind_some, if_neg hV]
end Go.Proofs.Ytjidbjmekpholaa.AdW
