/- Proved here: lemmas and contracts (what a function of the program computes) that the proofs of the laws of this seat lean on. Conditions: as each theorem states. -/
import Derived.Test.YtjidbjmekpholaaAdM
set_option linter.unusedVariables false
namespace Go.Pk.Ad
theorem ofW_map {high : Int} (f : Int → Int) (h : Int) (h0 : -high ≤ h) (h1 : h ≤ high) : ofW high ((hsL high).map f) h = f h := by
  unfold ofW
  have hl : (high + h).toNat < ((hsL high).map f).length := by rw [List.length_map, hsL_length]; omega
  rw [List.getD_eq_getElem?_getD, List.getElem?_eq_getElem hl]
  simp only [hsL, hsN, List.getElem_map, List.getElem_range, Option.getD_some]
  congr 1
  omega
theorem bestA_val (high climb : Int) (W : List Int) (h : Int) : doesA high climb W h (bestA high climb W h).1 = (bestA high climb W h).2 := by
  unfold bestA pickA
  simp only []
  split <;> (try split) <;> rfl
theorem doesA_other (high climb : Int) (W : List Int) (h d : Int) (h1 : d ≠ 1) (h2 : d ≠ 2) : doesA high climb W h d = doesA high climb W h 0 := by
  have e : byA climb d = byA climb 0 := by unfold byA; rw [if_neg h1, if_neg h2]; simp
  unfold doesA
  rw [e]
theorem bestA_le (high climb : Int) (W : List Int) (h d : Int) : (bestA high climb W h).2 ≤ doesA high climb W h d := by
  have key : (bestA high climb W h).2 ≤ doesA high climb W h 0 ∧ (bestA high climb W h).2 ≤ doesA high climb W h 1 ∧ (bestA high climb W h).2 ≤ doesA high climb W h 2 := by
    unfold bestA pickA
    simp only []
    split <;> (try split) <;> simp only [] at * <;> omega
  by_cases h1 : d = 1
  · subst h1; exact key.2.1
  by_cases h2 : d = 2
  · subst h2; exact key.2.2
  rw [doesA_other _ _ _ _ _ h1 h2]; exact key.1
theorem doesA_mono {high climb : Int} {W W' : List Int} (hh : 0 ≤ high) (hm : ∀ x, -high ≤ x → x ≤ high → ofW high W x ≤ ofW high W' x) (h d : Int) : doesA high climb W h d ≤ doesA high climb W' h d := by
  have key : ∀ m, worstA high W m ≤ worstA high W' m := by
    intro m
    have a1 := hm _ (stayI_rng hh (m + -1)).1 (stayI_rng hh (m + -1)).2
    have a2 := hm _ (stayI_rng hh (m + 0)).1 (stayI_rng hh (m + 0)).2
    have a3 := hm _ (stayI_rng hh (m + 1)).1 (stayI_rng hh (m + 1)).2
    unfold worstA
    omega
  have := key (stayI (h + byA climb d) high)
  unfold doesA
  omega
theorem ofW_worth_succ {high near climb : Int} (n : Nat) (x : Int) (h0 : -high ≤ x) (h1 : x ≤ high) : ofW high (worthK high near climb (n + 1)) x = (bestA high climb (worthK high near climb n) x).2 := ofW_map _ x h0 h1
theorem ofW_cost_succ {high near climb : Int} (f : Nat → Int → Int) (n : Nat) (x : Int) (h0 : -high ≤ x) (h1 : x ≤ high) : ofW high (costK high near climb f (n + 1)) x = doesA high climb (costK high near climb f n) x (f (n + 1) x) := ofW_map _ x h0 h1
theorem worth_le {high near climb : Int} (hh : 0 ≤ high) (f : Nat → Int → Int) : ∀ (n : Nat) (x : Int), -high ≤ x → x ≤ high → ofW high (worthK high near climb n) x ≤ ofW high (costK high near climb f n) x
  | 0, x, _, _ => Int.le_refl _
  | n + 1, x, h0, h1 => by
    rw [ofW_worth_succ n x h0 h1, ofW_cost_succ f n x h0 h1]
    exact Int.le_trans (bestA_le _ _ _ _ _) (doesA_mono hh (worth_le hh f n) _ _)
theorem hsL_mem {high x : Int} (h : x ∈ hsL high) (hh : 0 ≤ high) : -high ≤ x ∧ x ≤ high := by
  obtain ⟨i, hi, rfl⟩ := List.mem_map.1 h
  have := List.mem_range.1 hi
  omega
theorem cost_eq {high near climb : Int} (hh : 0 ≤ high) (f : Nat → Int → Int) : ∀ (n : Nat), (∀ m : Nat, m < n → ∀ x, -high ≤ x → x ≤ high → f (m + 1) x = (bestA high climb (worthK high near climb m) x).1) → costK high near climb f n = worthK high near climb n
  | 0, _ => rfl
  | n + 1, hf => by
    show planW _ _ (costK high near climb f n) _ = tickW _ _ (worthK high near climb n)
    rw [cost_eq hh f n fun m hm => hf m (by omega)]
    refine List.map_congr_left fun x hx => ?_
    have hr := hsL_mem hx hh
    rw [hf n (by omega) x hr.1 hr.2, bestA_val]
/-- What stands in the table. -/
theorem bestK_at (high near climb : Int) (hh : 0 ≤ high) : ∀ (T n : Nat) (x : Int), n ≤ T → -high ≤ x → x ≤ high → (bestK high near climb T).getD (n * (2 * high + 1).toNat + (high + x).toNat) 0 = if n = 0 then 0 else (bestA high climb (worthK high near climb (n - 1)) x).1
  | 0, n, x, hn, h0, h1 => by
    obtain rfl : n = 0 := by omega
    rw [if_pos rfl, Nat.zero_mul, Nat.zero_add]
    show (List.replicate _ 0).getD _ 0 = (0 : Int)
    rw [List.getD_eq_getElem?_getD, List.getElem?_replicate]
    split <;> rfl
  | T + 1, n, x, hn, h0, h1 => by
    have hl := bestK_length high near climb T
    have hi : (high + x).toNat < (2 * high + 1).toNat := by omega
    show (bestK high near climb T ++ tickB high climb (worthK high near climb T)).getD _ 0 = _
    rw [List.getD_eq_getElem?_getD]
    by_cases hc : n ≤ T
    · have hlt : n * (2 * high + 1).toNat + (high + x).toNat < (bestK high near climb T).length := by
        rw [hl]
        have : (n + 1) * (2 * high + 1).toNat ≤ (T + 1) * (2 * high + 1).toNat := Nat.mul_le_mul_right _ (by omega)
        rw [Nat.add_mul, Nat.one_mul] at this
        omega
      rw [List.getElem?_append_left hlt, ← List.getD_eq_getElem?_getD]
      exact bestK_at high near climb hh T n x hc h0 h1
    · obtain rfl : n = T + 1 := by omega
      have hge : (bestK high near climb T).length ≤ (T + 1) * (2 * high + 1).toNat + (high + x).toNat := by rw [hl]; omega
      rw [List.getElem?_append_right hge, hl, Nat.add_sub_cancel_left, if_neg (by omega)]
      have hl2 : (high + x).toNat < (tickB high climb (worthK high near climb T)).length := by rw [tickB, List.length_map, hsL_length]; exact hi
      rw [List.getElem?_eq_getElem hl2]
      simp only [tickB, hsL, hsN, List.getElem_map, List.getElem_range, Option.getD_some, Nat.add_sub_cancel]
      congr 2
      omega
/-! Far away: nothing. -/
theorem worth_far {high near climb : Int} (hh : 0 ≤ high) : ∀ (n : Nat) (x : Int), -high ≤ x → x ≤ high → near + n ≤ max x (-x) → near + n ≤ high → ofW high (worthK high near climb n) x = 0
  | 0, x, h0, h1, h2, h3 => by
    show ofW high ((hsL high).map (nearV near)) x = 0
    rw [ofW_map _ x h0 h1]
    unfold nearV
    rw [if_neg (by omega)]
  | n + 1, x, h0, h1, h2, h3 => by
    rw [ofW_worth_succ n x h0 h1]
    have hG := worthK_good high near climb n
    have a1 : worstA high (worthK high near climb n) (stayI (x + byA climb 0) high) = 0 := by
      have e : stayI (x + byA climb 0) high = x := by unfold stayI byA; simp; omega
      rw [e]
      have b1 := worth_far (near := near) (climb := climb) hh n (stayI (x + -1) high) (stayI_rng hh _).1 (stayI_rng hh _).2 (by unfold stayI; omega) (by omega)
      have b2 := worth_far (near := near) (climb := climb) hh n (stayI (x + 0) high) (stayI_rng hh _).1 (stayI_rng hh _).2 (by unfold stayI; omega) (by omega)
      have b3 := worth_far (near := near) (climb := climb) hh n (stayI (x + 1) high) (stayI_rng hh _).1 (stayI_rng hh _).2 (by unfold stayI; omega) (by omega)
      unfold worstA
      rw [b1, b2, b3]
      rfl
    have a0 : doesA high climb (worthK high near climb n) x 0 = 0 := by
      unfold doesA
      rw [a1]
      simp [byA]
    have l := bestA_le high climb (worthK high near climb n) x 0
    have g := (bestA_rng (climb := climb) hG (by omega) x).1
    omega
theorem best_far {high near climb : Int} (hh : 0 ≤ high) (n : Nat) (x : Int) (h0 : -high ≤ x) (h1 : x ≤ high) (h2 : near + n + 1 ≤ max x (-x)) (h3 : near + n + 1 ≤ high) : (bestA high climb (worthK high near climb n) x).1 = 0 := by
  have hG := worthK_good high near climb n
  have a1 : worstA high (worthK high near climb n) (stayI (x + byA climb 0) high) = 0 := by
    have e : stayI (x + byA climb 0) high = x := by unfold stayI byA; simp; omega
    rw [e]
    have b1 := worth_far (near := near) (climb := climb) hh n (stayI (x + -1) high) (stayI_rng hh _).1 (stayI_rng hh _).2 (by unfold stayI; omega) (by omega)
    have b2 := worth_far (near := near) (climb := climb) hh n (stayI (x + 0) high) (stayI_rng hh _).1 (stayI_rng hh _).2 (by unfold stayI; omega) (by omega)
    have b3 := worth_far (near := near) (climb := climb) hh n (stayI (x + 1) high) (stayI_rng hh _).1 (stayI_rng hh _).2 (by unfold stayI; omega) (by omega)
    unfold worstA
    rw [b1, b2, b3]
    rfl
  have a0 : doesA high climb (worthK high near climb n) x 0 = 0 := by
    unfold doesA
    rw [a1]
    simp [byA]
  have g1 := (doesA_rng (climb := climb) hG (by omega) x 1).1
  have g2 := (doesA_rng (climb := climb) hG (by omega) x 2).1
  unfold bestA pickA
  rw [a0]
  simp only []
  have n1 : ¬ doesA high climb (worthK high near climb n) x 1 < 0 := by omega
  have n2 : ¬ doesA high climb (worthK high near climb n) x 2 < 0 := by omega
  simp [n1, n2]
/-! Seen from below all is turned. -/
theorem does_turn {high climb : Int} {W : List Int} (hh : 0 ≤ high) (hs : ∀ x, -high ≤ x → x ≤ high → ofW high W (-x) = ofW high W x) (x d e : Int) (hde : byA climb e = -byA climb d) : doesA high climb W (-x) e = doesA high climb W x d := by
  have ws : ∀ m, worstA high W (-m) = worstA high W m := by
    intro m
    have e1 : stayI (-m + -1) high = -stayI (m + 1) high := by unfold stayI; omega
    have e2 : stayI (-m + 0) high = -stayI (m + 0) high := by unfold stayI; omega
    have e3 : stayI (-m + 1) high = -stayI (m + -1) high := by unfold stayI; omega
    unfold worstA
    rw [e1, e2, e3, hs _ (stayI_rng hh _).1 (stayI_rng hh _).2, hs _ (stayI_rng hh _).1 (stayI_rng hh _).2, hs _ (stayI_rng hh _).1 (stayI_rng hh _).2]
    omega
  have e4 : stayI (-x + byA climb e) high = -stayI (x + byA climb d) high := by rw [hde]; unfold stayI; omega
  unfold doesA
  rw [e4, ws, hde]
  have : (if -byA climb d = 0 then (0 : Int) else 1) = if byA climb d = 0 then 0 else 1 := by split <;> split <;> omega
  rw [this]
theorem by_turn (climb : Int) : byA climb 2 = -byA climb 1 ∧ byA climb 1 = -byA climb 2 ∧ byA climb 0 = -byA climb 0 := by unfold byA; simp
theorem best_turn {high climb : Int} {W : List Int} (hh : 0 ≤ high) (hs : ∀ x, -high ≤ x → x ≤ high → ofW high W (-x) = ofW high W x) (x : Int) : (bestA high climb W (-x)).2 = (bestA high climb W x).2 ∧ ((bestA high climb W (-x)).1 = 0 ↔ (bestA high climb W x).1 = 0) ∧ (x = 0 → (bestA high climb W x).1 ≠ 2) := by
  have d0 := does_turn (climb := climb) hh hs x 0 0 (by_turn climb).2.2
  have d1 := does_turn (climb := climb) hh hs x 2 1 (by_turn climb).2.1
  have d2 := does_turn (climb := climb) hh hs x 1 2 (by_turn climb).1
  unfold bestA
  rw [d0, d1, d2]
  refine ⟨?_, ?_, fun h0 => ?_⟩
  · unfold pickA; simp only []; (repeat' split) <;> simp only [] at * <;> omega
  · unfold pickA; simp only []; (repeat' split) <;> simp only [] at * <;> omega
  · subst h0
    have e : doesA high climb W 0 2 = doesA high climb W 0 1 := by simpa using d2
    rw [e]
    unfold pickA; simp only []; (repeat' split) <;> simp only [] at * <;> omega
theorem worth_turn {high near climb : Int} (hh : 0 ≤ high) : ∀ (n : Nat) (x : Int), -high ≤ x → x ≤ high → ofW high (worthK high near climb n) (-x) = ofW high (worthK high near climb n) x
  | 0, x, h0, h1 => by
    show ofW high ((hsL high).map (nearV near)) (-x) = ofW high ((hsL high).map (nearV near)) x
    rw [ofW_map _ x h0 h1, ofW_map _ (-x) (by omega) (by omega)]
    unfold nearV
    rw [Int.neg_neg, Int.max_comm]
  | n + 1, x, h0, h1 => by
    rw [ofW_worth_succ n x h0 h1, ofW_worth_succ n (-x) (by omega) (by omega)]
    exact (best_turn hh (worth_turn hh n) x).1
end Go.Pk.Ad
namespace Go.Pk.Ad
/-! A plan's cost by the way ahead (what was paid on the way to a height, and one; 0: it is not come to) is its cost by the way back. -/
def IsMx (N : Nat) (at_ C : Nat → Int) (m : Int) : Prop := (∀ i, i < N → 0 < at_ i → at_ i - 1 + C i ≤ m) ∧ ∃ i, i < N ∧ 0 < at_ i ∧ at_ i - 1 + C i = m
def NxOf (N : Nat) (at_ p : Nat → Int) (t : Nat → Nat → Nat) (S : Nat → Nat → Prop) (nx : Nat → Int) : Prop :=
  (∀ i d, i < N → d < 3 → S i d → 0 < at_ i → at_ i + p i ≤ nx (t i d)) ∧ (∀ j, 0 < nx j → ∃ i d, i < N ∧ d < 3 ∧ S i d ∧ 0 < at_ i ∧ t i d = j ∧ nx j = at_ i + p i) ∧ ∀ j, 0 ≤ nx j
theorem isMx_step {N : Nat} {at_ p C C' nx : Nat → Int} {t : Nat → Nat → Nat} {m : Int} (ht : ∀ i d, i < N → d < 3 → t i d < N) (hp : ∀ i, 0 ≤ p i)
    (hC : ∀ i, i < N → (∀ d, d < 3 → p i + C (t i d) ≤ C' i) ∧ ∃ d, d < 3 ∧ C' i = p i + C (t i d)) (hn : NxOf N at_ p t (fun _ _ => True) nx) (h : IsMx N at_ C' m) : IsMx N nx C m := by
  obtain ⟨n1, n2, n3⟩ := hn
  obtain ⟨h1, i, hi, ha, he⟩ := h
  have up : ∀ j, j < N → 0 < nx j → nx j - 1 + C j ≤ m := by
    intro j hj hp0
    obtain ⟨i, d, hi, hd, -, ha, rfl, e⟩ := n2 j hp0
    have := h1 i hi ha
    have := (hC i hi).1 d hd
    omega
  obtain ⟨d, hd, e⟩ := (hC i hi).2
  have g := n1 i d hi hd trivial ha
  have hpi := hp i
  have u := up (t i d) (ht i d hi hd) (by omega)
  exact ⟨up, t i d, ht i d hi hd, by omega, by omega⟩
theorem nxOf_none (N : Nat) (at_ p : Nat → Int) (t : Nat → Nat → Nat) : NxOf N at_ p t (fun _ _ => False) (fun _ => 0) :=
  ⟨fun _ _ _ _ h => h.elim, fun j h => absurd h (Int.lt_irrefl 0), fun _ => Int.le_refl _⟩
/-- One more way: the place keeps the more. -/
theorem nxOf_more {N : Nat} {at_ p nx nx' : Nat → Int} {t : Nat → Nat → Nat} {S S' : Nat → Nat → Prop} {i0 d0 : Nat} (hi : i0 < N) (hd : d0 < 3) (ha : 0 < at_ i0) (hp : 0 ≤ p i0) (hn : NxOf N at_ p t S nx)
    (hS : ∀ i d, S' i d ↔ (S i d ∨ (i = i0 ∧ d = d0))) (h1 : nx' (t i0 d0) = max (nx (t i0 d0)) (at_ i0 + p i0)) (h2 : ∀ j, j ≠ t i0 d0 → nx' j = nx j) : NxOf N at_ p t S' nx' := by
  obtain ⟨n1, n2, n3⟩ := hn
  have hmono : ∀ j, nx j ≤ nx' j := by
    intro j
    by_cases e : j = t i0 d0
    · rw [e, h1]; omega
    · rw [h2 j e]; exact Int.le_refl _
  refine ⟨fun i d hi' hd' hs ha' => ?_, fun j hj => ?_, fun j => Int.le_trans (n3 j) (hmono j)⟩
  · rcases (hS i d).1 hs with hs | ⟨rfl, rfl⟩
    · exact Int.le_trans (n1 i d hi' hd' hs ha') (hmono _)
    · rw [h1]; omega
  · by_cases e : j = t i0 d0
    · rw [e, h1] at hj ⊢
      by_cases hle : nx (t i0 d0) ≤ at_ i0 + p i0
      · exact ⟨i0, d0, hi, hd, (hS _ _).2 (Or.inr ⟨rfl, rfl⟩), ha, rfl, by omega⟩
      · obtain ⟨i, d, q1, q2, q3, q4, q5, q6⟩ := n2 (t i0 d0) (by omega)
        exact ⟨i, d, q1, q2, (hS _ _).2 (Or.inl q3), q4, q5, by omega⟩
    · rw [h2 j e] at hj ⊢
      obtain ⟨i, d, q1, q2, q3, q4, q5, q6⟩ := n2 j hj
      exact ⟨i, d, q1, q2, (hS _ _).2 (Or.inl q3), q4, q5, q6⟩
/-- A height that is not come to adds no way. -/
theorem nxOf_skip {N : Nat} {at_ p nx : Nat → Int} {t : Nat → Nat → Nat} {S S' : Nat → Nat → Prop} {i0 : Nat} (ha : ¬ 0 < at_ i0) (hn : NxOf N at_ p t S nx) (hS : ∀ i d, S' i d → S i d ∨ i = i0) (hS2 : ∀ i d, S i d → S' i d) : NxOf N at_ p t S' nx := by
  obtain ⟨n1, n2, n3⟩ := hn
  refine ⟨fun i d hi hd hs ha' => ?_, fun j hj => ?_, n3⟩
  · rcases hS i d hs with hs | rfl
    · exact n1 i d hi hd hs ha'
    · exact absurd ha' ha
  · obtain ⟨i, d, q1, q2, q3, q4, q5, q6⟩ := n2 j hj
    exact ⟨i, d, q1, q2, hS2 _ _ q3, q4, q5, q6⟩
/-- At the start one height is come to, and nothing was paid. -/
theorem isMx_start {N : Nat} {at_ C : Nat → Int} {i0 : Nat} (hi : i0 < N) (h1 : at_ i0 = 1) (h2 : ∀ i, i ≠ i0 → at_ i = 0) : IsMx N at_ C (C i0) := by
  refine ⟨fun i hi' ha => ?_, i0, hi, by omega, by omega⟩
  by_cases e : i = i0
  · subst e; omega
  · rw [h2 i e] at ha; omega
/-- Where a craft comes to from a place: by what it does, and by what the other one may do. -/
def toI (high climb : Int) (f : Int → Int) (i d : Nat) : Nat := (high + stayI (stayI ((i : Int) - high + byA climb (f ((i : Int) - high))) high + ((d : Int) - 1)) high).toNat
theorem toI_lt {high : Int} (hh : 0 ≤ high) (climb : Int) (f : Int → Int) (i d : Nat) : toI high climb f i d < (2 * high + 1).toNat := by
  have := stayI_rng hh (stayI ((i : Int) - high + byA climb (f ((i : Int) - high))) high + ((d : Int) - 1))
  unfold toI; omega
theorem does_way {high climb b : Int} {W : List Int} (hh : 0 ≤ high) (hb : 0 ≤ b) (hW : GoodW high W b) (f : Int → Int) (i : Nat) :
    (∀ d, d < 3 → (if byA climb (f ((i : Int) - high)) = 0 then 0 else 1) + W.getD (toI high climb f i d) 0 ≤ doesA high climb W ((i : Int) - high) (f ((i : Int) - high))) ∧
    ∃ d, d < 3 ∧ doesA high climb W ((i : Int) - high) (f ((i : Int) - high)) = (if byA climb (f ((i : Int) - high)) = 0 then 0 else 1) + W.getD (toI high climb f i d) 0 := by
  have e : ∀ d : Nat, W.getD (toI high climb f i d) 0 = ofW high W (stayI (stayI ((i : Int) - high + byA climb (f ((i : Int) - high))) high + ((d : Int) - 1)) high) := fun d => rfl
  have e0 := e 0
  have e1 := e 1
  have e2 := e 2
  unfold doesA worstA
  generalize stayI ((i : Int) - high + byA climb (f ((i : Int) - high))) high = z at *
  have r0 := ofW_rng hW hb (stayI (z + -1) high)
  have r1 := ofW_rng hW hb (stayI (z + 0) high)
  have r2 := ofW_rng hW hb (stayI (z + 1) high)
  rw [show z + (((0 : Nat) : Int) - 1) = z + -1 by omega] at e0
  rw [show z + (((1 : Nat) : Int) - 1) = z + 0 by omega] at e1
  rw [show z + (((2 : Nat) : Int) - 1) = z + 1 by omega] at e2
  generalize (if byA climb (f ((i : Int) - high)) = 0 then (0 : Int) else 1) = p at *
  generalize ofW high W (stayI (z + -1) high) = a0 at *
  generalize ofW high W (stayI (z + 0) high) = a1 at *
  generalize ofW high W (stayI (z + 1) high) = a2 at *
  refine ⟨fun d hd => ?_, ?_⟩
  · rcases (show d = 0 ∨ d = 1 ∨ d = 2 by omega) with rfl | rfl | rfl
    · rw [e0]; omega
    · rw [e1]; omega
    · rw [e2]; omega
  · by_cases q : a1 ≤ a0 ∧ a2 ≤ a0
    · exact ⟨0, by omega, by rw [e0]; omega⟩
    · by_cases q1 : a0 ≤ a1 ∧ a2 ≤ a1
      · exact ⟨1, by omega, by rw [e1]; omega⟩
      · exact ⟨2, by omega, by rw [e2]; omega⟩
end Go.Pk.Ad
