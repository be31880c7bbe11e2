/- Proved here: lemmas and contracts (what a function of the program computes) that the proofs of the laws of this seat lean on. Conditions: as each theorem states. -/
import Derived.Test.YtjidbjmekpholaaM0
set_option linter.unusedVariables false
namespace Go.Pk.Ad
/-! Tables of what to do when another craft comes near: heights from -high to high, the worth of each, a tick less ahead. -/
def stayI (h high : Int) : Int := min (max h (-high)) high
def ofW (high : Int) (W : List Int) (h : Int) : Int := W.getD (high + h).toNat 0
def byA (climb d : Int) : Int := if d = 1 then climb else if d = 2 then -climb else 0
def worstA (high : Int) (W : List Int) (m : Int) : Int := max (max (max 0 (ofW high W (stayI (m + -1) high))) (ofW high W (stayI (m + 0) high))) (ofW high W (stayI (m + 1) high))
def doesA (high climb : Int) (W : List Int) (h d : Int) : Int := worstA high W (stayI (h + byA climb d) high) + (if byA climb d = 0 then 0 else 1)
def pickA (s : Int × Int) (d n : Int) : Int × Int := if n < s.2 then (d, n) else s
def bestA (high climb : Int) (W : List Int) (h : Int) : Int × Int := pickA (pickA (0, doesA high climb W h 0) 1 (doesA high climb W h 1)) 2 (doesA high climb W h 2)
/-- The first n heights. -/
def hsN (high : Int) (n : Nat) : List Int := (List.range n).map fun (i : Nat) => (i : Int) - high
def hsL (high : Int) : List Int := hsN high (2 * high + 1).toNat
def nearV (near h : Int) : Int := if max h (-h) < near then 1000 else 0
def endW (high near : Int) : List Int := (hsL high).map (nearV near)
def tickW (high climb : Int) (W : List Int) : List Int := (hsL high).map fun h => (bestA high climb W h).2
def tickB (high climb : Int) (W : List Int) : List Int := (hsL high).map fun h => (bestA high climb W h).1
def worthK (high near climb : Int) : Nat → List Int
  | 0 => endW high near
  | n + 1 => tickW high climb (worthK high near climb n)
def bestK (high near climb : Int) : Nat → List Int
  | 0 => List.replicate (2 * high + 1).toNat 0
  | n + 1 => bestK high near climb n ++ tickB high climb (worthK high near climb n)
/-- What a plan costs: what is done at a height with so many ticks left. -/
def planW (high climb : Int) (W : List Int) (f : Int → Int) : List Int := (hsL high).map fun h => doesA high climb W h (f h)
def costK (high near climb : Int) (f : Nat → Int → Int) : Nat → List Int
  | 0 => endW high near
  | n + 1 => planW high climb (costK high near climb f n) (f (n + 1))
def GoodW (high : Int) (W : List Int) (b : Int) : Prop := W.length = (2 * high + 1).toNat ∧ ∀ x ∈ W, 0 ≤ x ∧ x ≤ b
theorem hsN_succ (high : Int) (n : Nat) : hsN high (n + 1) = hsN high n ++ [(n : Int) - high] := by simp [hsN, List.range_succ]
theorem hsN_length (high : Int) (n : Nat) : (hsN high n).length = n := by simp [hsN]
theorem hsL_length (high : Int) : (hsL high).length = (2 * high + 1).toNat := hsN_length _ _
theorem stayI_rng {high : Int} (h : 0 ≤ high) (x : Int) : -high ≤ stayI x high ∧ stayI x high ≤ high := by unfold stayI; omega
theorem ofW_rng {high b : Int} {W : List Int} (hW : GoodW high W b) (hb : 0 ≤ b) (h : Int) : 0 ≤ ofW high W h ∧ ofW high W h ≤ b := by
  unfold ofW
  by_cases hl : (high + h).toNat < W.length
  · have := hW.2 (W.getD (high + h).toNat 0) (by rw [List.getD_eq_getElem?_getD, List.getElem?_eq_getElem hl]; exact List.getElem_mem hl)
    exact this
  · rw [List.getD_eq_getElem?_getD, List.getElem?_eq_none (by omega)]; exact ⟨Int.le_refl 0, hb⟩
theorem worstA_rng {high b : Int} {W : List Int} (hW : GoodW high W b) (hb : 0 ≤ b) (m : Int) : 0 ≤ worstA high W m ∧ worstA high W m ≤ b := by
  have h1 := ofW_rng hW hb (stayI (m + -1) high)
  have h2 := ofW_rng hW hb (stayI (m + 0) high)
  have h3 := ofW_rng hW hb (stayI (m + 1) high)
  unfold worstA; omega
theorem doesA_rng {high climb b : Int} {W : List Int} (hW : GoodW high W b) (hb : 0 ≤ b) (h d : Int) : 0 ≤ doesA high climb W h d ∧ doesA high climb W h d ≤ b + 1 := by
  have := worstA_rng hW hb (stayI (h + byA climb d) high)
  unfold doesA; split <;> omega
theorem pickA_rng {s : Int × Int} {d n b : Int} (hs : 0 ≤ s.2 ∧ s.2 ≤ b) (hn : 0 ≤ n ∧ n ≤ b) : 0 ≤ (pickA s d n).2 ∧ (pickA s d n).2 ≤ b := by unfold pickA; split <;> omega
theorem bestA_rng {high climb b : Int} {W : List Int} (hW : GoodW high W b) (hb : 0 ≤ b) (h : Int) : 0 ≤ (bestA high climb W h).2 ∧ (bestA high climb W h).2 ≤ b + 1 :=
  pickA_rng (pickA_rng (doesA_rng hW hb _ _) (doesA_rng hW hb _ _)) (doesA_rng hW hb _ _)
theorem bestA_do (high climb : Int) (W : List Int) (h : Int) : 0 ≤ (bestA high climb W h).1 ∧ (bestA high climb W h).1 ≤ 2 := by
  unfold bestA pickA; simp only []; split <;> (try split) <;> omega
theorem endW_good (high near : Int) : GoodW high (endW high near) 1000 := by
  refine ⟨by rw [endW, List.length_map, hsL_length], fun x hx => ?_⟩
  obtain ⟨h, _, rfl⟩ := List.mem_map.1 hx
  unfold nearV; split <;> omega
theorem tickW_good {high climb b : Int} {W : List Int} (hW : GoodW high W b) (hb : 0 ≤ b) : GoodW high (tickW high climb W) (b + 1) := by
  refine ⟨by rw [tickW, List.length_map, hsL_length], fun x hx => ?_⟩
  obtain ⟨h, _, rfl⟩ := List.mem_map.1 hx
  exact bestA_rng hW hb h
theorem planW_good {high climb b : Int} {W : List Int} (hW : GoodW high W b) (hb : 0 ≤ b) (f : Int → Int) : GoodW high (planW high climb W f) (b + 1) := by
  refine ⟨by rw [planW, List.length_map, hsL_length], fun x hx => ?_⟩
  obtain ⟨h, _, rfl⟩ := List.mem_map.1 hx
  exact doesA_rng hW hb h _
theorem worthK_good (high near climb : Int) : ∀ n : Nat, GoodW high (worthK high near climb n) (1000 + n)
  | 0 => by show GoodW high (endW high near) (1000 + (0 : Nat)); simpa using endW_good high near
  | n + 1 => by have := tickW_good (climb := climb) (worthK_good high near climb n) (by omega); rw [show (1000 : Int) + (n : Int) + 1 = 1000 + ((n + 1 : Nat) : Int) by omega] at this; exact this
theorem costK_good (high near climb : Int) (f : Nat → Int → Int) : ∀ n : Nat, GoodW high (costK high near climb f n) (1000 + n)
  | 0 => by show GoodW high (endW high near) (1000 + (0 : Nat)); simpa using endW_good high near
  | n + 1 => by have := planW_good (climb := climb) (costK_good high near climb f n) (by omega) (f (n + 1)); rw [show (1000 : Int) + (n : Int) + 1 = 1000 + ((n + 1 : Nat) : Int) by omega] at this; exact this
theorem bestK_length (high near climb : Int) : ∀ n : Nat, (bestK high near climb n).length = (n + 1) * (2 * high + 1).toNat
  | 0 => by simp [bestK]
  | n + 1 => by
    have h1 : (tickB high climb (worthK high near climb n)).length = (2 * high + 1).toNat := by rw [tickB, List.length_map, hsL_length]
    have h2 := bestK_length high near climb n
    show (bestK high near climb n ++ tickB high climb (worthK high near climb n)).length = _
    rw [List.length_append, h1, h2, Nat.add_mul (n + 1) 1, Nat.one_mul]
theorem bestK_rng (high near climb : Int) : ∀ n : Nat, ∀ x ∈ bestK high near climb n, 0 ≤ x ∧ x ≤ 2
  | 0 => fun x hx => by
    have := List.eq_of_mem_replicate hx
    subst this; omega
  | n + 1 => fun x hx => by
    rcases List.mem_append.1 hx with h | h
    · exact bestK_rng high near climb n x h
    · obtain ⟨y, _, rfl⟩ := List.mem_map.1 h
      exact bestA_do _ _ _ _
def mayB (a0 a1 a2 a3 : Int) : Bool := ((decide (1 ≤ a0) && decide (a0 ≤ 60)) && (decide (0 ≤ a1) && decide (a1 ≤ 60))) && (decide (0 ≤ a2) && decide (a2 ≤ a0)) && (decide (1 ≤ a3) && decide (a3 ≤ 10))
theorem mayB_iff {a0 a1 a2 a3 : Int} : mayB a0 a1 a2 a3 = true ↔ (1 ≤ a0 ∧ a0 ≤ 60 ∧ 0 ≤ a1 ∧ a1 ≤ 60 ∧ 0 ≤ a2 ∧ a2 ≤ a0 ∧ 1 ≤ a3 ∧ a3 ≤ 10) := by
  unfold mayB; simp only [Bool.and_eq_true, decide_eq_true_eq]; omega
end Go.Pk.Ad
