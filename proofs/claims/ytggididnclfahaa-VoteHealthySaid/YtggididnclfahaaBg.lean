/- Proved here: lemmas and contracts (what a function of the program computes) that the proofs of the laws of this seat lean on. Conditions: as each theorem states. -/
import Derived.Test.YtggididnclfahaaA1
import Derived.Test.YtggididnclfahaaM0
import Derived.Test.YtggididnclfahaaPlap
set_option linter.unusedVariables false
set_option linter.unusedSimpArgs false
namespace Go.Pk.Bg
open Go.RowKit Go.Pk
/-! Numbers of 192 bits in six digits. -/
def pw (i : Nat) : Nat := 2 ^ (32 * i)
def dg (n i : Nat) : Nat := n / pw i % 4294967296
theorem pw_pos (i : Nat) : 0 < pw i := Nat.pow_pos (by omega)
theorem pw_succ (i : Nat) : pw (i + 1) = pw i * 4294967296 := by
  unfold pw; rw [show 32 * (i + 1) = 32 * i + 32 by omega, Nat.pow_add]
theorem dg_lt (n i : Nat) : dg n i < 4294967296 := Nat.mod_lt _ (by omega)
def bigC (m : Bool) (n : Nat) : Array Value := #[.bool m, .int .i64 (dg n 0 : Nat), .int .i64 (dg n 1 : Nat), .int .i64 (dg n 2 : Nat), .int .i64 (dg n 3 : Nat), .int .i64 (dg n 4 : Nat), .int .i64 (dg n 5 : Nat)]
def bigZ (z : Int) : Array Value := bigC (decide (z < 0)) z.natAbs
/-- Six digits of which the first k are f's. -/
def mixC (m : Bool) (f g : Nat → Nat) (k : Nat) : Array Value := #[.bool m, .int .i64 ((if 0 < k then f 0 else g 0 : Nat) : Int), .int .i64 ((if 1 < k then f 1 else g 1 : Nat) : Int), .int .i64 ((if 2 < k then f 2 else g 2 : Nat) : Int), .int .i64 ((if 3 < k then f 3 else g 3 : Nat) : Int), .int .i64 ((if 4 < k then f 4 else g 4 : Nat) : Int), .int .i64 ((if 5 < k then f 5 else g 5 : Nat) : Int)]
theorem mix_0 (m : Bool) (f : Nat → Nat) (n : Nat) : mixC m f (dg n) 0 = bigC m n := rfl
theorem mix_6 (m : Bool) (g : Nat → Nat) (n : Nat) : mixC m (dg n) g 6 = bigC m n := rfl
theorem mix_at (m : Bool) (f g : Nat → Nat) {k : Nat} (hk : k < 6) : (mixC m f g k)[1 + k]? = some (.int .i64 (g k : Nat)) := by
  rcases (by omega : k = 0 ∨ k = 1 ∨ k = 2 ∨ k = 3 ∨ k = 4 ∨ k = 5) with rfl | rfl | rfl | rfl | rfl | rfl <;> rfl
theorem big_at (m : Bool) (n : Nat) {k : Nat} (hk : k < 6) : (bigC m n)[1 + k]? = some (.int .i64 (dg n k : Nat)) := by
  rcases (by omega : k = 0 ∨ k = 1 ∨ k = 2 ∨ k = 3 ∨ k = 4 ∨ k = 5) with rfl | rfl | rfl | rfl | rfl | rfl <;> rfl
theorem mix_set (m : Bool) (f g : Nat → Nat) {k : Nat} (hk : k < 6) : (mixC m f g k).setIfInBounds (1 + k) (.int .i64 (f k : Nat)) = mixC m f g (k + 1) := by
  rcases (by omega : k = 0 ∨ k = 1 ∨ k = 2 ∨ k = 3 ∨ k = 4 ∨ k = 5) with rfl | rfl | rfl | rfl | rfl | rfl <;> rfl
/-- The carry into digit i of a sum. -/
def cy (a b i : Nat) : Nat := (a % pw i + b % pw i) / pw i
theorem cy_0 (a b : Nat) : cy a b 0 = 0 := by unfold cy pw; simp [Nat.mod_one]
theorem cy_le (a b i : Nat) : cy a b i ≤ 1 := by
  unfold cy
  have h1 := Nat.mod_lt a (pw_pos i)
  have h2 := Nat.mod_lt b (pw_pos i)
  have h3 : (a % pw i + b % pw i) / pw i < 2 := by rw [Nat.div_lt_iff_lt_mul (pw_pos i)]; omega
  omega
theorem add_dg (a b i : Nat) : (dg a i + dg b i + cy a b i) % 4294967296 = dg (a + b) i ∧ (dg a i + dg b i + cy a b i) / 4294967296 = cy a b (i + 1) := by
  have hp := pw_pos i
  have e1 : (a + b) / pw i = a / pw i + b / pw i + cy a b i := by
    unfold cy
    have h1 := Nat.div_add_mod a (pw i)
    have h2 := Nat.div_add_mod b (pw i)
    have h3 : a + b = (a % pw i + b % pw i) + pw i * (a / pw i + b / pw i) := by rw [Nat.mul_add]; omega
    rw [h3, Nat.add_mul_div_left _ _ hp]; omega
  refine ⟨?_, ?_⟩
  · unfold dg; rw [e1]; omega
  · have e2 : cy a b (i + 1) = (a / pw i % 4294967296 + b / pw i % 4294967296 + cy a b i) / 4294967296 := by
      unfold cy
      rw [pw_succ, Nat.mod_mul, Nat.mod_mul, ← Nat.div_div_eq_div_mul]
      have h4 : a % pw i + pw i * (a / pw i % 4294967296) + (b % pw i + pw i * (b / pw i % 4294967296)) = (a % pw i + b % pw i) + pw i * (a / pw i % 4294967296 + b / pw i % 4294967296) := by rw [Nat.mul_add]; omega
      rw [h4, Nat.add_mul_div_left _ _ hp]
      congr 1; omega
    rw [e2]; rfl
/-- What digit i of a difference borrows. -/
def bw (a b i : Nat) : Nat := if a % pw i < b % pw i then 1 else 0
theorem bw_0 (a b : Nat) : bw a b 0 = 0 := by unfold bw pw; simp [Nat.mod_one]
theorem bw_le (a b i : Nat) : bw a b i ≤ 1 := by unfold bw; split <;> omega
theorem bw_end {a b : Nat} (i : Nat) (ha : a < pw i) (h : b ≤ a) : bw a b i = 0 := by
  unfold bw; rw [Nat.mod_eq_of_lt ha, Nat.mod_eq_of_lt (by omega), if_neg (by omega)]
theorem sub_dg {a b : Nat} (h : b ≤ a) (i : Nat) :
    (dg a i < dg b i + bw a b i → dg (a - b) i + dg b i + bw a b i = dg a i + 4294967296 ∧ bw a b (i + 1) = 1) ∧ (dg b i + bw a b i ≤ dg a i → dg (a - b) i + dg b i + bw a b i = dg a i ∧ bw a b (i + 1) = 0) := by
  have hp := pw_pos i
  have h1 := Nat.div_add_mod a (pw i)
  have h2 := Nat.div_add_mod b (pw i)
  have l1 := Nat.mod_lt a hp
  have l2 := Nat.mod_lt b hp
  have hb1 := bw_le a b i
  -- the quotient of the difference
  have e1 : (a - b) / pw i + b / pw i + bw a b i = a / pw i := by
    unfold bw
    split
    · rename_i hlt
      have hq : b / pw i < a / pw i := by
        rcases Nat.lt_or_ge (b / pw i) (a / pw i) with h3 | h3
        · exact h3
        · exfalso
          have := Nat.mul_le_mul_left (pw i) h3
          omega
      have h5 : a - b = (pw i + a % pw i - b % pw i) + pw i * (a / pw i - b / pw i - 1) := by
        have e5 : a / pw i = b / pw i + (a / pw i - b / pw i - 1) + 1 := by omega
        have e6 : pw i * (a / pw i) = pw i * (b / pw i) + pw i * (a / pw i - b / pw i - 1) + pw i := by
          conv => lhs; rw [e5]
          rw [Nat.mul_add, Nat.mul_add, Nat.mul_one]
        omega
      rw [h5, Nat.add_mul_div_left _ _ hp, Nat.div_eq_of_lt (by omega)]
      omega
    · rename_i hge
      have hq : b / pw i ≤ a / pw i := Nat.div_le_div_right h
      have h5 : a - b = (a % pw i - b % pw i) + pw i * (a / pw i - b / pw i) := by
        have e6 : pw i * (a / pw i) = pw i * (b / pw i) + pw i * (a / pw i - b / pw i) := by
          rw [← Nat.mul_add]; congr 1; omega
        omega
      rw [h5, Nat.add_mul_div_left _ _ hp, Nat.div_eq_of_lt (by omega)]
      omega
  have e2 : bw a b (i + 1) = if dg a i < dg b i + bw a b i then 1 else 0 := by
    unfold dg
    have ea : a % pw (i + 1) = a % pw i + pw i * (a / pw i % 4294967296) := by rw [pw_succ, Nat.mod_mul]
    have eb : b % pw (i + 1) = b % pw i + pw i * (b / pw i % 4294967296) := by rw [pw_succ, Nat.mod_mul]
    have key : (a % pw (i + 1) < b % pw (i + 1)) ↔ (a / pw i % 4294967296 < b / pw i % 4294967296 + bw a b i) := by
      rw [ea, eb]
      obtain ⟨u, hu⟩ : ∃ u, a / pw i % 4294967296 = u := ⟨_, rfl⟩
      obtain ⟨v, hv⟩ : ∃ v, b / pw i % 4294967296 = v := ⟨_, rfl⟩
      rw [hu, hv]
      unfold bw
      rcases Nat.lt_trichotomy u v with h3 | h3 | h3
      · have := Nat.mul_le_mul_left (pw i) (show u + 1 ≤ v from h3)
        rw [Nat.mul_add, Nat.mul_one] at this
        constructor
        · intro _; split <;> omega
        · intro _; omega
      · subst h3
        constructor
        · intro h4; rw [if_pos (by omega)]; omega
        · intro h4; split at h4 <;> omega
      · have := Nat.mul_le_mul_left (pw i) (show v + 1 ≤ u from h3)
        rw [Nat.mul_add, Nat.mul_one] at this
        constructor
        · intro _; omega
        · intro h4; split at h4 <;> omega
    conv => lhs; unfold bw
    by_cases hc : a % pw (i + 1) < b % pw (i + 1)
    · rw [if_pos hc, if_pos (key.1 hc)]
    · rw [if_neg hc, if_neg (fun h => hc (key.2 h))]
  have e3 : dg (a - b) i = ((a - b) / pw i) % 4294967296 := rfl
  have e4 : dg a i = (a / pw i) % 4294967296 := rfl
  have e5 : dg b i = (b / pw i) % 4294967296 := rfl
  refine ⟨fun hc => ⟨?_, by rw [e2, if_pos hc]⟩, fun hc => ⟨?_, by rw [e2, if_neg (by omega)]⟩⟩
  · rw [e4, e5] at hc
    rw [e3, e4, e5]
    omega
  · rw [e4, e5] at hc
    rw [e3, e4, e5]
    omega
/-- Two numbers agree from digit i on. -/
def top (a b i : Nat) : Prop := a / pw i = b / pw i
theorem top_6 {a b : Nat} (ha : a < pw 6) (hb : b < pw 6) : top a b 6 := by unfold top; rw [Nat.div_eq_of_lt ha, Nat.div_eq_of_lt hb]
theorem div_pw (a i : Nat) : a / pw i = dg a i + 4294967296 * (a / pw (i + 1)) := by
  unfold dg
  rw [pw_succ, ← Nat.div_div_eq_div_mul]
  omega
theorem top_lt {a b i : Nat} (h : top a b (i + 1)) (hd : dg a i < dg b i) : a < b := by
  unfold top at h
  have h1 : a / pw i < b / pw i := by rw [div_pw a i, div_pw b i, h]; omega
  exact Nat.lt_of_not_le fun hle => by have := Nat.div_le_div_right (c := pw i) hle; omega
theorem top_eq {a b i : Nat} (h : top a b (i + 1)) (hd : dg a i = dg b i) : top a b i := by
  unfold top at h ⊢; rw [div_pw a i, div_pw b i, h, hd]
theorem top_0 {a b : Nat} (h : top a b 0) : a = b := by unfold top pw at h; simpa using h
theorem dg_zero (i : Nat) : dg 0 i = 0 := by unfold dg; simp
theorem dg_all {n : Nat} (hn : n < pw 6) (h : ∀ i, i < 6 → dg n i = 0) : n = 0 := by
  have t6 := top_6 hn (pw_pos 6)
  have e : ∀ i, i < 6 → dg n i = dg 0 i := fun i hi => by rw [h i hi, dg_zero]
  exact top_0 (top_eq (top_eq (top_eq (top_eq (top_eq (top_eq t6 (e 5 (by omega))) (e 4 (by omega))) (e 3 (by omega))) (e 2 (by omega))) (e 1 (by omega))) (e 0 (by omega)))
theorem mix_eq (m : Bool) {f g : Nat → Nat} {k : Nat} (h : ∀ j, k ≤ j → j < 6 → f j = g j) : mixC m f g k = mixC m f g 6 := by
  have e : ∀ j, j < 6 → (if j < k then f j else g j) = (if j < 6 then f j else g j) := fun j hj => by
    rw [if_pos hj]; split
    · rfl
    · exact (h j (by omega) hj).symm
  unfold mixC
  rw [e 0 (by omega), e 1 (by omega), e 2 (by omega), e 3 (by omega), e 4 (by omega), e 5 (by omega)]
theorem dg1 (i : Nat) : dg 1 i = if i = 0 then 1 else 0 := by
  unfold dg
  cases i with
  | zero => unfold pw; rfl
  | succ i =>
    rw [if_neg (by omega), pw_succ, Nat.div_eq_of_lt (by have := pw_pos i; omega)]
theorem one_0 (n : Nat) : dg 1 0 + cy n 1 0 = 1 := by rw [dg1, cy_0]; rfl
theorem one_step {n i : Nat} (h : dg 1 i + cy n 1 i = 1) : (dg n i + 1) % 4294967296 = dg (n + 1) i ∧ (dg n i + 1) / 4294967296 = cy n 1 (i + 1) := by
  have h1 := add_dg n 1 i
  rw [Nat.add_assoc, h] at h1
  exact h1
theorem one_go {n i : Nat} (h : dg 1 i + cy n 1 i = 1) (hv : ¬ dg n i + 1 < 4294967296) : dg (n + 1) i = 0 ∧ dg 1 (i + 1) + cy n 1 (i + 1) = 1 := by
  have h1 := one_step h
  have h2 := dg_lt n i
  rw [dg1, if_neg (by omega)]
  omega
theorem one_stop {n i : Nat} (h : dg 1 i + cy n 1 i = 1) (hv : dg n i + 1 < 4294967296) : dg (n + 1) i = dg n i + 1 ∧ ∀ j, i + 1 ≤ j → dg (n + 1) j = dg n j := by
  have h1 := one_step h
  refine ⟨by omega, fun j hj => ?_⟩
  have hc : ∀ k, cy n 1 (i + 1 + k) = 0 := by
    intro k
    induction k with
    | zero => rw [Nat.add_zero]; omega
    | succ k ih =>
      have h3 := (add_dg n 1 (i + 1 + k)).2
      rw [ih, dg1, if_neg (by omega)] at h3
      have h4 := dg_lt n (i + 1 + k)
      rw [show i + 1 + (k + 1) = i + 1 + k + 1 by omega, ← h3]
      omega
  have h5 := (add_dg n 1 j).1
  have h6 := hc (j - (i + 1))
  rw [show i + 1 + (j - (i + 1)) = j by omega] at h6
  rw [h6, dg1, if_neg (by omega)] at h5
  have h7 := dg_lt n j
  omega
theorem one_end {n : Nat} (hn : n + 1 < pw 6) : dg 1 6 + cy n 1 6 ≠ 1 := by
  rw [dg1, if_neg (by omega)]
  unfold cy
  rw [Nat.mod_eq_of_lt (by omega), Nat.mod_eq_of_lt (by omega), Nat.div_eq_of_lt hn]
  omega
end Go.Pk.Bg
namespace Go.Proofs.Ytggididnclfahaa
end Go.Proofs.Ytggididnclfahaa
