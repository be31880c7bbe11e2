/- Proved here: lemmas and contracts (what a function of the program computes) that the proofs of the laws of this seat lean on. Conditions: as each theorem states. -/
import Derived.WalkKit
import Derived.Laws.BitsAllLaws
import Derived.Shelf.Bits.Mul64
set_option linter.unusedVariables false
set_option linter.unusedSimpArgs false
namespace Go.Pk
open Go.RowKit Go.Proofs
/-! Numbers of 128 bits in two halves; numbers that stay at their ends. -/
def whi (z : Int) : Int := (z / 18446744073709551616) % 18446744073709551616
def wlo (z : Int) : Int := z % 18446744073709551616
def s64 (x y c : Int) : Int := (x + y + c) % 18446744073709551616
def k64 (x y c : Int) : Int := (x + y + c) / 18446744073709551616
theorem whi_rng (z : Int) : 0 ≤ whi z ∧ whi z < 18446744073709551616 := by unfold whi; omega
theorem wlo_rng (z : Int) : 0 ≤ wlo z ∧ wlo z < 18446744073709551616 := by unfold wlo; omega
theorem k64_rng (x y : Int) (hx : 0 ≤ x) (hy : 0 ≤ y) (hx1 : x < 18446744073709551616) (hy1 : y < 18446744073709551616) : 0 ≤ k64 x y 0 ∧ k64 x y 0 ≤ 1 := by unfold k64; omega
theorem wlo_add (a b : Int) : s64 (wlo a) (wlo b) 0 = wlo (a + b) := by unfold s64 wlo; omega
theorem whi_add (a b : Int) : s64 (whi a) (whi b) (k64 (wlo a) (wlo b) 0) = whi (a + b) := by unfold s64 k64 wlo whi; omega
def maxF : Int := 9223372036854775807
def minF : Int := -9223372036854775808
/-- A number that stays at its ends. -/
def clampI (z : Int) : Int := if z < -9223372036854775808 then -9223372036854775808 else if 9223372036854775807 < z then 9223372036854775807 else z
def ovI (z : Int) : Bool := decide (z < -9223372036854775808 ∨ 9223372036854775807 < z)
theorem clampI_rng (z : Int) : -9223372036854775808 ≤ clampI z ∧ clampI z ≤ 9223372036854775807 := by unfold clampI; split <;> (try split) <;> omega
theorem clampI_id {z : Int} (h0 : -9223372036854775808 ≤ z) (h1 : z ≤ 9223372036854775807) : clampI z = z := by unfold clampI; rw [if_neg (by omega), if_neg (by omega)]
theorem ovI_false {z : Int} (h0 : -9223372036854775808 ≤ z) (h1 : z ≤ 9223372036854775807) : ovI z = false := by unfold ovI; simp; omega
theorem ovI_iff {z : Int} : ovI z = false ↔ -9223372036854775808 ≤ z ∧ z ≤ 9223372036854775807 := by unfold ovI; simp
def sumI (l : List Int) : Int := l.foldl (· + ·) 0
theorem xor_max_u64 (a : Int) (h0 : 0 ≤ a) (h1 : a < 18446744073709551616) : bits .xor .u64 IntKind.u64.max a = 18446744073709551615 - a := by
  have e : IntKind.u64.max = 18446744073709551615 := by decide
  rw [e, u64_xor _ _ (by omega) (by omega) h0 h1]
  obtain ⟨n, rfl⟩ := Int.eq_ofNat_of_zero_le h0
  have hn : n < 18446744073709551616 := by omega
  have h2 : (BitVec.allOnes 64 ^^^ BitVec.ofNat 64 n).toNat = (~~~ (BitVec.ofNat 64 n)).toNat := by rw [BitVec.allOnes_xor]
  rw [BitVec.toNat_xor, BitVec.toNat_not, BitVec.toNat_ofNat, BitVec.toNat_allOnes, Nat.mod_eq_of_lt (by omega)] at h2
  have e3 : (18446744073709551615 : Int).toNat = 2 ^ 64 - 1 := by decide
  rw [e3, Int.toNat_natCast, h2]
  omega
theorem and_sign_nat (n : Nat) (h : n < 18446744073709551616) : (n &&& 2 ^ 63) = if 9223372036854775808 ≤ n then 9223372036854775808 else 0 := by
  have hb : n.testBit 63 = decide (9223372036854775808 ≤ n) := by
    rw [Nat.testBit_eq_decide_div_mod_eq, Bool.eq_iff_iff]; simp only [decide_eq_true_eq]; omega
  apply Nat.eq_of_testBit_eq
  intro i
  rw [Nat.testBit_and, Nat.testBit_two_pow]
  by_cases hi : 63 = i
  · subst hi
    rw [hb]
    by_cases h2 : 9223372036854775808 ≤ n
    · simp only [h2, if_true]; decide
    · simp [h2]
  · simp only [hi, decide_false, Bool.and_false]
    split
    · rw [show (9223372036854775808 : Nat) = 2 ^ 63 from rfl, Nat.testBit_two_pow]; simp [hi]
    · simp
theorem and_sign_u64 (a : Int) (h0 : 0 ≤ a) (h1 : a < 18446744073709551616) : (bits .and .u64 a 9223372036854775808 != 0) = decide (9223372036854775808 ≤ a) := by
  rw [u64_and _ _ h0 h1 (by omega) (by omega)]
  obtain ⟨n, rfl⟩ := Int.eq_ofNat_of_zero_le h0
  have e3 : (9223372036854775808 : Int).toNat = 2 ^ 63 := by decide
  rw [e3, Int.toNat_natCast, and_sign_nat n (by omega), Bool.eq_iff_iff]
  simp only [bne_iff_ne, ne_eq, decide_eq_true_eq]
  split <;> omega
theorem whi_neg (a : Int) : s64 (18446744073709551615 - whi a) 0 (k64 (18446744073709551615 - wlo a) 1 0) = whi (-a) := by
  unfold s64 k64 wlo whi; omega
theorem wlo_neg (a : Int) : s64 (18446744073709551615 - wlo a) 1 0 = wlo (-a) := by
  unfold s64 wlo; omega
theorem whi_sign (a : Int) (h0 : -170141183460469231731687303715884105728 ≤ a) (h1 : a < 170141183460469231731687303715884105728) :
    decide (9223372036854775808 ≤ whi a) = decide (a < 0) := by
  rw [Bool.eq_iff_iff]; simp only [decide_eq_true_eq]; unfold whi; omega
/-- A wide number is a Fix just if it is the Fix of its lower half. -/
theorem wide_fits (a : Int) (h0 : -170141183460469231731687303715884105728 ≤ a) (h1 : a < 170141183460469231731687303715884105728) :
    (whi (wrap64 (wlo a)) = whi a ∧ wlo (wrap64 (wlo a)) = wlo a) ↔ (-9223372036854775808 ≤ a ∧ a ≤ 9223372036854775807) := by
  unfold wrap64 whi wlo; omega
theorem wide_val (a : Int) (h0 : -9223372036854775808 ≤ a) (h1 : a ≤ 9223372036854775807) : wrap64 (wlo a) = a := by
  unfold wrap64 wlo; omega
theorem sumI_nil : sumI [] = 0 := rfl
theorem sumI_snoc (l : List Int) (x : Int) : sumI (l ++ [x]) = sumI l + x := by simp [sumI]
theorem take_snocD (l : List Int) (k : Nat) (h : k < l.length) : l.take (k + 1) = l.take k ++ [l.getD k 0] := by
  rw [List.take_succ_eq_append_getElem h]; simp [List.getElem?_eq_getElem h]
def InI (l : List Int) : Prop := ∀ x ∈ l, -9223372036854775808 ≤ x ∧ x ≤ 9223372036854775807
theorem InI.getD {l : List Int} (h : InI l) (k : Nat) : -9223372036854775808 ≤ l.getD k 0 ∧ l.getD k 0 ≤ 9223372036854775807 := by
  rw [List.getD_eq_getElem?_getD]
  by_cases hk : k < l.length
  · rw [List.getElem?_eq_getElem hk]; exact h _ (List.getElem_mem hk)
  · rw [List.getElem?_eq_none (by omega)]; simp
theorem InI.take {l : List Int} (h : InI l) (k : Nat) : InI (l.take k) := fun x hx => h x (List.mem_of_mem_take hx)
theorem sumI_cons (x : Int) (l : List Int) : sumI (x :: l) = x + sumI l := by
  unfold sumI
  have : ∀ (l : List Int) (a : Int), l.foldl (· + ·) a = a + l.foldl (· + ·) 0 := by
    intro l; induction l with
    | nil => intro a; simp
    | cons y l ih => intro a; rw [List.foldl_cons, List.foldl_cons, ih (a + y), ih (0 + y)]; omega
  rw [List.foldl_cons, this]; omega
theorem sumI_rng (l : List Int) (h : InI l) : -9223372036854775808 * (l.length : Int) ≤ sumI l ∧ sumI l ≤ 9223372036854775807 * (l.length : Int) := by
  induction l with
  | nil => simp [sumI_nil]
  | cons x l ih =>
    have h1 := ih (fun y hy => h y (by simp [hy]))
    have h2 := h x (by simp)
    rw [sumI_cons, List.length_cons]
    omega
def clampTo (x lo hi : Int) : Int := if hi < x then hi else if x < lo then lo else x
def roundTo (m : Int) (rest below up : Bool) : Int := if below then -(m + if rest && (up != below) then 1 else 0) else m + if rest && (up != below) then 1 else 0
theorem wlo_inc (a : Int) : s64 (wlo a) 1 0 = wlo (a + 1) := by unfold s64 wlo; omega
theorem whi_inc (a : Int) : s64 (whi a) 0 (k64 (wlo a) 1 0) = whi (a + 1) := by unfold s64 k64 wlo whi; omega
/-- A product of numbers of 2^-32, rounded down or up. -/
def fmul (x y : Int) (up : Bool) : Int := if up then -(-(x * y) / 4294967296) else x * y / 4294967296
theorem natAbs_prod (x y : Int) : x * y = if decide (x < 0) != decide (y < 0) then -((x.natAbs * y.natAbs : Nat) : Int) else ((x.natAbs * y.natAbs : Nat) : Int) := by
  rw [← Int.natAbs_mul]
  by_cases hx : x < 0 <;> by_cases hy : y < 0 <;> simp only [hx, hy, decide_true, decide_false, bne_self_eq_false, Bool.false_eq_true, if_false, Bool.true_bne, Bool.false_bne, Bool.not_true, Bool.not_false, if_true]
  · have := Int.mul_nonneg_of_nonpos_of_nonpos (show x ≤ 0 by omega) (show y ≤ 0 by omega); omega
  · have := Int.mul_nonpos_of_nonpos_of_nonneg (show x ≤ 0 by omega) (show 0 ≤ y by omega); omega
  · have := Int.mul_nonpos_of_nonneg_of_nonpos (show 0 ≤ x by omega) (show y ≤ 0 by omega); omega
  · have := Int.mul_nonneg (show 0 ≤ x by omega) (show 0 ≤ y by omega); omega
theorem mul_round (x y : Int) (up : Bool) : roundTo ((x.natAbs * y.natAbs / 4294967296 : Nat) : Int) (decide (x.natAbs * y.natAbs % 4294967296 ≠ 0)) (decide (x < 0) != decide (y < 0)) up = fmul x y up := by
  unfold fmul
  rw [natAbs_prod x y]
  generalize x.natAbs * y.natAbs = n
  generalize (decide (x < 0) != decide (y < 0)) = s
  unfold roundTo
  by_cases h : n % 4294967296 = 0 <;> cases s <;> cases up <;> simp [h] <;> omega
theorem wide_mul_hi (n : Nat) (h : n < 340282366920938463463374607431768211456) : ((n / 18446744073709551616 : Nat) : Int) / 4294967296 = whi ((n / 4294967296 : Nat) : Int) := by unfold whi; omega
theorem or_disj (a b : Nat) (hb : b < 4294967296) : a * 4294967296 ||| b = a * 4294967296 + b := by
  have := Nat.two_pow_add_eq_or_of_lt (i := 32) (b := b) hb a
  rw [show (2 : Nat) ^ 32 = 4294967296 from rfl] at this
  rw [Nat.mul_comm a, this]
theorem wide_mul_lo (n : Nat) : bits .or .u64 (IntKind.u64.wrap (((n / 18446744073709551616 : Nat) : Int) * 4294967296)) (((n % 18446744073709551616 : Nat) : Int) / 4294967296) = wlo ((n / 4294967296 : Nat) : Int) := by
  rw [IntKind.wrap_u64, u64_or _ _ (by omega) (by omega) (by omega) (by omega)]
  have e1 : (((n / 18446744073709551616 : Nat) : Int) * 4294967296 % 18446744073709551616).toNat = (n / 18446744073709551616 % 4294967296) * 4294967296 := by omega
  have e2 : (((n % 18446744073709551616 : Nat) : Int) / 4294967296).toNat = n % 18446744073709551616 / 4294967296 := by omega
  rw [e1, e2, or_disj _ _ (by omega)]
  unfold wlo; omega
theorem wide_mul_rest (n : Nat) : (bits .and .u64 ((n % 18446744073709551616 : Nat) : Int) 4294967295 != 0) = decide (n % 4294967296 ≠ 0) := by
  have h := Mul64.maskN (n % 18446744073709551616) (by omega)
  rw [h, Bool.eq_iff_iff]
  simp only [bne_iff_ne, ne_eq, decide_eq_true_eq]
  omega
theorem take_ne_nil {α : Type} {l : List α} {k : Nat} (hz : ¬ k = 0) (hlt : k < l.length) : l.take k ≠ [] := by
  intro h0
  have h1 := congrArg List.length h0
  rw [List.length_take, List.length_nil] at h1
  omega
/-- The greatest, the least of a list; 0 of none. -/
def maxL : List Int → Int | [] => 0 | x :: r => r.foldl (fun a b => if a < b then b else a) x
def minL : List Int → Int | [] => 0 | x :: r => r.foldl (fun a b => if b < a then b else a) x
theorem maxL_one (x : Int) : maxL [x] = x := rfl
theorem minL_one (x : Int) : minL [x] = x := rfl
theorem maxL_snoc (l : List Int) (x : Int) (h : l ≠ []) : maxL (l ++ [x]) = if maxL l < x then x else maxL l := by
  cases l with
  | nil => exact absurd rfl h
  | cons y r => simp only [maxL, List.cons_append, List.foldl_append, List.foldl_cons, List.foldl_nil]; rfl
theorem minL_snoc (l : List Int) (x : Int) (h : l ≠ []) : minL (l ++ [x]) = if x < minL l then x else minL l := by
  cases l with
  | nil => exact absurd rfl h
  | cons y r => simp only [minL, List.cons_append, List.foldl_append, List.foldl_cons, List.foldl_nil]; rfl
/-! Spans. -/
structure Sp where
  lo : Int
  hi : Int
  deriving DecidableEq
def hasS (s : Sp) (x : Int) : Bool := decide (s.lo ≤ x) && decide (x ≤ s.hi)
def emptyS (s : Sp) : Bool := decide (s.hi < s.lo)
def inS (x y : Sp) : Bool := decide (x.hi < x.lo) || (decide (y.lo ≤ x.lo) && decide (x.hi ≤ y.hi))
def noneS : Sp := ⟨0, -1⟩
def someB (l : List Sp) : Bool := l.all fun s => !decide (s.hi < s.lo)
theorem take_snocS (l : List Sp) (k : Nat) (h : k < l.length) : l.take (k + 1) = l.take k ++ [l.getD k ⟨0, 0⟩] := by
  rw [List.take_succ_eq_append_getElem h]; simp [List.getElem?_eq_getElem h]
theorem someB_take (l : List Sp) (k : Nat) (h : k < l.length) : someB (l.take (k + 1)) = (someB (l.take k) && !decide ((l.getD k ⟨0, 0⟩).hi < (l.getD k ⟨0, 0⟩).lo)) := by
  rw [take_snocS l k h]; simp [someB]
theorem someB_all (l : List Sp) (k : Nat) (h : someB l = true) : someB (l.take k) = true := by
  unfold someB at *; rw [List.all_eq_true] at *; intro x hx; exact h x (List.mem_of_mem_take hx)
def InS (l : List Sp) : Prop := ∀ s ∈ l, (-9223372036854775808 ≤ s.lo ∧ s.lo ≤ 9223372036854775807) ∧ (-9223372036854775808 ≤ s.hi ∧ s.hi ≤ 9223372036854775807)
theorem InS.lo {l : List Sp} (h : InS l) : InI (l.map Sp.lo) := fun x hx => by
  obtain ⟨s, hs, rfl⟩ := List.mem_map.1 hx; exact (h s hs).1
theorem InS.hi {l : List Sp} (h : InS l) : InI (l.map Sp.hi) := fun x hx => by
  obtain ⟨s, hs, rfl⟩ := List.mem_map.1 hx; exact (h s hs).2
end Go.Pk
