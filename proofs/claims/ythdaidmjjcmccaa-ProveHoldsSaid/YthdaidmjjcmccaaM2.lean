/- Proved here: lemmas and contracts (what a function of the program computes) that the proofs of the laws of this seat lean on. Conditions: as each theorem states. -/
import Derived.Test.YthdaidmjjcmccaaM1
set_option linter.unusedVariables false
set_option linter.unusedSimpArgs false
namespace Go.Pk
def jn (x y : Sp) : Sp := if x.hi < x.lo then (if y.hi < y.lo then ⟨0, -1⟩ else y) else if y.hi < y.lo then x else ⟨min x.lo y.lo, max x.hi y.hi⟩
def mt (x y : Sp) : Sp := if min x.hi y.hi < max x.lo y.lo then ⟨0, -1⟩ else ⟨max x.lo y.lo, min x.hi y.hi⟩
theorem minL2 (a b : Int) (l : List Int) : minL (a :: b :: l) = minL (min a b :: l) := by
  have e : (if b < a then b else a) = min a b := by split <;> omega
  simp only [minL, List.foldl_cons, e]
theorem maxL2 (a b : Int) (l : List Int) : maxL (a :: b :: l) = maxL (max a b :: l) := by
  have e : (if a < b then b else a) = max a b := by split <;> omega
  simp only [maxL, List.foldl_cons, e]
theorem minL1 (a : Int) : minL [a] = a := rfl
theorem maxL1 (a : Int) : maxL [a] = a := rfl
theorem endsJ_cons (s : Sp) (l : List Sp) : endsJ (s :: l) = (if s.hi < s.lo then [] else [s.lo, s.hi]) ++ endsJ l := by simp [endsJ]
theorem endsJ_nil : endsJ [] = [] := rfl
theorem spanOf_nil : spanOf [] = ⟨0, -1⟩ := rfl
theorem spanOf_cons (a : Int) (l : List Int) : spanOf (a :: l) = ⟨minL (a :: l), maxL (a :: l)⟩ := by unfold spanOf; rw [if_neg (by simp)]
theorem sp_ext {a b : Sp} (h : a.lo = b.lo) (k : a.hi = b.hi) : a = b := by cases a; cases b; simp_all
theorem joinS1 (x : Sp) : joinS [x] = if x.hi < x.lo then ⟨0, -1⟩ else x := by
  unfold joinS
  rw [endsJ_cons, endsJ_nil]
  split
  · rfl
  · refine sp_ext ?_ ?_ <;> simp only [List.cons_append, List.nil_append, List.append_nil, spanOf_cons, minL2, maxL2, minL1, maxL1] <;> omega
theorem joinS2 (x y : Sp) : joinS [x, y] = jn x y := by
  unfold joinS jn
  rw [endsJ_cons, endsJ_cons, endsJ_nil]
  by_cases h1 : x.hi < x.lo <;> by_cases h2 : y.hi < y.lo <;> simp only [h1, h2, if_true, if_false, List.cons_append, List.nil_append, List.append_nil, spanOf_cons, spanOf_nil]
  all_goals refine sp_ext ?_ ?_ <;> simp only [minL2, maxL2, minL1, maxL1] <;> omega
theorem joinS3 (x y z : Sp) : joinS [x, y, z] = jn x (jn y z) := by
  unfold joinS
  rw [endsJ_cons, endsJ_cons, endsJ_cons, endsJ_nil]
  by_cases h1 : x.hi < x.lo <;> by_cases h2 : y.hi < y.lo <;> by_cases h3 : z.hi < z.lo <;> simp only [jn, h1, h2, h3, if_true, if_false, List.cons_append, List.nil_append, List.append_nil, spanOf_cons, spanOf_nil, minL2, maxL2, minL1, maxL1]
  all_goals (repeat' split)
  all_goals first | rfl | omega | (refine sp_ext ?_ ?_ <;> simp only [] <;> omega)
theorem someB_cons (s : Sp) (l : List Sp) : someB (s :: l) = (!decide (s.hi < s.lo) && someB l) := rfl
theorem someB_nil : someB [] = true := rfl
theorem meetS1 (x : Sp) (h0 : -9223372036854775808 ≤ x.lo) (h1 : x.hi ≤ 9223372036854775807) : meetS [x] = if x.hi < x.lo then ⟨0, -1⟩ else x := by
  have e : meetO [x] = x := by
    refine sp_ext ?_ ?_ <;> simp only [meetO, List.map_cons, List.map_nil, List.cons_append, List.nil_append, minL2, maxL2, minL1, maxL1] <;> omega
  unfold meetS
  rw [e, someB_cons, someB_nil]
  by_cases h : x.hi < x.lo <;> simp [h]
theorem meetS2 (x y : Sp) (h0 : -9223372036854775808 ≤ x.lo) (h1 : x.hi ≤ 9223372036854775807) : meetS [x, y] = mt x y := by
  have e : meetO [x, y] = ⟨max x.lo y.lo, min x.hi y.hi⟩ := by
    refine sp_ext ?_ ?_ <;> simp only [meetO, List.map_cons, List.map_nil, List.cons_append, List.nil_append, minL2, maxL2, minL1, maxL1] <;> omega
  unfold meetS mt
  rw [e, someB_cons, someB_cons, someB_nil]
  by_cases h : min x.hi y.hi < max x.lo y.lo
  · simp [h]
  · have a : ¬ x.hi < x.lo := by omega
    have b : ¬ y.hi < y.lo := by omega
    simp [h, a, b]
theorem meetS3 (x y z : Sp) (h0 : -9223372036854775808 ≤ x.lo) (h1 : x.hi ≤ 9223372036854775807) : meetS [x, y, z] = mt x (mt y z) := by
  have e : meetO [x, y, z] = ⟨max x.lo (max y.lo z.lo), min x.hi (min y.hi z.hi)⟩ := by
    refine sp_ext ?_ ?_ <;> simp only [meetO, List.map_cons, List.map_nil, List.cons_append, List.nil_append, minL2, maxL2, minL1, maxL1] <;> omega
  unfold meetS
  rw [e, someB_cons, someB_cons, someB_cons, someB_nil]
  by_cases hh : min x.hi (min y.hi z.hi) < max x.lo (max y.lo z.lo)
  · rw [if_pos hh]
    unfold mt
    by_cases k : min y.hi z.hi < max y.lo z.lo
    · simp only [if_pos k]; rw [if_pos (by (repeat' split at *) <;> omega)]
    · simp only [if_neg k]; rw [if_pos hh]
  · rw [if_neg hh]
    have a : ¬ x.hi < x.lo := by omega
    have b : ¬ y.hi < y.lo := by omega
    have c : ¬ z.hi < z.lo := by omega
    have k : ¬ min y.hi z.hi < max y.lo z.lo := by omega
    unfold mt
    simp only [if_neg k]
    rw [if_neg hh, decide_eq_false a, decide_eq_false b, decide_eq_false c]
    rfl
theorem in_iff (x y : Sp) : (inS x y = true) ↔ (x.hi < x.lo ∨ (y.lo ≤ x.lo ∧ x.hi ≤ y.hi)) := by simp [inS]
theorem has_iff (x : Sp) (n : Int) : (hasS x n = true) ↔ (x.lo ≤ n ∧ n ≤ x.hi) := by simp [hasS]
theorem jn_in1 (x y : Sp) : inS x (jn x y) = true := by
  rw [in_iff]; unfold jn; (repeat' split) <;> (try simp only []) <;> omega
theorem jn_in2 (x y : Sp) : inS y (jn x y) = true := by
  rw [in_iff]; unfold jn; (repeat' split) <;> (try simp only []) <;> omega
theorem mt_in1 (x y : Sp) : inS (mt x y) x = true := by
  rw [in_iff]; unfold mt; split <;> simp only [] <;> omega
theorem mt_in2 (x y : Sp) : inS (mt x y) y = true := by
  rw [in_iff]; unfold mt; split <;> simp only [] <;> omega
theorem jn_least (x y z : Sp) (h : inS x z = true) (k : inS y z = true) : inS (jn x y) z = true := by
  rw [in_iff] at *; unfold jn; (repeat' split) <;> (try simp only []) <;> omega
theorem mt_great (x y z : Sp) (h : inS z x = true) (k : inS z y = true) : inS z (mt x y) = true := by
  rw [in_iff] at *; unfold mt; split <;> simp only [] <;> omega
theorem mt_has (x y : Sp) (n : Int) : hasS (mt x y) n = (hasS x n && hasS y n) := by
  rw [Bool.eq_iff_iff, Bool.and_eq_true, has_iff, has_iff, has_iff]; unfold mt; split <;> simp only [] <;> omega
theorem jn_rng (x y : Sp) : True := trivial
end Go.Pk
