/- Proved here: lemmas and contracts (what a function of the program computes) that the proofs of the laws of this seat lean on. Conditions: as each theorem states. -/
import Derived.Test.YtggididnclfahaaPl
import Derived.Test.YtggididnclfahaaFix
import Derived.Test.YtggididnclfahaaFix2
import Derived.Test.YtggididnclfahaaSpan
import Derived.Test.YtggididnclfahaaKimp
import Derived.Test.YtggididnclfahaaLin
set_option linter.unusedVariables false
set_option linter.unusedSimpArgs false
namespace Go.Pk
open Go.RowKit
/-- The upper half of a product with signs, out of the product without. -/
theorem whi_prod (n x : Int) (hn0 : -9223372036854775808 ≤ n) (hn1 : n ≤ 9223372036854775807) (hx0 : -9223372036854775808 ≤ x) (hx1 : x ≤ 9223372036854775807) :
    ((if x < 0 then (if n < 0 then ((wlo n) * (wlo x) / 18446744073709551616 - wlo x) % 18446744073709551616 else (wlo n) * (wlo x) / 18446744073709551616) - wlo n else (if n < 0 then ((wlo n) * (wlo x) / 18446744073709551616 - wlo x) else (wlo n) * (wlo x) / 18446744073709551616)) % 18446744073709551616) = whi (n * x) := by
  have en : wlo n = if n < 0 then n + 18446744073709551616 else n := by unfold wlo; split <;> omega
  have ex : wlo x = if x < 0 then x + 18446744073709551616 else x := by unfold wlo; split <;> omega
  rw [en, ex]
  unfold whi
  by_cases h1 : n < 0 <;> by_cases h2 : x < 0 <;> simp only [h1, h2, if_true, if_false]
  · have e : (n + 18446744073709551616) * (x + 18446744073709551616) = n * x + 18446744073709551616 * (n + x + 18446744073709551616) := by rw [Int.add_mul, Int.mul_add, Int.mul_comm n 18446744073709551616]; omega
    rw [e, Int.add_mul_ediv_left _ _ (by omega)]; omega
  · have e : (n + 18446744073709551616) * x = n * x + 18446744073709551616 * x := by rw [Int.add_mul]
    rw [e, Int.add_mul_ediv_left _ _ (by omega)]; omega
  · have e : n * (x + 18446744073709551616) = n * x + 18446744073709551616 * n := by rw [Int.mul_add, Int.mul_comm n 18446744073709551616]
    rw [e, Int.add_mul_ediv_left _ _ (by omega)]; omega
theorem wlo_prod (n x : Int) : (wlo n) * (wlo x) % 18446744073709551616 = wlo (n * x) := by unfold wlo; rw [← Int.mul_emod]
end Go.Pk
namespace Go.Proofs.Ytggididnclfahaa
open Go.RowKit Go.Pk Go.Proofs.YtggididnclfahaaW.PrintLast
end Go.Proofs.Ytggididnclfahaa
