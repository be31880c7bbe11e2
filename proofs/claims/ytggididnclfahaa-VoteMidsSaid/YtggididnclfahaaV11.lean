/- Proved here: lemmas and contracts (what a function of the program computes) that the proofs of the laws of this seat lean on. Conditions: as each theorem states. -/
import Derived.Test.YtggididnclfahaaV11p
import Derived.Test.YtggididnclfahaaV9
import Derived.Test.YtggididnclfahaaPlap
import Derived.Test.YtggididnclfahaaLin
set_option linter.unusedVariables false
set_option linter.unusedSimpArgs false
namespace Go.Pk
open Go.RowKit
def dropA (A : Option Addr) (c k : Nat) : Option Addr := if c = k then A else A.map (·.add k)
theorem rdI_take {w : World} {A : Option Addr} {l : List Int} (k : Nat) (h : RdI w A l) : RdI w A (l.take k) := by
  refine ⟨by have := h.1; rw [List.length_take]; omega, fun i u hu => h.2 i u ?_⟩
  unfold encI at *
  rw [List.map_take] at hu
  rw [List.getElem?_take] at hu
  split at hu
  · exact hu
  · cases hu
theorem rdI_drop {w : World} {A : Option Addr} {l : List Int} {c k : Nat} (h : RdI w A l) (hk : k ≤ l.length) (hc : l.length ≤ c) : RdI w (dropA A c k) (l.drop k) := by
  refine ⟨by have := h.1; rw [List.length_drop]; omega, fun i u hu => ?_⟩
  unfold dropA
  unfold encI at hu
  rw [List.map_drop, List.getElem?_drop] at hu
  have hi := (List.getElem?_eq_some_iff.1 hu).1
  rw [List.length_map] at hi
  obtain ⟨b, off, e, hcell⟩ := h.2 (k + i) u hu
  rw [if_neg (by omega), e]
  refine ⟨b, off + k, ?_, ?_⟩
  · simp only [Option.map_some, add_at]
  · rw [Nat.add_assoc]; exact hcell
end Go.Pk
namespace Go.Proofs.Ytggididnclfahaa
open Go.RowKit Go.Pk Go.Pk.Vt
theorem infoI18 : (Try.prog.info? 3).map (fun i => (i.zero, i.size, i.bytes)) = some (some (.int .i64 0), 1, 8) := by kernel_rfl
theorem elem18 : Try.prog.underlying 22 = some (.slice (Try.prog.elem 22)) := by kernel_rfl
theorem size18 (w : World) : (sizeOf (Try.prog.elem 22)).run Try.prog w = .ok 1 w := by kernel_rfl
theorem sl_hi (A : Option Addr) (n c k : Nat) (hk : k ≤ c) (w : World) : (Instr.sliceAt 22 (.slice A n c) none (some (.int .i64 (k : Int))) none).run Try.prog w = .ok (.slice A k c) w := by
  have h1 := run_sliceAt_slice (P := Try.prog) (w := w) 22 (.slice A n c) none (some (.int .i64 (k : Int))) none elem18
  have h2 := run_slice_h (P := Try.prog) (w := w) 22 A n c elem18 .i64 (k : Int) (by omega) (by omega)
  rw [h1, h2, size18]
  have ha : ∀ q : Option Addr, q.map (fun x => x.add 0) = q := fun q => by cases q <;> simp [Addr.add]
  simp [Result.andThen, sliced, ha]
theorem sl_lo (A : Option Addr) (n c k : Nat) (hk : k ≤ n) (w : World) : (Instr.sliceAt 22 (.slice A n c) (some (.int .i64 (k : Int))) none none).run Try.prog w = .ok (.slice (dropA A c k) (n - k) (c - k)) w := by
  have h1 := run_sliceAt_slice (P := Try.prog) (w := w) 22 (.slice A n c) (some (.int .i64 (k : Int))) none none elem18
  have h2 := run_slice_l (P := Try.prog) (w := w) 22 A n c elem18 .i64 (k : Int) (by omega) (by omega)
  rw [h1, h2, size18]
  simp [Result.andThen, sliced, dropA]
end Go.Proofs.Ytggididnclfahaa
