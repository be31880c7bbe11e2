/- Proved here: lemmas and contracts (what a function of the program computes) that the proofs of the laws of this seat lean on. Conditions: as each theorem states. -/
import Derived.Test.YtggididnclfahaaFix2
set_option linter.unusedVariables false
set_option linter.unusedSimpArgs false
namespace Go.Pk
open Go.RowKit
theorem hidI {p : Prop} (h : p) : Hid p := h
theorem own_rd {w : World} {base n c : Nat} {e : TypeId} {A : Option Addr} {l : List Int} (h : w.ownsRow base e 1 (.slice A n c) n (encI l)) : RdI w A l ∧ n = l.length := by
  obtain ⟨A', c', h1, h2⟩ := own_readsI h
  injection h1 with h3 h4 h5
  subst h3
  exact ⟨h2, h4⟩
theorem own_rdS {w : World} {base n c : Nat} {e : TypeId} {A : Option Addr} {l : List Int} {x : Int} (h : w.ownsRow base e 1 (.slice A n c) n (encI l ++ [.int .i64 x])) : RdI w A (l ++ [x]) ∧ n = (l ++ [x]).length := own_rd (l := l ++ [x]) (by simpa [encI] using h)
theorem RdS.of_blk {w : World} {g : Nat} {l : List Sp} {t : TypeId} {fr : Nat × Nat} (h : w.heap[g]? = some (.cells (encS l).toArray t fr)) (hn : l.length ≤ 9223372036854775807) : RdS w (some ⟨g, 0, none⟩) l :=
  ⟨hn, fun i u hi => ⟨g, 0, rfl, by rw [Nat.zero_add, blkc h]; simpa using hi⟩⟩
theorem RdI.of_blk {w : World} {g : Nat} {l : List Int} {t : TypeId} {fr : Nat × Nat} (h : w.heap[g]? = some (.cells (encI l).toArray t fr)) (hn : l.length ≤ 9223372036854775807) : RdI w (some ⟨g, 0, none⟩) l :=
  ⟨hn, fun i u hi => ⟨g, 0, rfl, by rw [Nat.zero_add, blkc h]; simpa using hi⟩⟩
end Go.Pk
namespace Go.Proofs.Ytggididnclfahaa
open Go.RowKit Go.Pk

theorem infoI : (Try.prog.info? 3).map (fun i => (i.zero, i.size, i.bytes)) = some (some (.int .i64 0), 1, 8) := by kernel_rfl
end Go.Proofs.Ytggididnclfahaa
