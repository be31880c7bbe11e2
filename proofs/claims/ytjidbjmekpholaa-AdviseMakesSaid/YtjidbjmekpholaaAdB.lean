/- Proved here: lemmas and contracts (what a function of the program computes) that the proofs of the laws of this seat lean on. Conditions: as each theorem states. -/
import Derived.Test.YtjidbjmekpholaaFxp
set_option linter.unusedVariables false
set_option linter.unusedSimpArgs false
namespace Go.Proofs.Ytjidbjmekpholaa.AdB
open Go.RowKit Go.Pk Go.Proofs.YtjidbjmekpholaaW.PrintWords
theorem bt_rng (s : ByteArray) (i : Int) : 0 ≤ bt s i ∧ bt s i ≤ 255 := by
  unfold bt
  split
  · rename_i h
    have := (s[i.toNat]'h).toNat_lt
    omega
  · omega
theorem strOf_size (l : List Int) : (strOfNums l).size = l.length := by simp [strOfNums, ByteArray.size]
theorem bt_strOf (l : List Int) (i : Int) (h : ∀ x ∈ l, 0 ≤ x ∧ x ≤ 255) (h0 : i.toNat < l.length) : bt (strOfNums l) i = l.getD i.toNat 0 := by
  unfold bt
  rw [dif_pos (by rw [strOf_size]; exact h0)]
  have hx := h (l[i.toNat]) (List.getElem_mem h0)
  rw [List.getD_eq_getElem?_getD, List.getElem?_eq_getElem h0]
  have e : (strOfNums l)[i.toNat]'(by rw [strOf_size]; exact h0) = UInt8.ofNat (l[i.toNat]).toNat := by
    show (strOfNums l).data[i.toNat]'_ = _
    simp [strOfNums]
  rw [e, Option.getD_some, UInt8.toNat_ofNat']
  omega
end Go.Proofs.Ytjidbjmekpholaa.AdB
