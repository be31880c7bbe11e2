/- Proved here: lemmas and contracts (what a function of the program computes) that the proofs of the laws of this seat lean on. Conditions: as each theorem states. -/
import Derived.Test.YtggididnclfahaaA0
import Derived.WalkKit
import Derived.ProofKit
import Derived.OpenShut
import Derived.ShutString
import Derived.ChangeOld
import Derived.Below
import Derived.Deep.Slices
set_option linter.unusedVariables false
set_option linter.unusedSimpArgs false
namespace Go.Pk
open Go.RowKit Go.ChangeShapes Go.WideShapes Go.Deep
theorem flat_at {α : Type} (R : Nat → List α) (k : Nat) (hk : 0 < k) : ∀ n, (∀ i, i < n → (R i).length = k) → ((List.range n).flatMap R).length = n * k ∧ ∀ j, j < n * k → ((List.range n).flatMap R)[j]? = (R (j / k))[j % k]?
  | 0, _ => ⟨by simp, fun j hj => by omega⟩
  | n + 1, h => by
    obtain ⟨h1, h2⟩ := flat_at R k hk n (fun i hi => h i (by omega))
    rw [List.range_succ, List.flatMap_append]
    have hn := h n (by omega)
    have e : (n + 1) * k = n * k + k := by rw [Nat.add_mul, Nat.one_mul]
    refine ⟨by simp [h1, hn, e], fun j hj => ?_⟩
    by_cases hj2 : j < n * k
    · rw [List.getElem?_append_left (by rw [h1]; exact hj2)]
      exact h2 j hj2
    · have hd : j / k = n := by
        rw [Nat.div_eq_iff hk]; omega
      have hm : j % k = j - n * k := by
        have := Nat.div_add_mod j k
        rw [hd, Nat.mul_comm] at this
        omega
      rw [List.getElem?_append_right (by rw [h1]; omega), h1, hd, hm]
      simp
theorem arr1 {α : Type} {cs : Array α} (h : cs.toList.length = 1) : ∃ c0, cs = #[c0] := by
  obtain ⟨l⟩ := cs
  match l, h with
  | [c0], _ => exact ⟨c0, rfl⟩
theorem arr2 {α : Type} {cs : Array α} (h : cs.toList.length = 2) : ∃ c0 c1, cs = #[c0, c1] := by
  obtain ⟨l⟩ := cs
  match l, h with
  | [c0, c1], _ => exact ⟨c0, c1, rfl⟩
theorem arr3 {α : Type} {cs : Array α} (h : cs.toList.length = 3) : ∃ c0 c1 c2, cs = #[c0, c1, c2] := by
  obtain ⟨l⟩ := cs
  match l, h with
  | [c0, c1, c2], _ => exact ⟨c0, c1, c2, rfl⟩
theorem arr4 {α : Type} {cs : Array α} (h : cs.toList.length = 4) : ∃ c0 c1 c2 c3, cs = #[c0, c1, c2, c3] := by
  obtain ⟨l⟩ := cs
  match l, h with
  | [c0, c1, c2, c3], _ => exact ⟨c0, c1, c2, c3, rfl⟩
theorem arr5 {α : Type} {cs : Array α} (h : cs.toList.length = 5) : ∃ c0 c1 c2 c3 c4, cs = #[c0, c1, c2, c3, c4] := by
  obtain ⟨l⟩ := cs
  match l, h with
  | [c0, c1, c2, c3, c4], _ => exact ⟨c0, c1, c2, c3, c4, rfl⟩
theorem arr6 {α : Type} {cs : Array α} (h : cs.toList.length = 6) : ∃ c0 c1 c2 c3 c4 c5, cs = #[c0, c1, c2, c3, c4, c5] := by
  obtain ⟨l⟩ := cs
  match l, h with
  | [c0, c1, c2, c3, c4, c5], _ => exact ⟨c0, c1, c2, c3, c4, c5, rfl⟩
theorem arr7 {α : Type} {cs : Array α} (h : cs.toList.length = 7) : ∃ c0 c1 c2 c3 c4 c5 c6, cs = #[c0, c1, c2, c3, c4, c5, c6] := by
  obtain ⟨l⟩ := cs
  match l, h with
  | [c0, c1, c2, c3, c4, c5, c6], _ => exact ⟨c0, c1, c2, c3, c4, c5, c6, rfl⟩
theorem arr8 {α : Type} {cs : Array α} (h : cs.toList.length = 8) : ∃ c0 c1 c2 c3 c4 c5 c6 c7, cs = #[c0, c1, c2, c3, c4, c5, c6, c7] := by
  obtain ⟨l⟩ := cs
  match l, h with
  | [c0, c1, c2, c3, c4, c5, c6, c7], _ => exact ⟨c0, c1, c2, c3, c4, c5, c6, c7, rfl⟩
theorem arr9 {α : Type} {cs : Array α} (h : cs.toList.length = 9) : ∃ c0 c1 c2 c3 c4 c5 c6 c7 c8, cs = #[c0, c1, c2, c3, c4, c5, c6, c7, c8] := by
  obtain ⟨l⟩ := cs
  match l, h with
  | [c0, c1, c2, c3, c4, c5, c6, c7, c8], _ => exact ⟨c0, c1, c2, c3, c4, c5, c6, c7, c8, rfl⟩
theorem arr10 {α : Type} {cs : Array α} (h : cs.toList.length = 10) : ∃ c0 c1 c2 c3 c4 c5 c6 c7 c8 c9, cs = #[c0, c1, c2, c3, c4, c5, c6, c7, c8, c9] := by
  obtain ⟨l⟩ := cs
  match l, h with
  | [c0, c1, c2, c3, c4, c5, c6, c7, c8, c9], _ => exact ⟨c0, c1, c2, c3, c4, c5, c6, c7, c8, c9, rfl⟩
theorem arr11 {α : Type} {cs : Array α} (h : cs.toList.length = 11) : ∃ c0 c1 c2 c3 c4 c5 c6 c7 c8 c9 c10, cs = #[c0, c1, c2, c3, c4, c5, c6, c7, c8, c9, c10] := by
  obtain ⟨l⟩ := cs
  match l, h with
  | [c0, c1, c2, c3, c4, c5, c6, c7, c8, c9, c10], _ => exact ⟨c0, c1, c2, c3, c4, c5, c6, c7, c8, c9, c10, rfl⟩
section
variable {H : Type} {enc : TypeId × Value → H} {P : Program} {w : World} {base : Nat} {spare : Nat → Bool} {held : Bool}
/-- A slice that is read, of whatever elements: its cells. -/
theorem open_rowC {t e : TypeId} {fuel k : Nat} {cs : List Value} {x : DataW H × List MemPlace} (ht : P.underlying t = some (.slice e)) (hk : P.cellsOf e = k) (hk0 : 0 < k) (h : DataW.trod enc P w base spare held fuel t cs = some x) :
    ∃ (A : Option Addr) (n c m : Nat) (R : Nat → List Value), cs = [.slice A n c] ∧ n ≤ c ∧ n ≤ 9223372036854775807 ∧ (∀ i, i < n → (R i).length = k ∧ ∃ y, DataW.trod enc P w base spare held m e (R i) = some y) ∧ RdC w A ((List.range n).flatMap R) := by
  rcases open_slice ht h with ⟨rfl, _⟩ | ⟨a, len, cap, m, f, D, Pl, rfl, hb, hl, hm, hmm, _, hx⟩
  · exact ⟨none, 0, 0, 0, fun _ => [], rfl, by omega, by omega, fun i hi => by omega, fun i u hi => by simp at hi⟩
  have hlm : len ≤ m := by rw [hmm]; split <;> omega
  obtain ⟨R, hR⟩ := choose_lt (n := m) (α := List Value) (p := fun i v => w.cells? base (a.add (i * P.cellsOf e)) (P.cellsOf e) = some v ∧ DataW.trod enc P w base spare held f e v = some (D i, Pl i)) hx
  have hlen : ∀ i, i < m → (R i).length = k := fun i hi => by
    obtain ⟨h1, _⟩ := hR i hi
    obtain ⟨_, hl, _⟩ := World.cells?_some h1
    rw [hl, hk]
  have hcell : ∀ i, i < m → ∀ j, j < k → w.cell? (a.add (i * k + j)) = (R i)[j]? := fun i hi j hj => by
    obtain ⟨h1, _⟩ := hR i hi
    obtain ⟨_, _, hc⟩ := World.cells?_some h1
    have := hc j (by omega)
    rw [add_add, hk] at this
    exact this
  refine ⟨some a, len, cap, f, R, rfl, hl, by unfold maxLen at hm; omega, fun i hi => ⟨hlen i (by omega), _, (hR i (by omega)).2⟩, fun j u hj => ?_⟩
  obtain ⟨h1, h2⟩ := flat_at R k hk0 len (fun i hi => hlen i (by omega))
  have hjl : j < len * k := by rw [← h1]; exact (List.getElem?_eq_some_iff.1 hj).1
  rw [h2 j hjl] at hj
  have hdl : j / k < len := Nat.div_lt_of_lt_mul (by rw [Nat.mul_comm]; exact hjl)
  have hml := Nat.mod_lt j hk0
  have hpos : 0 < len := Nat.lt_of_le_of_lt (Nat.zero_le _) hdl
  have e : j / k * k + j % k = j := by rw [Nat.mul_comm]; exact Nat.div_add_mod j k
  have hc := hcell (j / k) (Nat.lt_of_lt_of_le hdl hlm) (j % k) hml
  rw [e, hj] at hc
  have h0 := hcell 0 (by omega) 0 hk0
  have hR0 : ∃ v, (R 0)[0]? = some v := ⟨(R 0)[0]'(by rw [hlen 0 (by omega)]; exact hk0), List.getElem?_eq_getElem _⟩
  obtain ⟨v0, hv0⟩ := hR0
  rw [hv0, Nat.zero_mul, Nat.add_zero] at h0
  have ha : a.add 0 = a := by simp [Addr.add]
  rw [ha] at h0
  obtain ⟨b, off, spot⟩ := a
  have hs : spot = none := by
    cases spot with
    | none => rfl
    | some q =>
      exfalso
      simp only [World.cell?] at h0
      split at h0 <;> simp_all
  subst hs
  refine ⟨b, off, rfl, ?_⟩
  rw [← hc]
  unfold Addr.add
  by_cases hj0 : j = 0
  · subst hj0; simp
  · simp [hj0]
theorem open_intsC {t e : TypeId} {fuel : Nat} {cs : List Value} {x : DataW H × List MemPlace} (ht : P.underlying t = some (.slice e)) (he : P.underlying e = some (.int .i64)) (hk : P.cellsOf e = 1) (h : DataW.trod enc P w base spare held fuel t cs = some x) :
    ∃ (A : Option Addr) (l : List Int) (c : Nat), cs = [.slice A l.length c] ∧ l.length ≤ c ∧ RdI w A l ∧ (∀ x ∈ l, -9223372036854775808 ≤ x ∧ x ≤ 9223372036854775807) := by
  obtain ⟨A, n, c, m, R, rfl, hc, hn, hR, hrd⟩ := open_rowC ht hk (by omega) h
  obtain ⟨z, hz⟩ := choose_lt (n := n) (α := Int) (p := fun i v => R i = [.int .i64 v] ∧ -9223372036854775808 ≤ v ∧ v ≤ 9223372036854775807) (fun i hi => by
    obtain ⟨_, y, hy⟩ := hR i hi
    obtain ⟨v, h1, _, h3⟩ := DataW.trod_int he hy
    exact ⟨v, h1, bounds_i64 h3⟩)
  refine ⟨A, (List.range n).map z, c, by simp, by simpa using hc, ⟨by simpa using hn, ?_⟩, fun v hv => ?_⟩
  · have e : encI ((List.range n).map z) = (List.range n).flatMap R := by
      unfold encI
      rw [List.map_map]
      have : ∀ l : List Nat, (∀ i ∈ l, i < n) → l.map (Value.int .i64 ∘ z) = l.flatMap R := by
        intro l
        induction l with
        | nil => intro _; rfl
        | cons a l ih =>
          intro hl
          rw [List.map_cons, List.flatMap_cons, ih (fun i hi => hl i (by simp [hi])), (hz a (hl a (by simp))).1]
          rfl
      exact this _ (fun i hi => List.mem_range.1 hi)
    rw [e]; exact hrd
  · obtain ⟨i, hi, rfl⟩ := List.mem_map.1 hv
    exact (hz i (List.mem_range.1 hi)).2
/-- The same of an argument. -/
theorem open_intsV {r : Reach} {b0 : Nat} {t e : TypeId} {v : Value} {d : DataW H} {ps : List MemPlace} (ht : P.underlying t = some (.slice e)) (he : P.underlying e = some (.int .i64)) (hk : P.cellsOf e = 1) (hv : Value.okWide P w r b0 t v) (h : DataW.Trod enc P w base spare held t v d ps) :
    ∃ (A : Option Addr) (l : List Int) (c : Nat), v = .slice A l.length c ∧ l.length ≤ c ∧ RdI w A l ∧ (∀ x ∈ l, -9223372036854775808 ≤ x ∧ x ≤ 9223372036854775807) := by
  obtain ⟨a, l, c, rfl⟩ := okWide_slice ht hv
  obtain ⟨fuel, hf⟩ := h
  obtain ⟨A, xs, cc, h1, h2, h3, h4⟩ := open_intsC ht he hk (cs := [.slice a l c]) (by simpa [Value.cells] using hf)
  injection h1 with h1
  exact ⟨A, xs, cc, h1, h2, h3, h4⟩
/-- A struct's field that is one cell. -/
theorem open_field {t : TypeId} {fs : Array Field} {fuel : Nat} {cs : List Value} {x : DataW H × List MemPlace} (ht : P.underlying t = some (.struct fs)) (h : DataW.trod enc P w base spare held fuel t cs = some x) {i : Nat} {f : Field} (hf : fs[i]? = some f) :
    ∃ n y, DataW.trod enc P w base spare held n f.type ((cs.drop f.offset).take (P.cellsOf f.type)) = some y := by
  obtain ⟨xs, n, _, _, _, hl, hx⟩ := DataW.trod_struct ht h
  have hi : i < xs.length := by rw [hl]; exact (Array.getElem?_eq_some_iff.1 hf).1
  exact ⟨n, xs[i], by rw [hx i f hf]; exact List.getElem?_eq_getElem hi⟩
theorem open_agg {r : Reach} {b0 : Nat} {t : TypeId} {fs : Array Field} {v : Value} {d : DataW H} {p : List MemPlace} (hs : P.underlying t = some (.struct fs)) (hv : Value.okWide P w r b0 t v) (h : DataW.Trod enc P w base spare held t v d p) :
    ∃ (cs : Array Value) (fuel : Nat) (x : DataW H × List MemPlace), v = .agg cs ∧ cs.toList.length = P.cellsOf t ∧ DataW.trod enc P w base spare held fuel t cs.toList = some x := by
  obtain ⟨cs, rfl, hsz⟩ := okWide_struct hs hv
  obtain ⟨fuel, hf⟩ := h
  exact ⟨cs, fuel, _, rfl, by simpa using hsz, by simpa [Value.cells] using hf⟩
end
end Go.Pk
