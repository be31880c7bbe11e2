/- Proved here: lemmas and contracts (what a function of the program computes) that the proofs of the laws of this seat lean on. Conditions: as each theorem states. -/
import Derived.Test.YtggididnclfahaaVm2
set_option linter.unusedVariables false
set_option linter.unusedSimpArgs false
namespace Go.Pk.Vt
open Go.RowKit Go.Pk
/-- A number set behind all that are not above it. -/
theorem put_sorted {out : List Int} {x : Int} {k : Nat} (hs : out.Pairwise (· ≤ ·)) (hlo : ∀ j, j < k → out.getD j 0 ≤ x) (hhi : k < out.length → x < out.getD k 0) : (out.take k ++ x :: out.drop k).Pairwise (· ≤ ·) := by
  have hs2 := hs
  rw [← List.take_append_drop k out] at hs2
  obtain ⟨h1, h2, h3⟩ := List.pairwise_append.1 hs2
  have ha : ∀ a ∈ out.take k, a ≤ x := by
    intro a ha
    obtain ⟨j, hj, rfl⟩ := List.getElem_of_mem ha
    rw [List.length_take] at hj
    have := hlo j (by omega)
    rw [List.getD_eq_getElem?_getD, List.getElem?_eq_getElem (by omega)] at this
    rw [List.getElem_take]
    simpa using this
  refine List.pairwise_append.2 ⟨h1, List.pairwise_cons.2 ⟨fun b hb => ?_, h2⟩, fun a ha' b hb => ?_⟩
  · have hk : k < out.length := by
      rcases Nat.lt_or_ge k out.length with h | h
      · exact h
      · rw [List.drop_eq_nil_of_le h] at hb; simp at hb
    have hx := hhi hk
    rw [List.getD_eq_getElem?_getD, List.getElem?_eq_getElem hk] at hx
    simp only [Option.getD_some] at hx
    rw [List.drop_eq_getElem_cons hk] at hb h2
    rcases List.mem_cons.1 hb with rfl | hb
    · omega
    · have := (List.pairwise_cons.1 h2).1 b hb; omega
  · rcases List.mem_cons.1 hb with rfl | hb
    · exact ha a ha'
    · exact h3 a ha' b hb
theorem put_perm {out l : List Int} {i k : Nat} (hp : out.Perm (l.take i)) (hi : i < l.length) : (out.take k ++ l.getD i 0 :: out.drop k).Perm (l.take (i + 1)) := by
  have h1 : (out.take k ++ l.getD i 0 :: out.drop k).Perm (l.getD i 0 :: out) := by
    have := List.perm_middle (a := l.getD i 0) (l₁ := out.take k) (l₂ := out.drop k)
    rwa [List.take_append_drop] at this
  rw [List.take_add_one, List.getElem?_eq_getElem hi]
  have e : l.getD i 0 = l[i] := by rw [List.getD_eq_getElem?_getD, List.getElem?_eq_getElem hi]; rfl
  rw [e] at h1 ⊢
  refine h1.trans ((hp.cons _).trans ?_)
  exact List.perm_append_comm (l₁ := [l[i]]) (l₂ := l.take i)
theorem sortI_of {out l : List Int} (hp : out.Perm l) (hs : out.Pairwise (· ≤ ·)) : out = sortI l :=
  perm_sorted_eq _ _ (hp.trans (sortI_perm l).symm) hs (sortI_sorted l)
theorem midL_of {out l : List Int} (hp : out.Perm l) (hs : out.Pairwise (· ≤ ·)) : out.getD ((out.length - 1) / 2) 0 = midL l := by
  unfold midL
  rw [← sortI_of hp hs, hp.length_eq]
theorem midL_turn (l : List Int) (k : Nat) : midL (l.drop k ++ l.take k) = midL l :=
  mid_perm (by have := List.perm_append_comm (l₁ := l.drop k) (l₂ := l.take k); rwa [List.take_append_drop] at this)
def belowN (l : List Int) (x : Int) (i : Nat) : Nat := (l.take i).countP fun y => decide (y < x)
def aboveN (l : List Int) (x : Int) (i : Nat) : Nat := (l.take i).countP fun y => decide (x < y)
theorem cntP_succ (p : Int → Bool) {l : List Int} {i : Nat} (hi : i < l.length) : (l.take (i + 1)).countP p = (l.take i).countP p + if p (l.getD i 0) then 1 else 0 := by
  rw [List.take_add_one, List.getElem?_eq_getElem hi, List.getD_eq_getElem?_getD, List.getElem?_eq_getElem hi, List.countP_append]
  simp [List.countP_cons]
theorem belowN_succ {l : List Int} {x : Int} {i : Nat} (hi : i < l.length) : belowN l x (i + 1) = belowN l x i + if l.getD i 0 < x then 1 else 0 := by
  unfold belowN; rw [cntP_succ _ hi]; simp
theorem aboveN_succ {l : List Int} {x : Int} {i : Nat} (hi : i < l.length) : aboveN l x (i + 1) = aboveN l x i + if x < l.getD i 0 then 1 else 0 := by
  unfold aboveN; rw [cntP_succ _ hi]; simp
theorem mids_law {l : List Int} (h : l ≠ []) : 2 * belowN l (midL l) l.length < l.length ∧ 2 * aboveN l (midL l) l.length ≤ l.length := by
  have hl : 0 < l.length := by cases l; exact absurd rfl h; simp
  unfold belowN aboveN
  rw [List.take_length, ← (sortI_perm l).countP_eq, ← (sortI_perm l).countP_eq]
  have hn : (sortI l).length = l.length := (sortI_perm l).length_eq
  have hs := sortI_sorted l
  obtain ⟨m, hm⟩ : ∃ m, m = (l.length - 1) / 2 := ⟨_, rfl⟩
  have hx : midL l = (sortI l).getD m 0 := by unfold midL; rw [hm]
  generalize sortI l = s at hn hs hx
  have hms : m < s.length := by omega
  rw [List.getD_eq_getElem?_getD, List.getElem?_eq_getElem hms] at hx
  simp only [Option.getD_some] at hx
  rw [hx]
  have e0 : ∀ (p : Int → Bool) (m : Nat), s.countP p = (s.take m).countP p + (s.drop m).countP p := fun p m => by rw [← List.countP_append, List.take_append_drop]
  constructor
  · have e : s.countP (fun y => decide (y < s[m])) ≤ m := by
      rw [e0 _ m]
      have h1 := List.countP_le_length (p := fun y => decide (y < s[m])) (l := s.take m)
      have h2 : (s.drop m).countP (fun y => decide (y < s[m])) = 0 := by
        rw [List.countP_eq_zero]
        intro a ha
        rw [List.drop_eq_getElem_cons hms] at ha
        have hd : (s.drop m).Pairwise (· ≤ ·) := hs.sublist (List.drop_sublist m s)
        rw [List.drop_eq_getElem_cons hms] at hd
        rcases List.mem_cons.1 ha with rfl | ha
        · simp
        · have := (List.pairwise_cons.1 hd).1 a ha
          simp; omega
      have h3 : (s.take m).length ≤ m := by rw [List.length_take]; omega
      omega
    omega
  · have e : s.countP (fun y => decide (s[m] < y)) ≤ s.length - (m + 1) := by
      rw [e0 _ (m + 1)]
      have h1 := List.countP_le_length (p := fun y => decide (s[m] < y)) (l := s.drop (m + 1))
      have h2 : (s.take (m + 1)).countP (fun y => decide (s[m] < y)) = 0 := by
        rw [List.countP_eq_zero]
        intro a ha
        obtain ⟨j, hj, rfl⟩ := List.getElem_of_mem ha
        rw [List.length_take] at hj
        rw [List.getElem_take]
        rcases Nat.lt_or_ge j m with hjm | hjm
        · have := List.pairwise_iff_getElem.1 hs j m (by omega) hms hjm
          simp; omega
        · obtain rfl : j = m := by omega
          simp
      have h3 : (s.drop (m + 1)).length = s.length - (m + 1) := List.length_drop
      omega
    omega
end Go.Pk.Vt
namespace Go.Proofs.Ytggididnclfahaa
end Go.Proofs.Ytggididnclfahaa
