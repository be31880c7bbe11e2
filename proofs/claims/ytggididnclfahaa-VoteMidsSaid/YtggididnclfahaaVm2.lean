/- Proved here: lemmas and contracts (what a function of the program computes) that the proofs of the laws of this seat lean on. Conditions: as each theorem states. -/
import Derived.Test.YtggididnclfahaaVm
set_option linter.unusedVariables false
set_option linter.unusedSimpArgs false
namespace Go.Pk.Vt
open Go.RowKit Go.Pk
def ins (a : Int) : List Int → List Int
  | [] => [a]
  | b :: l => if a ≤ b then a :: b :: l else b :: ins a l
def isort : List Int → List Int
  | [] => []
  | a :: l => ins a (isort l)
theorem ins_perm (a : Int) : ∀ l, (ins a l).Perm (a :: l)
  | [] => List.Perm.refl _
  | b :: l => by
    unfold ins; split
    · exact List.Perm.refl _
    · exact ((ins_perm a l).cons b).trans (List.Perm.swap a b l)
theorem isort_perm : ∀ l, (isort l).Perm l
  | [] => List.Perm.refl _
  | a :: l => (ins_perm a (isort l)).trans ((isort_perm l).cons a)
theorem ins_sorted (a : Int) : ∀ l, l.Pairwise (· ≤ ·) → (ins a l).Pairwise (· ≤ ·)
  | [], _ => by simp [ins]
  | b :: l, h => by
    unfold ins
    obtain ⟨h1, h2⟩ := List.pairwise_cons.1 h
    split
    · rename_i hab
      refine List.pairwise_cons.2 ⟨fun x hx => ?_, h⟩
      rcases List.mem_cons.1 hx with rfl | hx
      · exact hab
      · exact Int.le_trans hab (h1 x hx)
    · rename_i hab
      refine List.pairwise_cons.2 ⟨fun x hx => ?_, ins_sorted a l h2⟩
      rcases List.mem_cons.1 ((ins_perm a l).mem_iff.1 hx) with rfl | hx
      · omega
      · exact h1 x hx
theorem isort_sorted : ∀ l, (isort l).Pairwise (· ≤ ·)
  | [] => List.Pairwise.nil
  | a :: l => ins_sorted a _ (isort_sorted l)
theorem perm_sorted_eq : ∀ (l l' : List Int), l.Perm l' → l.Pairwise (· ≤ ·) → l'.Pairwise (· ≤ ·) → l = l'
  | [], l', hp, _, _ => (List.perm_nil.1 hp.symm).symm
  | a :: l, l', hp, hs, hs' => by
    cases l' with
    | nil => exact absurd (List.perm_nil.1 hp) (by simp)
    | cons b l' =>
      obtain ⟨h1, h2⟩ := List.pairwise_cons.1 hs
      obtain ⟨h3, h4⟩ := List.pairwise_cons.1 hs'
      have hab : a = b := by
        have ha : a ∈ b :: l' := hp.mem_iff.1 (by simp)
        have hb : b ∈ a :: l := hp.mem_iff.2 (by simp)
        rcases List.mem_cons.1 ha with e | ha
        · exact e
        · rcases List.mem_cons.1 hb with e | hb
          · exact e.symm
          · have := h1 b hb; have := h3 a ha; omega
      subst hab
      rw [perm_sorted_eq l l' (List.Perm.cons_inv hp) h2 h4]
theorem sortI_sorted (l : List Int) : (sortI l).Pairwise (· ≤ ·) := by
  unfold sortI
  have h := List.pairwise_mergeSort (le := fun x y : Int => decide (x ≤ y)) (fun a b c h1 h2 => by simp at *; omega) (fun a b => by simp; omega) l
  exact h.imp (fun h => by simpa using h)
theorem sortI_perm (l : List Int) : (sortI l).Perm l := List.mergeSort_perm _ _
theorem sortI_eq (l : List Int) : sortI l = isort l := perm_sorted_eq _ _ ((sortI_perm l).trans (isort_perm l).symm) (sortI_sorted l) (isort_sorted l)
def midI (l : List Int) : Int := (isort l).getD ((l.length - 1) / 2) 0
theorem mid_eq (l : List Int) : midL l = midI l := by unfold midL midI; rw [sortI_eq]
theorem mid_perm {l l' : List Int} (h : l.Perm l') : midL l = midL l' := by
  unfold midL
  rw [perm_sorted_eq (sortI l) (sortI l') (((sortI_perm l).trans h).trans (sortI_perm l').symm) (sortI_sorted l) (sortI_sorted l'), h.length_eq]
theorem mid1 (x : Int) : midL [x] = x := by rw [mid_eq]; simp [midI, isort, ins]
theorem mid2 (x y : Int) : midL [x, y] = mnV x y := by
  rw [mid_eq]; unfold midI isort ins mnV isort ins isort
  simp only [List.length_cons, List.length_nil]
  split <;> split <;> first | (simp; done) | (simp; omega)
/-- The middle one of three: it is one of them, and what bounds two of them bounds it. -/
theorem mid3 (x y z : Int) : midL [x, y, z] = mxV (mnV x y) (mnV (mxV x y) z) := by
  rw [mid_eq]; simp only [midI, isort, ins, mnV, mxV]
  repeat' split
  all_goals simp only [ins]
  all_goals repeat' split
  all_goals simp only [List.length_cons, List.length_nil, Nat.reduceAdd, Nat.reduceSub, Nat.reduceDiv, List.getD_cons_zero, List.getD_cons_succ]
  all_goals first | rfl | omega
def Vo.voteI (V : Vo) (now : Int) : Vo :=
  if V.says now = [] then V else if 1 < (V.says now).length then ({ V with last := midI (V.says now) } : Vo).strike (V.counts now) else { V with last := midI (V.says now) }
theorem vote_eq (V : Vo) (now : Int) : V.vote now = V.voteI now := by unfold Vo.vote Vo.voteI; rw [mid_eq]
/-- The first call whose answer the document fixes: the voter behind each tick. -/
def al0 : Vo := Vo.new 1 5 2
def al1 : Vo := (((al0.said 0 10 1).said 1 11 1).said 2 90 1).voteI 1
def al2 : Vo := (((al1.said 0 10 2).said 1 11 2).said 2 90 2).voteI 2
def al3 : Vo := al2.voteI 2
def alS : Nat → Vo
  | 0 => al0
  | 1 => al1
  | _ => al2
theorem al_x : al3.last = 10 := by decide +kernel
theorem al_n : (al2.says 2).length = 2 := by decide +kernel
theorem al_b : al3.bads = 1 := by decide +kernel
theorem al_m1 : midL [3, 1, 2] = 2 := by rw [mid_eq]; decide +kernel
theorem al_m2 : midL [4, 1, 2, 3] = 2 := by rw [mid_eq]; decide +kernel
theorem al_t : al0.a.t = -1 ∧ al0.b.t = -1 ∧ al0.c.t = -1 ∧ al1.a.t = 1 ∧ al1.b.t = 1 ∧ al1.c.t = 1 := by decide +kernel
theorem al_s : al0.strikes = 2 ∧ al1.strikes = 2 ∧ al2.strikes = 2 ∧ al3.strikes = 2 := by decide +kernel
theorem al_ok0 : al0.ok := new_ok (by decide) (by decide)
theorem al_ok1' : (((al0.said 0 10 1).said 1 11 1).said 2 90 1).ok := said_ok (said_ok (said_ok al_ok0 0 (by unfold I64; omega) 1) 1 (by unfold I64; omega) 1) 2 (by unfold I64; omega) 1
theorem al_ok1 : al1.ok := by unfold al1; rw [← vote_eq]; exact vote_ok al_ok1' 1
theorem al_ok2' : (((al1.said 0 10 2).said 1 11 2).said 2 90 2).ok := said_ok (said_ok (said_ok al_ok1 0 (by unfold I64; omega) 2) 1 (by unfold I64; omega) 2) 2 (by unfold I64; omega) 2
theorem al_ok2 : al2.ok := by unfold al2; rw [← vote_eq]; exact vote_ok al_ok2' 2
end Go.Pk.Vt
namespace Go.Proofs.Ytggididnclfahaa
end Go.Proofs.Ytggididnclfahaa
