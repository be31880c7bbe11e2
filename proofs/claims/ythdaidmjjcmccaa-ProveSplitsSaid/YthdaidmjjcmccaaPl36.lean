/- Proved here: lemmas and contracts (what a function of the program computes) that the proofs of the laws of this seat lean on. Conditions: as each theorem states. -/
import Derived.Test.YthdaidmjjcmccaaPl34
set_option linter.unusedVariables false
set_option linter.unusedSimpArgs false
namespace Go.Pk
open Go.RowKit Go.Pk.Rx
theorem all_ne {n : Nat} {f g : Nat → Bool} (h : ((∀ j, j < n → f j = true) ∧ ¬ ∀ j, j < n → g j = true) ∨ ((∀ j, j < n → g j = true) ∧ ¬ ∀ j, j < n → f j = true)) : ((List.range n).all f != (List.range n).all g) = true := by
  have e : ∀ k : Nat → Bool, ((List.range n).all k = true) ↔ ∀ j, j < n → k j = true := fun k => by
    rw [List.all_eq_true]; exact ⟨fun h j hj => h j (List.mem_range.2 hj), fun h j hj => h j (List.mem_range.1 hj)⟩
  rcases h with ⟨h1, h2⟩ | ⟨h1, h2⟩
  · rw [(e f).2 h1]
    cases hg : (List.range n).all g with
    | true => exact absurd ((e g).1 hg) h2
    | false => rfl
  · rw [(e g).2 h1]
    cases hg : (List.range n).all f with
    | true => exact absurd ((e f).1 hg) h2
    | false => rfl
theorem splits_law {p : Pl} (hg : GoodP p) {ls : List Int} (hl : ls.length ≤ p.B.length) {box a b : List Sp} (hs : splitP box = some (a, b)) (hn : box.length = p.B.length) (y : List Int) (hy : InB p.B.length box y) :
    (∀ j, j < p.B.length → hasS (box.getD j ⟨0, 0⟩) (y.getD j 0) = true) ∧ (((List.range p.B.length).all fun j => hasS (a.getD j ⟨0, 0⟩) (y.getD j 0)) != ((List.range p.B.length).all fun j => hasS (b.getD j ⟨0, 0⟩) (y.getD j 0))) = true ∧ (∀ j, j < p.B.length → Le (a.getD j ⟨0, 0⟩) (box.getD j ⟨0, 0⟩) ∧ Le (b.getD j ⟨0, 0⟩) (box.getD j ⟨0, 0⟩)) ∧ (holdsP p (slP p ls) box = true → holdsP p (slP p ls) a = true ∧ holdsP p (slP p ls) b = true) := by
  obtain ⟨na, nb⟩ := split_nest hs hn
  refine ⟨fun j hj => (has_iff _ _).2 (hy j hj), all_ne ?_, fun j hj => ⟨na.2.2 j hj, nb.2.2 j hj⟩, fun h => ⟨holds_mono hg na (slP_length hl) (slP_length hl) (fun _ _ => Int.le_refl _) h, holds_mono hg nb (slP_length hl) (slP_length hl) (fun _ _ => Int.le_refl _) h⟩⟩
  have e : ∀ c : List Sp, (∀ j, j < p.B.length → hasS (c.getD j ⟨0, 0⟩) (y.getD j 0) = true) ↔ InB p.B.length c y := fun c =>
    ⟨fun h j hj => (has_iff _ _).1 (h j hj), fun h j hj => (has_iff _ _).2 (h j hj)⟩
  rcases split_one hs hn hy with ⟨h1, h2⟩ | ⟨h1, h2⟩
  · exact Or.inl ⟨(e a).2 h1, fun h => h2 ((e b).1 h)⟩
  · exact Or.inr ⟨(e b).2 h1, fun h => h2 ((e a).1 h)⟩
end Go.Pk
namespace Go.Proofs.Ythdaidmjjcmccaa
end Go.Proofs.Ythdaidmjjcmccaa
