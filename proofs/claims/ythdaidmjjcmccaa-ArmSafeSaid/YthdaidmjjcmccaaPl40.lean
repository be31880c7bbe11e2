/- Proved here: lemmas and contracts (what a function of the program computes) that the proofs of the laws of this seat lean on. Conditions: as each theorem states. -/
import Derived.Test.YthdaidmjjcmccaaPl36
set_option linter.unusedVariables false
set_option linter.unusedSimpArgs false
namespace Go.Pk
open Go.RowKit Go.Pk.Rx
def guessAt (x off s : Int) : Int := clampI (sumI [x, clampTo off (-s) s])
theorem guessAt_in {x off s lo hi : Int} (hs : 0 ≤ s) (h0 : lo ≤ x) (h1 : x ≤ hi) : (wideS ⟨lo, hi⟩ s).lo ≤ guessAt x off s ∧ guessAt x off s ≤ (wideS ⟨lo, hi⟩ s).hi := by
  have hc := clampTo_in (x := off) (lo := -s) (hi := s) (by omega)
  unfold wideS guessAt
  rw [if_neg (by simp only []; omega)]
  have e : sumI [x, clampTo off (-s) s] = x + clampTo off (-s) s := by simp [sumI]
  rw [e]
  generalize clampTo off (-s) s = c at *
  unfold clampI mxI
  simp only []
  constructor <;> (repeat' split) <;> omega
def guessL (x off s : List Int) (n : Nat) : List Int := (List.range n).map fun j => guessAt (x.getD j 0) (off.getD j 0) (s.getD j 0)
theorem guessL_length (x off s : List Int) (n : Nat) : (guessL x off s n).length = n := by unfold guessL; simp
theorem guessL_succ (x off s : List Int) (n : Nat) : guessL x off s (n + 1) = guessL x off s n ++ [guessAt (x.getD n 0) (off.getD n 0) (s.getD n 0)] := by unfold guessL; rw [List.range_succ, List.map_append]; rfl
theorem guessL_inI (x off s : List Int) (n : Nat) : InI (guessL x off s n) := fun a ha => by
  unfold guessL at ha
  obtain ⟨j, -, rfl⟩ := List.mem_map.1 ha
  exact clampI_rng _
theorem baseP_rng {p : Pl} (h : GoodP p) (x : List Int) : -9223372036854775808 ≤ baseP p x ∧ baseP p x ≤ 9223372036854775807 := by
  by_cases hx : areP p x.length = true
  · have h1 := baseP_in h x (by unfold areP at hx; simp at hx; omega)
    have h2 := h.2.2.2.2.1 p.inp (by simp)
    omega
  · unfold baseP
    rw [if_neg hx]
    omega
theorem prove_holds_law {p : Pl} (hg : GoodP p) {ls : List Int} (hl : slacksP p ls = true) {d : Nat} (hp : prRes (boxG (holdsP p (slP p ls)) d p.Inv) = 0) {x v off : List Int} (hx : InB p.B.length p.Inv x) (hxl : x.length = p.B.length) (hv : InB p.B.length p.W v) (hvl : v.length = p.B.length) :
    insideP p x = true ∧ (nextP p (baseP p (guessL x off ls p.B.length)) v x).2 = true ∧ insideP p (nextP p (baseP p (guessL x off ls p.B.length)) v x).1 = true := by
  obtain ⟨l1, l2, l3, l4, l5, l6, l7, l8⟩ := hg.lens
  have hls := slacks_iff.1 hl
  obtain ⟨sub, h1, h2, h3⟩ := boxG_proved d p.Inv l6 ((prRes_zero hg).1 hp) x hx
  have hsl : sub.length = p.B.length := by
    rcases h1 with rfl | h1
    · exact l6
    · exact h1.1
  have hn := holds_sound hg (box := sub) (s := slP p ls) (w := v) (x := x) (g := guessL x off ls p.B.length) (slP_length hls.1) hsl h2 hxl (guessL_length _ _ _ _) (fun j hj => by
    rw [slP_getD]
    unfold guessL
    rw [getD_map_range _ _ _ _ hj]
    have := h2 j hj
    exact guessAt_in (hls.2 j) this.1 this.2) hv hvl h3
  refine ⟨?_, by rw [hn.1], hn.2⟩
  unfold insideP
  rw [Bool.and_eq_true, List.all_eq_true]
  refine ⟨by unfold areP; simp; omega, fun i hi => ?_⟩
  rw [has_iff]
  exact hx i (by have := List.mem_range.1 hi; omega)
end Go.Pk
namespace Go.Proofs.Ythdaidmjjcmccaa
end Go.Proofs.Ythdaidmjjcmccaa
