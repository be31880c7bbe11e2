/- Proved here: lemmas and contracts (what a function of the program computes) that the proofs of the laws of this seat lean on. Conditions: as each theorem states. -/
import Derived.Test.YtggididnclfahaaV8
import Derived.Test.YtggididnclfahaaVm3
set_option linter.unusedVariables false
set_option linter.unusedSimpArgs false
namespace Go.Pk.Vt
open Go.RowKit Go.Pk
theorem get_put {V : Vo} {i j : Nat} (hi : i < 3) (hj : j < 3) (s : Sen) : (V.put i s).get j = if i = j then s else V.get j := by
  rcases (by omega : i = 0 ∨ i = 1 ∨ i = 2) with rfl | rfl | rfl <;> rcases (by omega : j = 0 ∨ j = 1 ∨ j = 2) with rfl | rfl | rfl <;> rfl
theorem Same.get {V W : Vo} (h : Same V W) (j : Nat) : (W.get j).v = (V.get j).v ∧ (W.get j).t = (V.get j).t := by
  unfold Vo.get
  split
  · exact ⟨h.av, h.at_⟩
  · split
    · exact ⟨h.bv, h.bt⟩
    · exact ⟨h.cv, h.ct⟩
theorem look_bad {V : Vo} {i j : Nat} (hi : i < 3) (hj : j < 3) : ((V.look i).get j).bad = (V.get j).bad := by
  unfold Vo.look; rw [get_put hi hj]
  split
  · rename_i h; subst h; rfl
  · rfl
theorem lookF_bad : ∀ (l : List Nat) (P : Vo × List Nat) {j : Nat}, (∀ i ∈ l, i < 3) → j < 3 → ((l.foldl Vo.look2 P).1.get j).bad = (P.1.get j).bad
  | [], P, j, _, _ => rfl
  | i :: l, P, j, hl, hj => (lookF_bad l (Vo.look2 P i) (fun k hk => hl k (by simp [hk])) hj).trans (look_bad (hl i (by simp)) hj)
theorem lookF_far : ∀ (l : List Nat) (P : Vo × List Nat) {j : Nat}, j ∈ (l.foldl Vo.look2 P).2 → j ∈ P.2 ∨ farV (P.1.get j).v P.1.last P.1.tol = true
  | [], P, j, h => Or.inl h
  | i :: l, P, j, h => by
    have hs := look_same P.1 i
    rcases lookF_far l (Vo.look2 P i) h with h1 | h1
    · unfold Vo.look2 at h1
      simp only [] at h1
      split at h1
      · rename_i ho
        rcases List.mem_append.1 h1 with h1 | h1
        · exact Or.inl h1
        · simp at h1; subst h1
          unfold Vo.outs at ho
          rw [Bool.and_eq_true] at ho
          exact Or.inr ho.1
      · exact Or.inl h1
    · right
      have e : (Vo.look2 P i).1 = P.1.look i := rfl
      rw [e, (hs.get j).1, hs.last, hs.tol] at h1
      exact h1
theorem punF_bad (n : Nat) : ∀ (o : List Nat) (W : Vo) {j : Nat}, (∀ i ∈ o, i < 3) → j < 3 → ((o.foldl (Vo.punish n) W).get j).bad = true → (W.get j).bad = true ∨ j ∈ o
  | [], W, j, _, _, h => Or.inl h
  | i :: o, W, j, ho, hj, h => by
    have hi := ho i (by simp)
    rcases punF_bad n o (Vo.punish n W i) (fun k hk => ho k (by simp [hk])) hj h with h1 | h1
    · unfold Vo.punish at h1
      split at h1
      · rw [get_put hi hj] at h1
        split at h1
        · rename_i e; subst e; exact Or.inr (by simp)
        · exact Or.inl h1
      · rw [get_put hi hj] at h1
        split at h1
        · rename_i e; subst e; exact Or.inl h1
        · exact Or.inl h1
    · exact Or.inr (by simp [h1])
theorem punF_keeps (n : Nat) : ∀ (o : List Nat) (W : Vo) {j : Nat}, (∀ i ∈ o, i < 3) → j < 3 → (W.get j).bad = true → ((o.foldl (Vo.punish n) W).get j).bad = true
  | [], W, j, _, _, h => h
  | i :: o, W, j, ho, hj, h => by
    have hi := ho i (by simp)
    refine punF_keeps n o (Vo.punish n W i) (fun k hk => ho k (by simp [hk])) hj ?_
    unfold Vo.punish
    split
    · rw [get_put hi hj]; split
      · rfl
      · exact h
    · rw [get_put hi hj]; split
      · rename_i e; subst e; exact h
      · exact h
theorem strike_bad {V : Vo} {l : List Nat} (hl : ∀ i ∈ l, i < 3) {j : Nat} (hj : j < 3) (h : ((V.strike l).get j).bad = true) : (V.get j).bad = true ∨ farV (V.get j).v V.last V.tol = true := by
  unfold Vo.strike at h
  rcases punF_bad _ _ _ (by unfold Vo.lookAll; exact look2_mem (V := V) l (V, []) (fun i hi => nomatch hi) hl) hj h with h | h
  · left
    unfold Vo.lookAll at h
    rwa [lookF_bad l (V, []) hl hj] at h
  · unfold Vo.lookAll at h
    rcases lookF_far l (V, []) h with h | h
    · cases h
    · exact Or.inr h
theorem strike_keeps {V : Vo} {l : List Nat} (hl : ∀ i ∈ l, i < 3) {j : Nat} (hj : j < 3) (h : (V.get j).bad = true) : ((V.strike l).get j).bad = true := by
  unfold Vo.strike
  refine punF_keeps _ _ _ (by unfold Vo.lookAll; exact look2_mem (V := V) l (V, []) (fun i hi => nomatch hi) hl) hj ?_
  unfold Vo.lookAll
  rw [lookF_bad l (V, []) hl hj]; exact h
/-- What a vote leaves. -/
structure Voted (V W : Vo) (n : Int) : Prop where
  tol : W.tol = V.tol
  stale : W.stale = V.stale
  strikes : W.strikes = V.strikes
  vt : ∀ j, j < 3 → (W.get j).v = (V.get j).v ∧ (W.get j).t = (V.get j).t
  bad : ∀ j, j < 3 → (W.get j).bad = true → (V.get j).bad = true ∨ farV (V.get j).v W.last V.tol = true
  keeps : ∀ j, j < 3 → (V.get j).bad = true → (W.get j).bad = true
theorem voted (V : Vo) (n : Int) : Voted V (V.vote n) n := by
  unfold Vo.vote
  split
  · exact ⟨rfl, rfl, rfl, fun j _ => ⟨rfl, rfl⟩, fun j _ h => Or.inl h, fun j _ h => h⟩
  · split
    · have hs := strike_same ({ V with last := midL (V.says n) } : Vo) (V.counts n)
      exact ⟨hs.tol, hs.stale, hs.strikes, fun j _ => hs.get j, fun j hj h => by
        rcases strike_bad (counts_lt V n) hj h with h | h
        · exact Or.inl h
        · right; rw [hs.last]; exact h, fun j hj h => strike_keeps (counts_lt V n) hj h⟩
    · exact ⟨rfl, rfl, rfl, fun j _ => ⟨rfl, rfl⟩, fun j _ h => Or.inl h, fun j _ h => h⟩
/-- The voter of VoteResets when its channel has just gone bad. -/
theorem r_end {x off s : Int} {i S : Nat} (hi : i < 3) (hS : (S : Int) = s) (h1 : 1 ≤ s) (ho : 2 ≤ off) :
    ((rV x off s i S).get i).v = x + off ∧ ((rV x off s i S).get i).bad = true ∧ ((rV x off s i S).says (s - 1)).length = 2 ∧
    ((((rV x off s i S).vote (s - 1)).reset [(i : Int)]).get i).v = x + off ∧ ((((rV x off s i S).vote (s - 1)).reset [(i : Int)]).get i).bad = false ∧
    ((((rV x off s i S).vote (s - 1)).reset [(i : Int)]).says (s - 1)).length = 3 := by
  obtain ⟨V, hV⟩ : ∃ V, rV x off s i S = V := ⟨_, rfl⟩
  have hS0 : S ≠ 0 := by omega
  have hg : ∀ k, k < 3 → (V.get k).v = rv x off i k ∧ (V.get k).t = s - 1 ∧ (V.get k).bad = decide (k = i) := fun k hk => by
    rw [← hV]
    have e : (rV x off s i S).get k = rS x off s i S k := by rcases (by omega : k = 0 ∨ k = 1 ∨ k = 2) with rfl | rfl | rfl <;> rfl
    rw [e]; unfold rS
    refine ⟨by rw [if_neg hS0], by simp only []; omega, ?_⟩
    rw [decide_eq_true hS, Bool.and_true]
  have hst : V.stale = 0 := by rw [← hV]; rfl
  have htl : V.tol = 1 := by rw [← hV]; rfl
  have hfr : ∀ k, k < 3 → V.is (s - 1) k = !decide (k = i) := fun k hk => by
    unfold Vo.is Vo.fresh
    rw [(hg k hk).2.1, (hg k hk).2.2, hst, fresh_now (by omega) (by omega), Bool.true_and]
  have hc : V.counts (s - 1) = [0, 1, 2].filter fun k => !decide (k = i) := by
    unfold Vo.counts
    simp only [List.filter_cons, hfr 0 (by omega), hfr 1 (by omega), hfr 2 (by omega), List.filter_nil]
  have hsy : V.says (s - 1) = [x, x] := by
    unfold Vo.says
    rw [hc]
    rcases (by omega : i = 0 ∨ i = 1 ∨ i = 2) with rfl | rfl | rfl
    · show [(V.get 1).v, (V.get 2).v] = [x, x]; rw [(hg 1 (by omega)).1, (hg 2 (by omega)).1]; rfl
    · show [(V.get 0).v, (V.get 2).v] = [x, x]; rw [(hg 0 (by omega)).1, (hg 2 (by omega)).1]; rfl
    · show [(V.get 0).v, (V.get 1).v] = [x, x]; rw [(hg 0 (by omega)).1, (hg 1 (by omega)).1]; rfl
  have hl : (V.vote (s - 1)).last = x := by rw [vote_last (by rw [hsy]; simp), hsy, mid2]; unfold mnV; simp
  have hvd := voted V (s - 1)
  obtain ⟨W, hW⟩ : ∃ W, V.vote (s - 1) = W := ⟨_, rfl⟩
  rw [hW] at hl hvd
  have hbW : ∀ k, k < 3 → k ≠ i → (W.get k).bad = false := fun k hk hne => by
    cases hb : (W.get k).bad
    · rfl
    · rcases hvd.bad k hk hb with h | h
      · rw [(hg k hk).2.2, decide_eq_false hne] at h; cases h
      · rw [(hg k hk).1, hl, htl] at h
        unfold rv at h
        rw [if_neg hne, farV_self _ _ (by omega)] at h
        cases h
  rw [hV, hW]
  have hr : W.reset [(i : Int)] = W.put i { W.get i with bad := false, k := 0 } := by
    unfold Vo.reset
    rw [if_neg (by simp)]
    simp only [List.foldl, Vo.reset1]
    rw [if_pos (by omega)]
    rfl
  rw [hr]
  have hgi := get_put (V := W) hi hi { W.get i with bad := false, k := 0 }
  rw [if_pos rfl] at hgi
  refine ⟨?_, ?_, by rw [hsy]; rfl, ?_, ?_, ?_⟩
  · rw [(hg i hi).1]; unfold rv; rw [if_pos rfl]
  · rw [(hg i hi).2.2]; exact decide_eq_true rfl
  · rw [hgi]; show (W.get i).v = _; rw [(hvd.vt i hi).1, (hg i hi).1]; unfold rv; rw [if_pos rfl]
  · rw [hgi]
  · obtain ⟨U, hU⟩ : ∃ U, W.put i { W.get i with bad := false, k := 0 } = U := ⟨_, rfl⟩
    have hUg : ∀ k, k < 3 → (U.get k).t = s - 1 ∧ (U.get k).bad = false := fun k hk => by
      rw [← hU, get_put hi hk]
      split
      · exact ⟨by show (W.get i).t = _; rw [(hvd.vt i hi).2, (hg i hi).2.1], rfl⟩
      · rename_i hne; exact ⟨by rw [(hvd.vt k hk).2, (hg k hk).2.1], hbW k hk (Ne.symm hne)⟩
    have hUs : U.stale = 0 := by
      rw [← hU]
      have : ∀ (s : Sen), (W.put i s).stale = W.stale := fun s => by unfold Vo.put; split; rfl; split <;> rfl
      rw [this, hvd.stale, hst]
    rw [hU]
    obtain ⟨h0, h1, h2⟩ := is_all (V := U) (n := s - 1) (by omega) (by omega) (hUg 0 (by omega)).1 (hUg 1 (by omega)).1 (hUg 2 (by omega)).1 (hUg 0 (by omega)).2 (hUg 1 (by omega)).2 (hUg 2 (by omega)).2
    rw [(says_all h0 h1 h2).2]; rfl
end Go.Pk.Vt
namespace Go.Proofs.Ytggididnclfahaa
end Go.Proofs.Ytggididnclfahaa
