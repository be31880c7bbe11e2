/- Proved here: lemmas and contracts (what a function of the program computes) that the proofs of the laws of this seat lean on. Conditions: as each theorem states. -/
import Derived.Test.YthdaidmjjcmccaaMp
import Derived.Test.YthdaidmjjcmccaaPl12
set_option linter.unusedVariables false
set_option linter.unusedSimpArgs false
namespace Go.Pk
open Go.Pk.Rx
def wideL (box : List Sp) (slack : List Int) : List Sp := (List.range box.length).map fun i => if i < slack.length then wideS (box.getD i ⟨0, 0⟩) (slack.getD i 0) else box.getD i ⟨0, 0⟩
def withinP (p : Pl) (l : List Sp) : Bool := (List.range l.length).all fun i => decide (i < p.Inv.length) && inS (l.getD i ⟨0, 0⟩) (p.Inv.getD i ⟨0, 0⟩)
def holdsP (p : Pl) (slack : List Int) (box : List Sp) : Bool := (commandP p (wideL box slack)).2 && ((reachP p (commandP p (wideL box slack)).1 box).2 && withinP p (reachP p (commandP p (wideL box slack)).1 box).1)
def wideN (s : Sp) : Int := s.hi - s.lo
def argW (box : List Sp) : Nat → Nat
  | 0 => 0
  | m + 1 => if wideN (box.getD (argW box m) ⟨0, 0⟩) < wideN (box.getD m ⟨0, 0⟩) then m else argW box m
def splitP (box : List Sp) : Option (List Sp × List Sp) :=
  if box.length = 0 ∨ box.any emptyB = true then none else
  if wideN (box.getD (argW box box.length) ⟨0, 0⟩) = 0 then none else
  some (box.set (argW box box.length) (halvesS (box.getD (argW box box.length) ⟨0, 0⟩)).1, box.set (argW box box.length) (halvesS (box.getD (argW box box.length) ⟨0, 0⟩)).2)
def cornerP (box : List Sp) : List Int := box.map Sp.lo
/-- How many boxes are looked at, and what comes of it (none: all hold). -/
def boxG (H : List Sp → Bool) : Nat → List Sp → Nat × Option (Int × List Int)
  | 0, box => if H box then (1, none) else match splitP box with | none => (1, some (1, cornerP box)) | some _ => (1, some (2, cornerP box))
  | d + 1, box => if H box then (1, none) else match splitP box with
    | none => (1, some (1, cornerP box))
    | some (a, b) => match boxG H d a with
      | (n, some r) => (1 + n, some r)
      | (n, none) => (1 + n + (boxG H d b).1, (boxG H d b).2)
theorem getD_mem {α : Type} {l : List α} {i : Nat} {d : α} (h : i < l.length) : l.getD i d ∈ l := by
  rw [List.getD_eq_getElem?_getD, List.getElem?_eq_getElem h]; exact List.getElem_mem h
theorem getD_map_range {α : Type} (f : Nat → α) (n i : Nat) (d : α) (h : i < n) : ((List.range n).map f).getD i d = f i := by
  rw [List.getD_eq_getElem?_getD, List.getElem?_map, List.getElem?_range h]; rfl
theorem getD_set' {α : Type} (l : List α) (k j : Nat) (v d : α) : (l.set k v).getD j d = if j = k ∧ k < l.length then v else l.getD j d := by
  rw [List.getD_eq_getElem?_getD, List.getD_eq_getElem?_getD, List.getElem?_set]
  by_cases h : k = j
  · subst h
    by_cases h2 : k < l.length
    · simp [h2]
    · simp [h2]
  · have : ¬ (j = k ∧ k < l.length) := fun e => h e.1.symm
    rw [if_neg h, if_neg this]
theorem empty_any {box : List Sp} : box.any emptyB = false ↔ ∀ j, j < box.length → (box.getD j ⟨0, 0⟩).lo ≤ (box.getD j ⟨0, 0⟩).hi := by
  rw [List.any_eq_false]
  constructor
  · intro h j hj
    have := h _ (getD_mem (d := ⟨0, 0⟩) hj)
    unfold emptyB at this
    simp at this
    exact this
  · intro h s hs
    obtain ⟨j, hj, rfl⟩ := List.mem_iff_getElem.1 hs
    have := h j hj
    rw [List.getD_eq_getElem?_getD, List.getElem?_eq_getElem hj] at this
    unfold emptyB
    simpa using this
theorem argW_lt (box : List Sp) (h : 0 < box.length) : ∀ m, m ≤ box.length → argW box m < box.length
  | 0, _ => h
  | m + 1, hm => by
    unfold argW
    split
    · omega
    · exact argW_lt box h m (by omega)
theorem halves_le {s : Sp} (h : s.lo < s.hi) : Le (halvesS s).1 s ∧ Le (halvesS s).2 s ∧ ∀ x, s.lo ≤ x → x ≤ s.hi → (hasS (halvesS s).1 x = !hasS (halvesS s).2 x) := by
  unfold halvesS
  rw [if_neg (by omega), if_neg (by omega)]
  refine ⟨⟨by simp, by simp only []; omega, by simp only []; omega⟩, ⟨by simp only []; omega, by simp only []; omega, by simp⟩, fun x h1 h2 => ?_⟩
  unfold hasS
  simp only []
  by_cases hx : x ≤ (s.lo + s.hi) / 2
  · have a : decide (s.lo ≤ x) = true := decide_eq_true h1
    have b : decide (x ≤ (s.lo + s.hi) / 2) = true := decide_eq_true hx
    have c : decide ((s.lo + s.hi) / 2 + 1 ≤ x) = false := decide_eq_false (by omega)
    rw [a, b, c]; rfl
  · have b : decide (x ≤ (s.lo + s.hi) / 2) = false := decide_eq_false hx
    have c : decide ((s.lo + s.hi) / 2 + 1 ≤ x) = true := decide_eq_true (by omega)
    have d : decide (x ≤ s.hi) = true := decide_eq_true h2
    rw [b, c, d]; simp
def Nest (n : Nat) (a b : List Sp) : Prop := a.length = n ∧ b.length = n ∧ ∀ j, j < n → Le (a.getD j ⟨0, 0⟩) (b.getD j ⟨0, 0⟩)
theorem Nest.trans {n : Nat} {a b c : List Sp} (h : Nest n a b) (k : Nest n b c) : Nest n a c := ⟨h.1, k.2.1, fun j hj => (h.2.2 j hj).trans (k.2.2 j hj)⟩
theorem split_some {box a b : List Sp} (h : splitP box = some (a, b)) : 0 < box.length ∧ (∀ j, j < box.length → (box.getD j ⟨0, 0⟩).lo ≤ (box.getD j ⟨0, 0⟩).hi) ∧ ∃ k, k < box.length ∧ (box.getD k ⟨0, 0⟩).lo < (box.getD k ⟨0, 0⟩).hi ∧ a = box.set k (halvesS (box.getD k ⟨0, 0⟩)).1 ∧ b = box.set k (halvesS (box.getD k ⟨0, 0⟩)).2 := by
  unfold splitP at h
  split at h
  · cases h
  · rename_i h1
    split at h
    · cases h
    · rename_i h2
      have h0 : 0 < box.length := by omega
      have he : box.any emptyB = false := by cases hb : box.any emptyB with
        | false => rfl
        | true => exact absurd (Or.inr hb) h1
      have h3 := empty_any.1 he
      have hk := argW_lt box h0 box.length (Nat.le_refl _)
      injection h with h
      injection h with h4 h5
      refine ⟨h0, h3, _, hk, ?_, h4.symm, h5.symm⟩
      have := h3 _ hk
      unfold wideN at h2
      omega
theorem split_nest {n : Nat} {box a b : List Sp} (h : splitP box = some (a, b)) (hn : box.length = n) : Nest n a box ∧ Nest n b box := by
  obtain ⟨h0, h1, k, hk, h2, rfl, rfl⟩ := split_some h
  obtain ⟨l1, l2, -⟩ := halves_le h2
  refine ⟨⟨by simp [hn], hn, fun j hj => ?_⟩, ⟨by simp [hn], hn, fun j hj => ?_⟩⟩
  · rw [getD_set']
    split
    · rename_i e; rw [e.1]; exact l1
    · exact Le.rfl' (h1 j (by omega))
  · rw [getD_set']
    split
    · rename_i e; rw [e.1]; exact l2
    · exact Le.rfl' (h1 j (by omega))
def InB (n : Nat) (box : List Sp) (x : List Int) : Prop := ∀ j, j < n → (box.getD j ⟨0, 0⟩).lo ≤ x.getD j 0 ∧ x.getD j 0 ≤ (box.getD j ⟨0, 0⟩).hi
theorem split_one {n : Nat} {box a b : List Sp} {x : List Int} (h : splitP box = some (a, b)) (hn : box.length = n) (hx : InB n box x) : (InB n a x ∧ ¬ InB n b x) ∨ (InB n b x ∧ ¬ InB n a x) := by
  obtain ⟨h0, h1, k, hk, h2, rfl, rfl⟩ := split_some h
  obtain ⟨-, -, l3⟩ := halves_le h2
  have hxk := hx k (by omega)
  have h4 := l3 _ hxk.1 hxk.2
  have put : ∀ v : Sp, hasS v (x.getD k 0) = true → InB n (box.set k v) x := fun v hv j hj => by
    rw [getD_set']
    split
    · rename_i e; rw [e.1]; exact (has_iff _ _).1 hv
    · exact hx j hj
  have no : ∀ v : Sp, hasS v (x.getD k 0) = false → ¬ InB n (box.set k v) x := fun v hv hb => by
    have := hb k (by omega)
    rw [getD_set', if_pos ⟨rfl, hk⟩] at this
    rw [(has_iff _ _).2 this] at hv
    cases hv
  cases h5 : hasS (halvesS (box.getD k ⟨0, 0⟩)).2 (x.getD k 0) with
  | true => rw [h5] at h4; exact Or.inr ⟨put _ h5, no _ h4⟩
  | false => rw [h5] at h4; exact Or.inl ⟨put _ h4, no _ h5⟩
theorem GoodP.Wne {p : Pl} (h : GoodP p) {i : Nat} (hi : i < p.B.length) : (p.W.getD i ⟨0, 0⟩).lo ≤ (p.W.getD i ⟨0, 0⟩).hi ∧ (p.Inv.getD i ⟨0, 0⟩).lo ≤ (p.Inv.getD i ⟨0, 0⟩).hi := by
  obtain ⟨-, -, -, -, h5, h6, -⟩ := h.lens
  have hw := h.2.1
  unfold wrongP at hw
  simp only [Bool.or_eq_false_iff] at hw
  exact ⟨empty_any.1 hw.1.1.1.2 i (by omega), empty_any.1 hw.1.1.2 i (by omega)⟩
theorem reachP_yes {p : Pl} {u : Sp} {box : List Sp} (h : (reachP p u box).2 = true) : boxedP p box = true ∧ u.lo ≤ u.hi ∧ (∀ i, i < p.B.length → reachO p u box i = false) ∧ (reachP p u box).1 = (List.range p.B.length).map fun i => plusS (reachParts p u box i) := by
  unfold reachP at h ⊢
  by_cases hb : boxedP p box = true ∧ emptyB u = false
  · rw [if_pos hb] at h ⊢
    by_cases ho : (List.range p.B.length).any (reachO p u box) = true
    · rw [if_pos ho] at h; cases h
    · rw [if_neg ho]
      refine ⟨hb.1, ?_, fun i hi => ?_, rfl⟩
      · have := hb.2; unfold emptyB at this; have := of_decide_eq_false this; omega
      · simp only [List.any_eq_true, not_exists, not_and, Bool.not_eq_true] at ho
        exact ho i (List.mem_range.2 hi)
  · rw [if_neg hb] at h; cases h
theorem within_iff {p : Pl} {f : Nat → Sp} {n : Nat} (hn : n = p.Inv.length) : withinP p ((List.range n).map f) = true ↔ ∀ i, i < n → inS (f i) (p.Inv.getD i ⟨0, 0⟩) = true := by
  unfold withinP
  rw [List.all_eq_true, List.length_map, List.length_range]
  constructor
  · intro h i hi
    have := h i (List.mem_range.2 hi)
    rw [Bool.and_eq_true, getD_map_range _ _ _ _ hi] at this
    exact this.2
  · intro h i hi
    have hi' := List.mem_range.1 hi
    rw [Bool.and_eq_true, getD_map_range _ _ _ _ hi']
    exact ⟨decide_eq_true (by omega), h i hi'⟩
theorem wideL_at {box : List Sp} {s : List Int} {n j : Nat} (hb : box.length = n) (hs : s.length = n) (hj : j < n) : (wideL box s).getD j ⟨0, 0⟩ = wideS (box.getD j ⟨0, 0⟩) (s.getD j 0) := by
  unfold wideL
  rw [hb, getD_map_range _ _ _ _ hj, if_pos (by omega)]
/-- What holds, holds for all numbers of the box, whatever the estimate. -/
theorem holds_sound {p : Pl} (hg : GoodP p) {box : List Sp} {s w x g : List Int} (hs : s.length = p.B.length) (hbl : box.length = p.B.length) (hx : InB p.B.length box x) (hxl : x.length = p.B.length) (hgl : g.length = p.B.length) (hgd : ∀ j, j < p.B.length → (wideS (box.getD j ⟨0, 0⟩) (s.getD j 0)).lo ≤ g.getD j 0 ∧ g.getD j 0 ≤ (wideS (box.getD j ⟨0, 0⟩) (s.getD j 0)).hi)
    (hw : InB p.B.length p.W w) (hwl : w.length = p.B.length) (h : holdsP p s box = true) : nextP p (baseP p g) w x = ((List.range p.B.length).map (nextZ p (baseP p g) w x), true) ∧ insideP p (nextP p (baseP p g) w x).1 = true := by
  obtain ⟨l1, l2, l3, l4, l5, l6, l7, l8⟩ := hg.lens
  unfold holdsP at h
  rw [Bool.and_eq_true, Bool.and_eq_true] at h
  obtain ⟨h1, h2, h3⟩ := h
  have hwl2 : (wideL box s).length = p.B.length := by unfold wideL; simp [hbl]
  have hu := command_sound (p := p) (box := wideL box s) (y := g) hg.inp (by omega) (fun j hj => by rw [wideL_at hbl hs (by omega)]; exact hgd j (by omega)) h1
  obtain ⟨r1, r2, r3, r4⟩ := reachP_yes h2
  rw [has_iff] at hu
  have hr : ∀ i, i < p.B.length → hasS (plusS (reachParts p (commandP p (wideL box s)).1 box i)) (nextZ p (baseP p g) w x i) = true ∧ fitsI (nextZ p (baseP p g) w x i) = true := fun i hi =>
    reach_sound hu (hw i hi) (fun j hj => hx j (by have := (hg.row hi).1; omega)) (r3 i hi)
  have hare : areP p x.length = true := by unfold areP; simp [hxl]; omega
  have hn : nextP p (baseP p g) w x = ((List.range p.B.length).map (nextZ p (baseP p g) w x), true) := by
    unfold nextP
    rw [if_pos ⟨hare, by omega⟩, if_pos]
    rw [List.all_eq_true]
    intro i hi
    exact (hr i (List.mem_range.1 hi)).2
  refine ⟨hn, ?_⟩
  rw [hn]
  unfold insideP
  rw [Bool.and_eq_true, List.length_map, List.length_range]
  refine ⟨by unfold areP; simp; omega, ?_⟩
  rw [List.all_eq_true]
  intro i hi
  have hi' := List.mem_range.1 hi
  rw [getD_map_range _ _ _ _ hi']
  rw [r4, within_iff (by omega)] at h3
  have e1 := h3 i hi'
  have e2 := (hr i hi').1
  rw [in_iff] at e1
  rw [has_iff] at e2 ⊢
  omega
/-- What is proved is made of boxes that hold. -/
theorem boxG_proved {H : List Sp → Bool} {n : Nat} : ∀ (d : Nat) (box : List Sp), box.length = n → (boxG H d box).2 = none → ∀ x, InB n box x → ∃ sub, (sub = box ∨ Nest n sub box) ∧ InB n sub x ∧ H sub = true
  | 0, box, hn, h, x, hx => by
    unfold boxG at h
    by_cases hh : H box = true
    · exact ⟨box, Or.inl rfl, hx, hh⟩
    · rw [if_neg hh] at h
      split at h <;> cases h
  | d + 1, box, hn, h, x, hx => by
    unfold boxG at h
    by_cases hh : H box = true
    · exact ⟨box, Or.inl rfl, hx, hh⟩
    · rw [if_neg hh] at h
      split at h
      · cases h
      · rename_i a b hs
        obtain ⟨na, nb⟩ := split_nest hs hn
        split at h
        · cases h
        · rename_i m hm
          rcases split_one hs hn hx with ⟨h1, -⟩ | ⟨h1, -⟩
          · obtain ⟨sub, e1, e2, e3⟩ := boxG_proved d a na.1 (by rw [hm]) x h1
            refine ⟨sub, Or.inr ?_, e2, e3⟩
            rcases e1 with rfl | e1
            · exact na
            · exact e1.trans na
          · obtain ⟨sub, e1, e2, e3⟩ := boxG_proved d b nb.1 h x h1
            refine ⟨sub, Or.inr ?_, e2, e3⟩
            rcases e1 with rfl | e1
            · exact nb
            · exact e1.trans nb
theorem boxG_pos (H : List Sp → Bool) : ∀ (d : Nat) (box : List Sp), 1 ≤ (boxG H d box).1 ∧ (boxG H d box).1 + 1 ≤ 2 ^ (d + 1)
  | 0, box => by unfold boxG; split <;> (try split) <;> simp
  | d + 1, box => by
    have e : 2 ^ (d + 1 + 1) = 2 ^ (d + 1) + 2 ^ (d + 1) := by rw [Nat.pow_succ 2 (d + 1)]; omega
    have hp : 1 ≤ 2 ^ d := Nat.one_le_two_pow
    have e2 : 2 ^ (d + 1) = 2 ^ d + 2 ^ d := by rw [Nat.pow_succ]; omega
    unfold boxG
    split
    · simp only []; omega
    · split
      · simp only []; omega
      · rename_i a b hs
        have ha := boxG_pos H d a
        have hb := boxG_pos H d b
        split
        · rename_i m r hm
          rw [hm] at ha
          simp only [] at ha ⊢
          omega
        · rename_i m hm
          rw [hm] at ha
          simp only [] at ha ⊢
          omega
/-- Where it is not proved, a corner of a box of the box is told. -/
theorem boxG_corner {H : List Sp → Bool} {n : Nat} : ∀ (d : Nat) (box : List Sp), box.length = n → (∀ j, j < n → (box.getD j ⟨0, 0⟩).lo ≤ (box.getD j ⟨0, 0⟩).hi) → ∀ r, (boxG H d box).2 = some r → (r.1 = 1 ∨ r.1 = 2) ∧ r.2.length = n ∧ InB n box r.2
  | 0, box, hn, hne, r, h => by
    have hc : (cornerP box).length = n ∧ InB n box (cornerP box) := by
      refine ⟨by unfold cornerP; simp [hn], fun j hj => ?_⟩
      have e : (cornerP box).getD j 0 = (box.getD j ⟨0, 0⟩).lo := by
        unfold cornerP
        rw [List.getD_eq_getElem?_getD, List.getD_eq_getElem?_getD, List.getElem?_map, List.getElem?_eq_getElem (by omega)]
        rfl
      rw [e]
      exact ⟨Int.le_refl _, hne j hj⟩
    unfold boxG at h
    by_cases hh : H box = true
    · rw [if_pos hh] at h; cases h
    · rw [if_neg hh] at h
      split at h
      · injection h with h; subst h; exact ⟨Or.inl rfl, hc⟩
      · injection h with h; subst h; exact ⟨Or.inr rfl, hc⟩
  | d + 1, box, hn, hne, r, h => by
    have hc : (cornerP box).length = n ∧ InB n box (cornerP box) := by
      refine ⟨by unfold cornerP; simp [hn], fun j hj => ?_⟩
      have e : (cornerP box).getD j 0 = (box.getD j ⟨0, 0⟩).lo := by
        unfold cornerP
        rw [List.getD_eq_getElem?_getD, List.getD_eq_getElem?_getD, List.getElem?_map, List.getElem?_eq_getElem (by omega)]
        rfl
      rw [e]
      exact ⟨Int.le_refl _, hne j hj⟩
    unfold boxG at h
    by_cases hh : H box = true
    · rw [if_pos hh] at h; cases h
    · rw [if_neg hh] at h
      split at h
      · injection h with h; subst h; exact ⟨Or.inl rfl, hc⟩
      · rename_i a b hs
        obtain ⟨na, nb⟩ := split_nest hs hn
        have up : ∀ {c : List Sp}, Nest n c box → ∀ x, InB n c x → InB n box x := fun hc x hx j hj => by
          have := hx j hj
          have := hc.2.2 j hj
          unfold Le at this
          omega
        split at h
        · rename_i m q hm
          have := boxG_corner d a na.1 (fun j hj => (na.2.2 j hj).2.1) q (by rw [hm])
          simp only [] at h
          injection h with h
          subst h
          exact ⟨this.1, this.2.1, up na _ this.2.2⟩
        · have := boxG_corner d b nb.1 (fun j hj => (nb.2.2 j hj).2.1) r h
          exact ⟨this.1, this.2.1, up nb _ this.2.2⟩
end Go.Pk
namespace Go.Proofs.Ythdaidmjjcmccaa
end Go.Proofs.Ythdaidmjjcmccaa
