/- Proved here: lemmas and contracts (what a function of the program computes) that the proofs of the laws of this seat lean on. Conditions: as each theorem states. -/
import Derived.Test.YthdaidmjjcmccaaPl31
set_option linter.unusedVariables false
set_option linter.unusedSimpArgs false
namespace Go.Pk
open Go.RowKit
def sameI (l m : List Int) : Bool := decide (l = m)
theorem sameI_of {l m : List Int} (h : l.length = m.length) (k : ∀ j, j < l.length → l.getD j 0 = m.getD j 0) : sameI l m = true := by
  unfold sameI
  rw [decide_eq_true_eq]
  apply List.ext_getElem h
  intro i h1 h2
  have := k i h1
  rw [List.getD_eq_getElem?_getD, List.getD_eq_getElem?_getD, List.getElem?_eq_getElem h1, List.getElem?_eq_getElem h2] at this
  exact this
theorem sameI_len {l m : List Int} (h : l.length ≠ m.length) : sameI l m = false := by
  unfold sameI; rw [decide_eq_false_iff_not]; intro e; exact h (by rw [e])
theorem sameI_at {l m : List Int} {j : Nat} (h : l.getD j 0 ≠ m.getD j 0) : sameI l m = false := by
  unfold sameI; rw [decide_eq_false_iff_not]; intro e; exact h (by rw [e])
/-- What the law of the next depth says of the boxes. -/
theorem deeper_law {p : Pl} (hg : GoodP p) (H : List Sp → Bool) (d : Nat) :
    (prRes (boxG H d p.Inv) = 0 ∧ prRes (boxG H (d + 1) p.Inv) = 0 ∧ (boxG H d p.Inv).1 = (boxG H (d + 1) p.Inv).1) ∨
    ((prRes (boxG H d p.Inv) = 1 ∧ prRes (boxG H (d + 1) p.Inv) = 1 ∧ prAt (boxG H d p.Inv) = prAt (boxG H (d + 1) p.Inv) ∨ prRes (boxG H d p.Inv) = 2) ∧ 1 ≤ (boxG H d p.Inv).1 ∧ (prAt (boxG H d p.Inv)).length = p.B.length ∧ insideP p (prAt (boxG H d p.Inv)) = true) := by
  have hl := hg.lens
  have hne : ∀ j, j < p.B.length → (p.Inv.getD j ⟨0, 0⟩).lo ≤ (p.Inv.getD j ⟨0, 0⟩).hi := fun j hj => (hg.Wne hj).2
  have hpos := (boxG_pos H d p.Inv).1
  have hdeep := boxG_deeper (H := H) d p.Inv
  have hc := boxG_corner (H := H) (n := p.B.length) d p.Inv (by omega) hne
  obtain ⟨z, hz⟩ : ∃ z, boxG H d p.Inv = z := ⟨_, rfl⟩
  rw [hz] at hpos hdeep hc ⊢
  obtain ⟨n, r⟩ := z
  cases r with
  | none =>
    rw [hdeep (Or.inl rfl)]
    exact Or.inl ⟨rfl, rfl, rfl⟩
  | some r =>
    obtain ⟨x, L⟩ := r
    obtain ⟨h1, h2, h3⟩ := hc _ rfl
    simp only [] at h1 h2 h3 hpos
    refine Or.inr ⟨?_, hpos, h2, ?_⟩
    · rcases h1 with rfl | rfl
      · rw [hdeep (Or.inr ⟨L, rfl⟩)]
        exact Or.inl ⟨rfl, rfl, rfl⟩
      · exact Or.inr rfl
    · show insideP p L = true
      unfold insideP
      rw [Bool.and_eq_true, List.all_eq_true]
      refine ⟨by unfold areP; simp; omega, fun i hi => ?_⟩
      rw [has_iff]
      exact h3 i (by have := List.mem_range.1 hi; omega)
end Go.Pk
namespace Go.Proofs.Ythdaidmjjcmccaa
open Go.RowKit Go.Pk Go.Proofs.YthdaidmjjcmccaaW.PrintLast
set_option maxHeartbeats 8000000 in
set_option maxRecDepth 100000 in
theorem SameInts_calls (A B : Option Addr) (l m : List Int) (ca cb : Nat) (w : World) (hl : RdI w A l) (hm : RdI w B m) :
    Calls Try.prog 33 #[.slice A l.length ca, .slice B m.length cb] w fun e w' => e = .returned (.bool (sameI l m)) ∧ Below w.heap.size w w' := by
  have hlen := hl.1
  have hlem := hm.1
  by_cases hll : l.length = m.length
  rotate_left
  · rw [sameI_len hll]
    have hd : ((l.length : Int) != (m.length : Int)) = true := by simp; omega
    have hd2 : ((l.length : Int) == (m.length : Int)) = false := by simp; omega
    clear hl hm hll
    go_enter Try.func33, Try.ntmps33
    go_wp2
    go_ret
    exact ⟨rfl, Below.refl _ _⟩
  have hok : Hid (∀ i, i = l.length → (∀ j, j < i → l.getD j 0 = m.getD j 0) → sameI l m = true) := hidI (fun i hi h => sameI_of hll (fun j hj => h j (by omega)))
  have hno : Hid (∀ i, l.getD i 0 ≠ m.getD i 0 → sameI l m = false) := hidI (fun i h => sameI_at h)
  obtain ⟨b, hb⟩ : ∃ z, sameI l m = z := ⟨_, rfl⟩
  rw [hb] at hok hno ⊢
  clear hb
  rw [← hll]
  obtain ⟨N, hN⟩ : ∃ z, l.length = z := ⟨_, rfl⟩
  rw [hN] at hok ⊢
  have hNl : Hid (N = l.length ∧ N = m.length) := ⟨hN.symm, hN ▸ hll⟩
  have hN63 : N ≤ 9223372036854775807 := by omega
  clear hN hll hlen hlem
  go_enter Try.func33, Try.ntmps33
  go_wp2
  go_loopw [5] (fun i wr => ∃ k : Nat, k ≤ N ∧ i = .int .i64 k ∧ Below w.heap.size w wr ∧ Hid (∀ j, j < k → l.getD j 0 = m.getD j 0)) (fun i _ => (N - intOf i).toNat)
  case atStart => exact ⟨0, by omega, rfl, Below.refl _ _, fun j hj => by omega⟩
  case round =>
    obtain ⟨k, hk, rfl, hbw, hall⟩ := hrel
    by_cases hlt : k < N
    · have hd : decide ((k : Int) < (N : Int)) = true := decide_eq_true (by omega)
      obtain ⟨b1, o1, rfl, hc1⟩ := (hl.below hbw).at (i := k) (by have := hNl.out; omega)
      obtain ⟨b2, o2, rfl, hc2⟩ := (hm.below hbw).at (i := k) (by have := hNl.out; omega)
      obtain ⟨x, hx⟩ : ∃ z, l.getD k 0 = z := ⟨_, rfl⟩
      obtain ⟨y, hy⟩ : ∃ z, m.getD k 0 = z := ⟨_, rfl⟩
      rw [hx] at hc1
      rw [hy] at hc2
      by_cases hxy : x = y
      · subst hxy
        have hal2 : Hid (∀ j, j < k + 1 → l.getD j 0 = m.getD j 0) := fun j hj => by
          by_cases hjk : j < k
          · exact hall.out j hjk
          · obtain rfl : j = k := by omega
            rw [hx, hy]
        clear hx hy hall hl hm
        go_wp2
        go_quiet (fail)
        go_wp2
        go_roundw
        case rel => exact ⟨k + 1, by omega, by go_num, (by first | exact hbw | exact bl_drewN hbw _ | exact bl_drew hbw), hal2⟩
        case measure => simp [intOf]; omega
      · have hb := hidI (hno.out k (by rw [hx, hy]; exact hxy))
        have e1 : (x == y) = false := by simpa using hxy
        have e2 : (x != y) = true := by simpa using hxy
        replace hxy := hidI hxy
        clear hx hy hall hl hm
        go_wp2
        go_quiet (fail)
        go_wp2
        go_ret
        exact ⟨by rw [hb.out]; first | rfl | simp, (by first | exact hbw | exact bl_drewN hbw _ | exact bl_drew hbw)⟩
    · have hkN : k = N := by omega
      subst hkN
      have hb := hidI (hok.out k rfl hall.out)
      have hd : decide ((k : Int) < (k : Int)) = false := decide_eq_false (by omega)
      clear hl hm hall
      go_wp2
      go_ret
      exact ⟨by rw [hb.out]; first | rfl | simp, hbw⟩
end Go.Proofs.Ythdaidmjjcmccaa
