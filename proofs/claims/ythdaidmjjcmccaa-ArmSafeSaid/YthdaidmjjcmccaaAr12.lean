/- Proved here: lemmas and contracts (what a function of the program computes) that the proofs of the laws of this seat lean on. Conditions: as each theorem states. -/
import Derived.Test.YthdaidmjjcmccaaAr6
import Derived.Test.YthdaidmjjcmccaaPl40
set_option linter.unusedVariables false
set_option linter.unusedSimpArgs false
namespace Go.Pk
open Go.RowKit Go.Pk.Rx
theorem back_in {x off s g : Int} (hs : 0 ≤ s) (hg : g = guessAt x off s) (h0 : -9223372036854775808 ≤ x) (h1 : x ≤ 9223372036854775807) : (wideS ⟨g, g⟩ s).lo ≤ x ∧ x ≤ (wideS ⟨g, g⟩ s).hi := by
  have hc := clampTo_in (x := off) (lo := -s) (hi := s) (by omega)
  subst hg
  unfold wideS guessAt
  rw [if_neg (by simp only []; omega)]
  have e : sumI [x, clampTo off (-s) s] = x + clampTo off (-s) s := by simp [sumI]
  rw [e]
  generalize clampTo off (-s) s = c at *
  unfold clampI mxI
  simp only []
  constructor <;> (repeat' split) <;> omega
theorem accept_safe {p : Pl} (hg : GoodP p) {s : List Int} (hsl : s.length = p.B.length) {u : Int} {g x v : List Int} (ha : acceptP p s u g = 0) (hxl : x.length = p.B.length) (hx : ∀ j, j < p.B.length → (wideS ⟨g.getD j 0, g.getD j 0⟩ (s.getD j 0)).lo ≤ x.getD j 0 ∧ x.getD j 0 ≤ (wideS ⟨g.getD j 0, g.getD j 0⟩ (s.getD j 0)).hi) (hv : InB p.B.length p.W v) (hvl : v.length = p.B.length) :
    (nextP p u v x).2 = true ∧ (nextP p u v x).1.length = p.B.length ∧ InB p.B.length p.Inv (nextP p u v x).1 := by
  obtain ⟨l1, l2, l3, l4, l5, l6, l7, l8⟩ := hg.lens
  unfold acceptP at ha
  split at ha
  rotate_left
  · omega
  rename_i h0
  split at ha
  rotate_left
  · omega
  split at ha
  rotate_left
  · omega
  rename_i h2
  split at ha
  rotate_left
  · omega
  rename_i h3
  obtain ⟨-, hgl⟩ := h0
  unfold stepP at h2 h3
  have hbl : (wideL (ptL g) s).length = p.B.length := by rw [wideL_length, ptL_length, hgl]
  have hh := (plant_holds_law hg (us := ⟨u, u⟩) (u := u) hbl (y := x) (v := v) (fun j hj => by
    rw [wideL_at (by rw [ptL_length, hgl]) hsl hj, ptL_getD]
    exact hx j hj) hxl hv hvl ⟨Int.le_refl _, Int.le_refl _⟩).2 h2
  obtain ⟨k1, k2, k3, k4⟩ := hh
  refine ⟨k1, k2, fun i hi => ?_⟩
  have hw : inS ((reachP p ⟨u, u⟩ (wideL (ptL g) s)).1.getD i ⟨0, 0⟩) (p.Inv.getD i ⟨0, 0⟩) = true := by
    unfold withinP at h3
    rw [List.all_eq_true] at h3
    have := h3 i (List.mem_range.2 (by omega))
    rw [Bool.and_eq_true] at this
    exact this.2
  have h4 := (has_iff _ _).1 (k4 i hi)
  rw [in_iff] at hw
  omega
theorem inside_inB {p : Pl} {x : List Int} (h : insideP p x = true) : x.length = p.B.length ∧ InB p.B.length p.Inv x := by
  unfold insideP areP at h
  simp only [Bool.and_eq_true, List.all_eq_true, List.mem_range, decide_eq_true_eq] at h
  exact ⟨h.1.1, fun j hj => (has_iff _ _).1 (h.2 j (by omega))⟩
theorem inB_inside {p : Pl} (hg : GoodP p) {x : List Int} (hl : x.length = p.B.length) (h : InB p.B.length p.Inv x) : insideP p x = true := by
  obtain ⟨l1, l2, l3, l4, l5, l6, l7, l8⟩ := hg.lens
  unfold insideP areP
  simp only [Bool.and_eq_true, List.all_eq_true, List.mem_range, decide_eq_true_eq]
  exact ⟨⟨hl, by omega⟩, fun i hi => (has_iff _ _).2 (h i (by omega))⟩
theorem arm_safe_law {p : Pl} (hg : GoodP p) {ls : List Int} (hl : slacksP p ls = true) {d : Nat} (hp : prRes (boxG (holdsP p (slP p ls)) d p.Inv) = 0) {x v off : List Int} {u : Int} (hx : InB p.B.length p.Inv x) (hxl : x.length = p.B.length) (hv : InB p.B.length p.W v) (hvl : v.length = p.B.length) (hu : u = baseP p (guessL x off ls p.B.length) ∨ acceptP p (slP p ls) u (guessL x off ls p.B.length) = 0) :
    (nextP p u v x).2 = true ∧ insideP p (nextP p u v x).1 = true ∧ (nextP p u v x).1.length = p.B.length ∧ InB p.B.length p.Inv (nextP p u v x).1 := by
  obtain ⟨l1, l2, l3, l4, l5, l6, l7, l8⟩ := hg.lens
  have hls := slacks_iff.1 hl
  rcases hu with rfl | ha
  · obtain ⟨-, h2, h3⟩ := prove_holds_law hg hl hp hx hxl hv hvl (off := off)
    obtain ⟨h4, h5⟩ := inside_inB h3
    exact ⟨h2, h3, h4, h5⟩
  · have hxi := InB.inI hx hxl hg.2.2.2.2.2.2.1 l6
    obtain ⟨h1, h2, h3⟩ := accept_safe hg (slP_length hls.1) ha hxl (fun j hj => by
      have e : (guessL x off ls p.B.length).getD j 0 = guessAt (x.getD j 0) (off.getD j 0) (ls.getD j 0) := by unfold guessL; rw [getD_map_range _ _ _ _ hj]
      rw [slP_getD]
      have hm : -9223372036854775808 ≤ x.getD j 0 ∧ x.getD j 0 ≤ 9223372036854775807 := by
        rw [List.getD_eq_getElem?_getD, List.getElem?_eq_getElem (by omega)]
        exact hxi _ (List.getElem_mem _)
      exact back_in (hls.2 j) e hm.1 hm.2) hv hvl
    exact ⟨h1, inB_inside hg h2 h3, h2, h3⟩
def turnL (off : List Int) (k n : Nat) : List Int := (List.range n).map fun j => off.getD ((k + j) % off.length) 0
theorem turnL_at (off : List Int) (k : Nat) {n j : Nat} (h : j < n) : (turnL off k n).getD j 0 = off.getD ((k + j) % off.length) 0 := by unfold turnL; rw [getD_map_range _ _ _ _ h]
theorem decCmd_or (p : Pl) (s : List Int) (hold : Int) (a : ASt) (b : ByteArray) (x : List Int) : decCmd p s hold a b x = baseP p x ∨ acceptP p s (decCmd p s hold a b x) x = 0 := by
  unfold decCmd decWhy whyW
  by_cases h0 : x.length = p.B.length
  · rw [if_pos h0]
    by_cases h1 : cmdE b = 0
    · rw [if_pos h1]
      by_cases h2 : acceptP p s (cmdU b) x = 0
      · rw [if_pos h2]
        by_cases h3 : a.src = 1 ∧ a.since < hold
        · rw [if_pos h3]; left; rw [if_neg (by decide)]
        · rw [if_neg h3]; right; rw [if_pos rfl]; exact h2
      · rw [if_neg h2]; left; rw [if_neg h2]
    · rw [if_neg h1]; left; rw [if_neg h1]
  · rw [if_neg h0]; left; rw [if_neg (by decide)]
/-- All blocks below B but gc are as they were. -/
def Kp (gc B : Nat) (w w' : World) : Prop := KeepX (fun k => k = gc ∨ B ≤ k) w w'
theorem Kp.refl (gc B : Nat) (w : World) : Kp gc B w w := KeepX.refl _ _
theorem Kp.ext {gc B : Nat} {w w1 w2 : World} (h : Kp gc B w w1) (hb : Below w1.heap.size w1 w2) : Kp gc B w w2 := KeepX.ext h hb
theorem Kp.low {gc B : Nat} {w w1 w2 : World} (h : Kp gc B w w1) (hb : Below B w1 w2) : Kp gc B w w2 := fun k o hn ho =>
  (hb.block k (by simp only [not_or, Nat.not_le] at hn; exact hn.2)).trans (h k o hn ho)
theorem Kp.acc {gc B : Nat} {w w1 w2 : World} {b : Bool} (h : Kp gc B w w1) (hb : Below w1.heap.size (orCell w1 (some ⟨gc, 0, none⟩) b) w2) : Kp gc B w w2 := fun k o hn ho => by
  have h1 := h k o hn ho
  have h2 : (orCell w1 (some ⟨gc, 0, none⟩) b).heap[k]? = some o := by
    cases b
    · rw [orCell_false]; exact h1
    · rw [orCell_true]; exact blk_far h1 (fun e => hn (Or.inl e.symm)) _
  exact (hb.block k (blk_lt h1)).trans h2
theorem Kp.rd {gc B : Nat} {w w1 : World} (h : Kp gc B w w1) {A : Option Addr} {l : List Int} (hA : ∀ a, A = some a → a.block ≠ gc ∧ a.block < B) (hr : RdI w A l) : RdI w1 A l :=
  ⟨hr.1, fun i u hu => by
    obtain ⟨b, off, e, hc⟩ := hr.2 i u hu
    have h1 := hA _ e
    simp only [] at h1
    exact ⟨b, off, e, KeepX.cell h (by simp only []; omega) hc⟩⟩
end Go.Pk
namespace Go.Proofs.Ythdaidmjjcmccaa
end Go.Proofs.Ythdaidmjjcmccaa
