/- Proved here: lemmas and contracts (what a function of the program computes) that the proofs of the laws of this seat lean on. Conditions: as each theorem states. -/
import Derived.Test.YthdaidmjjcmccaaPl3
import Derived.Test.YthdaidmjjcmccaaLin
set_option linter.unusedVariables false
set_option linter.unusedSimpArgs false
namespace Go.Pk
open Go.RowKit
/-- A row of slices of numbers that lies in one block of the call's own; none of them lies in block x. -/
def RowB (w : World) (X : Nat → Prop) (g T n : Nat) (l : List (List Int)) : Prop := ∃ cur : Array Value, w.heap[g]? = some (.cells cur T (0, 0)) ∧ n ≤ cur.size ∧ ∀ i, i < n → ∃ B c, cur[i]? = some (.slice B (l.getD i []).length c) ∧ (l.getD i []).length ≤ c ∧ RdI w B (l.getD i []) ∧ Off X B (l.getD i []).length
theorem RowB.below {w W : World} {X : Nat → Prop} {g T n : Nat} {l : List (List Int)} (h : RowB w X g T n l) (hb : Below w.heap.size w W) : RowB W X g T n l := by
  obtain ⟨cur, h1, h2, h3⟩ := h
  exact ⟨cur, bl_block hb h1, h2, fun i hi => by obtain ⟨B, c, e1, e2, e3, e4⟩ := h3 i hi; exact ⟨B, c, e1, e2, e3.below hb, e4⟩⟩
theorem RowB.keepX {w W : World} {X : Nat → Prop} {g T n : Nat} {l : List (List Int)} (h : RowB w X g T n l) (hg : ¬ X g) (hk : KeepX X w W) : RowB W X g T n l := by
  obtain ⟨cur, h1, h2, h3⟩ := h
  exact ⟨cur, hk _ _ hg h1, h2, fun i hi => by obtain ⟨B, c, e1, e2, e3, e4⟩ := h3 i hi; exact ⟨B, c, e1, e2, e3.keepX hk e4, e4⟩⟩
theorem RowB.rd {w : World} {X : Nat → Prop} {g T : Nat} {l : List (List Int)} (h : RowB w X g T l.length l) (hn : l.length ≤ 9223372036854775807) : RdR w (some ⟨g, 0, none⟩) l := by
  obtain ⟨cur, h1, h2, h3⟩ := h
  exact ⟨hn, fun i hi => by obtain ⟨B, c, e1, e2, e3, _⟩ := h3 i hi; exact ⟨g, 0, B, c, rfl, by rw [Nat.zero_add, blkc h1]; exact e1, e2, e3⟩⟩
/-- What is no number may be written over. -/
theorem RdI.set_slice {w : World} {A : Option Addr} {l : List Int} (h : RdI w A l) {p : Addr} {B : Option Addr} {n c : Nat} (hp : w.cell? p = some (.slice B n c)) (u : Value) : RdI (w.setCell p u) A l := by
  refine ⟨h.1, fun i v hv => ?_⟩
  obtain ⟨b, off, e, hc⟩ := h.2 i v hv
  refine ⟨b, off, e, ?_⟩
  by_cases hne : p = ⟨b, off + i, none⟩
  · subst hne
    rw [hp] at hc
    injection hc with hc
    unfold encI at hv
    rw [List.getElem?_map] at hv
    obtain ⟨x, _, hx⟩ := Option.map_eq_some_iff.1 hv
    rw [← hc] at hx
    cases hx
  · rw [World.cell?_setCell_other w p _ u hne]; exact hc
theorem RowB.set {w : World} {X : Nat → Prop} {g T n k : Nat} {l : List (List Int)} (h : RowB w X g T n l) (hk : k < n) {B : Option Addr} {c : Nat} (hc : (l.getD k []).length ≤ c) (hr : RdI w B (l.getD k [])) (ho : Off X B (l.getD k []).length) : RowB (w.setCell ⟨g, k, none⟩ (.slice B (l.getD k []).length c)) X g T n l := by
  obtain ⟨cur, h1, h2, h3⟩ := h
  obtain ⟨B0, c0, e1, -, -, -⟩ := h3 k hk
  have hp : w.cell? ⟨g, k, none⟩ = some (.slice B0 (l.getD k []).length c0) := by rw [blkc h1]; exact e1
  refine ⟨_, blk_set h1 k _, by simpa using h2, fun i hi => ?_⟩
  by_cases hik : k = i
  · subst hik
    exact ⟨B, c, by rw [Array.getElem?_setIfInBounds_self_of_lt (by omega)], hc, hr.set_slice hp _, ho⟩
  · obtain ⟨B', c', q1, q2, q3, q4⟩ := h3 i hi
    exact ⟨B', c', by rw [Array.getElem?_setIfInBounds_ne (by omega)]; exact q1, q2, q3.set_slice hp _, q4⟩
end Go.Pk
namespace Go.Proofs.Ythdaidmjjcmccaa
open Go.RowKit Go.Pk Go.Proofs.YthdaidmjjcmccaaW.PrintLast
set_option maxHeartbeats 8000000 in
set_option maxRecDepth 100000 in
theorem copied_calls2 (q : PA) (p : Pl) (w : World) (hq : q.rd w p) (lA : p.A.length ≤ 1000000) (lA2 : ∀ i, (p.A.getD i []).length ≤ 1000000) (lB : p.B.length ≤ 1000000) (lW : p.W.length ≤ 1000000) (lI : p.Inv.length ≤ 1000000) (lS : p.Safe.length ≤ 1000000) (lG : p.gain.length ≤ 1000000) :
    Calls Try.prog 62 #[.agg (q.cells p).toArray] w fun e w' => ∃ q' : PA, e = .returned (.agg (q'.cells p).toArray) ∧ q'.rd w' p ∧ (∀ a, q'.aI = some a → w.heap.size ≤ a.block) ∧ Below w.heap.size w w' := by
  obtain ⟨aA, cA, aB, cB, aW, cW, aI, cI, aS, cS, aG, cG⟩ := q
  obtain ⟨hA, hB, hW, hI, hS, hG, kA, kB, kW, kI, kS, kG⟩ := hq
  simp only [] at hA hB hW hI hS hG kA kB kW kI kS kG
  obtain ⟨vs, hv0, hv1, hv2, hv3⟩ := hA.vals
  unfold PA.cells
  obtain ⟨il, hil⟩ : ∃ z, p.inp.lo = z := ⟨_, rfl⟩
  obtain ⟨ih, hih⟩ : ∃ z, p.inp.hi = z := ⟨_, rfl⟩
  obtain ⟨bi, hbi⟩ : ∃ z, p.bias = z := ⟨_, rfl⟩
  simp only [hil, hih, hbi]
  go_enter Try.func62, Try.ntmps62
  go_upto_region 1 with fail
  have hk1 : ((w.alloc (.cells #[.slice aA p.A.length cA, .slice aB p.B.length cB, .int .i64 il, .int .i64 ih, .slice aW p.W.length cW, .slice aI p.Inv.length cI, .slice aS p.Safe.length cS, .slice aG p.gain.length cG, .int .i64 bi] 28)).alloc (.cells #[.slice none 0 0, .slice none 0 0, .int .i64 0, .int .i64 0, .slice none 0 0, .slice none 0 0, .slice none 0 0, .slice none 0 0, .int .i64 0] 28)).heap[w.heap.size]? = some (.cells #[.slice aA p.A.length cA, .slice aB p.B.length cB, .int .i64 il, .int .i64 ih, .slice aW p.W.length cW, .slice aI p.Inv.length cI, .slice aS p.Safe.length cS, .slice aG p.gain.length cG, .int .i64 bi] 28 (0, 0)) := blk_alloc (blk_new _ _) _
  have hk2 : ((w.alloc (.cells #[.slice aA p.A.length cA, .slice aB p.B.length cB, .int .i64 il, .int .i64 ih, .slice aW p.W.length cW, .slice aI p.Inv.length cI, .slice aS p.Safe.length cS, .slice aG p.gain.length cG, .int .i64 bi] 28)).alloc (.cells #[.slice none 0 0, .slice none 0 0, .int .i64 0, .int .i64 0, .slice none 0 0, .slice none 0 0, .slice none 0 0, .slice none 0 0, .int .i64 0] 28)).heap[w.heap.size + 1]? = some (.cells #[.slice none 0 0, .slice none 0 0, .int .i64 0, .int .i64 0, .slice none 0 0, .slice none 0 0, .slice none 0 0, .slice none 0 0, .int .i64 0] 28 (0, 0)) := by have h := blk_new (w.alloc (.cells #[.slice aA p.A.length cA, .slice aB p.B.length cB, .int .i64 il, .int .i64 ih, .slice aW p.W.length cW, .slice aI p.Inv.length cI, .slice aS p.Safe.length cS, .slice aG p.gain.length cG, .int .i64 bi] 28)) (.cells #[.slice none 0 0, .slice none 0 0, .int .i64 0, .int .i64 0, .slice none 0 0, .slice none 0 0, .slice none 0 0, .slice none 0 0, .int .i64 0] 28); simpa using h
  have hbw := bl_alloc (bl_alloc (Below.refl w.heap.size w) (.cells #[.slice aA p.A.length cA, .slice aB p.B.length cB, .int .i64 il, .int .i64 ih, .slice aW p.W.length cW, .slice aI p.Inv.length cI, .slice aS p.Safe.length cS, .slice aG p.gain.length cG, .int .i64 bi] 28)) (.cells #[.slice none 0 0, .slice none 0 0, .int .i64 0, .int .i64 0, .slice none 0 0, .slice none 0 0, .slice none 0 0, .slice none 0 0, .int .i64 0] 28)
  generalize (w.alloc (.cells #[.slice aA p.A.length cA, .slice aB p.B.length cB, .int .i64 il, .int .i64 ih, .slice aW p.W.length cW, .slice aI p.Inv.length cI, .slice aS p.Safe.length cS, .slice aG p.gain.length cG, .int .i64 bi] 28)).alloc (.cells #[.slice none 0 0, .slice none 0 0, .int .i64 0, .int .i64 0, .slice none 0 0, .slice none 0 0, .slice none 0 0, .slice none 0 0, .int .i64 0] 28) = W1 at *
  obtain ⟨w0, hw0⟩ : ∃ z : World, z = w := ⟨_, rfl⟩
  rw [← hw0] at hbw hB hW hI hS hG hv1
  obtain ⟨g1, hg1⟩ : ∃ g, w.heap.size = g := ⟨_, rfl⟩
  obtain ⟨g2, hg2⟩ : ∃ g, w.heap.size + 1 = g := ⟨_, rfl⟩
  have n_12 : g1 ≠ g2 := by omega
  obtain ⟨X, hX⟩ : ∃ X : Nat → Prop, X = fun k => k = g1 ∨ k = g2 := ⟨_, rfl⟩
  have X1 : X g1 := by rw [hX]; exact Or.inl rfl
  have X2 : X g2 := by rw [hX]; exact Or.inr rfl
  have hXb : ∀ k, X k → k = g1 ∨ k = g2 := by intro k h; rw [hX] at h; exact h
  clear hX
  have hle_g1 : w0.heap.size ≤ g1 := by rw [hw0]; omega
  have hle_g2 : w0.heap.size ≤ g2 := by rw [hw0]; omega
  rw [hg1] at hk1
  rw [hg2] at hk2
  rw [hg2, hg1]
  clear hg1 hg2 hA
  have y0 : W1.cell? ⟨g1, 0, none⟩ = some (.slice aA p.A.length cA) := blk_cell hk1 0 (by rfl)
  go_wp2_with fail
  have hk10 := hk1
  have hk20 := hk2
  have hbw0 := hbw
  refine (CloneR_calls aA p.A cA _ vs (hv1.below hbw) (by omega) hv2 lA).mono ?_
  rintro e w1 ⟨v, rfl, ho, hb1⟩
  obtain ⟨A1, c1, rfl, hc1, hr1, hn1, -⟩ := own_rdC ho
  replace hk1 := bl_block hb1 hk1
  replace hk2 := bl_block hb1 hk2
  replace hbw := bl_step hbw hb1
  have y0 : w1.cell? ⟨g1, 0, none⟩ = some (.slice aA p.A.length cA) := blk_cell hk1 0 (by rfl)
  have x0 := blkf hk1 0
  go_upto_region 2 with fail
  have hRow : p.A.length = 0 ∨ ∃ gA, A1 = some ⟨gA, 0, none⟩ ∧ RowB w1 X gA 23 p.A.length p.A ∧ w0.heap.size ≤ gA ∧ gA ≠ g1 ∧ gA ≠ g2 := by
    rcases ho.2 with ⟨_, h0⟩ | ⟨gA, cap, cur, e, hbA, hhA, hnA, _, hsz, htk⟩
    · exact Or.inl h0
    · injection e with e
      have hl1 := blk_lt hk10
      have hl2 := blk_lt hk20
      refine Or.inr ⟨gA, e, ⟨cur, hhA, by omega, fun i hi => ?_⟩, Nat.le_trans hbw0.size hbA, by omega, by omega⟩
      obtain ⟨B, c, q1, q2, q3⟩ := hv3 i hi
      refine ⟨B, c, ?_, q2, (q3.below (hw0 ▸ hbw)), q3.off (fun k hk => by rw [← hw0]; rcases hXb k hk with rfl | rfl <;> assumption)⟩
      rw [← htk, List.getElem?_take_of_lt (by omega)] at q1
      simpa using q1
  have hRow2 : p.A.length = 0 ∨ ∃ gA, A1 = some ⟨gA, 0, none⟩ ∧ RowB (w1.setCell ⟨g1, 0, none⟩ (.slice A1 p.A.length c1)) X gA 23 p.A.length p.A ∧ w0.heap.size ≤ gA ∧ gA ≠ g1 ∧ gA ≠ g2 := by
    rcases hRow with h | ⟨gA, e1, e2, e3, e4, e5⟩
    · exact Or.inl h
    · refine Or.inr ⟨gA, e1, ?_, e3, e4, e5⟩
      obtain ⟨cur, q1, q2, q3⟩ := e2
      exact ⟨cur, blk_far q1 (a := ⟨g1, 0, none⟩) e4.symm _, q2, fun i hi => by obtain ⟨B, c, a1, a2, a3, a4⟩ := q3 i hi; exact ⟨B, c, a1, a2, a3.set_slice y0 _, a4⟩⟩
  replace hk1 := blk_set hk1 0 (.slice A1 p.A.length c1)
  simp only [List.setIfInBounds_toArray, List.set_cons_zero] at hk1
  replace hk2 := blk_far hk2 (a := ⟨g1, 0, none⟩) n_12 (.slice A1 p.A.length c1)
  replace hbw := bl_set hbw (p := ⟨g1, 0, none⟩) hle_g1 (.slice A1 p.A.length c1)
  clear hRow ho hr1 hv3 hv2 hv1 hb1 x0 y0 hk10 hk20 hbw0
  generalize w1.setCell ⟨g1, 0, none⟩ (.slice A1 p.A.length c1) = W2 at *
  have y0 : W2.cell? ⟨g1, 0, none⟩ = some (.slice A1 p.A.length c1) := blk_cell hk1 0 (by rfl)
  go_wp2
  go_loopw [3, 11] (fun v i wr => ∃ k : Nat, k ≤ p.A.length ∧ i = .int .i64 k ∧ Below w0.heap.size w0 wr ∧ wr.heap[g1]? = some (.cells #[.slice A1 p.A.length c1, .slice aB p.B.length cB, .int .i64 il, .int .i64 ih, .slice aW p.W.length cW, .slice aI p.Inv.length cI, .slice aS p.Safe.length cS, .slice aG p.gain.length cG, .int .i64 bi] 28 (0, 0)) ∧ wr.heap[g2]? = some (.cells #[.slice none 0 0, .slice none 0 0, .int .i64 0, .int .i64 0, .slice none 0 0, .slice none 0 0, .slice none 0 0, .slice none 0 0, .int .i64 0] 28 (0, 0)) ∧ (p.A.length = 0 ∨ ∃ gA, A1 = some ⟨gA, 0, none⟩ ∧ RowB wr X gA 23 p.A.length p.A ∧ w0.heap.size ≤ gA ∧ gA ≠ g1 ∧ gA ≠ g2)) (fun _ i _ => (p.A.length - intOf i).toNat)
  case atStart => exact ⟨0, by omega, rfl, hbw, hk1, hk2, hRow2⟩
  case round =>
    clear hk1 hk2 hbw hRow2 y0
    obtain ⟨k, hk, rfl, hbw, hk_x, hk_y, hRow⟩ := hrel
    by_cases hlt : k < p.A.length
    · rcases hRow with h0 | ⟨gA, rfl, hRow, hleA, nA1, nA2⟩
      · omega
      have hd : decide ((k : Int) < (p.A.length : Int)) = true := decide_eq_true (by omega)
      go_upto_region 5 with fail
      have hlr := hidI (lA2 k)
      replace hRow := hRow.below (bl_drew (Below.refl wr.heap.size wr))
      have hle_x := hle_g1
      have hle_y := hle_g2
      replace hk_x := blk_drew hk_x
      replace hk_y := blk_drew hk_y
      replace hbw := bl_drew hbw
      refine start_ (n := 11) (S := fun w' => w'.cell? ⟨g1, 0, none⟩ = some (.slice (some ⟨gA, 0, none⟩) p.A.length c1) ∧ w'.cell? ⟨g1, 1, none⟩ = some (.slice aB p.B.length cB) ∧ w'.cell? ⟨g1, 2, none⟩ = some (.int .i64 il) ∧ w'.cell? ⟨g1, 3, none⟩ = some (.int .i64 ih) ∧ w'.cell? ⟨g1, 4, none⟩ = some (.slice aW p.W.length cW) ∧ w'.cell? ⟨g1, 5, none⟩ = some (.slice aI p.Inv.length cI) ∧ w'.cell? ⟨g1, 6, none⟩ = some (.slice aS p.Safe.length cS) ∧ w'.cell? ⟨g1, 7, none⟩ = some (.slice aG p.gain.length cG) ∧ w'.cell? ⟨g1, 8, none⟩ = some (.int .i64 bi)) (ds := []) #[false, false, false, false, false, false, false, false, false, false, false] (by kernel_rfl) rfl rfl ⟨(blk_cell hk_x 0 (by rfl)), (blk_cell hk_x 1 (by rfl)), (blk_cell hk_x 2 (by rfl)), (blk_cell hk_x 3 (by rfl)), (blk_cell hk_x 4 (by rfl)), (blk_cell hk_x 5 (by rfl)), (blk_cell hk_x 6 (by rfl)), (blk_cell hk_x 7 (by rfl)), (blk_cell hk_x 8 (by rfl))⟩ (fun hHeld => ?_)
      generalize wr.drew = wn at *
      refine pure_ (i := 0) (N := some 14) (v := ?_) (a' := ?_) #[true, false, false, false, false, false, false, false, false, false, false] rfl rfl (by kernel_rfl) (fun _ _ _ h => h) (Or.inl ⟨by rfl, ?_⟩) ?_ ?_
      rotate_left
      · intro w'
        go_simp
        with_reducible rfl
      rotate_left
      · simp only [Act.put, List.setIfInBounds_toArray, List.set_cons_zero, List.set_cons_succ, i64_w, i32_w]
        rfl
      refine pure_ (i := 2) (N := some 16) (v := ?_) (a' := ?_) #[true, false, true, false, false, false, false, false, false, false, false] rfl rfl (by kernel_rfl) (fun _ _ _ h => h) (Or.inl ⟨by rfl, ?_⟩) ?_ ?_
      rotate_left
      · intro w'
        go_simp
        with_reducible rfl
      rotate_left
      · simp only [Act.put, List.setIfInBounds_toArray, List.set_cons_zero, List.set_cons_succ, i64_w, i32_w]
        rfl
      refine pure_ (i := 3) (N := some 17) (v := ?_) (a' := ?_) #[true, false, true, true, false, false, false, false, false, false, false] rfl rfl (by kernel_rfl) (fun _ _ _ h => h) (Or.inl ⟨by rfl, ?_⟩) ?_ ?_
      rotate_left
      · intro w'
        go_simp
        with_reducible rfl
      rotate_left
      · simp only [Act.put, List.setIfInBounds_toArray, List.set_cons_zero, List.set_cons_succ, i64_w, i32_w]
        rfl
      refine pure_ (i := 5) (N := some 19) (v := ?_) (a' := ?_) #[true, false, true, true, false, true, false, false, false, false, false] rfl rfl (by kernel_rfl) (fun _ _ _ h => h) (Or.inl ⟨by rfl, ?_⟩) ?_ ?_
      rotate_left
      · intro w'
        go_simp
        with_reducible rfl
      rotate_left
      · simp only [Act.put, List.setIfInBounds_toArray, List.set_cons_zero, List.set_cons_succ, i64_w, i32_w]
        rfl
      refine take_ (i := 1) (N := some 15) (v := ?_) (a' := ?_) #[true, true, true, true, false, true, false, false, false, false, false] rfl rfl (by kernel_rfl) (fun _ _ _ h => h) (Or.inl ⟨by rfl, ?_⟩) hHeld ?_ ?_
      rotate_left
      · rintro w' ⟨s0, s1, s2, s3, s4, s5, s6, s7, s8⟩
        go_simp
        with_reducible rfl
      rotate_left
      · simp only [Act.put, List.setIfInBounds_toArray, List.set_cons_zero, List.set_cons_succ, i64_w, i32_w]
        rfl
      refine take_ (i := 4) (N := some 18) (v := ?_) (a' := ?_) #[true, true, true, true, true, true, false, false, false, false, false] rfl rfl (by kernel_rfl) (fun _ _ _ h => h) (Or.inl ⟨by rfl, ?_⟩) hHeld ?_ ?_
      rotate_left
      · rintro w' ⟨s0, s1, s2, s3, s4, s5, s6, s7, s8⟩
        go_simp
        with_reducible rfl
      rotate_left
      · simp only [Act.put, List.setIfInBounds_toArray, List.set_cons_zero, List.set_cons_succ, i64_w, i32_w]
        rfl
      refine pure_ (i := 6) (N := some 20) (v := ?_) (a' := ?_) #[true, true, true, true, true, true, true, false, false, false, false] rfl rfl (by kernel_rfl) (fun _ _ _ h => h) (Or.inl ⟨by rfl, ?_⟩) ?_ ?_
      rotate_left
      · intro w'
        go_simp
        with_reducible rfl
      rotate_left
      · simp only [Act.put, List.setIfInBounds_toArray, List.set_cons_zero, List.set_cons_succ, i64_w, i32_w]
        rfl
      refine one_ (i := 7) (N := some 21) #[true, true, true, true, true, true, true, true, false, false, false] rfl rfl (by kernel_rfl) (by decide) (fun K hK => ?_)
      obtain ⟨cur, hcur, hcn, hci⟩ := hRow
      obtain ⟨B, cB_, e1, e2, e3, -⟩ := hci k hlt
      have hm : wn.cell? ⟨gA, k, none⟩ = some (.slice B (p.A.getD k []).length cB_) := (blkc hcur k).trans e1
      refine value_ (w1 := wn) (v := .slice B (p.A.getD k []).length cB_) (by rfl) rfl ?_ ?_
      · go_simp
        try rfl
      have hRow : RowB wn X gA 23 p.A.length p.A := ⟨cur, hcur, hcn, hci⟩
      clear hm hcur hci e1
      clear hHeld
      refine hK.out _ _ ⟨(blk_cell hk_x 0 (by rfl)), (blk_cell hk_x 1 (by rfl)), (blk_cell hk_x 2 (by rfl)), (blk_cell hk_x 3 (by rfl)), (blk_cell hk_x 4 (by rfl)), (blk_cell hk_x 5 (by rfl)), (blk_cell hk_x 6 (by rfl)), (blk_cell hk_x 7 (by rfl)), (blk_cell hk_x 8 (by rfl))⟩ (fun hHeld => ?_)
      clear hK K
      refine norm_ (a' := ?_) ?_ ?_
      rotate_left
      · show Act.put _ (some 21) _ = _
        simp only [Act.put, List.setIfInBounds_toArray, List.set_cons_zero, List.set_cons_succ, i64_w, i32_w]
        rfl
      refine one_ (i := 8) (N := some 22) #[true, true, true, true, true, true, true, true, true, false, false] rfl rfl (by kernel_rfl) (by decide) (fun K hK => ?_)
      refine goes_ Try.func71 (by kernel_rfl) rfl #[.slice B (p.A.getD k []).length cB_] (by rfl) rfl rfl (by simp only [List.map_toArray, List.map_cons, List.map_nil] <;> rfl) ?_
      refine (CloneI_calls B (p.A.getD k []) cB_ _ e3 hlr.out).mono ?_
      rintro e wn ⟨B2, c2, rfl, hc2, hr2, hfr2, hbn⟩
      refine ⟨_, rfl, ?_⟩
      have hof2 : Off X B2 (p.A.getD k []).length := Off.of hfr2 (fun k_ hk_ => by rcases hXb k_ hk_ with rfl | rfl; exact blk_lt hk_x; exact blk_lt hk_y)
      replace hk_x := bl_block hbn hk_x
      replace hk_y := bl_block hbn hk_y
      replace hRow := hRow.below hbn
      replace hbw := bl_step hbw hbn
      clear hbn e3
      clear hHeld
      refine hK.out _ _ ⟨(blk_cell hk_x 0 (by rfl)), (blk_cell hk_x 1 (by rfl)), (blk_cell hk_x 2 (by rfl)), (blk_cell hk_x 3 (by rfl)), (blk_cell hk_x 4 (by rfl)), (blk_cell hk_x 5 (by rfl)), (blk_cell hk_x 6 (by rfl)), (blk_cell hk_x 7 (by rfl)), (blk_cell hk_x 8 (by rfl))⟩ (fun hHeld => ?_)
      clear hK K
      refine norm_ (a' := ?_) ?_ ?_
      rotate_left
      · show Act.put _ (some 22) _ = _
        simp only [Act.put, List.setIfInBounds_toArray, List.set_cons_zero, List.set_cons_succ, i64_w, i32_w]
        rfl
      refine pure_ (i := 9) (N := some 23) (v := ?_) (a' := ?_) #[true, true, true, true, true, true, true, true, true, true, false] rfl rfl (by kernel_rfl) (fun _ _ _ h => h) (Or.inl ⟨by rfl, ?_⟩) ?_ ?_
      rotate_left
      · intro w'
        go_simp
        with_reducible rfl
      rotate_left
      · simp only [Act.put, List.setIfInBounds_toArray, List.set_cons_zero, List.set_cons_succ, i64_w, i32_w]
        rfl
      refine one_ (i := 10) (N := none) #[true, true, true, true, true, true, true, true, true, true, true] rfl rfl (by kernel_rfl) (by decide) (fun K hK => ?_)
      have hRow2 := RowB.set (k := k) hRow hlt hc2 hr2 hof2
      obtain ⟨cur, hcur, hcn, hci⟩ := hRow
      obtain ⟨B0, c0, e1, -, -, -⟩ := hci k hlt
      have hm : wn.cell? ⟨gA, k, none⟩ = some (.slice B0 (p.A.getD k []).length c0) := (blkc hcur k).trans e1
      have hz := blkf hcur k
      refine skip_ (w1 := wn.setCell ⟨gA, k, none⟩ (.slice B2 (p.A.getD k []).length c2)) (by rfl) rfl ?_ ?_
      · go_simp
        try rfl
      replace hk_x := blk_far hk_x (a := ⟨gA, k, none⟩) nA1 (.slice B2 (p.A.getD k []).length c2)
      replace hk_y := blk_far hk_y (a := ⟨gA, k, none⟩) nA2 (.slice B2 (p.A.getD k []).length c2)
      replace hbw := bl_set hbw (p := ⟨gA, k, none⟩) hleA (.slice B2 (p.A.getD k []).length c2)
      clear hm hz hcur hci e1 hr2
      generalize wn.setCell ⟨gA, k, none⟩ (.slice B2 (p.A.getD k []).length c2) = wn at *
      clear hHeld
      refine hK.out _ _ ⟨(blk_cell hk_x 0 (by rfl)), (blk_cell hk_x 1 (by rfl)), (blk_cell hk_x 2 (by rfl)), (blk_cell hk_x 3 (by rfl)), (blk_cell hk_x 4 (by rfl)), (blk_cell hk_x 5 (by rfl)), (blk_cell hk_x 6 (by rfl)), (blk_cell hk_x 7 (by rfl)), (blk_cell hk_x 8 (by rfl))⟩ (fun hHeld => ?_)
      clear hK K
      refine done_ (by kernel_rfl) ?_
      go_wp2
      go_roundw
      case rel => exact ⟨k + 1, by omega, by go_num, hbw, hk_x, hk_y, Or.inr ⟨gA, rfl, hRow2, hleA, nA1, nA2⟩⟩
      case measure => simp [intOf]; omega
    · have hke : k = p.A.length := by omega
      subst hke
      have hd : decide ((p.A.length : Int) < (p.A.length : Int)) = false := decide_eq_false (by omega)
      go_upto_region 7 with fail
      have hk_g1 := hk_x
      have hk_g2 := hk_y
      clear hk_x hk_y hlt hd hk hv0
      have n_g2_g1 : g2 ≠ g1 := n_12.symm
      have c0_hkp : KeepX X wr wr.drew := fun _ _ _ h => h
      obtain ⟨B0, hB0⟩ : ∃ B, B = wr.heap.size := ⟨_, rfl⟩
      have c0_hsz : B0 ≤ wr.heap.size := Nat.le_of_eq hB0
      have hw0B0 : w0.heap.size ≤ B0 := by rw [hB0]; exact hbw.size
      have c0_hle : wr.heap.size ≤ B0 := Nat.le_of_eq hB0.symm
      have c0_hk_g1 := blk_drew hk_g1
      have c0_lt_g1 : g1 < B0 := by rw [hB0]; exact blk_lt hk_g1
      have c0_hk_g2 := blk_drew hk_g2
      have c0_lt_g2 : g2 < B0 := by rw [hB0]; exact blk_lt hk_g2
      have c0_hbw := bl_drew hbw
      clear hB0 hbw hk_g1 hk_g2
      have hXB : ∀ k, X k → k < B0 := fun k hk => by rcases hXb k hk with rfl | rfl <;> assumption
      refine region_linM (n := 10) (st := ?st2) { R := [0, 1, 3, 0, 8, 31, 31, 127, 255, 511], kill := [[], [], [], [], [], [], [], [9], [], [], [7, 9]], cls := [0, 0, 0, 0, 0, 0, 0, 1, 0, 1], dst := [some 25, some 26, some 27, some 28, some 29, some 30, some 31, none, some 32, none], pre := [[], [0, 10], [1], [], [3, 10], [4], [], [6, 2, 10], [], [8, 5, 7]], cov := [(0, 2), (0, 5), (0, 7), (0, 10), (1, 2), (1, 5)], fin := [2, 5, 9], locs := [], tgt := [none, none], abt := [none, none, none, none, none, none, none, none, none, none], m := 1 }
        [.v [25] (fun vs => (vs.getD 0 undef) = .pointer (some ⟨g1, 1, none⟩)),
         .v [26] (fun vs => (vs.getD 0 undef) = .slice aB p.B.length cB),
         .w [27] (fun vs w => ∃ (A_ : Option Addr) (c_ : Nat), (vs.getD 0 undef) = .slice A_ p.B.length c_ ∧ p.B.length ≤ c_ ∧ RdI w A_ p.B ∧ ∀ a_, A_ = some a_ → B0 ≤ a_.block),
         .v [28] (fun vs => (vs.getD 0 undef) = .pointer (some ⟨g1, 7, none⟩)),
         .v [29] (fun vs => (vs.getD 0 undef) = .slice aG p.gain.length cG),
         .w [30] (fun vs w => ∃ (A_ : Option Addr) (c_ : Nat), (vs.getD 0 undef) = .slice A_ p.gain.length c_ ∧ p.gain.length ≤ c_ ∧ RdI w A_ p.gain ∧ ∀ a_, A_ = some a_ → B0 ≤ a_.block),
         .v [31] (fun vs => (vs.getD 0 undef) = .pointer (some ⟨g1, 1, none⟩)),
         .w [27] (fun vs w => w.heap[g1]? = some (.cells #[.slice A1 p.A.length c1, (vs.getD 0 undef), .int .i64 il, .int .i64 ih, .slice aW p.W.length cW, .slice aI p.Inv.length cI, .slice aS p.Safe.length cS, .slice aG p.gain.length cG, .int .i64 bi] 28 (0, 0))),
         .v [32] (fun vs => (vs.getD 0 undef) = .pointer (some ⟨g1, 7, none⟩)),
         .w [27, 30] (fun vs w => w.heap[g1]? = some (.cells #[.slice A1 p.A.length c1, (vs.getD 0 undef), .int .i64 il, .int .i64 ih, .slice aW p.W.length cW, .slice aI p.Inv.length cI, .slice aS p.Safe.length cS, (vs.getD 1 undef), .int .i64 bi] 28 (0, 0))),
         .w [] (fun vs w => w.heap[g1]? = some (.cells #[.slice A1 p.A.length c1, .slice aB p.B.length cB, .int .i64 il, .int .i64 ih, .slice aW p.W.length cW, .slice aI p.Inv.length cI, .slice aS p.Safe.length cS, .slice aG p.gain.length cG, .int .i64 bi] 28 (0, 0)))]
        (fun w => B0 ≤ w.heap.size ∧ w.heap[g2]? = some (.cells #[.slice none 0 0, .slice none 0 0, .int .i64 0, .int .i64 0, .slice none 0 0, .slice none 0 0, .slice none 0 0, .slice none 0 0, .int .i64 0] 28 (0, 0)) ∧ g2 < B0 ∧ g1 < B0 ∧ Below w0.heap.size w0 w ∧ KeepX X wr w)
        (fun c => ([fun s w w' => Below w.heap.size w w', fun s w w' => w' = w ∨ ((∀ k o, k ≠ g1 → w.heap[k]? = some o → w'.heap[k]? = some o) ∧ w'.heap.size = w.heap.size ∧ Below g1 w w')] : List ((Nat → Value) → World → World → Prop)).getD c (fun s w w' => w' = w))
        [25, 26, 27, 28, 29, 30, 31, 32] (by kernel_rfl) ⟨by kernel_rfl, by kernel_rfl, by kernel_rfl, by kernel_rfl, by kernel_rfl, by kernel_rfl, by kernel_rfl, by kernel_rfl⟩ (fun s => ?_) ?_ ?_ ?_ ?_ ?_ ?_ (fun s w hC hA => ?_)
      rotate_left
      · simp only [fillS, List.foldl, List.setIfInBounds_toArray, List.set_cons_zero, List.set_cons_succ]; rfl
      · exact ⟨c0_hsz, c0_hk_g2, c0_lt_g2, c0_lt_g1, c0_hbw, c0_hkp⟩
      · exact ⟨c0_hk_g1, trivial⟩
      · intro c s w w' hE
        match c, hE with
        | 0, hE => exact Below.size hE
        | 1, hE => replace hE : w' = w ∨ ((∀ k o, k ≠ g1 → w.heap[k]? = some o → w'.heap[k]? = some o) ∧ w'.heap.size = w.heap.size ∧ Below g1 w w') := hE; rcases hE with hE | ⟨_, hE, _⟩; exact Nat.le_of_eq (by rw [hE]); exact Nat.le_of_eq hE.symm
        | c + 2, hE => cases hE; exact Nat.le_refl _
      · rintro c s w w' ⟨hsz, hk_g2, lt_g2, lt_g1, hbw, hkp⟩ hE
        match c, hE with
        | 0, hE => replace hE : Below w.heap.size w w' := hE; exact ⟨Nat.le_trans hsz hE.size, bl_block hE hk_g2, lt_g2, lt_g1, bl_step hbw hE, hkp.ext hE⟩
        | 1, hE =>
          replace hE : w' = w ∨ ((∀ k o, k ≠ g1 → w.heap[k]? = some o → w'.heap[k]? = some o) ∧ w'.heap.size = w.heap.size ∧ Below g1 w w') := hE
          rcases hE with rfl | ⟨hkeep, hsz_, hBl⟩
          · exact ⟨hsz, hk_g2, lt_g2, lt_g1, hbw, hkp⟩
          · exact ⟨by omega, hkeep _ _ n_g2_g1 hk_g2, lt_g2, lt_g1, hbw.trans (Below.mono hBl hle_g1), hkp.trans (KeepX.of1 hkeep X1)⟩
        | c + 2, hE => cases hE; exact ⟨hsz, hk_g2, lt_g2, lt_g1, hbw, hkp⟩
      · refine ⟨?_, ?_, ?_, ?_, ?_, ?_, trivial⟩
        · intro s w w' hD hC hE hF
          replace hF : ∃ (A_ : Option Addr) (c_ : Nat), (s 27) = .slice A_ p.B.length c_ ∧ p.B.length ≤ c_ ∧ RdI w A_ p.B ∧ ∀ a_, A_ = some a_ → B0 ≤ a_.block := hF
          show ∃ (A_ : Option Addr) (c_ : Nat), (s 27) = .slice A_ p.B.length c_ ∧ p.B.length ≤ c_ ∧ RdI w' A_ p.B ∧ ∀ a_, A_ = some a_ → B0 ≤ a_.block
          replace hE : Below w.heap.size w w' := hE
          obtain ⟨A_, c_, h1, h2, h3, h4⟩ := hF
          exact ⟨A_, c_, h1, h2, h3.below hE, h4⟩
        · intro s w w' hD hC hE hF
          replace hF : ∃ (A_ : Option Addr) (c_ : Nat), (s 30) = .slice A_ p.gain.length c_ ∧ p.gain.length ≤ c_ ∧ RdI w A_ p.gain ∧ ∀ a_, A_ = some a_ → B0 ≤ a_.block := hF
          show ∃ (A_ : Option Addr) (c_ : Nat), (s 30) = .slice A_ p.gain.length c_ ∧ p.gain.length ≤ c_ ∧ RdI w' A_ p.gain ∧ ∀ a_, A_ = some a_ → B0 ≤ a_.block
          replace hE : Below w.heap.size w w' := hE
          obtain ⟨A_, c_, h1, h2, h3, h4⟩ := hF
          exact ⟨A_, c_, h1, h2, h3.below hE, h4⟩
        · intro s w w' hD hC hE hF
          replace hF : w.heap[g1]? = some (.cells #[.slice A1 p.A.length c1, (s 27), .int .i64 il, .int .i64 ih, .slice aW p.W.length cW, .slice aI p.Inv.length cI, .slice aS p.Safe.length cS, .slice aG p.gain.length cG, .int .i64 bi] 28 (0, 0)) := hF
          show w'.heap[g1]? = some (.cells #[.slice A1 p.A.length c1, (s 27), .int .i64 il, .int .i64 ih, .slice aW p.W.length cW, .slice aI p.Inv.length cI, .slice aS p.Safe.length cS, .slice aG p.gain.length cG, .int .i64 bi] 28 (0, 0))
          replace hE : Below w.heap.size w w' := hE
          exact bl_block hE (hF)
        · intro s w w' hD hC hE hF
          replace hF : w.heap[g1]? = some (.cells #[.slice A1 p.A.length c1, .slice aB p.B.length cB, .int .i64 il, .int .i64 ih, .slice aW p.W.length cW, .slice aI p.Inv.length cI, .slice aS p.Safe.length cS, .slice aG p.gain.length cG, .int .i64 bi] 28 (0, 0)) := hF
          show w'.heap[g1]? = some (.cells #[.slice A1 p.A.length c1, .slice aB p.B.length cB, .int .i64 il, .int .i64 ih, .slice aW p.W.length cW, .slice aI p.Inv.length cI, .slice aS p.Safe.length cS, .slice aG p.gain.length cG, .int .i64 bi] 28 (0, 0))
          replace hE : Below w.heap.size w w' := hE
          exact bl_block hE (hF)
        · intro s w w' hD hC hE hF
          replace hF : ∃ (A_ : Option Addr) (c_ : Nat), (s 27) = .slice A_ p.B.length c_ ∧ p.B.length ≤ c_ ∧ RdI w A_ p.B ∧ ∀ a_, A_ = some a_ → B0 ≤ a_.block := hF
          show ∃ (A_ : Option Addr) (c_ : Nat), (s 27) = .slice A_ p.B.length c_ ∧ p.B.length ≤ c_ ∧ RdI w' A_ p.B ∧ ∀ a_, A_ = some a_ → B0 ≤ a_.block
          replace hE : w' = w ∨ ((∀ k o, k ≠ g1 → w.heap[k]? = some o → w'.heap[k]? = some o) ∧ w'.heap.size = w.heap.size ∧ Below g1 w w') := hE
          rcases hE with rfl | ⟨hkeep, hsz_, hBl⟩
          · exact hF
          obtain ⟨A_, c_, h1, h2, h3, h4⟩ := hF
          exact ⟨A_, c_, h1, h2, h3.keepX (KeepX.of1 hkeep X1) (Off.of h4 hXB), h4⟩
        · intro s w w' hD hC hE hF
          replace hF : ∃ (A_ : Option Addr) (c_ : Nat), (s 30) = .slice A_ p.gain.length c_ ∧ p.gain.length ≤ c_ ∧ RdI w A_ p.gain ∧ ∀ a_, A_ = some a_ → B0 ≤ a_.block := hF
          show ∃ (A_ : Option Addr) (c_ : Nat), (s 30) = .slice A_ p.gain.length c_ ∧ p.gain.length ≤ c_ ∧ RdI w' A_ p.gain ∧ ∀ a_, A_ = some a_ → B0 ≤ a_.block
          replace hE : w' = w ∨ ((∀ k o, k ≠ g1 → w.heap[k]? = some o → w'.heap[k]? = some o) ∧ w'.heap.size = w.heap.size ∧ Below g1 w w') := hE
          rcases hE with rfl | ⟨hkeep, hsz_, hBl⟩
          · exact hF
          obtain ⟨A_, c_, h1, h2, h3, h4⟩ := hF
          exact ⟨A_, c_, h1, h2, h3.keepX (KeepX.of1 hkeep X1) (Off.of h4 hXB), h4⟩
      · skip
        refine StepsP.cons ?_ ?_
        · intro Q s w hC hA K hK
          clear hC
          clear hA
          refine guard_none (by rfl) ?_
          refine wp_value (v := .pointer (some ⟨g1, 1, none⟩)) (w1 := w) ?_ (hK.out _ w (Below.refl _ _) rfl (fun h => by cases h))
          go_simp
          try (first | done | rfl | (simp; done))
        refine StepsP.cons ?_ ?_
        · intro Q s w hC hA K hK
          obtain ⟨hsz, hk_g2, lt_g2, lt_g1, hbw, hkp⟩ := hC
          obtain ⟨f0, f10, -⟩ := hA
          replace f0 : (s 25) = .pointer (some ⟨g1, 1, none⟩) := f0
          replace f10 : w.heap[g1]? = some (.cells #[.slice A1 p.A.length c1, .slice aB p.B.length cB, .int .i64 il, .int .i64 ih, .slice aW p.W.length cW, .slice aI p.Inv.length cI, .slice aS p.Safe.length cS, .slice aG p.gain.length cG, .int .i64 bi] 28 (0, 0)) := f10
          refine guard_none (by rfl) ?_
          have hk_g1 := f10
          have m0_g1 : w.cell? ⟨g1, 0, none⟩ = some (.slice A1 p.A.length c1) := blk_cell hk_g1 0 (by rfl)
          have m1_g1 : w.cell? ⟨g1, 1, none⟩ = some (.slice aB p.B.length cB) := blk_cell hk_g1 1 (by rfl)
          have m2_g1 : w.cell? ⟨g1, 2, none⟩ = some (.int .i64 il) := blk_cell hk_g1 2 (by rfl)
          have m3_g1 : w.cell? ⟨g1, 3, none⟩ = some (.int .i64 ih) := blk_cell hk_g1 3 (by rfl)
          have m4_g1 : w.cell? ⟨g1, 4, none⟩ = some (.slice aW p.W.length cW) := blk_cell hk_g1 4 (by rfl)
          have m5_g1 : w.cell? ⟨g1, 5, none⟩ = some (.slice aI p.Inv.length cI) := blk_cell hk_g1 5 (by rfl)
          have m6_g1 : w.cell? ⟨g1, 6, none⟩ = some (.slice aS p.Safe.length cS) := blk_cell hk_g1 6 (by rfl)
          have m7_g1 : w.cell? ⟨g1, 7, none⟩ = some (.slice aG p.gain.length cG) := blk_cell hk_g1 7 (by rfl)
          have m8_g1 : w.cell? ⟨g1, 8, none⟩ = some (.int .i64 bi) := blk_cell hk_g1 8 (by rfl)
          refine wp_value (v := .slice aB p.B.length cB) (w1 := w) ?_ (hK.out _ w (Below.refl _ _) rfl (fun h => by cases h))
          try simp only [f0]
          go_simp
          try (first | done | rfl | (simp; done))
        refine StepsP.cons ?_ ?_
        · intro Q s w hC hA K hK
          obtain ⟨hsz, hk_g2, lt_g2, lt_g1, hbw, hkp⟩ := hC
          obtain ⟨f1, -⟩ := hA
          replace f1 : (s 26) = .slice aB p.B.length cB := f1
          refine guard_none (by rfl) ?_
          refine wp_call (N := some 27) (by rfl) Try.func71 (by kernel_rfl) #[.slice aB p.B.length cB] rfl (by rfl) ?_ ?_
          · show [s 26] = [.slice aB p.B.length cB]
            first | rfl | simp only [f1]
          refine (CloneI_calls aB p.B cB _ (hB.below hbw) lB).mono ?_
          rintro e w1 ⟨A_, c_, rfl, h2, h3, h4, hb⟩
          refine ⟨_, rfl, ?_⟩
          exact hK.out _ _ hb ⟨A_, c_, rfl, h2, h3, fun a_ ha_ => Nat.le_trans hsz (h4 a_ ha_)⟩ (fun h => by cases h)
        refine StepsP.cons ?_ ?_
        · intro Q s w hC hA K hK
          clear hC
          clear hA
          refine guard_none (by rfl) ?_
          refine wp_value (v := .pointer (some ⟨g1, 7, none⟩)) (w1 := w) ?_ (hK.out _ w (Below.refl _ _) rfl (fun h => by cases h))
          go_simp
          try (first | done | rfl | (simp; done))
        refine StepsP.cons ?_ ?_
        · intro Q s w hC hA K hK
          obtain ⟨hsz, hk_g2, lt_g2, lt_g1, hbw, hkp⟩ := hC
          obtain ⟨f3, f10, -⟩ := hA
          replace f3 : (s 28) = .pointer (some ⟨g1, 7, none⟩) := f3
          replace f10 : w.heap[g1]? = some (.cells #[.slice A1 p.A.length c1, .slice aB p.B.length cB, .int .i64 il, .int .i64 ih, .slice aW p.W.length cW, .slice aI p.Inv.length cI, .slice aS p.Safe.length cS, .slice aG p.gain.length cG, .int .i64 bi] 28 (0, 0)) := f10
          refine guard_none (by rfl) ?_
          have hk_g1 := f10
          have m0_g1 : w.cell? ⟨g1, 0, none⟩ = some (.slice A1 p.A.length c1) := blk_cell hk_g1 0 (by rfl)
          have m1_g1 : w.cell? ⟨g1, 1, none⟩ = some (.slice aB p.B.length cB) := blk_cell hk_g1 1 (by rfl)
          have m2_g1 : w.cell? ⟨g1, 2, none⟩ = some (.int .i64 il) := blk_cell hk_g1 2 (by rfl)
          have m3_g1 : w.cell? ⟨g1, 3, none⟩ = some (.int .i64 ih) := blk_cell hk_g1 3 (by rfl)
          have m4_g1 : w.cell? ⟨g1, 4, none⟩ = some (.slice aW p.W.length cW) := blk_cell hk_g1 4 (by rfl)
          have m5_g1 : w.cell? ⟨g1, 5, none⟩ = some (.slice aI p.Inv.length cI) := blk_cell hk_g1 5 (by rfl)
          have m6_g1 : w.cell? ⟨g1, 6, none⟩ = some (.slice aS p.Safe.length cS) := blk_cell hk_g1 6 (by rfl)
          have m7_g1 : w.cell? ⟨g1, 7, none⟩ = some (.slice aG p.gain.length cG) := blk_cell hk_g1 7 (by rfl)
          have m8_g1 : w.cell? ⟨g1, 8, none⟩ = some (.int .i64 bi) := blk_cell hk_g1 8 (by rfl)
          refine wp_value (v := .slice aG p.gain.length cG) (w1 := w) ?_ (hK.out _ w (Below.refl _ _) rfl (fun h => by cases h))
          try simp only [f3]
          go_simp
          try (first | done | rfl | (simp; done))
        refine StepsP.cons ?_ ?_
        · intro Q s w hC hA K hK
          obtain ⟨hsz, hk_g2, lt_g2, lt_g1, hbw, hkp⟩ := hC
          obtain ⟨f4, -⟩ := hA
          replace f4 : (s 29) = .slice aG p.gain.length cG := f4
          refine guard_none (by rfl) ?_
          refine wp_call (N := some 30) (by rfl) Try.func71 (by kernel_rfl) #[.slice aG p.gain.length cG] rfl (by rfl) ?_ ?_
          · show [s 29] = [.slice aG p.gain.length cG]
            first | rfl | simp only [f4]
          refine (CloneI_calls aG p.gain cG _ (hG.below hbw) lG).mono ?_
          rintro e w1 ⟨A_, c_, rfl, h2, h3, h4, hb⟩
          refine ⟨_, rfl, ?_⟩
          exact hK.out _ _ hb ⟨A_, c_, rfl, h2, h3, fun a_ ha_ => Nat.le_trans hsz (h4 a_ ha_)⟩ (fun h => by cases h)
        refine StepsP.cons ?_ ?_
        · intro Q s w hC hA K hK
          clear hC
          clear hA
          refine guard_none (by rfl) ?_
          refine wp_value (v := .pointer (some ⟨g1, 1, none⟩)) (w1 := w) ?_ (hK.out _ w (Below.refl _ _) rfl (fun h => by cases h))
          go_simp
          try (first | done | rfl | (simp; done))
        refine StepsP.cons ?_ ?_
        · intro Q s w hC hA K hK
          obtain ⟨hsz, hk_g2, lt_g2, lt_g1, hbw, hkp⟩ := hC
          obtain ⟨f6, f2, f10, -⟩ := hA
          replace f6 : (s 31) = .pointer (some ⟨g1, 1, none⟩) := f6
          replace f2 : ∃ (A_ : Option Addr) (c_ : Nat), (s 27) = .slice A_ p.B.length c_ ∧ p.B.length ≤ c_ ∧ RdI w A_ p.B ∧ ∀ a_, A_ = some a_ → B0 ≤ a_.block := f2
          replace f10 : w.heap[g1]? = some (.cells #[.slice A1 p.A.length c1, .slice aB p.B.length cB, .int .i64 il, .int .i64 ih, .slice aW p.W.length cW, .slice aI p.Inv.length cI, .slice aS p.Safe.length cS, .slice aG p.gain.length cG, .int .i64 bi] 28 (0, 0)) := f10
          refine guard_none (by rfl) ?_
          have hk_g1 := f10
          obtain ⟨A_, c_, hA_, -, -, -⟩ := f2
          have m0_g1 : w.cell? ⟨g1, 0, none⟩ = some (.slice A1 p.A.length c1) := blk_cell hk_g1 0 (by rfl)
          have z0_g1 : w.frozen? ⟨g1, 0, none⟩ = false := blkf hk_g1 0
          have m1_g1 : w.cell? ⟨g1, 1, none⟩ = some (.slice aB p.B.length cB) := blk_cell hk_g1 1 (by rfl)
          have z1_g1 : w.frozen? ⟨g1, 1, none⟩ = false := blkf hk_g1 1
          have m2_g1 : w.cell? ⟨g1, 2, none⟩ = some (.int .i64 il) := blk_cell hk_g1 2 (by rfl)
          have z2_g1 : w.frozen? ⟨g1, 2, none⟩ = false := blkf hk_g1 2
          have m3_g1 : w.cell? ⟨g1, 3, none⟩ = some (.int .i64 ih) := blk_cell hk_g1 3 (by rfl)
          have z3_g1 : w.frozen? ⟨g1, 3, none⟩ = false := blkf hk_g1 3
          have m4_g1 : w.cell? ⟨g1, 4, none⟩ = some (.slice aW p.W.length cW) := blk_cell hk_g1 4 (by rfl)
          have z4_g1 : w.frozen? ⟨g1, 4, none⟩ = false := blkf hk_g1 4
          have m5_g1 : w.cell? ⟨g1, 5, none⟩ = some (.slice aI p.Inv.length cI) := blk_cell hk_g1 5 (by rfl)
          have z5_g1 : w.frozen? ⟨g1, 5, none⟩ = false := blkf hk_g1 5
          have m6_g1 : w.cell? ⟨g1, 6, none⟩ = some (.slice aS p.Safe.length cS) := blk_cell hk_g1 6 (by rfl)
          have z6_g1 : w.frozen? ⟨g1, 6, none⟩ = false := blkf hk_g1 6
          have m7_g1 : w.cell? ⟨g1, 7, none⟩ = some (.slice aG p.gain.length cG) := blk_cell hk_g1 7 (by rfl)
          have z7_g1 : w.frozen? ⟨g1, 7, none⟩ = false := blkf hk_g1 7
          have m8_g1 : w.cell? ⟨g1, 8, none⟩ = some (.int .i64 bi) := blk_cell hk_g1 8 (by rfl)
          have z8_g1 : w.frozen? ⟨g1, 8, none⟩ = false := blkf hk_g1 8
          refine wp_skip_ (w1 := (w.setCell ⟨g1, 1, none⟩ (.slice A_ p.B.length c_))) ?_ (hK.out undef _ (Or.inr ⟨fun k_ o_ hne_ h_ => (blk_far h_ (a := ⟨g1, 1, none⟩) (Ne.symm hne_) (.slice A_ p.B.length c_)), by simp [World.setCell], (Below.setCell (Below.refl _ _) (p := ⟨g1, 1, none⟩) (Nat.le_refl _) (.slice A_ p.B.length c_))⟩) (by show (w.setCell ⟨g1, 1, none⟩ (.slice A_ p.B.length c_)).heap[g1]? = some (.cells #[.slice A1 p.A.length c1, (s 27), .int .i64 il, .int .i64 ih, .slice aW p.W.length cW, .slice aI p.Inv.length cI, .slice aS p.Safe.length cS, .slice aG p.gain.length cG, .int .i64 bi] 28 (0, 0)); rw [hA_]; exact (blk_set hk_g1 1 (.slice A_ p.B.length c_))) (fun h => by cases h))
          try simp only [f6, hA_]
          go_simp
          try rfl
        refine StepsP.cons ?_ ?_
        · intro Q s w hC hA K hK
          clear hC
          clear hA
          refine guard_none (by rfl) ?_
          refine wp_value (v := .pointer (some ⟨g1, 7, none⟩)) (w1 := w) ?_ (hK.out _ w (Below.refl _ _) rfl (fun h => by cases h))
          go_simp
          try (first | done | rfl | (simp; done))
        refine StepsP.cons ?_ ?_
        · intro Q s w hC hA K hK
          obtain ⟨hsz, hk_g2, lt_g2, lt_g1, hbw, hkp⟩ := hC
          obtain ⟨f8, f5, f7, -⟩ := hA
          replace f8 : (s 32) = .pointer (some ⟨g1, 7, none⟩) := f8
          replace f5 : ∃ (A_ : Option Addr) (c_ : Nat), (s 30) = .slice A_ p.gain.length c_ ∧ p.gain.length ≤ c_ ∧ RdI w A_ p.gain ∧ ∀ a_, A_ = some a_ → B0 ≤ a_.block := f5
          replace f7 : w.heap[g1]? = some (.cells #[.slice A1 p.A.length c1, (s 27), .int .i64 il, .int .i64 ih, .slice aW p.W.length cW, .slice aI p.Inv.length cI, .slice aS p.Safe.length cS, .slice aG p.gain.length cG, .int .i64 bi] 28 (0, 0)) := f7
          refine guard_none (by rfl) ?_
          have hk_g1 := f7
          obtain ⟨A_, c_, hA_, -, -, -⟩ := f5
          have m0_g1 : w.cell? ⟨g1, 0, none⟩ = some (.slice A1 p.A.length c1) := blk_cell hk_g1 0 (by rfl)
          have z0_g1 : w.frozen? ⟨g1, 0, none⟩ = false := blkf hk_g1 0
          have m1_g1 : w.cell? ⟨g1, 1, none⟩ = some ((s 27)) := blk_cell hk_g1 1 (by rfl)
          have z1_g1 : w.frozen? ⟨g1, 1, none⟩ = false := blkf hk_g1 1
          have m2_g1 : w.cell? ⟨g1, 2, none⟩ = some (.int .i64 il) := blk_cell hk_g1 2 (by rfl)
          have z2_g1 : w.frozen? ⟨g1, 2, none⟩ = false := blkf hk_g1 2
          have m3_g1 : w.cell? ⟨g1, 3, none⟩ = some (.int .i64 ih) := blk_cell hk_g1 3 (by rfl)
          have z3_g1 : w.frozen? ⟨g1, 3, none⟩ = false := blkf hk_g1 3
          have m4_g1 : w.cell? ⟨g1, 4, none⟩ = some (.slice aW p.W.length cW) := blk_cell hk_g1 4 (by rfl)
          have z4_g1 : w.frozen? ⟨g1, 4, none⟩ = false := blkf hk_g1 4
          have m5_g1 : w.cell? ⟨g1, 5, none⟩ = some (.slice aI p.Inv.length cI) := blk_cell hk_g1 5 (by rfl)
          have z5_g1 : w.frozen? ⟨g1, 5, none⟩ = false := blkf hk_g1 5
          have m6_g1 : w.cell? ⟨g1, 6, none⟩ = some (.slice aS p.Safe.length cS) := blk_cell hk_g1 6 (by rfl)
          have z6_g1 : w.frozen? ⟨g1, 6, none⟩ = false := blkf hk_g1 6
          have m7_g1 : w.cell? ⟨g1, 7, none⟩ = some (.slice aG p.gain.length cG) := blk_cell hk_g1 7 (by rfl)
          have z7_g1 : w.frozen? ⟨g1, 7, none⟩ = false := blkf hk_g1 7
          have m8_g1 : w.cell? ⟨g1, 8, none⟩ = some (.int .i64 bi) := blk_cell hk_g1 8 (by rfl)
          have z8_g1 : w.frozen? ⟨g1, 8, none⟩ = false := blkf hk_g1 8
          refine wp_skip_ (w1 := (w.setCell ⟨g1, 7, none⟩ (.slice A_ p.gain.length c_))) ?_ (hK.out undef _ (Or.inr ⟨fun k_ o_ hne_ h_ => (blk_far h_ (a := ⟨g1, 7, none⟩) (Ne.symm hne_) (.slice A_ p.gain.length c_)), by simp [World.setCell], (Below.setCell (Below.refl _ _) (p := ⟨g1, 7, none⟩) (Nat.le_refl _) (.slice A_ p.gain.length c_))⟩) (by show (w.setCell ⟨g1, 7, none⟩ (.slice A_ p.gain.length c_)).heap[g1]? = some (.cells #[.slice A1 p.A.length c1, (s 27), .int .i64 il, .int .i64 ih, .slice aW p.W.length cW, .slice aI p.Inv.length cI, .slice aS p.Safe.length cS, (s 30), .int .i64 bi] 28 (0, 0)); rw [hA_]; exact (blk_set hk_g1 7 (.slice A_ p.gain.length c_))) (fun h => by cases h))
          try simp only [f8, hA_]
          go_simp
          try rfl
        exact StepsP.nil
      obtain ⟨hsz, hk_g2, lt_g2, lt_g1, hbw, hkp⟩ := hC
      obtain ⟨f2, f5, f9, -⟩ := hA
      replace f2 : ∃ (A_ : Option Addr) (c_ : Nat), (s 27) = .slice A_ p.B.length c_ ∧ p.B.length ≤ c_ ∧ RdI w A_ p.B ∧ ∀ a_, A_ = some a_ → B0 ≤ a_.block := f2
      replace f5 : ∃ (A_ : Option Addr) (c_ : Nat), (s 30) = .slice A_ p.gain.length c_ ∧ p.gain.length ≤ c_ ∧ RdI w A_ p.gain ∧ ∀ a_, A_ = some a_ → B0 ≤ a_.block := f5
      replace f9 : w.heap[g1]? = some (.cells #[.slice A1 p.A.length c1, (s 27), .int .i64 il, .int .i64 ih, .slice aW p.W.length cW, .slice aI p.Inv.length cI, .slice aS p.Safe.length cS, (s 30), .int .i64 bi] 28 (0, 0)) := f9
      have hk_g1 := f9
      obtain ⟨aB', cB', eB, kB', rB, oB⟩ := f2
      obtain ⟨aG', cG', eG, kG', rG, oG⟩ := f5
      replace oB : Off X aB' p.B.length := Off.of oB hXB
      replace oG : Off X aG' p.gain.length := Off.of oG hXB
      clear hXB
      replace hRow : p.A.length = 0 ∨ ∃ gA, A1 = some ⟨gA, 0, none⟩ ∧ RowB w X gA 23 p.A.length p.A ∧ w0.heap.size ≤ gA ∧ gA ≠ g1 ∧ gA ≠ g2 := by
        rcases hRow with h | ⟨gA, e1, e2, e3, e4, e5⟩
        · exact Or.inl h
        · exact Or.inr ⟨gA, e1, e2.keepX (fun h => by rcases hXb _ h with h | h; exact e4 h; exact e5 h) hkp, e3, e4, e5⟩
      rw [eB, eG] at hk_g1
      clear f9 hkp c0_hkp c0_hsz hw0B0 c0_hk_g1 c0_lt_g1 c0_hk_g2 c0_lt_g2 c0_hbw hsz lt_g2 lt_g1
      rw [eB, eG]
      generalize s 25 = t25
      generalize s 26 = t26
      generalize s 28 = t28
      generalize s 29 = t29
      generalize s 31 = t31
      generalize s 32 = t32
      clear eB eG s
      obtain ⟨w7, hw7⟩ : ∃ z : World, z = w := ⟨_, rfl⟩
      subst hw7
      go_upto_region 8 with fail
      have c0_rB := rB.below (bl_drew (Below.refl w7.heap.size w7))
      have c0_rG := rG.below (bl_drew (Below.refl w7.heap.size w7))
      have c0_hRow : p.A.length = 0 ∨ ∃ gA, A1 = some ⟨gA, 0, none⟩ ∧ RowB w7.drew X gA 23 p.A.length p.A ∧ ¬ X gA := by
        rcases hRow with h | ⟨gA, e1, e2, e3, e4, e5⟩
        · exact Or.inl h
        · exact Or.inr ⟨gA, e1, e2.below (bl_drew (Below.refl w7.heap.size w7)), fun h => by rcases hXb _ h with h | h; exact e4 h; exact e5 h⟩
      clear rB rG hRow
      obtain ⟨B1, hB1⟩ : ∃ B, B = w7.heap.size := ⟨_, rfl⟩
      have c0_hsz : B1 ≤ w7.heap.size := Nat.le_of_eq hB1
      have hw0B1 : w0.heap.size ≤ B1 := by rw [hB1]; exact hbw.size
      have c0_hle : w7.heap.size ≤ B1 := Nat.le_of_eq hB1.symm
      have c0_hk_g1 := blk_drew hk_g1
      have c0_lt_g1 : g1 < B1 := by rw [hB1]; exact blk_lt hk_g1
      have c0_hk_g2 := blk_drew hk_g2
      have c0_lt_g2 : g2 < B1 := by rw [hB1]; exact blk_lt hk_g2
      have c0_hbw := bl_drew hbw
      clear hB1 hbw hk_g1 hk_g2
      have hXB : ∀ k, X k → k < B1 := fun k hk => by rcases hXb k hk with rfl | rfl <;> assumption
      refine region_linM (n := 15) (st := ?st3) { R := [0, 1, 3, 0, 8, 31, 0, 64, 255, 223, 1023, 2047, 4095, 8191, 16383], kill := [[], [], [], [], [], [], [], [], [], [], [12, 14], [], [14], [], [], [10, 12, 14]], cls := [0, 0, 0, 0, 0, 0, 0, 0, 0, 0, 1, 0, 1, 0, 1], dst := [some 33, some 34, some 35, some 36, some 37, some 38, some 39, some 40, some 41, some 42, none, some 43, none, some 44, none], pre := [[], [0, 15], [1], [], [3, 15], [4], [], [6, 15], [7], [], [9, 2, 15], [], [11, 5, 10], [], [13, 8, 12]], cov := [(0, 2), (0, 5), (0, 8), (0, 10), (0, 12), (0, 15), (1, 2), (1, 5), (1, 8)], fin := [2, 5, 8, 14], locs := [], tgt := [none, none], abt := [none, none, none, none, none, none, none, none, none, none, none, none, none, none, none], m := 1 }
        [.v [33] (fun vs => (vs.getD 0 undef) = .pointer (some ⟨g1, 4, none⟩)),
         .v [34] (fun vs => (vs.getD 0 undef) = .slice aW p.W.length cW),
         .w [35] (fun vs w => ∃ (A_ : Option Addr) (c_ : Nat), (vs.getD 0 undef) = .slice A_ p.W.length c_ ∧ p.W.length ≤ c_ ∧ RdS w A_ p.W ∧ ∀ a_, A_ = some a_ → B1 ≤ a_.block),
         .v [36] (fun vs => (vs.getD 0 undef) = .pointer (some ⟨g1, 5, none⟩)),
         .v [37] (fun vs => (vs.getD 0 undef) = .slice aI p.Inv.length cI),
         .w [38] (fun vs w => ∃ (A_ : Option Addr) (c_ : Nat), (vs.getD 0 undef) = .slice A_ p.Inv.length c_ ∧ p.Inv.length ≤ c_ ∧ RdS w A_ p.Inv ∧ ∀ a_, A_ = some a_ → B1 ≤ a_.block),
         .v [39] (fun vs => (vs.getD 0 undef) = .pointer (some ⟨g1, 6, none⟩)),
         .v [40] (fun vs => (vs.getD 0 undef) = .slice aS p.Safe.length cS),
         .w [41] (fun vs w => ∃ (A_ : Option Addr) (c_ : Nat), (vs.getD 0 undef) = .slice A_ p.Safe.length c_ ∧ p.Safe.length ≤ c_ ∧ RdS w A_ p.Safe ∧ ∀ a_, A_ = some a_ → B1 ≤ a_.block),
         .v [42] (fun vs => (vs.getD 0 undef) = .pointer (some ⟨g1, 4, none⟩)),
         .w [35] (fun vs w => w.heap[g1]? = some (.cells #[.slice A1 p.A.length c1, .slice aB' p.B.length cB', .int .i64 il, .int .i64 ih, (vs.getD 0 undef), .slice aI p.Inv.length cI, .slice aS p.Safe.length cS, .slice aG' p.gain.length cG', .int .i64 bi] 28 (0, 0))),
         .v [43] (fun vs => (vs.getD 0 undef) = .pointer (some ⟨g1, 5, none⟩)),
         .w [35, 38] (fun vs w => w.heap[g1]? = some (.cells #[.slice A1 p.A.length c1, .slice aB' p.B.length cB', .int .i64 il, .int .i64 ih, (vs.getD 0 undef), (vs.getD 1 undef), .slice aS p.Safe.length cS, .slice aG' p.gain.length cG', .int .i64 bi] 28 (0, 0))),
         .v [44] (fun vs => (vs.getD 0 undef) = .pointer (some ⟨g1, 6, none⟩)),
         .w [35, 38, 41] (fun vs w => w.heap[g1]? = some (.cells #[.slice A1 p.A.length c1, .slice aB' p.B.length cB', .int .i64 il, .int .i64 ih, (vs.getD 0 undef), (vs.getD 1 undef), (vs.getD 2 undef), .slice aG' p.gain.length cG', .int .i64 bi] 28 (0, 0))),
         .w [] (fun vs w => w.heap[g1]? = some (.cells #[.slice A1 p.A.length c1, .slice aB' p.B.length cB', .int .i64 il, .int .i64 ih, .slice aW p.W.length cW, .slice aI p.Inv.length cI, .slice aS p.Safe.length cS, .slice aG' p.gain.length cG', .int .i64 bi] 28 (0, 0)))]
        (fun w => B1 ≤ w.heap.size ∧ w.heap[g2]? = some (.cells #[.slice none 0 0, .slice none 0 0, .int .i64 0, .int .i64 0, .slice none 0 0, .slice none 0 0, .slice none 0 0, .slice none 0 0, .int .i64 0] 28 (0, 0)) ∧ g2 < B1 ∧ g1 < B1 ∧ Below w0.heap.size w0 w ∧ (p.A.length = 0 ∨ ∃ gA, A1 = some ⟨gA, 0, none⟩ ∧ RowB w X gA 23 p.A.length p.A ∧ ¬ X gA) ∧ RdI w aB' p.B ∧ RdI w aG' p.gain)
        (fun c => ([fun s w w' => Below w.heap.size w w', fun s w w' => w' = w ∨ ((∀ k o, k ≠ g1 → w.heap[k]? = some o → w'.heap[k]? = some o) ∧ w'.heap.size = w.heap.size ∧ Below g1 w w')] : List ((Nat → Value) → World → World → Prop)).getD c (fun s w w' => w' = w))
        [33, 34, 35, 36, 37, 38, 39, 40, 41, 42, 43, 44] (by kernel_rfl) ⟨by kernel_rfl, by kernel_rfl, by kernel_rfl, by kernel_rfl, by kernel_rfl, by kernel_rfl, by kernel_rfl, by kernel_rfl⟩ (fun s => ?_) ?_ ?_ ?_ ?_ ?_ ?_ (fun s w hC hA => ?_)
      rotate_left
      · simp only [fillS, List.foldl, List.setIfInBounds_toArray, List.set_cons_zero, List.set_cons_succ]; rfl
      · exact ⟨c0_hsz, c0_hk_g2, c0_lt_g2, c0_lt_g1, c0_hbw, c0_hRow, c0_rB, c0_rG⟩
      · exact ⟨c0_hk_g1, trivial⟩
      · intro c s w w' hE
        match c, hE with
        | 0, hE => exact Below.size hE
        | 1, hE => replace hE : w' = w ∨ ((∀ k o, k ≠ g1 → w.heap[k]? = some o → w'.heap[k]? = some o) ∧ w'.heap.size = w.heap.size ∧ Below g1 w w') := hE; rcases hE with hE | ⟨_, hE, _⟩; exact Nat.le_of_eq (by rw [hE]); exact Nat.le_of_eq hE.symm
        | c + 2, hE => cases hE; exact Nat.le_refl _
      · rintro c s w w' ⟨hsz, hk_g2, lt_g2, lt_g1, hbw, hRow, rB, rG⟩ hE
        match c, hE with
        | 0, hE => replace hE : Below w.heap.size w w' := hE; exact ⟨Nat.le_trans hsz hE.size, bl_block hE hk_g2, lt_g2, lt_g1, bl_step hbw hE, hRow.imp id fun ⟨gA_, e1_, e2_, e3_⟩ => ⟨gA_, e1_, e2_.below hE, e3_⟩, rB.below hE, rG.below hE⟩
        | 1, hE =>
          replace hE : w' = w ∨ ((∀ k o, k ≠ g1 → w.heap[k]? = some o → w'.heap[k]? = some o) ∧ w'.heap.size = w.heap.size ∧ Below g1 w w') := hE
          rcases hE with rfl | ⟨hkeep, hsz_, hBl⟩
          · exact ⟨hsz, hk_g2, lt_g2, lt_g1, hbw, hRow, rB, rG⟩
          · exact ⟨by omega, hkeep _ _ n_g2_g1 hk_g2, lt_g2, lt_g1, hbw.trans (Below.mono hBl hle_g1), hRow.imp id fun ⟨gA_, e1_, e2_, e3_⟩ => ⟨gA_, e1_, e2_.keepX e3_ (KeepX.of1 hkeep X1), e3_⟩, rB.keepX (KeepX.of1 hkeep X1) oB, rG.keepX (KeepX.of1 hkeep X1) oG⟩
        | c + 2, hE => cases hE; exact ⟨hsz, hk_g2, lt_g2, lt_g1, hbw, hRow, rB, rG⟩
      · refine ⟨?_, ?_, ?_, ?_, ?_, ?_, ?_, ?_, ?_, trivial⟩
        · intro s w w' hD hC hE hF
          replace hF : ∃ (A_ : Option Addr) (c_ : Nat), (s 35) = .slice A_ p.W.length c_ ∧ p.W.length ≤ c_ ∧ RdS w A_ p.W ∧ ∀ a_, A_ = some a_ → B1 ≤ a_.block := hF
          show ∃ (A_ : Option Addr) (c_ : Nat), (s 35) = .slice A_ p.W.length c_ ∧ p.W.length ≤ c_ ∧ RdS w' A_ p.W ∧ ∀ a_, A_ = some a_ → B1 ≤ a_.block
          replace hE : Below w.heap.size w w' := hE
          obtain ⟨A_, c_, h1, h2, h3, h4⟩ := hF
          exact ⟨A_, c_, h1, h2, h3.below hE, h4⟩
        · intro s w w' hD hC hE hF
          replace hF : ∃ (A_ : Option Addr) (c_ : Nat), (s 38) = .slice A_ p.Inv.length c_ ∧ p.Inv.length ≤ c_ ∧ RdS w A_ p.Inv ∧ ∀ a_, A_ = some a_ → B1 ≤ a_.block := hF
          show ∃ (A_ : Option Addr) (c_ : Nat), (s 38) = .slice A_ p.Inv.length c_ ∧ p.Inv.length ≤ c_ ∧ RdS w' A_ p.Inv ∧ ∀ a_, A_ = some a_ → B1 ≤ a_.block
          replace hE : Below w.heap.size w w' := hE
          obtain ⟨A_, c_, h1, h2, h3, h4⟩ := hF
          exact ⟨A_, c_, h1, h2, h3.below hE, h4⟩
        · intro s w w' hD hC hE hF
          replace hF : ∃ (A_ : Option Addr) (c_ : Nat), (s 41) = .slice A_ p.Safe.length c_ ∧ p.Safe.length ≤ c_ ∧ RdS w A_ p.Safe ∧ ∀ a_, A_ = some a_ → B1 ≤ a_.block := hF
          show ∃ (A_ : Option Addr) (c_ : Nat), (s 41) = .slice A_ p.Safe.length c_ ∧ p.Safe.length ≤ c_ ∧ RdS w' A_ p.Safe ∧ ∀ a_, A_ = some a_ → B1 ≤ a_.block
          replace hE : Below w.heap.size w w' := hE
          obtain ⟨A_, c_, h1, h2, h3, h4⟩ := hF
          exact ⟨A_, c_, h1, h2, h3.below hE, h4⟩
        · intro s w w' hD hC hE hF
          replace hF : w.heap[g1]? = some (.cells #[.slice A1 p.A.length c1, .slice aB' p.B.length cB', .int .i64 il, .int .i64 ih, (s 35), .slice aI p.Inv.length cI, .slice aS p.Safe.length cS, .slice aG' p.gain.length cG', .int .i64 bi] 28 (0, 0)) := hF
          show w'.heap[g1]? = some (.cells #[.slice A1 p.A.length c1, .slice aB' p.B.length cB', .int .i64 il, .int .i64 ih, (s 35), .slice aI p.Inv.length cI, .slice aS p.Safe.length cS, .slice aG' p.gain.length cG', .int .i64 bi] 28 (0, 0))
          replace hE : Below w.heap.size w w' := hE
          exact bl_block hE (hF)
        · intro s w w' hD hC hE hF
          replace hF : w.heap[g1]? = some (.cells #[.slice A1 p.A.length c1, .slice aB' p.B.length cB', .int .i64 il, .int .i64 ih, (s 35), (s 38), .slice aS p.Safe.length cS, .slice aG' p.gain.length cG', .int .i64 bi] 28 (0, 0)) := hF
          show w'.heap[g1]? = some (.cells #[.slice A1 p.A.length c1, .slice aB' p.B.length cB', .int .i64 il, .int .i64 ih, (s 35), (s 38), .slice aS p.Safe.length cS, .slice aG' p.gain.length cG', .int .i64 bi] 28 (0, 0))
          replace hE : Below w.heap.size w w' := hE
          exact bl_block hE (hF)
        · intro s w w' hD hC hE hF
          replace hF : w.heap[g1]? = some (.cells #[.slice A1 p.A.length c1, .slice aB' p.B.length cB', .int .i64 il, .int .i64 ih, .slice aW p.W.length cW, .slice aI p.Inv.length cI, .slice aS p.Safe.length cS, .slice aG' p.gain.length cG', .int .i64 bi] 28 (0, 0)) := hF
          show w'.heap[g1]? = some (.cells #[.slice A1 p.A.length c1, .slice aB' p.B.length cB', .int .i64 il, .int .i64 ih, .slice aW p.W.length cW, .slice aI p.Inv.length cI, .slice aS p.Safe.length cS, .slice aG' p.gain.length cG', .int .i64 bi] 28 (0, 0))
          replace hE : Below w.heap.size w w' := hE
          exact bl_block hE (hF)
        · intro s w w' hD hC hE hF
          replace hF : ∃ (A_ : Option Addr) (c_ : Nat), (s 35) = .slice A_ p.W.length c_ ∧ p.W.length ≤ c_ ∧ RdS w A_ p.W ∧ ∀ a_, A_ = some a_ → B1 ≤ a_.block := hF
          show ∃ (A_ : Option Addr) (c_ : Nat), (s 35) = .slice A_ p.W.length c_ ∧ p.W.length ≤ c_ ∧ RdS w' A_ p.W ∧ ∀ a_, A_ = some a_ → B1 ≤ a_.block
          replace hE : w' = w ∨ ((∀ k o, k ≠ g1 → w.heap[k]? = some o → w'.heap[k]? = some o) ∧ w'.heap.size = w.heap.size ∧ Below g1 w w') := hE
          rcases hE with rfl | ⟨hkeep, hsz_, hBl⟩
          · exact hF
          obtain ⟨A_, c_, h1, h2, h3, h4⟩ := hF
          exact ⟨A_, c_, h1, h2, h3.keepX (KeepX.of1 hkeep X1) (Off.of h4 hXB), h4⟩
        · intro s w w' hD hC hE hF
          replace hF : ∃ (A_ : Option Addr) (c_ : Nat), (s 38) = .slice A_ p.Inv.length c_ ∧ p.Inv.length ≤ c_ ∧ RdS w A_ p.Inv ∧ ∀ a_, A_ = some a_ → B1 ≤ a_.block := hF
          show ∃ (A_ : Option Addr) (c_ : Nat), (s 38) = .slice A_ p.Inv.length c_ ∧ p.Inv.length ≤ c_ ∧ RdS w' A_ p.Inv ∧ ∀ a_, A_ = some a_ → B1 ≤ a_.block
          replace hE : w' = w ∨ ((∀ k o, k ≠ g1 → w.heap[k]? = some o → w'.heap[k]? = some o) ∧ w'.heap.size = w.heap.size ∧ Below g1 w w') := hE
          rcases hE with rfl | ⟨hkeep, hsz_, hBl⟩
          · exact hF
          obtain ⟨A_, c_, h1, h2, h3, h4⟩ := hF
          exact ⟨A_, c_, h1, h2, h3.keepX (KeepX.of1 hkeep X1) (Off.of h4 hXB), h4⟩
        · intro s w w' hD hC hE hF
          replace hF : ∃ (A_ : Option Addr) (c_ : Nat), (s 41) = .slice A_ p.Safe.length c_ ∧ p.Safe.length ≤ c_ ∧ RdS w A_ p.Safe ∧ ∀ a_, A_ = some a_ → B1 ≤ a_.block := hF
          show ∃ (A_ : Option Addr) (c_ : Nat), (s 41) = .slice A_ p.Safe.length c_ ∧ p.Safe.length ≤ c_ ∧ RdS w' A_ p.Safe ∧ ∀ a_, A_ = some a_ → B1 ≤ a_.block
          replace hE : w' = w ∨ ((∀ k o, k ≠ g1 → w.heap[k]? = some o → w'.heap[k]? = some o) ∧ w'.heap.size = w.heap.size ∧ Below g1 w w') := hE
          rcases hE with rfl | ⟨hkeep, hsz_, hBl⟩
          · exact hF
          obtain ⟨A_, c_, h1, h2, h3, h4⟩ := hF
          exact ⟨A_, c_, h1, h2, h3.keepX (KeepX.of1 hkeep X1) (Off.of h4 hXB), h4⟩
      · skip
        refine StepsP.cons ?_ ?_
        · intro Q s w hC hA K hK
          clear hC
          clear hA
          refine guard_none (by rfl) ?_
          refine wp_value (v := .pointer (some ⟨g1, 4, none⟩)) (w1 := w) ?_ (hK.out _ w (Below.refl _ _) rfl (fun h => by cases h))
          go_simp
          try (first | done | rfl | (simp; done))
        refine StepsP.cons ?_ ?_
        · intro Q s w hC hA K hK
          obtain ⟨hsz, hk_g2, lt_g2, lt_g1, hbw, hRow, rB, rG⟩ := hC
          obtain ⟨f0, f15, -⟩ := hA
          replace f0 : (s 33) = .pointer (some ⟨g1, 4, none⟩) := f0
          replace f15 : w.heap[g1]? = some (.cells #[.slice A1 p.A.length c1, .slice aB' p.B.length cB', .int .i64 il, .int .i64 ih, .slice aW p.W.length cW, .slice aI p.Inv.length cI, .slice aS p.Safe.length cS, .slice aG' p.gain.length cG', .int .i64 bi] 28 (0, 0)) := f15
          refine guard_none (by rfl) ?_
          have hk_g1 := f15
          have m0_g1 : w.cell? ⟨g1, 0, none⟩ = some (.slice A1 p.A.length c1) := blk_cell hk_g1 0 (by rfl)
          have m1_g1 : w.cell? ⟨g1, 1, none⟩ = some (.slice aB' p.B.length cB') := blk_cell hk_g1 1 (by rfl)
          have m2_g1 : w.cell? ⟨g1, 2, none⟩ = some (.int .i64 il) := blk_cell hk_g1 2 (by rfl)
          have m3_g1 : w.cell? ⟨g1, 3, none⟩ = some (.int .i64 ih) := blk_cell hk_g1 3 (by rfl)
          have m4_g1 : w.cell? ⟨g1, 4, none⟩ = some (.slice aW p.W.length cW) := blk_cell hk_g1 4 (by rfl)
          have m5_g1 : w.cell? ⟨g1, 5, none⟩ = some (.slice aI p.Inv.length cI) := blk_cell hk_g1 5 (by rfl)
          have m6_g1 : w.cell? ⟨g1, 6, none⟩ = some (.slice aS p.Safe.length cS) := blk_cell hk_g1 6 (by rfl)
          have m7_g1 : w.cell? ⟨g1, 7, none⟩ = some (.slice aG' p.gain.length cG') := blk_cell hk_g1 7 (by rfl)
          have m8_g1 : w.cell? ⟨g1, 8, none⟩ = some (.int .i64 bi) := blk_cell hk_g1 8 (by rfl)
          refine wp_value (v := .slice aW p.W.length cW) (w1 := w) ?_ (hK.out _ w (Below.refl _ _) rfl (fun h => by cases h))
          try simp only [f0]
          go_simp
          try (first | done | rfl | (simp; done))
        refine StepsP.cons ?_ ?_
        · intro Q s w hC hA K hK
          obtain ⟨hsz, hk_g2, lt_g2, lt_g1, hbw, hRow, rB, rG⟩ := hC
          obtain ⟨f1, -⟩ := hA
          replace f1 : (s 34) = .slice aW p.W.length cW := f1
          refine guard_none (by rfl) ?_
          refine wp_call (N := some 35) (by rfl) Try.func74 (by kernel_rfl) #[.slice aW p.W.length cW] rfl (by rfl) ?_ ?_
          · show [s 34] = [.slice aW p.W.length cW]
            first | rfl | simp only [f1]
          refine (CloneS_calls aW p.W cW _ (hW.below hbw) lW).mono ?_
          rintro e w1 ⟨A_, c_, rfl, h2, h3, h4, hb⟩
          refine ⟨_, rfl, ?_⟩
          exact hK.out _ _ hb ⟨A_, c_, rfl, h2, h3, fun a_ ha_ => Nat.le_trans hsz (h4 a_ ha_)⟩ (fun h => by cases h)
        refine StepsP.cons ?_ ?_
        · intro Q s w hC hA K hK
          clear hC
          clear hA
          refine guard_none (by rfl) ?_
          refine wp_value (v := .pointer (some ⟨g1, 5, none⟩)) (w1 := w) ?_ (hK.out _ w (Below.refl _ _) rfl (fun h => by cases h))
          go_simp
          try (first | done | rfl | (simp; done))
        refine StepsP.cons ?_ ?_
        · intro Q s w hC hA K hK
          obtain ⟨hsz, hk_g2, lt_g2, lt_g1, hbw, hRow, rB, rG⟩ := hC
          obtain ⟨f3, f15, -⟩ := hA
          replace f3 : (s 36) = .pointer (some ⟨g1, 5, none⟩) := f3
          replace f15 : w.heap[g1]? = some (.cells #[.slice A1 p.A.length c1, .slice aB' p.B.length cB', .int .i64 il, .int .i64 ih, .slice aW p.W.length cW, .slice aI p.Inv.length cI, .slice aS p.Safe.length cS, .slice aG' p.gain.length cG', .int .i64 bi] 28 (0, 0)) := f15
          refine guard_none (by rfl) ?_
          have hk_g1 := f15
          have m0_g1 : w.cell? ⟨g1, 0, none⟩ = some (.slice A1 p.A.length c1) := blk_cell hk_g1 0 (by rfl)
          have m1_g1 : w.cell? ⟨g1, 1, none⟩ = some (.slice aB' p.B.length cB') := blk_cell hk_g1 1 (by rfl)
          have m2_g1 : w.cell? ⟨g1, 2, none⟩ = some (.int .i64 il) := blk_cell hk_g1 2 (by rfl)
          have m3_g1 : w.cell? ⟨g1, 3, none⟩ = some (.int .i64 ih) := blk_cell hk_g1 3 (by rfl)
          have m4_g1 : w.cell? ⟨g1, 4, none⟩ = some (.slice aW p.W.length cW) := blk_cell hk_g1 4 (by rfl)
          have m5_g1 : w.cell? ⟨g1, 5, none⟩ = some (.slice aI p.Inv.length cI) := blk_cell hk_g1 5 (by rfl)
          have m6_g1 : w.cell? ⟨g1, 6, none⟩ = some (.slice aS p.Safe.length cS) := blk_cell hk_g1 6 (by rfl)
          have m7_g1 : w.cell? ⟨g1, 7, none⟩ = some (.slice aG' p.gain.length cG') := blk_cell hk_g1 7 (by rfl)
          have m8_g1 : w.cell? ⟨g1, 8, none⟩ = some (.int .i64 bi) := blk_cell hk_g1 8 (by rfl)
          refine wp_value (v := .slice aI p.Inv.length cI) (w1 := w) ?_ (hK.out _ w (Below.refl _ _) rfl (fun h => by cases h))
          try simp only [f3]
          go_simp
          try (first | done | rfl | (simp; done))
        refine StepsP.cons ?_ ?_
        · intro Q s w hC hA K hK
          obtain ⟨hsz, hk_g2, lt_g2, lt_g1, hbw, hRow, rB, rG⟩ := hC
          obtain ⟨f4, -⟩ := hA
          replace f4 : (s 37) = .slice aI p.Inv.length cI := f4
          refine guard_none (by rfl) ?_
          refine wp_call (N := some 38) (by rfl) Try.func74 (by kernel_rfl) #[.slice aI p.Inv.length cI] rfl (by rfl) ?_ ?_
          · show [s 37] = [.slice aI p.Inv.length cI]
            first | rfl | simp only [f4]
          refine (CloneS_calls aI p.Inv cI _ (hI.below hbw) lI).mono ?_
          rintro e w1 ⟨A_, c_, rfl, h2, h3, h4, hb⟩
          refine ⟨_, rfl, ?_⟩
          exact hK.out _ _ hb ⟨A_, c_, rfl, h2, h3, fun a_ ha_ => Nat.le_trans hsz (h4 a_ ha_)⟩ (fun h => by cases h)
        refine StepsP.cons ?_ ?_
        · intro Q s w hC hA K hK
          clear hC
          clear hA
          refine guard_none (by rfl) ?_
          refine wp_value (v := .pointer (some ⟨g1, 6, none⟩)) (w1 := w) ?_ (hK.out _ w (Below.refl _ _) rfl (fun h => by cases h))
          go_simp
          try (first | done | rfl | (simp; done))
        refine StepsP.cons ?_ ?_
        · intro Q s w hC hA K hK
          obtain ⟨hsz, hk_g2, lt_g2, lt_g1, hbw, hRow, rB, rG⟩ := hC
          obtain ⟨f6, f15, -⟩ := hA
          replace f6 : (s 39) = .pointer (some ⟨g1, 6, none⟩) := f6
          replace f15 : w.heap[g1]? = some (.cells #[.slice A1 p.A.length c1, .slice aB' p.B.length cB', .int .i64 il, .int .i64 ih, .slice aW p.W.length cW, .slice aI p.Inv.length cI, .slice aS p.Safe.length cS, .slice aG' p.gain.length cG', .int .i64 bi] 28 (0, 0)) := f15
          refine guard_none (by rfl) ?_
          have hk_g1 := f15
          have m0_g1 : w.cell? ⟨g1, 0, none⟩ = some (.slice A1 p.A.length c1) := blk_cell hk_g1 0 (by rfl)
          have m1_g1 : w.cell? ⟨g1, 1, none⟩ = some (.slice aB' p.B.length cB') := blk_cell hk_g1 1 (by rfl)
          have m2_g1 : w.cell? ⟨g1, 2, none⟩ = some (.int .i64 il) := blk_cell hk_g1 2 (by rfl)
          have m3_g1 : w.cell? ⟨g1, 3, none⟩ = some (.int .i64 ih) := blk_cell hk_g1 3 (by rfl)
          have m4_g1 : w.cell? ⟨g1, 4, none⟩ = some (.slice aW p.W.length cW) := blk_cell hk_g1 4 (by rfl)
          have m5_g1 : w.cell? ⟨g1, 5, none⟩ = some (.slice aI p.Inv.length cI) := blk_cell hk_g1 5 (by rfl)
          have m6_g1 : w.cell? ⟨g1, 6, none⟩ = some (.slice aS p.Safe.length cS) := blk_cell hk_g1 6 (by rfl)
          have m7_g1 : w.cell? ⟨g1, 7, none⟩ = some (.slice aG' p.gain.length cG') := blk_cell hk_g1 7 (by rfl)
          have m8_g1 : w.cell? ⟨g1, 8, none⟩ = some (.int .i64 bi) := blk_cell hk_g1 8 (by rfl)
          refine wp_value (v := .slice aS p.Safe.length cS) (w1 := w) ?_ (hK.out _ w (Below.refl _ _) rfl (fun h => by cases h))
          try simp only [f6]
          go_simp
          try (first | done | rfl | (simp; done))
        refine StepsP.cons ?_ ?_
        · intro Q s w hC hA K hK
          obtain ⟨hsz, hk_g2, lt_g2, lt_g1, hbw, hRow, rB, rG⟩ := hC
          obtain ⟨f7, -⟩ := hA
          replace f7 : (s 40) = .slice aS p.Safe.length cS := f7
          refine guard_none (by rfl) ?_
          refine wp_call (N := some 41) (by rfl) Try.func74 (by kernel_rfl) #[.slice aS p.Safe.length cS] rfl (by rfl) ?_ ?_
          · show [s 40] = [.slice aS p.Safe.length cS]
            first | rfl | simp only [f7]
          refine (CloneS_calls aS p.Safe cS _ (hS.below hbw) lS).mono ?_
          rintro e w1 ⟨A_, c_, rfl, h2, h3, h4, hb⟩
          refine ⟨_, rfl, ?_⟩
          exact hK.out _ _ hb ⟨A_, c_, rfl, h2, h3, fun a_ ha_ => Nat.le_trans hsz (h4 a_ ha_)⟩ (fun h => by cases h)
        refine StepsP.cons ?_ ?_
        · intro Q s w hC hA K hK
          clear hC
          clear hA
          refine guard_none (by rfl) ?_
          refine wp_value (v := .pointer (some ⟨g1, 4, none⟩)) (w1 := w) ?_ (hK.out _ w (Below.refl _ _) rfl (fun h => by cases h))
          go_simp
          try (first | done | rfl | (simp; done))
        refine StepsP.cons ?_ ?_
        · intro Q s w hC hA K hK
          obtain ⟨hsz, hk_g2, lt_g2, lt_g1, hbw, hRow, rB, rG⟩ := hC
          obtain ⟨f9, f2, f15, -⟩ := hA
          replace f9 : (s 42) = .pointer (some ⟨g1, 4, none⟩) := f9
          replace f2 : ∃ (A_ : Option Addr) (c_ : Nat), (s 35) = .slice A_ p.W.length c_ ∧ p.W.length ≤ c_ ∧ RdS w A_ p.W ∧ ∀ a_, A_ = some a_ → B1 ≤ a_.block := f2
          replace f15 : w.heap[g1]? = some (.cells #[.slice A1 p.A.length c1, .slice aB' p.B.length cB', .int .i64 il, .int .i64 ih, .slice aW p.W.length cW, .slice aI p.Inv.length cI, .slice aS p.Safe.length cS, .slice aG' p.gain.length cG', .int .i64 bi] 28 (0, 0)) := f15
          refine guard_none (by rfl) ?_
          have hk_g1 := f15
          obtain ⟨A_, c_, hA_, -, -, -⟩ := f2
          have m0_g1 : w.cell? ⟨g1, 0, none⟩ = some (.slice A1 p.A.length c1) := blk_cell hk_g1 0 (by rfl)
          have z0_g1 : w.frozen? ⟨g1, 0, none⟩ = false := blkf hk_g1 0
          have m1_g1 : w.cell? ⟨g1, 1, none⟩ = some (.slice aB' p.B.length cB') := blk_cell hk_g1 1 (by rfl)
          have z1_g1 : w.frozen? ⟨g1, 1, none⟩ = false := blkf hk_g1 1
          have m2_g1 : w.cell? ⟨g1, 2, none⟩ = some (.int .i64 il) := blk_cell hk_g1 2 (by rfl)
          have z2_g1 : w.frozen? ⟨g1, 2, none⟩ = false := blkf hk_g1 2
          have m3_g1 : w.cell? ⟨g1, 3, none⟩ = some (.int .i64 ih) := blk_cell hk_g1 3 (by rfl)
          have z3_g1 : w.frozen? ⟨g1, 3, none⟩ = false := blkf hk_g1 3
          have m4_g1 : w.cell? ⟨g1, 4, none⟩ = some (.slice aW p.W.length cW) := blk_cell hk_g1 4 (by rfl)
          have z4_g1 : w.frozen? ⟨g1, 4, none⟩ = false := blkf hk_g1 4
          have m5_g1 : w.cell? ⟨g1, 5, none⟩ = some (.slice aI p.Inv.length cI) := blk_cell hk_g1 5 (by rfl)
          have z5_g1 : w.frozen? ⟨g1, 5, none⟩ = false := blkf hk_g1 5
          have m6_g1 : w.cell? ⟨g1, 6, none⟩ = some (.slice aS p.Safe.length cS) := blk_cell hk_g1 6 (by rfl)
          have z6_g1 : w.frozen? ⟨g1, 6, none⟩ = false := blkf hk_g1 6
          have m7_g1 : w.cell? ⟨g1, 7, none⟩ = some (.slice aG' p.gain.length cG') := blk_cell hk_g1 7 (by rfl)
          have z7_g1 : w.frozen? ⟨g1, 7, none⟩ = false := blkf hk_g1 7
          have m8_g1 : w.cell? ⟨g1, 8, none⟩ = some (.int .i64 bi) := blk_cell hk_g1 8 (by rfl)
          have z8_g1 : w.frozen? ⟨g1, 8, none⟩ = false := blkf hk_g1 8
          refine wp_skip_ (w1 := (w.setCell ⟨g1, 4, none⟩ (.slice A_ p.W.length c_))) ?_ (hK.out undef _ (Or.inr ⟨fun k_ o_ hne_ h_ => (blk_far h_ (a := ⟨g1, 4, none⟩) (Ne.symm hne_) (.slice A_ p.W.length c_)), by simp [World.setCell], (Below.setCell (Below.refl _ _) (p := ⟨g1, 4, none⟩) (Nat.le_refl _) (.slice A_ p.W.length c_))⟩) (by show (w.setCell ⟨g1, 4, none⟩ (.slice A_ p.W.length c_)).heap[g1]? = some (.cells #[.slice A1 p.A.length c1, .slice aB' p.B.length cB', .int .i64 il, .int .i64 ih, (s 35), .slice aI p.Inv.length cI, .slice aS p.Safe.length cS, .slice aG' p.gain.length cG', .int .i64 bi] 28 (0, 0)); rw [hA_]; exact (blk_set hk_g1 4 (.slice A_ p.W.length c_))) (fun h => by cases h))
          try simp only [f9, hA_]
          go_simp
          try rfl
        refine StepsP.cons ?_ ?_
        · intro Q s w hC hA K hK
          clear hC
          clear hA
          refine guard_none (by rfl) ?_
          refine wp_value (v := .pointer (some ⟨g1, 5, none⟩)) (w1 := w) ?_ (hK.out _ w (Below.refl _ _) rfl (fun h => by cases h))
          go_simp
          try (first | done | rfl | (simp; done))
        refine StepsP.cons ?_ ?_
        · intro Q s w hC hA K hK
          obtain ⟨hsz, hk_g2, lt_g2, lt_g1, hbw, hRow, rB, rG⟩ := hC
          obtain ⟨f11, f5, f10, -⟩ := hA
          replace f11 : (s 43) = .pointer (some ⟨g1, 5, none⟩) := f11
          replace f5 : ∃ (A_ : Option Addr) (c_ : Nat), (s 38) = .slice A_ p.Inv.length c_ ∧ p.Inv.length ≤ c_ ∧ RdS w A_ p.Inv ∧ ∀ a_, A_ = some a_ → B1 ≤ a_.block := f5
          replace f10 : w.heap[g1]? = some (.cells #[.slice A1 p.A.length c1, .slice aB' p.B.length cB', .int .i64 il, .int .i64 ih, (s 35), .slice aI p.Inv.length cI, .slice aS p.Safe.length cS, .slice aG' p.gain.length cG', .int .i64 bi] 28 (0, 0)) := f10
          refine guard_none (by rfl) ?_
          have hk_g1 := f10
          obtain ⟨A_, c_, hA_, -, -, -⟩ := f5
          have m0_g1 : w.cell? ⟨g1, 0, none⟩ = some (.slice A1 p.A.length c1) := blk_cell hk_g1 0 (by rfl)
          have z0_g1 : w.frozen? ⟨g1, 0, none⟩ = false := blkf hk_g1 0
          have m1_g1 : w.cell? ⟨g1, 1, none⟩ = some (.slice aB' p.B.length cB') := blk_cell hk_g1 1 (by rfl)
          have z1_g1 : w.frozen? ⟨g1, 1, none⟩ = false := blkf hk_g1 1
          have m2_g1 : w.cell? ⟨g1, 2, none⟩ = some (.int .i64 il) := blk_cell hk_g1 2 (by rfl)
          have z2_g1 : w.frozen? ⟨g1, 2, none⟩ = false := blkf hk_g1 2
          have m3_g1 : w.cell? ⟨g1, 3, none⟩ = some (.int .i64 ih) := blk_cell hk_g1 3 (by rfl)
          have z3_g1 : w.frozen? ⟨g1, 3, none⟩ = false := blkf hk_g1 3
          have m4_g1 : w.cell? ⟨g1, 4, none⟩ = some ((s 35)) := blk_cell hk_g1 4 (by rfl)
          have z4_g1 : w.frozen? ⟨g1, 4, none⟩ = false := blkf hk_g1 4
          have m5_g1 : w.cell? ⟨g1, 5, none⟩ = some (.slice aI p.Inv.length cI) := blk_cell hk_g1 5 (by rfl)
          have z5_g1 : w.frozen? ⟨g1, 5, none⟩ = false := blkf hk_g1 5
          have m6_g1 : w.cell? ⟨g1, 6, none⟩ = some (.slice aS p.Safe.length cS) := blk_cell hk_g1 6 (by rfl)
          have z6_g1 : w.frozen? ⟨g1, 6, none⟩ = false := blkf hk_g1 6
          have m7_g1 : w.cell? ⟨g1, 7, none⟩ = some (.slice aG' p.gain.length cG') := blk_cell hk_g1 7 (by rfl)
          have z7_g1 : w.frozen? ⟨g1, 7, none⟩ = false := blkf hk_g1 7
          have m8_g1 : w.cell? ⟨g1, 8, none⟩ = some (.int .i64 bi) := blk_cell hk_g1 8 (by rfl)
          have z8_g1 : w.frozen? ⟨g1, 8, none⟩ = false := blkf hk_g1 8
          refine wp_skip_ (w1 := (w.setCell ⟨g1, 5, none⟩ (.slice A_ p.Inv.length c_))) ?_ (hK.out undef _ (Or.inr ⟨fun k_ o_ hne_ h_ => (blk_far h_ (a := ⟨g1, 5, none⟩) (Ne.symm hne_) (.slice A_ p.Inv.length c_)), by simp [World.setCell], (Below.setCell (Below.refl _ _) (p := ⟨g1, 5, none⟩) (Nat.le_refl _) (.slice A_ p.Inv.length c_))⟩) (by show (w.setCell ⟨g1, 5, none⟩ (.slice A_ p.Inv.length c_)).heap[g1]? = some (.cells #[.slice A1 p.A.length c1, .slice aB' p.B.length cB', .int .i64 il, .int .i64 ih, (s 35), (s 38), .slice aS p.Safe.length cS, .slice aG' p.gain.length cG', .int .i64 bi] 28 (0, 0)); rw [hA_]; exact (blk_set hk_g1 5 (.slice A_ p.Inv.length c_))) (fun h => by cases h))
          try simp only [f11, hA_]
          go_simp
          try rfl
        refine StepsP.cons ?_ ?_
        · intro Q s w hC hA K hK
          clear hC
          clear hA
          refine guard_none (by rfl) ?_
          refine wp_value (v := .pointer (some ⟨g1, 6, none⟩)) (w1 := w) ?_ (hK.out _ w (Below.refl _ _) rfl (fun h => by cases h))
          go_simp
          try (first | done | rfl | (simp; done))
        refine StepsP.cons ?_ ?_
        · intro Q s w hC hA K hK
          obtain ⟨hsz, hk_g2, lt_g2, lt_g1, hbw, hRow, rB, rG⟩ := hC
          obtain ⟨f13, f8, f12, -⟩ := hA
          replace f13 : (s 44) = .pointer (some ⟨g1, 6, none⟩) := f13
          replace f8 : ∃ (A_ : Option Addr) (c_ : Nat), (s 41) = .slice A_ p.Safe.length c_ ∧ p.Safe.length ≤ c_ ∧ RdS w A_ p.Safe ∧ ∀ a_, A_ = some a_ → B1 ≤ a_.block := f8
          replace f12 : w.heap[g1]? = some (.cells #[.slice A1 p.A.length c1, .slice aB' p.B.length cB', .int .i64 il, .int .i64 ih, (s 35), (s 38), .slice aS p.Safe.length cS, .slice aG' p.gain.length cG', .int .i64 bi] 28 (0, 0)) := f12
          refine guard_none (by rfl) ?_
          have hk_g1 := f12
          obtain ⟨A_, c_, hA_, -, -, -⟩ := f8
          have m0_g1 : w.cell? ⟨g1, 0, none⟩ = some (.slice A1 p.A.length c1) := blk_cell hk_g1 0 (by rfl)
          have z0_g1 : w.frozen? ⟨g1, 0, none⟩ = false := blkf hk_g1 0
          have m1_g1 : w.cell? ⟨g1, 1, none⟩ = some (.slice aB' p.B.length cB') := blk_cell hk_g1 1 (by rfl)
          have z1_g1 : w.frozen? ⟨g1, 1, none⟩ = false := blkf hk_g1 1
          have m2_g1 : w.cell? ⟨g1, 2, none⟩ = some (.int .i64 il) := blk_cell hk_g1 2 (by rfl)
          have z2_g1 : w.frozen? ⟨g1, 2, none⟩ = false := blkf hk_g1 2
          have m3_g1 : w.cell? ⟨g1, 3, none⟩ = some (.int .i64 ih) := blk_cell hk_g1 3 (by rfl)
          have z3_g1 : w.frozen? ⟨g1, 3, none⟩ = false := blkf hk_g1 3
          have m4_g1 : w.cell? ⟨g1, 4, none⟩ = some ((s 35)) := blk_cell hk_g1 4 (by rfl)
          have z4_g1 : w.frozen? ⟨g1, 4, none⟩ = false := blkf hk_g1 4
          have m5_g1 : w.cell? ⟨g1, 5, none⟩ = some ((s 38)) := blk_cell hk_g1 5 (by rfl)
          have z5_g1 : w.frozen? ⟨g1, 5, none⟩ = false := blkf hk_g1 5
          have m6_g1 : w.cell? ⟨g1, 6, none⟩ = some (.slice aS p.Safe.length cS) := blk_cell hk_g1 6 (by rfl)
          have z6_g1 : w.frozen? ⟨g1, 6, none⟩ = false := blkf hk_g1 6
          have m7_g1 : w.cell? ⟨g1, 7, none⟩ = some (.slice aG' p.gain.length cG') := blk_cell hk_g1 7 (by rfl)
          have z7_g1 : w.frozen? ⟨g1, 7, none⟩ = false := blkf hk_g1 7
          have m8_g1 : w.cell? ⟨g1, 8, none⟩ = some (.int .i64 bi) := blk_cell hk_g1 8 (by rfl)
          have z8_g1 : w.frozen? ⟨g1, 8, none⟩ = false := blkf hk_g1 8
          refine wp_skip_ (w1 := (w.setCell ⟨g1, 6, none⟩ (.slice A_ p.Safe.length c_))) ?_ (hK.out undef _ (Or.inr ⟨fun k_ o_ hne_ h_ => (blk_far h_ (a := ⟨g1, 6, none⟩) (Ne.symm hne_) (.slice A_ p.Safe.length c_)), by simp [World.setCell], (Below.setCell (Below.refl _ _) (p := ⟨g1, 6, none⟩) (Nat.le_refl _) (.slice A_ p.Safe.length c_))⟩) (by show (w.setCell ⟨g1, 6, none⟩ (.slice A_ p.Safe.length c_)).heap[g1]? = some (.cells #[.slice A1 p.A.length c1, .slice aB' p.B.length cB', .int .i64 il, .int .i64 ih, (s 35), (s 38), (s 41), .slice aG' p.gain.length cG', .int .i64 bi] 28 (0, 0)); rw [hA_]; exact (blk_set hk_g1 6 (.slice A_ p.Safe.length c_))) (fun h => by cases h))
          try simp only [f13, hA_]
          go_simp
          try rfl
        exact StepsP.nil
      obtain ⟨hsz, hk_g2, lt_g2, lt_g1, hbw, hRow, rB, rG⟩ := hC
      obtain ⟨f2, f5, f8, f14, -⟩ := hA
      replace f2 : ∃ (A_ : Option Addr) (c_ : Nat), (s 35) = .slice A_ p.W.length c_ ∧ p.W.length ≤ c_ ∧ RdS w A_ p.W ∧ ∀ a_, A_ = some a_ → B1 ≤ a_.block := f2
      replace f5 : ∃ (A_ : Option Addr) (c_ : Nat), (s 38) = .slice A_ p.Inv.length c_ ∧ p.Inv.length ≤ c_ ∧ RdS w A_ p.Inv ∧ ∀ a_, A_ = some a_ → B1 ≤ a_.block := f5
      replace f8 : ∃ (A_ : Option Addr) (c_ : Nat), (s 41) = .slice A_ p.Safe.length c_ ∧ p.Safe.length ≤ c_ ∧ RdS w A_ p.Safe ∧ ∀ a_, A_ = some a_ → B1 ≤ a_.block := f8
      replace f14 : w.heap[g1]? = some (.cells #[.slice A1 p.A.length c1, .slice aB' p.B.length cB', .int .i64 il, .int .i64 ih, (s 35), (s 38), (s 41), .slice aG' p.gain.length cG', .int .i64 bi] 28 (0, 0)) := f14
      have hk_g1 := f14
      obtain ⟨aW', cW', eW, kW', rW, oW⟩ := f2
      obtain ⟨aI', cI', eI, kI', rI, oI⟩ := f5
      obtain ⟨aS', cS', eS, kS', rS, oS⟩ := f8
      rw [eW, eI, eS] at hk_g1
      rw [eW, eI, eS]
      generalize s 33 = t33
      generalize s 34 = t34
      generalize s 36 = t36
      generalize s 37 = t37
      generalize s 39 = t39
      generalize s 40 = t40
      generalize s 42 = t42
      generalize s 43 = t43
      generalize s 44 = t44
      subst hw0
      have y0 : w.cell? ⟨g1, 0, none⟩ = some (.slice A1 p.A.length c1) := blk_cell hk_g1 0 (by rfl)
      have y1 : w.cell? ⟨g1, 1, none⟩ = some (.slice aB' p.B.length cB') := blk_cell hk_g1 1 (by rfl)
      have y2 : w.cell? ⟨g1, 2, none⟩ = some (.int .i64 il) := blk_cell hk_g1 2 (by rfl)
      have y3 : w.cell? ⟨g1, 3, none⟩ = some (.int .i64 ih) := blk_cell hk_g1 3 (by rfl)
      have y4 : w.cell? ⟨g1, 4, none⟩ = some (.slice aW' p.W.length cW') := blk_cell hk_g1 4 (by rfl)
      have y5 : w.cell? ⟨g1, 5, none⟩ = some (.slice aI' p.Inv.length cI') := blk_cell hk_g1 5 (by rfl)
      have y6 : w.cell? ⟨g1, 6, none⟩ = some (.slice aS' p.Safe.length cS') := blk_cell hk_g1 6 (by rfl)
      have y7 : w.cell? ⟨g1, 7, none⟩ = some (.slice aG' p.gain.length cG') := blk_cell hk_g1 7 (by rfl)
      have y8 : w.cell? ⟨g1, 8, none⟩ = some (.int .i64 bi) := blk_cell hk_g1 8 (by rfl)
      have v0 : w.cell? ⟨g2, 0, none⟩ = some (.slice none 0 0) := blk_cell hk_g2 0 (by rfl)
      have x0 := blkf hk_g2 0
      have v1 : w.cell? ⟨g2, 1, none⟩ = some (.slice none 0 0) := blk_cell hk_g2 1 (by rfl)
      have x1 := blkf hk_g2 1
      have v2 : w.cell? ⟨g2, 2, none⟩ = some (.int .i64 0) := blk_cell hk_g2 2 (by rfl)
      have x2 := blkf hk_g2 2
      have v3 : w.cell? ⟨g2, 3, none⟩ = some (.int .i64 0) := blk_cell hk_g2 3 (by rfl)
      have x3 := blkf hk_g2 3
      have v4 : w.cell? ⟨g2, 4, none⟩ = some (.slice none 0 0) := blk_cell hk_g2 4 (by rfl)
      have x4 := blkf hk_g2 4
      have v5 : w.cell? ⟨g2, 5, none⟩ = some (.slice none 0 0) := blk_cell hk_g2 5 (by rfl)
      have x5 := blkf hk_g2 5
      have v6 : w.cell? ⟨g2, 6, none⟩ = some (.slice none 0 0) := blk_cell hk_g2 6 (by rfl)
      have x6 := blkf hk_g2 6
      have v7 : w.cell? ⟨g2, 7, none⟩ = some (.slice none 0 0) := blk_cell hk_g2 7 (by rfl)
      have x7 := blkf hk_g2 7
      have v8 : w.cell? ⟨g2, 8, none⟩ = some (.int .i64 0) := blk_cell hk_g2 8 (by rfl)
      have x8 := blkf hk_g2 8
      go_wp2
      have hF := (blk_set (blk_set (blk_set (blk_set (blk_set (blk_set (blk_set (blk_set (blk_set hk_g2 0 (.slice A1 p.A.length c1)) 1 (.slice aB' p.B.length cB')) 2 (.int .i64 il)) 3 (.int .i64 ih)) 4 (.slice aW' p.W.length cW')) 5 (.slice aI' p.Inv.length cI')) 6 (.slice aS' p.Safe.length cS')) 7 (.slice aG' p.gain.length cG')) 8 (.int .i64 bi))
      simp only [List.setIfInBounds_toArray, List.set_cons_zero, List.set_cons_succ] at hF
      have hBw := (bl_set (bl_set (bl_set (bl_set (bl_set (bl_set (bl_set (bl_set (bl_set hbw (p := ⟨g2, 0, none⟩) hle_g2 (.slice A1 p.A.length c1)) (p := ⟨g2, 1, none⟩) hle_g2 (.slice aB' p.B.length cB')) (p := ⟨g2, 2, none⟩) hle_g2 (.int .i64 il)) (p := ⟨g2, 3, none⟩) hle_g2 (.int .i64 ih)) (p := ⟨g2, 4, none⟩) hle_g2 (.slice aW' p.W.length cW')) (p := ⟨g2, 5, none⟩) hle_g2 (.slice aI' p.Inv.length cI')) (p := ⟨g2, 6, none⟩) hle_g2 (.slice aS' p.Safe.length cS')) (p := ⟨g2, 7, none⟩) hle_g2 (.slice aG' p.gain.length cG')) (p := ⟨g2, 8, none⟩) hle_g2 (.int .i64 bi))
      refine bodyPost_ret (results_cell_row rfl _ _ g2 28 #[.slice A1 p.A.length c1, .slice aB' p.B.length cB', .int .i64 il, .int .i64 ih, .slice aW' p.W.length cW', .slice aI' p.Inv.length cI', .slice aS' p.Safe.length cS', .slice aG' p.gain.length cG', .int .i64 bi] (0, 0) _ rfl hF Try.underlying28 rfl (by kernel_rfl)) rfl ?_
      have hKX := ((((((((((KeepX.refl X w).set (p := ⟨g2, 0, none⟩) X2 (.slice A1 p.A.length c1)).set (p := ⟨g2, 1, none⟩) X2 (.slice aB' p.B.length cB')).set (p := ⟨g2, 2, none⟩) X2 (.int .i64 il)).set (p := ⟨g2, 3, none⟩) X2 (.int .i64 ih)).set (p := ⟨g2, 4, none⟩) X2 (.slice aW' p.W.length cW')).set (p := ⟨g2, 5, none⟩) X2 (.slice aI' p.Inv.length cI')).set (p := ⟨g2, 6, none⟩) X2 (.slice aS' p.Safe.length cS')).set (p := ⟨g2, 7, none⟩) X2 (.slice aG' p.gain.length cG')).set (p := ⟨g2, 8, none⟩) X2 (.int .i64 bi))
      refine ⟨⟨A1, c1, aB', cB', aW', cW', aI', cI', aS', cS', aG', cG'⟩, rfl, ⟨?_, rB.keepX hKX oB, rW.keepX hKX (Off.of oW hXB), rI.keepX hKX (Off.of oI hXB), rS.keepX hKX (Off.of oS hXB), rG.keepX hKX oG, hc1, kB', kW', kI', kS', kG'⟩, (fun a ha => Nat.le_trans hw0B1 (oI a ha)), hBw⟩
      rcases hRow with h0 | ⟨gA, rfl, hRow, nXA⟩
      · exact ⟨by omega, fun i hi => by omega⟩
      · exact (hRow.keepX nXA hKX).rd (by omega)
theorem copied_calls (q : PA) (p : Pl) (w : World) (hq : q.rd w p) (lA : p.A.length ≤ 1000000) (lA2 : ∀ i, (p.A.getD i []).length ≤ 1000000) (lB : p.B.length ≤ 1000000) (lW : p.W.length ≤ 1000000) (lI : p.Inv.length ≤ 1000000) (lS : p.Safe.length ≤ 1000000) (lG : p.gain.length ≤ 1000000) :
    Calls Try.prog 62 #[.agg (q.cells p).toArray] w fun e w' => ∃ q' : PA, e = .returned (.agg (q'.cells p).toArray) ∧ q'.rd w' p ∧ Below w.heap.size w w' :=
  (copied_calls2 q p w hq lA lA2 lB lW lI lS lG).mono fun e w' ⟨q', h1, h2, _, h3⟩ => ⟨q', h1, h2, h3⟩
end Go.Proofs.Ythdaidmjjcmccaa
