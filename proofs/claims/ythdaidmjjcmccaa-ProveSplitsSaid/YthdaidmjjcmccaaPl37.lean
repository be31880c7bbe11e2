/- Proved here: lemmas and contracts (what a function of the program computes) that the proofs of the laws of this seat lean on. Conditions: as each theorem states. -/
import Derived.Test.YthdaidmjjcmccaaPl18
import Derived.Test.YthdaidmjjcmccaaOwn3
import Derived.Test.YthdaidmjjcmccaaRefs
import Derived.Test.YthdaidmjjcmccaaPl36
set_option linter.unusedVariables false
set_option linter.unusedSimpArgs false
namespace Go.Pk
open Go.RowKit Go.Pk.Rx
theorem clampTo_in {x lo hi : Int} (h : lo ≤ hi) : lo ≤ clampTo x lo hi ∧ clampTo x lo hi ≤ hi := by unfold clampTo; (repeat' split) <;> omega
def clampsL (x : List Int) (b : List Sp) (n : Nat) : List Int := (List.range n).map fun j => clampTo (x.getD j 0) (b.getD j ⟨0, 0⟩).lo (b.getD j ⟨0, 0⟩).hi
theorem clampsL_length (x : List Int) (b : List Sp) (n : Nat) : (clampsL x b n).length = n := by unfold clampsL; simp
theorem clampsL_succ (x : List Int) (b : List Sp) (n : Nat) : clampsL x b (n + 1) = clampsL x b n ++ [clampTo (x.getD n 0) (b.getD n ⟨0, 0⟩).lo (b.getD n ⟨0, 0⟩).hi] := by unfold clampsL; rw [List.range_succ, List.map_append]; rfl
theorem clampsL_inB {x : List Int} {b : List Sp} {n : Nat} (h : ∀ j, j < n → (b.getD j ⟨0, 0⟩).lo ≤ (b.getD j ⟨0, 0⟩).hi) : InB n b (clampsL x b n) := fun j hj => by
  unfold clampsL
  rw [getD_map_range _ _ _ _ hj]
  exact clampTo_in (h j hj)
theorem InI.of_getD {l : List Int} (h : ∀ j, j < l.length → -9223372036854775808 ≤ l.getD j 0 ∧ l.getD j 0 ≤ 9223372036854775807) : InI l := fun a ha => by
  obtain ⟨k, hk, rfl⟩ := List.mem_iff_getElem.1 ha
  have := h k hk
  rw [List.getD_eq_getElem?_getD, List.getElem?_eq_getElem hk] at this
  exact this
theorem InB.inI {n : Nat} {b : List Sp} {x : List Int} (hx : InB n b x) (hl : x.length = n) (hb : InS b) (hn : b.length = n) : InI x := InI.of_getD fun j hj => by
  have h1 := hx j (by omega)
  have h2 := hb.one j
  unfold InSp at h2
  omega
theorem boxed_no {p : Pl} {box : List Sp} {i : Nat} (hi : i < box.length) (h : (box.getD i ⟨0, 0⟩).hi < (box.getD i ⟨0, 0⟩).lo) : boxedP p box = false := by
  cases hb : boxedP p box with
  | false => rfl
  | true => have := (boxed_iff.1 hb).2 i hi; omega
theorem plant_holds_law {p : Pl} (hg : GoodP p) {us : Sp} {box : List Sp} {y v : List Int} {u : Int} (hbl : box.length = p.B.length) (hy : InB p.B.length box y) (hyl : y.length = p.B.length) (hv : InB p.B.length p.W v) (hvl : v.length = p.B.length) (hu : us.lo ≤ u ∧ u ≤ us.hi) :
    ((commandP p box).2 = true → hasS (commandP p box).1 (baseP p y) = true) ∧ ((reachP p us box).2 = true → (nextP p u v y).2 = true ∧ (nextP p u v y).1.length = p.B.length ∧ (reachP p us box).1.length = p.B.length ∧ ∀ i, i < p.B.length → hasS ((reachP p us box).1.getD i ⟨0, 0⟩) ((nextP p u v y).1.getD i 0) = true) := by
  obtain ⟨l1, l2, l3, l4, l5, l6, l7, l8⟩ := hg.lens
  refine ⟨command_sound hg.inp (by omega) (fun j hj => hy j (by omega)), fun h => ?_⟩
  obtain ⟨r1, r2, r3, r4⟩ := reachP_yes h
  have hr : ∀ i, i < p.B.length → hasS (plusS (reachParts p us box i)) (nextZ p u v y i) = true ∧ fitsI (nextZ p u v y i) = true := fun i hi =>
    reach_sound hu (hv i hi) (fun j hj => hy j (by have := (hg.row hi).1; omega)) (r3 i hi)
  have hn : nextP p u v y = ((List.range p.B.length).map (nextZ p u v y), true) := by
    unfold nextP
    rw [if_pos ⟨by unfold areP; simp; omega, by omega⟩, if_pos]
    rw [List.all_eq_true]
    intro i hi
    exact (hr i (List.mem_range.1 hi)).2
  rw [hn, r4]
  refine ⟨rfl, by simp, by simp, fun i hi => ?_⟩
  rw [getD_map_range _ _ _ _ hi, getD_map_range _ _ _ _ hi]
  exact (hr i hi).1
end Go.Pk
namespace Go.Proofs.Ythdaidmjjcmccaa
open Go.RowKit Go.Pk Go.Proofs.YthdaidmjjcmccaaW.PrintLast
set_option maxHeartbeats 8000000 in
set_option maxRecDepth 100000 in
theorem PHolds_walk (q : PA) (p : Pl) (sl sh u : Int) (lb : List Sp) (lw lx : List Int) (ab aw ax : Option Addr) (cb cw cx : Nat) (w : World) (hq : q.rd w p) (hin : InP p) (hs0 : -9223372036854775808 ≤ sl) (hs1 : sl ≤ 9223372036854775807) (hs2 : -9223372036854775808 ≤ sh) (hs3 : sh ≤ 9223372036854775807) (hb : RdS w ab lb) (hib : InS lb) (hw : RdI w aw lw) (hx : RdI w ax lx) :
    Calls Try.prog 3 #[.agg (q.cells p).toArray, .agg #[.int .i64 (sl), .int .i64 (sh)], .slice ab lb.length cb, .int .i64 u, .slice aw lw.length cw, .slice ax lx.length cx] w fun e w' => e = .returned (.bool true) ∧ Below w.heap.size w w' := by
  have hlight := hidI (fun W (hW : q.rd W p) => Light_calls q p W hW)
  have hnewL := hidI (fun W (hW : q.rd W p) => New_long q p W hW)
  have hnewS := hidI (fun W (hW : q.rd W p) => New_some q p W hW hin)
  have hsb : Hid (InSp ⟨sl, sh⟩) := ⟨⟨hs0, hs1⟩, hs2, hs3⟩
  clear hs0 hs1 hs2 hs3
  have hpW0 := hidI (fun W (h : q.rd W p) => h.W)
  obtain ⟨aA, cA, aB, cB, aW, cW, aI, cI, aS, cS, aG, cG⟩ := q
  unfold PA.cells at hlight hnewL hnewS ⊢
  simp only [] at hlight hnewL hnewS hpW0
  obtain ⟨il, hil⟩ : ∃ z, p.inp.lo = z := ⟨_, rfl⟩
  obtain ⟨ih, hih⟩ : ∃ z, p.inp.hi = z := ⟨_, rfl⟩
  obtain ⟨bi, hbi⟩ : ∃ z, p.bias = z := ⟨_, rfl⟩
  simp only [hil, hih, hbi] at hlight hnewL hnewS ⊢
  clear hil hih hbi
  go_enter Try.func3, Try.ntmps3
  go_upto_region 1 with fail
  have hk_g1 := blk_alloc (blk_new w (.cells #[.slice aA p.A.length cA, .slice aB p.B.length cB, .int .i64 il, .int .i64 ih, .slice aW p.W.length cW, .slice aI p.Inv.length cI, .slice aS p.Safe.length cS, .slice aG p.gain.length cG, .int .i64 bi] 28)) (.cells #[.int .i64 sl, .int .i64 sh] 25)
  have hk_g7 : ((w.alloc (.cells #[.slice aA p.A.length cA, .slice aB p.B.length cB, .int .i64 il, .int .i64 ih, .slice aW p.W.length cW, .slice aI p.Inv.length cI, .slice aS p.Safe.length cS, .slice aG p.gain.length cG, .int .i64 bi] 28)).alloc (.cells #[.int .i64 sl, .int .i64 sh] 25)).heap[w.heap.size + 1]? = some (.cells #[.int .i64 sl, .int .i64 sh] 25 (0, 0)) := by have h_ := blk_new (w.alloc (.cells #[.slice aA p.A.length cA, .slice aB p.B.length cB, .int .i64 il, .int .i64 ih, .slice aW p.W.length cW, .slice aI p.Inv.length cI, .slice aS p.Safe.length cS, .slice aG p.gain.length cG, .int .i64 bi] 28)) (.cells #[.int .i64 sl, .int .i64 sh] 25); simpa using h_
  have hbw0 := bl_alloc (bl_alloc (Below.refl w.heap.size w) (.cells #[.slice aA p.A.length cA, .slice aB p.B.length cB, .int .i64 il, .int .i64 ih, .slice aW p.W.length cW, .slice aI p.Inv.length cI, .slice aS p.Safe.length cS, .slice aG p.gain.length cG, .int .i64 bi] 28)) (.cells #[.int .i64 sl, .int .i64 sh] 25)
  generalize (w.alloc (.cells #[.slice aA p.A.length cA, .slice aB p.B.length cB, .int .i64 il, .int .i64 ih, .slice aW p.W.length cW, .slice aI p.Inv.length cI, .slice aS p.Safe.length cS, .slice aG p.gain.length cG, .int .i64 bi] 28)).alloc (.cells #[.int .i64 sl, .int .i64 sh] 25) = W1 at *
  obtain ⟨w0, hw0⟩ : ∃ z : World, z = w := ⟨_, rfl⟩
  rw [← hw0] at hbw0 hq hb hw hx
  obtain ⟨g1, hg1⟩ : ∃ g, w.heap.size = g := ⟨_, rfl⟩
  rw [hg1] at hk_g1 hk_g7
  rw [hg1]
  clear hg1
  generalize g1 + 1 = g7 at *
  replace hq := hq.below hbw0
  replace hb := hb.below hbw0
  replace hw := hw.below hbw0
  replace hx := hx.below hbw0
  have y0 : W1.cell? ⟨g1, 0, none⟩ = some (.slice aA p.A.length cA) := blk_cell hk_g1 0 (by rfl)
  have y1 : W1.cell? ⟨g1, 1, none⟩ = some (.slice aB p.B.length cB) := blk_cell hk_g1 1 (by rfl)
  have y2 : W1.cell? ⟨g1, 2, none⟩ = some (.int .i64 il) := blk_cell hk_g1 2 (by rfl)
  have y3 : W1.cell? ⟨g1, 3, none⟩ = some (.int .i64 ih) := blk_cell hk_g1 3 (by rfl)
  have y4 : W1.cell? ⟨g1, 4, none⟩ = some (.slice aW p.W.length cW) := blk_cell hk_g1 4 (by rfl)
  have y5 : W1.cell? ⟨g1, 5, none⟩ = some (.slice aI p.Inv.length cI) := blk_cell hk_g1 5 (by rfl)
  have y6 : W1.cell? ⟨g1, 6, none⟩ = some (.slice aS p.Safe.length cS) := blk_cell hk_g1 6 (by rfl)
  have y7 : W1.cell? ⟨g1, 7, none⟩ = some (.slice aG p.gain.length cG) := blk_cell hk_g1 7 (by rfl)
  have y8 : W1.cell? ⟨g1, 8, none⟩ = some (.int .i64 bi) := blk_cell hk_g1 8 (by rfl)
  go_wp2_with fail
  have hnew : Calls Try.prog 15 #[.agg #[.slice aA p.A.length cA, .slice aB p.B.length cB, .int .i64 il, .int .i64 ih, .slice aW p.W.length cW, .slice aI p.Inv.length cI, .slice aS p.Safe.length cS, .slice aG p.gain.length cG, .int .i64 bi]] W1 fun e w' => Below W1.heap.size W1 w' ∧ ((∃ n : Int, e = .returned (.tuple #[.pointer none, .int .i64 n]) ∧ Hid (n ≠ 0)) ∨ (GoodP p ∧ ∃ g, e = .returned (.tuple #[.pointer (some ⟨g, 0, none⟩), .int .i64 0]) ∧ KitAt w' g 116 p ∧ W1.heap.size ≤ g)) := by
    by_cases hl : longP p = true
    · refine (hnewS.out W1 hq hl).mono ?_
      rintro e w' ⟨hb, h1, h2⟩
      by_cases hw : wrongP p = true
      · exact ⟨hb, Or.inl ⟨42, h1 hw, by unfold Hid; omega⟩⟩
      · have hw' : wrongP p = false := by simpa using hw
        exact ⟨hb, Or.inr ⟨⟨hl, hw', hin⟩, h2 hw'⟩⟩
    · have hl' : longP p = false := by simpa using hl
      refine (hnewL.out W1 hq hl').mono ?_
      rintro e w' ⟨h1, hb⟩
      exact ⟨hb, Or.inl ⟨1, h1, by unfold Hid; omega⟩⟩
  clear hnewL hnewS
  refine hnew.mono ?_
  clear hnew y0 y1 y2 y3 y4 y5 y6 y7 y8
  rintro e V ⟨hb2, hcase⟩
  replace hk_g1 := bl_block hb2 hk_g1
  replace hk_g7 := bl_block hb2 hk_g7
  replace hbw0 := bl_step hbw0 hb2
  replace hq := hq.below hb2
  replace hb := hb.below hb2
  replace hw := hw.below hb2
  replace hx := hx.below hb2
  clear hb2
  have y0 : V.cell? ⟨g1, 0, none⟩ = some (.slice aA p.A.length cA) := blk_cell hk_g1 0 (by rfl)
  have y1 : V.cell? ⟨g1, 1, none⟩ = some (.slice aB p.B.length cB) := blk_cell hk_g1 1 (by rfl)
  have y2 : V.cell? ⟨g1, 2, none⟩ = some (.int .i64 il) := blk_cell hk_g1 2 (by rfl)
  have y3 : V.cell? ⟨g1, 3, none⟩ = some (.int .i64 ih) := blk_cell hk_g1 3 (by rfl)
  have y4 : V.cell? ⟨g1, 4, none⟩ = some (.slice aW p.W.length cW) := blk_cell hk_g1 4 (by rfl)
  have y5 : V.cell? ⟨g1, 5, none⟩ = some (.slice aI p.Inv.length cI) := blk_cell hk_g1 5 (by rfl)
  have y6 : V.cell? ⟨g1, 6, none⟩ = some (.slice aS p.Safe.length cS) := blk_cell hk_g1 6 (by rfl)
  have y7 : V.cell? ⟨g1, 7, none⟩ = some (.slice aG p.gain.length cG) := blk_cell hk_g1 7 (by rfl)
  have y8 : V.cell? ⟨g1, 8, none⟩ = some (.int .i64 bi) := blk_cell hk_g1 8 (by rfl)
  rcases hcase with ⟨n, rfl, hn⟩ | ⟨hgood, g, rfl, hkit, hgn⟩
  · have d0 : ((n == 0) : Bool) = false := by have := hn.out; simpa using this
    have d1 : ((n != 0) : Bool) = true := by have := hn.out; simpa using this
    go_upto_region 4 with fail
    go_wp2_with fail
    refine (hlight.out V hq).mono ?_
    rintro e w3 ⟨rfl, hbw⟩
    clear y0 y1 y2 y3 y4 y5 y6 y7 y8 hk_g1 hk_g7
    cases lightP p
    all_goals
      have hbw := bl_step hbw0 hbw
      go_wp2_with fail
      refine (alive15_calls _).mono ?_
      rintro e wz ⟨rfl, hbz⟩
      replace hbw := bl_step hbw hbz
      subst hw0
      go_wp2
      go_ret
      exact ⟨rfl, hbw⟩
  · clear hgn
    go_upto_region 4 with fail
    go_wp2_with fail
    refine (hlight.out V hq).mono ?_
    rintro e w3 ⟨rfl, hbw⟩
    clear y0 y1 y2 y3 y4 y5 y6 y7 y8 hlight
    have hpW := hpW0.out V hq
    clear hpW0 hq
    cases lightP p
    · skip
      have hbw := bl_step hbw0 hbw
      go_wp2_with fail
      refine (alive15_calls _).mono ?_
      rintro e wz ⟨rfl, hbz⟩
      replace hbw := bl_step hbw hbz
      subst hw0
      go_wp2
      go_ret
      exact ⟨rfl, hbw⟩
    obtain ⟨N, hN⟩ : ∃ N, Hid (p.B.length = N) := ⟨_, rfl⟩
    have hlens := hidI hgood.lens
    have hN3 : 1 ≤ N ∧ N ≤ 3 := by have := hlens.out; have := hN.out; omega
    have hDim := hidI (fun W (h : Below V.heap.size V W) => Dim_calls g p W (hkit.below h))
    rw [hN.out] at hDim
    have hD0 := hidI (hDim.out _ hbw)
    go_wp2_with fail
    refine (hD0.out).mono ?_
    rintro e w4 ⟨rfl, hw4⟩
    subst hw4
    by_cases h1 : ((lb.length : Int) != (N : Int)) = true
    · skip
      have hbw := bl_step hbw0 hbw
      go_wp2_with fail
      refine (alive15_calls _).mono ?_
      rintro e wz ⟨rfl, hbz⟩
      replace hbw := bl_step hbw hbz
      subst hw0
      go_wp2
      go_ret
      exact ⟨rfl, hbw⟩
    have e1 : Hid (lb.length = N) := by unfold Hid; simp at h1; omega
    replace h1 : ((lb.length : Int) != (N : Int)) = false := by simpa using h1
    go_wp2_with fail
    refine (hD0.out).mono ?_
    rintro e w4 ⟨rfl, hw4⟩
    subst hw4
    by_cases h2 : (lw.length : Int) < (N : Int)
    · have d2 : decide ((lw.length : Int) < (N : Int)) = true := decide_eq_true h2
      have hbw := bl_step hbw0 hbw
      go_wp2_with fail
      refine (alive15_calls _).mono ?_
      rintro e wz ⟨rfl, hbz⟩
      replace hbw := bl_step hbw hbz
      subst hw0
      go_wp2
      go_ret
      exact ⟨rfl, hbw⟩
    have e2 : N ≤ lw.length := by omega
    have d2 : decide ((lw.length : Int) < (N : Int)) = false := decide_eq_false h2
    have d2n : decide (lw.length < N) = false := decide_eq_false (by omega)
    clear h2
    go_wp2_with fail
    refine (hD0.out).mono ?_
    rintro e w4 ⟨rfl, hw4⟩
    subst hw4
    by_cases h3 : (lx.length : Int) < (N : Int)
    · have d3 : decide ((lx.length : Int) < (N : Int)) = true := decide_eq_true h3
      have hbw := bl_step hbw0 hbw
      go_wp2_with fail
      refine (alive15_calls _).mono ?_
      rintro e wz ⟨rfl, hbz⟩
      replace hbw := bl_step hbw hbz
      subst hw0
      go_wp2
      go_ret
      exact ⟨rfl, hbw⟩
    have e3 : N ≤ lx.length := by omega
    have d3 : decide ((lx.length : Int) < (N : Int)) = false := decide_eq_false h3
    have d3n : decide (lx.length < N) = false := decide_eq_false (by omega)
    clear h3 hD0
    have y0 : w4.cell? ⟨g7, 0, none⟩ = some (.int .i64 sl) := blk_cell (bl_block hbw hk_g7) 0 (by rfl)
    have y1 : w4.cell? ⟨g7, 1, none⟩ = some (.int .i64 sh) := blk_cell (bl_block hbw hk_g7) 1 (by rfl)
    go_wp2_with fail
    refine (refEmpty_calls sl sh _).mono ?_
    rintro e w5 ⟨rfl, hb5⟩
    replace hbw := bl_step hbw hb5
    clear y0 y1 hb5 d2 d3 d2n d3n h1
    by_cases h4 : sh < sl
    · have d4 : decide (sh < sl) = true := decide_eq_true h4
      have hbw := bl_step hbw0 hbw
      go_wp2_with fail
      refine (alive15_calls _).mono ?_
      rintro e wz ⟨rfl, hbz⟩
      replace hbw := bl_step hbw hbz
      subst hw0
      go_wp2
      go_ret
      exact ⟨rfl, hbw⟩
    have d4 : decide (sh < sl) = false := decide_eq_false h4
    have hsne : Hid (sl ≤ sh) := by unfold Hid; omega
    clear h4
    have hlE := hidI (And.intro e1.out (And.intro hN.out hlens.out))
    clear e1 hlens hN
    go_wp2
    clear d4
    have hVB := hbw.size
    obtain ⟨B, hB⟩ : ∃ B, B = w5.heap.size := ⟨_, rfl⟩
    rw [← hB] at hVB
    have hsB0 : B ≤ w5.heap.size := by omega
    clear hB
    have hys := hidI (fun n => clampsL_succ lx lb n)
    have hvs := hidI (fun n => clampsL_succ lw p.W n)
    have hyl := hidI (fun n => clampsL_length lx lb n)
    have hvl := hidI (fun n => clampsL_length lw p.W n)
    have hyB := hidI (fun n h => clampsL_inB (x := lx) (b := lb) (n := n) h)
    have hvB := hidI (fun n h => clampsL_inB (x := lw) (b := p.W) (n := n) h)
    obtain ⟨ys, hys0⟩ : ∃ f : Nat → List Int, f = clampsL lx lb := ⟨_, rfl⟩
    obtain ⟨vs, hvs0⟩ : ∃ f : Nat → List Int, f = clampsL lw p.W := ⟨_, rfl⟩
    rw [← hys0] at hys hyl hyB
    rw [← hvs0] at hvs hvl hvB
    have ho0 : Own3 w5 B 3 (.slice none 0 0) (.slice none 0 0) (.slice none 0 0) (ys 0) (vs 0) [] := by
      rw [show ys 0 = [] by rw [hys0]; rfl, show vs 0 = [] by rw [hvs0]; rfl]
      exact Own3.nil _ _ _
    clear hys0 hvs0
    go_loopw [15, 16, 17] (fun yv vv x wr => ∃ i : Nat, i ≤ N ∧ x = .int .i64 i ∧ Below V.heap.size V wr ∧ B ≤ wr.heap.size ∧ Own3 wr B 3 yv vv (.slice none 0 0) (ys i) (vs i) [] ∧ Hid (∀ j, j < i → (lb.getD j ⟨0, 0⟩).lo ≤ (lb.getD j ⟨0, 0⟩).hi)) (fun _ _ x _ => (N - intOf x).toNat)
    case atStart => exact ⟨0, by omega, rfl, hbw, hsB0, ho0, fun j hj => by omega⟩
    case round =>
      clear hbw hsB0 ho0
      obtain ⟨i, hi, rfl, hbw, hsB, ho, hne⟩ := hrel
      go_wp2_with fail
      refine (hDim.out _ hbw).mono ?_
      rintro e w6 ⟨rfl, hw6⟩
      subst hw6
      by_cases hlt : i < N
      · have hd : decide ((i : Int) < (N : Int)) = true := decide_eq_true (by omega)
        have il : i < lb.length := by have := hlE.out; omega
        have il2 : i < lx.length := by omega
        have il3 : i < lw.length := by omega
        have il4 : i < p.W.length := by have := hlE.out; omega
        obtain ⟨bb, ob, hbb, hb1, hb2⟩ := hb.at (k := i) il
        have hysi := hidI (hys.out i)
        have hyli := hidI (hyl.out (i + 1))
        have hYl := hidI (hyl.out i)
        have hVl := hidI (hvl.out i)
        have hvsi := hidI (hvs.out i)
        obtain ⟨⟨bl, bh⟩, hbs⟩ : ∃ z, lb.getD i ⟨0, 0⟩ = z := ⟨_, rfl⟩
        rw [hbs] at hb1 hb2 hysi
        simp only [] at hb1 hb2 hysi
        have k1 := bl_cell hbw hb1
        have k2 := bl_cell hbw hb2
        have hbse := hbb
        subst hbb
        go_wp2_with fail
        refine (refEmpty_calls bl bh _).mono ?_
        rintro e w7 ⟨rfl, hb7⟩
        have hbw7 := bl_step hbw hb7
        replace ho := ho.below hb7
        replace hsB := Nat.le_trans hsB hb7.size
        clear k1 k2 hb7 hbse
        replace hbw := hbw7
        clear hbw7
        by_cases he : bh < bl
        · have d5 : decide (bh < bl) = true := decide_eq_true he
          have hno : boxedP p lb = false := boxed_no il (by rw [hbs]; exact he)
          replace hbs := hidI hbs
          have hRn := hidI (fun W (h : Below V.heap.size V W) => Reach_no g p ⟨sl, sh⟩ (some ⟨bb, ob, none⟩) lb cb W (hkit.below h) (hb.below h) (by rw [hno]; simp))
          have hCn := hidI (fun W (h : Below V.heap.size V W) => Command_no g p (some ⟨bb, ob, none⟩) lb cb W (hkit.below h) (hb.below h) hno)
          simp only [] at hRn
          clear he hno hlt hd ho hsB hi
          have y0 : w7.cell? ⟨g7, 0, none⟩ = some (.int .i64 sl) := blk_cell (bl_block hbw hk_g7) 0 (by rfl)
          have y1 : w7.cell? ⟨g7, 1, none⟩ = some (.int .i64 sh) := blk_cell (bl_block hbw hk_g7) 1 (by rfl)
          go_wp2_with fail
          refine (hRn.out _ hbw).mono ?_
          rintro e w8 ⟨rfl, hb8⟩
          replace hbw := bl_step hbw hb8
          clear y0 y1 hb8 hRn
          go_wp2_with fail
          refine (hCn.out _ hbw).mono ?_
          rintro e w9 ⟨rfl, hb9⟩
          replace hbw := bl_step hbw hb9
          clear hb9 hCn
          go_upto_region 13 with fail
          have hbA := bl_alloc (Below.refl w9.heap.size w9) (.cells #[.int .i64 0, .int .i64 (-1)] 25)
          replace hbw := bl_step hbw hbA
          clear hbA
          generalize w9.alloc (.cells #[.int .i64 0, .int .i64 (-1)] 25) = w9 at *
          skip
          have hbw := bl_step hbw0 hbw
          go_wp2_with fail
          refine (alive15_calls _).mono ?_
          rintro e wz ⟨rfl, hbz⟩
          replace hbw := bl_step hbw hbz
          subst hw0
          go_wp2
          go_ret
          exact ⟨rfl, hbw⟩
        · have d5 : decide (bh < bl) = false := decide_eq_false he
          have hle : bl ≤ bh := by omega
          have hnei : Hid (∀ j, j < i + 1 → (lb.getD j ⟨0, 0⟩).lo ≤ (lb.getD j ⟨0, 0⟩).hi) := fun j hj => by
            by_cases hji : j < i
            · exact hne.out j hji
            · obtain rfl : j = i := by omega
              rw [hbs]; exact hle
          replace hbs := hidI hbs
          obtain ⟨bx, ox, rfl, hex⟩ := hx.at (i := i) (by omega)
          obtain ⟨xi, hxi⟩ : ∃ z, lx.getD i 0 = z := ⟨_, rfl⟩
          rw [hxi] at hex hysi
          obtain ⟨cx_, hcx⟩ : ∃ z, Hid (clampTo xi bl bh = z) := ⟨_, rfl⟩
          rw [hcx.out] at hysi
          go_upto_region 14 with fail
          clear d5 he hle
          replace ho := ho.drew
          replace hsB : B ≤ w7.drew.heap.size := hsB
          replace hbw := bl_drew hbw
          refine start_ (n := 19) (S := fun w' => w'.cell? ⟨bx, ox + i, none⟩ = some (.int .i64 xi) ∧ w'.cell? ⟨bb, ob + i * 2, none⟩ = some (.int .i64 bl) ∧ w'.cell? ⟨bb, ob + i * 2 + 1, none⟩ = some (.int .i64 bh)) (ds := []) #[false, false, false, false, false, false, false, false, false, false, false, false, false, false, false, false, false, false, false] (by kernel_rfl) rfl rfl ⟨(bl_cell hbw hex), (bl_cell hbw hb1), (bl_cell hbw hb2)⟩ (fun hHeld => ?_)
          generalize w7.drew = wn at *
          refine pure_ (i := 0) (N := some 106) (v := ?_) (a' := ?_) #[true, false, false, false, false, false, false, false, false, false, false, false, false, false, false, false, false, false, false] rfl rfl (by kernel_rfl) (fun _ _ _ h => h) (Or.inl ⟨by rfl, ?_⟩) ?_ ?_
          rotate_left
          · intro w'
            go_simp
            with_reducible rfl
          rotate_left
          · simp only [Act.put, List.setIfInBounds_toArray, List.set_cons_zero, List.set_cons_succ, i64_w, i32_w]
            rfl
          refine pure_ (i := 1) (N := some 107) (v := ?_) (a' := ?_) #[true, true, false, false, false, false, false, false, false, false, false, false, false, false, false, false, false, false, false] rfl rfl (by kernel_rfl) (fun _ _ _ h => h) (Or.inl ⟨by rfl, ?_⟩) ?_ ?_
          rotate_left
          · intro w'
            go_simp
            with_reducible rfl
          rotate_left
          · simp only [Act.put, List.setIfInBounds_toArray, List.set_cons_zero, List.set_cons_succ, i64_w, i32_w]
            rfl
          refine pure_ (i := 2) (N := some 108) (v := ?_) (a' := ?_) #[true, true, true, false, false, false, false, false, false, false, false, false, false, false, false, false, false, false, false] rfl rfl (by kernel_rfl) (fun _ _ _ h => h) (Or.inl ⟨by rfl, ?_⟩) ?_ ?_
          rotate_left
          · intro w'
            go_simp
            with_reducible rfl
          rotate_left
          · simp only [Act.put, List.setIfInBounds_toArray, List.set_cons_zero, List.set_cons_succ, i64_w, i32_w]
            rfl
          refine pure_ (i := 3) (N := some 109) (v := ?_) (a' := ?_) #[true, true, true, true, false, false, false, false, false, false, false, false, false, false, false, false, false, false, false] rfl rfl (by kernel_rfl) (fun _ _ _ h => h) (Or.inl ⟨by rfl, ?_⟩) ?_ ?_
          rotate_left
          · intro w'
            go_simp
            with_reducible rfl
          rotate_left
          · simp only [Act.put, List.setIfInBounds_toArray, List.set_cons_zero, List.set_cons_succ, i64_w, i32_w]
            rfl
          refine pure_ (i := 5) (N := some 111) (v := ?_) (a' := ?_) #[true, true, true, true, false, true, false, false, false, false, false, false, false, false, false, false, false, false, false] rfl rfl (by kernel_rfl) (fun _ _ _ h => h) (Or.inl ⟨by rfl, ?_⟩) ?_ ?_
          rotate_left
          · intro w'
            go_simp
            with_reducible rfl
          rotate_left
          · simp only [Act.put, List.setIfInBounds_toArray, List.set_cons_zero, List.set_cons_succ, i64_w, i32_w]
            rfl
          refine pure_ (i := 6) (N := some 112) (v := ?_) (a' := ?_) #[true, true, true, true, false, true, true, false, false, false, false, false, false, false, false, false, false, false, false] rfl rfl (by kernel_rfl) (fun _ _ _ h => h) (Or.inl ⟨by rfl, ?_⟩) ?_ ?_
          rotate_left
          · intro w'
            go_simp
            with_reducible rfl
          rotate_left
          · simp only [Act.put, List.setIfInBounds_toArray, List.set_cons_zero, List.set_cons_succ, i64_w, i32_w]
            rfl
          refine pure_ (i := 7) (N := some 113) (v := ?_) (a' := ?_) #[true, true, true, true, false, true, true, true, false, false, false, false, false, false, false, false, false, false, false] rfl rfl (by kernel_rfl) (fun _ _ _ h => h) (Or.inl ⟨by rfl, ?_⟩) ?_ ?_
          rotate_left
          · intro w'
            go_simp
            with_reducible rfl
          rotate_left
          · simp only [Act.put, List.setIfInBounds_toArray, List.set_cons_zero, List.set_cons_succ, i64_w, i32_w]
            rfl
          refine pure_ (i := 8) (N := some 114) (v := ?_) (a' := ?_) #[true, true, true, true, false, true, true, true, true, false, false, false, false, false, false, false, false, false, false] rfl rfl (by kernel_rfl) (fun _ _ _ h => h) (Or.inl ⟨by rfl, ?_⟩) ?_ ?_
          rotate_left
          · intro w'
            go_simp
            with_reducible rfl
          rotate_left
          · simp only [Act.put, List.setIfInBounds_toArray, List.set_cons_zero, List.set_cons_succ, i64_w, i32_w]
            rfl
          refine pure_ (i := 10) (N := some 116) (v := ?_) (a' := ?_) #[true, true, true, true, false, true, true, true, true, false, true, false, false, false, false, false, false, false, false] rfl rfl (by kernel_rfl) (fun _ _ _ h => h) (Or.inl ⟨by rfl, ?_⟩) ?_ ?_
          rotate_left
          · intro w'
            go_simp
            with_reducible rfl
          rotate_left
          · simp only [Act.put, List.setIfInBounds_toArray, List.set_cons_zero, List.set_cons_succ, i64_w, i32_w]
            rfl
          refine pure_ (i := 11) (N := some 117) (v := ?_) (a' := ?_) #[true, true, true, true, false, true, true, true, true, false, true, true, false, false, false, false, false, false, false] rfl rfl (by kernel_rfl) (fun _ _ _ h => h) (Or.inl ⟨by rfl, ?_⟩) ?_ ?_
          rotate_left
          · intro w'
            go_simp
            with_reducible rfl
          rotate_left
          · simp only [Act.put, List.setIfInBounds_toArray, List.set_cons_zero, List.set_cons_succ, i64_w, i32_w]
            rfl
          refine pure_ (i := 12) (N := some 118) (v := ?_) (a' := ?_) #[true, true, true, true, false, true, true, true, true, false, true, true, true, false, false, false, false, false, false] rfl rfl (by kernel_rfl) (fun _ _ _ h => h) (Or.inl ⟨by rfl, ?_⟩) ?_ ?_
          rotate_left
          · intro w'
            go_simp
            with_reducible rfl
          rotate_left
          · simp only [Act.put, List.setIfInBounds_toArray, List.set_cons_zero, List.set_cons_succ, i64_w, i32_w]
            rfl
          refine pure_ (i := 13) (N := some 119) (v := ?_) (a' := ?_) #[true, true, true, true, false, true, true, true, true, false, true, true, true, true, false, false, false, false, false] rfl rfl (by kernel_rfl) (fun _ _ _ h => h) (Or.inl ⟨by rfl, ?_⟩) ?_ ?_
          rotate_left
          · intro w'
            go_simp
            with_reducible rfl
          rotate_left
          · simp only [Act.put, List.setIfInBounds_toArray, List.set_cons_zero, List.set_cons_succ, i64_w, i32_w]
            rfl
          refine take_ (i := 4) (N := some 110) (v := ?_) (a' := ?_) #[true, true, true, true, true, true, true, true, true, false, true, true, true, true, false, false, false, false, false] rfl rfl (by kernel_rfl) (fun _ _ _ h => h) (Or.inl ⟨by rfl, ?_⟩) hHeld ?_ ?_
          rotate_left
          · rintro w' ⟨s0, s1, s2⟩
            go_simp
            with_reducible rfl
          rotate_left
          · simp only [Act.put, List.setIfInBounds_toArray, List.set_cons_zero, List.set_cons_succ, i64_w, i32_w]
            rfl
          refine take_ (i := 9) (N := some 115) (v := ?_) (a' := ?_) #[true, true, true, true, true, true, true, true, true, true, true, true, true, true, false, false, false, false, false] rfl rfl (by kernel_rfl) (fun _ _ _ h => h) (Or.inl ⟨by rfl, ?_⟩) hHeld ?_ ?_
          rotate_left
          · rintro w' ⟨s0, s1, s2⟩
            go_simp
            with_reducible rfl
          rotate_left
          · simp only [Act.put, List.setIfInBounds_toArray, List.set_cons_zero, List.set_cons_succ, i64_w, i32_w]
            rfl
          refine take_ (i := 14) (N := some 120) (v := ?_) (a' := ?_) #[true, true, true, true, true, true, true, true, true, true, true, true, true, true, true, false, false, false, false] rfl rfl (by kernel_rfl) (fun _ _ _ h => h) (Or.inl ⟨by rfl, ?_⟩) hHeld ?_ ?_
          rotate_left
          · rintro w' ⟨s0, s1, s2⟩
            go_simp
            with_reducible rfl
          rotate_left
          · simp only [Act.put, List.setIfInBounds_toArray, List.set_cons_zero, List.set_cons_succ, i64_w, i32_w]
            rfl
          refine one_ (i := 15) (N := some 121) #[true, true, true, true, true, true, true, true, true, true, true, true, true, true, true, true, false, false, false] rfl rfl (by kernel_rfl) (by decide) (fun K hK => ?_)
          refine goes_ Try.func22 (by kernel_rfl) rfl #[.int .i64 xi, .int .i64 bl, .int .i64 bh] (by rfl) rfl rfl (by simp only [List.map_toArray, List.map_cons, List.map_nil] <;> rfl) ?_
          refine (Clamp_calls _ _ _ _).mono ?_
          rintro e wn ⟨rfl, rfl⟩
          refine ⟨_, rfl, ?_⟩
          rw [hcx.out]
          clear hHeld
          refine hK.out _ _ ⟨(bl_cell hbw hex), (bl_cell hbw hb1), (bl_cell hbw hb2)⟩ (fun hHeld => ?_)
          clear hK K
          refine norm_ (a' := ?_) ?_ ?_
          rotate_left
          · show Act.put _ (some 121) _ = _
            simp only [Act.put, List.setIfInBounds_toArray, List.set_cons_zero, List.set_cons_succ, i64_w, i32_w]
            rfl
          refine one_ (i := 16) (N := some 122) #[true, true, true, true, true, true, true, true, true, true, true, true, true, true, true, true, true, false, false] rfl rfl (by kernel_rfl) (by decide) (fun K hK => ?_)
          refine value_ (w1 := wn.alloc (.cells #[.int .i64 cx_] 3)) (v := .slice (some ⟨wn.heap.size, 0, none⟩) 1 1) (by rfl) rfl ?_ ?_
          · go_simp
            try rfl
          have hk_16 : (wn.alloc (.cells #[.int .i64 cx_] 3)).heap[wn.heap.size]? = some (.cells #[.int .i64 cx_] 3 (0, 0)) := blk_new wn _
          have hle_16 : V.heap.size ≤ wn.heap.size := hbw.size
          replace hbw := bl_alloc hbw (.cells #[.int .i64 cx_] 3)
          replace ho := ho.alloc (.cells #[.int .i64 cx_] 3)
          replace hsB : B ≤ (wn.alloc (.cells #[.int .i64 cx_] 3)).heap.size := by have h_ := (bl_alloc (Below.refl wn.heap.size wn) (.cells #[.int .i64 cx_] 3)).size; omega
          generalize wn.heap.size = g16 at *
          generalize wn.alloc (.cells #[.int .i64 cx_] 3) = wn at *
          clear hHeld
          refine hK.out _ _ ⟨(bl_cell hbw hex), (bl_cell hbw hb1), (bl_cell hbw hb2)⟩ (fun hHeld => ?_)
          clear hK K
          refine norm_ (a' := ?_) ?_ ?_
          rotate_left
          · show Act.put _ (some 122) _ = _
            simp only [Act.put, List.setIfInBounds_toArray, List.set_cons_zero, List.set_cons_succ, i64_w, i32_w]
            rfl
          refine one_ (i := 17) (N := some 123) #[true, true, true, true, true, true, true, true, true, true, true, true, true, true, true, true, true, true, false] rfl rfl (by kernel_rfl) (by decide) (fun K hK => ?_)
          obtain ⟨v2, w2, hrun, ho2, hg2⟩ := ho.app1 (P := Try.prog) 23 Try.underlying23 infoI27 g16 cx_ hk_16 (by rw [hYl.out]; omega) hsB
          rw [← hysi.out] at ho2
          refine value_ (w1 := w2) (v := v2) (by rfl) rfl (exec_app (.tmp 106) (.tmp 122) 23 (by rfl) (by rfl) (by rfl) hrun) ?_
          replace hbw := hbw.trans (Below.mono hg2 hVB)
          replace hsB : B ≤ w2.heap.size := Nat.le_trans hsB hg2.size
          clear ho hk_16 hle_16 hrun hg2
          generalize w2 = wn at *
          clear hHeld
          refine hK.out _ _ ⟨(bl_cell hbw hex), (bl_cell hbw hb1), (bl_cell hbw hb2)⟩ (fun hHeld => ?_)
          clear hK K
          refine norm_ (a' := ?_) ?_ ?_
          rotate_left
          · show Act.put _ (some 123) _ = _
            simp only [Act.put, List.setIfInBounds_toArray, List.set_cons_zero, List.set_cons_succ, i64_w, i32_w]
            rfl
          refine pure_ (i := 18) (N := some 15) (v := ?_) (a' := ?_) #[true, true, true, true, true, true, true, true, true, true, true, true, true, true, true, true, true, true, true] rfl rfl (by kernel_rfl) (fun _ _ _ h => h) (Or.inl ⟨by rfl, ?_⟩) ?_ ?_
          rotate_left
          · intro w'
            go_simp
            with_reducible rfl
          rotate_left
          · simp only [Act.put, List.setIfInBounds_toArray, List.set_cons_zero, List.set_cons_succ, i64_w, i32_w]
            rfl
          refine done_ (by kernel_rfl) ?_
          obtain ⟨wb, owb, hWb, hw1, hw2⟩ := hpW.at (k := i) (by have := hlE.out; omega)
          subst hWb
          obtain ⟨bw, ow, rfl, hew⟩ := hw.at (i := i) (by omega)
          obtain ⟨wi, hwi⟩ : ∃ z, lw.getD i 0 = z := ⟨_, rfl⟩
          rw [hwi] at hew hvsi
          obtain ⟨⟨wl, wh⟩, hwl⟩ : ∃ z, p.W.getD i ⟨0, 0⟩ = z := ⟨_, rfl⟩
          rw [hwl] at hw1 hw2 hvsi
          simp only [] at hw1 hw2 hvsi
          replace hwl := hidI hwl
          obtain ⟨cw_, hcw⟩ : ∃ z, Hid (clampTo wi wl wh = z) := ⟨_, rfl⟩
          rw [hcw.out] at hvsi
          clear hex
          go_upto_region 15 with fail
          replace ho := ho2.rot.drew
          clear ho2
          replace hsB : B ≤ wn.drew.heap.size := hsB
          replace hbw := bl_drew hbw
          refine start_ (n := 21) (S := fun w' => w'.cell? ⟨bw, ow + i, none⟩ = some (.int .i64 wi) ∧ w'.cell? ⟨g1, 4, none⟩ = some (.slice (some ⟨wb, owb, none⟩) p.W.length cW) ∧ w'.cell? ⟨wb, owb + i * 2, none⟩ = some (.int .i64 wl) ∧ w'.cell? ⟨wb, owb + i * 2 + 1, none⟩ = some (.int .i64 wh)) (ds := []) #[false, false, false, false, false, false, false, false, false, false, false, false, false, false, false, false, false, false, false, false, false] (by kernel_rfl) rfl rfl ⟨(bl_cell hbw hew), (blk_cell (bl_block hbw hk_g1) 4 (by rfl)), (bl_cell hbw hw1), (bl_cell hbw hw2)⟩ (fun hHeld => ?_)
          generalize wn.drew = wn at *
          refine pure_ (i := 0) (N := some 124) (v := ?_) (a' := ?_) #[true, false, false, false, false, false, false, false, false, false, false, false, false, false, false, false, false, false, false, false, false] rfl rfl (by kernel_rfl) (fun _ _ _ h => h) (Or.inl ⟨by rfl, ?_⟩) ?_ ?_
          rotate_left
          · intro w'
            go_simp
            with_reducible rfl
          rotate_left
          · simp only [Act.put, List.setIfInBounds_toArray, List.set_cons_zero, List.set_cons_succ, i64_w, i32_w]
            rfl
          refine pure_ (i := 1) (N := some 125) (v := ?_) (a' := ?_) #[true, true, false, false, false, false, false, false, false, false, false, false, false, false, false, false, false, false, false, false, false] rfl rfl (by kernel_rfl) (fun _ _ _ h => h) (Or.inl ⟨by rfl, ?_⟩) ?_ ?_
          rotate_left
          · intro w'
            go_simp
            with_reducible rfl
          rotate_left
          · simp only [Act.put, List.setIfInBounds_toArray, List.set_cons_zero, List.set_cons_succ, i64_w, i32_w]
            rfl
          refine pure_ (i := 2) (N := some 126) (v := ?_) (a' := ?_) #[true, true, true, false, false, false, false, false, false, false, false, false, false, false, false, false, false, false, false, false, false] rfl rfl (by kernel_rfl) (fun _ _ _ h => h) (Or.inl ⟨by rfl, ?_⟩) ?_ ?_
          rotate_left
          · intro w'
            go_simp
            with_reducible rfl
          rotate_left
          · simp only [Act.put, List.setIfInBounds_toArray, List.set_cons_zero, List.set_cons_succ, i64_w, i32_w]
            rfl
          refine pure_ (i := 3) (N := some 127) (v := ?_) (a' := ?_) #[true, true, true, true, false, false, false, false, false, false, false, false, false, false, false, false, false, false, false, false, false] rfl rfl (by kernel_rfl) (fun _ _ _ h => h) (Or.inl ⟨by rfl, ?_⟩) ?_ ?_
          rotate_left
          · intro w'
            go_simp
            with_reducible rfl
          rotate_left
          · simp only [Act.put, List.setIfInBounds_toArray, List.set_cons_zero, List.set_cons_succ, i64_w, i32_w]
            rfl
          refine pure_ (i := 5) (N := some 129) (v := ?_) (a' := ?_) #[true, true, true, true, false, true, false, false, false, false, false, false, false, false, false, false, false, false, false, false, false] rfl rfl (by kernel_rfl) (fun _ _ _ h => h) (Or.inl ⟨by rfl, ?_⟩) ?_ ?_
          rotate_left
          · intro w'
            go_simp
            with_reducible rfl
          rotate_left
          · simp only [Act.put, List.setIfInBounds_toArray, List.set_cons_zero, List.set_cons_succ, i64_w, i32_w]
            rfl
          refine pure_ (i := 7) (N := some 131) (v := ?_) (a' := ?_) #[true, true, true, true, false, true, false, true, false, false, false, false, false, false, false, false, false, false, false, false, false] rfl rfl (by kernel_rfl) (fun _ _ _ h => h) (Or.inl ⟨by rfl, ?_⟩) ?_ ?_
          rotate_left
          · intro w'
            go_simp
            with_reducible rfl
          rotate_left
          · simp only [Act.put, List.setIfInBounds_toArray, List.set_cons_zero, List.set_cons_succ, i64_w, i32_w]
            rfl
          refine pure_ (i := 11) (N := some 135) (v := ?_) (a' := ?_) #[true, true, true, true, false, true, false, true, false, false, false, true, false, false, false, false, false, false, false, false, false] rfl rfl (by kernel_rfl) (fun _ _ _ h => h) (Or.inl ⟨by rfl, ?_⟩) ?_ ?_
          rotate_left
          · intro w'
            go_simp
            with_reducible rfl
          rotate_left
          · simp only [Act.put, List.setIfInBounds_toArray, List.set_cons_zero, List.set_cons_succ, i64_w, i32_w]
            rfl
          refine pure_ (i := 13) (N := some 137) (v := ?_) (a' := ?_) #[true, true, true, true, false, true, false, true, false, false, false, true, false, true, false, false, false, false, false, false, false] rfl rfl (by kernel_rfl) (fun _ _ _ h => h) (Or.inl ⟨by rfl, ?_⟩) ?_ ?_
          rotate_left
          · intro w'
            go_simp
            with_reducible rfl
          rotate_left
          · simp only [Act.put, List.setIfInBounds_toArray, List.set_cons_zero, List.set_cons_succ, i64_w, i32_w]
            rfl
          refine take_ (i := 4) (N := some 128) (v := ?_) (a' := ?_) #[true, true, true, true, true, true, false, true, false, false, false, true, false, true, false, false, false, false, false, false, false] rfl rfl (by kernel_rfl) (fun _ _ _ h => h) (Or.inl ⟨by rfl, ?_⟩) hHeld ?_ ?_
          rotate_left
          · rintro w' ⟨s0, s1, s2, s3⟩
            go_simp
            with_reducible rfl
          rotate_left
          · simp only [Act.put, List.setIfInBounds_toArray, List.set_cons_zero, List.set_cons_succ, i64_w, i32_w]
            rfl
          refine take_ (i := 6) (N := some 130) (v := ?_) (a' := ?_) #[true, true, true, true, true, true, true, true, false, false, false, true, false, true, false, false, false, false, false, false, false] rfl rfl (by kernel_rfl) (fun _ _ _ h => h) (Or.inl ⟨by rfl, ?_⟩) hHeld ?_ ?_
          rotate_left
          · rintro w' ⟨s0, s1, s2, s3⟩
            go_simp
            with_reducible rfl
          rotate_left
          · simp only [Act.put, List.setIfInBounds_toArray, List.set_cons_zero, List.set_cons_succ, i64_w, i32_w]
            rfl
          refine pure_ (i := 8) (N := some 132) (v := ?_) (a' := ?_) #[true, true, true, true, true, true, true, true, true, false, false, true, false, true, false, false, false, false, false, false, false] rfl rfl (by kernel_rfl) (fun _ _ _ h => h) (Or.inl ⟨by rfl, ?_⟩) ?_ ?_
          rotate_left
          · intro w'
            go_simp
            with_reducible rfl
          rotate_left
          · simp only [Act.put, List.setIfInBounds_toArray, List.set_cons_zero, List.set_cons_succ, i64_w, i32_w]
            rfl
          refine pure_ (i := 9) (N := some 133) (v := ?_) (a' := ?_) #[true, true, true, true, true, true, true, true, true, true, false, true, false, true, false, false, false, false, false, false, false] rfl rfl (by kernel_rfl) (fun _ _ _ h => h) (Or.inl ⟨by rfl, ?_⟩) ?_ ?_
          rotate_left
          · intro w'
            go_simp
            with_reducible rfl
          rotate_left
          · simp only [Act.put, List.setIfInBounds_toArray, List.set_cons_zero, List.set_cons_succ, i64_w, i32_w]
            rfl
          refine take_ (i := 10) (N := some 134) (v := ?_) (a' := ?_) #[true, true, true, true, true, true, true, true, true, true, true, true, false, true, false, false, false, false, false, false, false] rfl rfl (by kernel_rfl) (fun _ _ _ h => h) (Or.inl ⟨by rfl, ?_⟩) hHeld ?_ ?_
          rotate_left
          · rintro w' ⟨s0, s1, s2, s3⟩
            go_simp
            with_reducible rfl
          rotate_left
          · simp only [Act.put, List.setIfInBounds_toArray, List.set_cons_zero, List.set_cons_succ, i64_w, i32_w]
            rfl
          refine take_ (i := 12) (N := some 136) (v := ?_) (a' := ?_) #[true, true, true, true, true, true, true, true, true, true, true, true, true, true, false, false, false, false, false, false, false] rfl rfl (by kernel_rfl) (fun _ _ _ h => h) (Or.inl ⟨by rfl, ?_⟩) hHeld ?_ ?_
          rotate_left
          · rintro w' ⟨s0, s1, s2, s3⟩
            go_simp
            with_reducible rfl
          rotate_left
          · simp only [Act.put, List.setIfInBounds_toArray, List.set_cons_zero, List.set_cons_succ, i64_w, i32_w]
            rfl
          refine pure_ (i := 14) (N := some 138) (v := ?_) (a' := ?_) #[true, true, true, true, true, true, true, true, true, true, true, true, true, true, true, false, false, false, false, false, false] rfl rfl (by kernel_rfl) (fun _ _ _ h => h) (Or.inl ⟨by rfl, ?_⟩) ?_ ?_
          rotate_left
          · intro w'
            go_simp
            with_reducible rfl
          rotate_left
          · simp only [Act.put, List.setIfInBounds_toArray, List.set_cons_zero, List.set_cons_succ, i64_w, i32_w]
            rfl
          refine pure_ (i := 15) (N := some 139) (v := ?_) (a' := ?_) #[true, true, true, true, true, true, true, true, true, true, true, true, true, true, true, true, false, false, false, false, false] rfl rfl (by kernel_rfl) (fun _ _ _ h => h) (Or.inl ⟨by rfl, ?_⟩) ?_ ?_
          rotate_left
          · intro w'
            go_simp
            with_reducible rfl
          rotate_left
          · simp only [Act.put, List.setIfInBounds_toArray, List.set_cons_zero, List.set_cons_succ, i64_w, i32_w]
            rfl
          refine take_ (i := 16) (N := some 140) (v := ?_) (a' := ?_) #[true, true, true, true, true, true, true, true, true, true, true, true, true, true, true, true, true, false, false, false, false] rfl rfl (by kernel_rfl) (fun _ _ _ h => h) (Or.inl ⟨by rfl, ?_⟩) hHeld ?_ ?_
          rotate_left
          · rintro w' ⟨s0, s1, s2, s3⟩
            go_simp
            with_reducible rfl
          rotate_left
          · simp only [Act.put, List.setIfInBounds_toArray, List.set_cons_zero, List.set_cons_succ, i64_w, i32_w]
            rfl
          refine one_ (i := 17) (N := some 141) #[true, true, true, true, true, true, true, true, true, true, true, true, true, true, true, true, true, true, false, false, false] rfl rfl (by kernel_rfl) (by decide) (fun K hK => ?_)
          refine goes_ Try.func22 (by kernel_rfl) rfl #[.int .i64 wi, .int .i64 wl, .int .i64 wh] (by rfl) rfl rfl (by simp only [List.map_toArray, List.map_cons, List.map_nil] <;> rfl) ?_
          refine (Clamp_calls _ _ _ _).mono ?_
          rintro e wn ⟨rfl, rfl⟩
          refine ⟨_, rfl, ?_⟩
          rw [hcw.out]
          clear hHeld
          refine hK.out _ _ ⟨(bl_cell hbw hew), (blk_cell (bl_block hbw hk_g1) 4 (by rfl)), (bl_cell hbw hw1), (bl_cell hbw hw2)⟩ (fun hHeld => ?_)
          clear hK K
          refine norm_ (a' := ?_) ?_ ?_
          rotate_left
          · show Act.put _ (some 141) _ = _
            simp only [Act.put, List.setIfInBounds_toArray, List.set_cons_zero, List.set_cons_succ, i64_w, i32_w]
            rfl
          refine one_ (i := 18) (N := some 142) #[true, true, true, true, true, true, true, true, true, true, true, true, true, true, true, true, true, true, true, false, false] rfl rfl (by kernel_rfl) (by decide) (fun K hK => ?_)
          refine value_ (w1 := wn.alloc (.cells #[.int .i64 cw_] 3)) (v := .slice (some ⟨wn.heap.size, 0, none⟩) 1 1) (by rfl) rfl ?_ ?_
          · go_simp
            try rfl
          have hk_18 : (wn.alloc (.cells #[.int .i64 cw_] 3)).heap[wn.heap.size]? = some (.cells #[.int .i64 cw_] 3 (0, 0)) := blk_new wn _
          have hle_18 : V.heap.size ≤ wn.heap.size := hbw.size
          replace hbw := bl_alloc hbw (.cells #[.int .i64 cw_] 3)
          replace ho := ho.alloc (.cells #[.int .i64 cw_] 3)
          replace hsB : B ≤ (wn.alloc (.cells #[.int .i64 cw_] 3)).heap.size := by have h_ := (bl_alloc (Below.refl wn.heap.size wn) (.cells #[.int .i64 cw_] 3)).size; omega
          generalize wn.heap.size = g18 at *
          generalize wn.alloc (.cells #[.int .i64 cw_] 3) = wn at *
          clear hHeld
          refine hK.out _ _ ⟨(bl_cell hbw hew), (blk_cell (bl_block hbw hk_g1) 4 (by rfl)), (bl_cell hbw hw1), (bl_cell hbw hw2)⟩ (fun hHeld => ?_)
          clear hK K
          refine norm_ (a' := ?_) ?_ ?_
          rotate_left
          · show Act.put _ (some 142) _ = _
            simp only [Act.put, List.setIfInBounds_toArray, List.set_cons_zero, List.set_cons_succ, i64_w, i32_w]
            rfl
          refine one_ (i := 19) (N := some 143) #[true, true, true, true, true, true, true, true, true, true, true, true, true, true, true, true, true, true, true, true, false] rfl rfl (by kernel_rfl) (by decide) (fun K hK => ?_)
          obtain ⟨v2, w2, hrun, ho2, hg2⟩ := ho.app1 (P := Try.prog) 23 Try.underlying23 infoI27 g18 cw_ hk_18 (by rw [hVl.out]; omega) hsB
          rw [← hvsi.out] at ho2
          refine value_ (w1 := w2) (v := v2) (by rfl) rfl (exec_app (.tmp 124) (.tmp 142) 23 (by rfl) (by rfl) (by rfl) hrun) ?_
          replace hbw := hbw.trans (Below.mono hg2 hVB)
          replace hsB : B ≤ w2.heap.size := Nat.le_trans hsB hg2.size
          clear ho hk_18 hle_18 hrun hg2
          generalize w2 = wn at *
          clear hHeld
          refine hK.out _ _ ⟨(bl_cell hbw hew), (blk_cell (bl_block hbw hk_g1) 4 (by rfl)), (bl_cell hbw hw1), (bl_cell hbw hw2)⟩ (fun hHeld => ?_)
          clear hK K
          refine norm_ (a' := ?_) ?_ ?_
          rotate_left
          · show Act.put _ (some 143) _ = _
            simp only [Act.put, List.setIfInBounds_toArray, List.set_cons_zero, List.set_cons_succ, i64_w, i32_w]
            rfl
          refine pure_ (i := 20) (N := some 16) (v := ?_) (a' := ?_) #[true, true, true, true, true, true, true, true, true, true, true, true, true, true, true, true, true, true, true, true, true] rfl rfl (by kernel_rfl) (fun _ _ _ h => h) (Or.inl ⟨by rfl, ?_⟩) ?_ ?_
          rotate_left
          · intro w'
            go_simp
            with_reducible rfl
          rotate_left
          · simp only [Act.put, List.setIfInBounds_toArray, List.set_cons_zero, List.set_cons_succ, i64_w, i32_w]
            rfl
          refine done_ (by kernel_rfl) ?_
          have hb64 : ((i : Int) + 1) ≤ 9223372036854775807 := by omega
          go_wp2
          go_roundw
          case rel => exact ⟨i + 1, by omega, by go_num, hbw, hsB, ho2.rot.rot, hnei⟩
          case measure => simp [intOf]; omega
      · have hie : i = N := by omega
        subst hie
        have hd : decide ((i : Int) < (i : Int)) = false := decide_eq_false (by omega)
        obtain ⟨Ay, cy, rfl, hcy, hry⟩ := ho.rd
        obtain ⟨Av, cv, rfl, hcv, hrv⟩ := ho.rot.rd
        rw [hyl.out] at hcy
        rw [hvl.out] at hcv
        have hyl' := hidI (hyl.out i)
        have hvl' := hidI (hvl.out i)
        rw [hyl'.out, hvl'.out]
        clear ho hsB
        have hyI := hyB.out i hne.out
        have hvI := hvB.out i (fun j hj => (hgood.Wne (by have := hlE.out; omega)).1)
        obtain ⟨ly, hly⟩ : ∃ z, ys i = z := ⟨_, rfl⟩
        obtain ⟨lv, hlv⟩ : ∃ z, vs i = z := ⟨_, rfl⟩
        rw [hly] at hry hyl' hyI
        rw [hlv] at hrv hvl' hvI
        clear hys hvs hyl hvl hyB hvB hly hlv hi
        have hin_ := hgood.2.2
        have hiy : InI ly := hyI.inI hyl'.out hib hlE.out.1
        have hiv : InI lv := hvI.inI hvl'.out hin_.2.2.2.1 (by have := hlE.out; omega)
        obtain ⟨hw5, hN5, hl1, hl3, hl4, hl5, hl6, hl7, hl8, hl9⟩ := hlE.out
        have hcu := clampTo_in (x := u) hsne.out
        have hsbo := hsb.out
        unfold InSp at hsbo
        simp only [] at hsbo
        have hlaw := plant_holds_law hgood (us := ⟨sl, sh⟩) (box := lb) (y := ly) (v := lv) (u := clampTo u sl sh) (by omega) (by rw [hN5]; exact hyI) (by have := hyl'.out; omega) (by rw [hN5]; exact hvI) (by have := hvl'.out; omega) hcu
        have hCo := hidI (fun W (h : Below V.heap.size V W) => Command_calls g p ab lb cb W hgood (hkit.below h) (hb.below h) hib)
        have hRe := hidI (fun W (h : Below V.heap.size V W) => Reach_calls g p ⟨sl, sh⟩ ab lb cb W hgood (hkit.below h) (hb.below h) hib hsb.out)
        have hBa := hidI (fun W (h : Below V.heap.size V W) (h2 : RdI W Ay ly) => Base_calls g p ly Ay cy W (hkit.below h) (by omega) (by omega) hin_.2.2.2.2.2.2.1 hin_.2.2.2.2.2.2.2.1 hin_.2.2.2.2.2.2.2.2 h2 hiy)
        have hNx := hidI (fun W (h : Below V.heap.size V W) (h1 : RdI W Av lv) (h2 : RdI W Ay ly) => Next_yes g p (clampTo u sl sh) lv ly Av Ay cv cy W hgood (hkit.below h) h1 h2 hiv hiy (by omega) (by omega) (by have := hyl'.out; omega) (by have := hvl'.out; omega))
        rw [hN5] at hlaw
        simp only [hyl'.out, hvl'.out] at hBa hNx
        simp only [] at hRe
        clear hcu hsbo hw5 hN5 hl1 hl3 hl4 hl5 hl6 hl7 hl8 hl9 hiv hiy hin_ hyI hvI hne
        obtain ⟨⟨cl, ch⟩, hcS⟩ : ∃ z, (commandP p lb).1 = z := ⟨_, rfl⟩
        obtain ⟨can, hcan⟩ : ∃ z, (commandP p lb).2 = z := ⟨_, rfl⟩
        obtain ⟨bs, hbs⟩ : ∃ z, baseP p ly = z := ⟨_, rfl⟩
        obtain ⟨rl, hrl⟩ : ∃ z, (reachP p ⟨sl, sh⟩ lb).1 = z := ⟨_, rfl⟩
        obtain ⟨ok, hok⟩ : ∃ z, (reachP p ⟨sl, sh⟩ lb).2 = z := ⟨_, rfl⟩
        obtain ⟨nl, hnl⟩ : ∃ z, (nextP p (clampTo u sl sh) lv ly).1 = z := ⟨_, rfl⟩
        obtain ⟨is_, his⟩ : ∃ z, (nextP p (clampTo u sl sh) lv ly).2 = z := ⟨_, rfl⟩
        simp only [hcS, hcan, hbs, hrl, hok, hnl, his] at hlaw hCo hRe hBa hNx
        clear hcS hcan hbs hrl hok hnl his
        obtain ⟨hlaw1, hlaw2⟩ := hlaw
        replace hlaw1 := hidI hlaw1
        replace hlaw2 := hidI hlaw2
        obtain ⟨cu, hcu⟩ : ∃ z, Hid (clampTo u sl sh = z) := ⟨_, rfl⟩
        rw [hcu.out] at hNx
        go_wp2_with fail
        refine (hCo.out _ hbw).mono ?_
        rintro e w9 ⟨rfl, hb9⟩
        replace hbw := bl_step hbw hb9
        replace hry := hry.below hb9
        replace hrv := hrv.below hb9
        clear hb9 hCo
        go_upto_region 17 with fail
        have hkc := blk_new w9 (.cells #[.int .i64 cl, .int .i64 ch] 25)
        have hbA := bl_alloc (Below.refl w9.heap.size w9) (.cells #[.int .i64 cl, .int .i64 ch] 25)
        replace hbw := bl_step hbw hbA
        replace hry := hry.below hbA
        replace hrv := hrv.below hbA
        clear hbA
        generalize w9.alloc (.cells #[.int .i64 cl, .int .i64 ch] 25) = w10 at *
        generalize w9.heap.size = gc at *
        replace hry : RdI w10.drew Ay ly := hry
        replace hrv : RdI w10.drew Av lv := hrv
        cases can
        · skip
          replace hbw := bl_drew hbw
          refine start_ (n := 9) (S := fun w' => True) (ds := []) #[false, false, false, false, false, false, false, false, false] (by kernel_rfl) rfl rfl trivial (fun hHeld => ?_)
          generalize w10.drew = wn at *
          refine pure_ (i := 0) (N := some 150) (v := ?_) (a' := ?_) #[true, false, false, false, false, false, false, false, false] rfl rfl (by kernel_rfl) (fun _ _ _ h => h) (Or.inl ⟨by rfl, ?_⟩) ?_ ?_
          rotate_left
          · intro w'
            go_simp
            with_reducible rfl
          rotate_left
          · simp only [Act.put, List.setIfInBounds_toArray, List.set_cons_zero, List.set_cons_succ, i64_w, i32_w]
            rfl
          refine pure_ (i := 1) (N := some 151) (v := ?_) (a' := ?_) #[true, true, false, false, false, false, false, false, false] rfl rfl (by kernel_rfl) (fun _ _ _ h => h) (Or.inl ⟨by rfl, ?_⟩) ?_ ?_
          rotate_left
          · intro w'
            go_simp
            with_reducible rfl
          rotate_left
          · simp only [Act.put, List.setIfInBounds_toArray, List.set_cons_zero, List.set_cons_succ, i64_w, i32_w]
            rfl
          refine pure_ (i := 2) (N := some 152) (v := undef) (a' := ?_) #[true, true, true, false, false, false, false, false, false] rfl rfl (by kernel_rfl) (fun _ _ _ h => h) (Or.inr ⟨by rfl, rfl⟩) ?_ ?_
          rotate_left
          · simp only [Act.put, List.setIfInBounds_toArray, List.set_cons_zero, List.set_cons_succ, i64_w, i32_w]
            rfl
          refine pure_ (i := 3) (N := some 153) (v := undef) (a' := ?_) #[true, true, true, true, false, false, false, false, false] rfl rfl (by kernel_rfl) (fun _ _ _ h => h) (Or.inr ⟨by rfl, rfl⟩) ?_ ?_
          rotate_left
          · simp only [Act.put, List.setIfInBounds_toArray, List.set_cons_zero, List.set_cons_succ, i64_w, i32_w]
            rfl
          refine pure_ (i := 4) (N := some 154) (v := undef) (a' := ?_) #[true, true, true, true, true, false, false, false, false] rfl rfl (by kernel_rfl) (fun _ _ _ h => h) (Or.inr ⟨by rfl, rfl⟩) ?_ ?_
          rotate_left
          · simp only [Act.put, List.setIfInBounds_toArray, List.set_cons_zero, List.set_cons_succ, i64_w, i32_w]
            rfl
          refine pure_ (i := 5) (N := some 155) (v := undef) (a' := ?_) #[true, true, true, true, true, true, false, false, false] rfl rfl (by kernel_rfl) (fun _ _ _ h => h) (Or.inr ⟨by rfl, rfl⟩) ?_ ?_
          rotate_left
          · simp only [Act.put, List.setIfInBounds_toArray, List.set_cons_zero, List.set_cons_succ, i64_w, i32_w]
            rfl
          refine pure_ (i := 6) (N := some 156) (v := undef) (a' := ?_) #[true, true, true, true, true, true, true, false, false] rfl rfl (by kernel_rfl) (fun _ _ _ h => h) (Or.inr ⟨by rfl, rfl⟩) ?_ ?_
          rotate_left
          · simp only [Act.put, List.setIfInBounds_toArray, List.set_cons_zero, List.set_cons_succ, i64_w, i32_w]
            rfl
          refine pure_ (i := 7) (N := some 157) (v := undef) (a' := ?_) #[true, true, true, true, true, true, true, true, false] rfl rfl (by kernel_rfl) (fun _ _ _ h => h) (Or.inr ⟨by rfl, rfl⟩) ?_ ?_
          rotate_left
          · simp only [Act.put, List.setIfInBounds_toArray, List.set_cons_zero, List.set_cons_succ, i64_w, i32_w]
            rfl
          refine pure_ (i := 8) (N := some 158) (v := ?_) (a' := ?_) #[true, true, true, true, true, true, true, true, true] rfl rfl (by kernel_rfl) (fun _ _ _ h => h) (Or.inl ⟨by rfl, ?_⟩) ?_ ?_
          rotate_left
          · intro w'
            go_simp
            with_reducible rfl
          rotate_left
          · simp only [Act.put, List.setIfInBounds_toArray, List.set_cons_zero, List.set_cons_succ, i64_w, i32_w]
            rfl
          refine done_ (by kernel_rfl) ?_
          clear hkc
          have y0 : wn.cell? ⟨g7, 0, none⟩ = some (.int .i64 sl) := blk_cell (bl_block hbw hk_g7) 0 (by rfl)
          have y1 : wn.cell? ⟨g7, 1, none⟩ = some (.int .i64 sh) := blk_cell (bl_block hbw hk_g7) 1 (by rfl)
          go_wp2_with fail
          refine (hRe.out _ hbw).mono ?_
          rintro e w11 ⟨Ar, cr, rfl, hrr, hb11⟩
          replace hbw := bl_step hbw hb11
          replace hry := hry.below hb11
          replace hrv := hrv.below hb11
          clear hb11 hRe y0 y1
          cases ok
          · skip
            have hbw := bl_step hbw0 hbw
            go_wp2_with fail
            refine (alive15_calls _).mono ?_
            rintro e wz ⟨rfl, hbz⟩
            replace hbw := bl_step hbw hbz
            subst hw0
            go_wp2
            go_ret
            exact ⟨rfl, hbw⟩
          obtain ⟨rfl, hnlen, hrlen, hhas⟩ := hlaw2.out rfl
          replace hhas := hidI hhas
          have y0 : w11.cell? ⟨g7, 0, none⟩ = some (.int .i64 sl) := blk_cell (bl_block hbw hk_g7) 0 (by rfl)
          have y1 : w11.cell? ⟨g7, 1, none⟩ = some (.int .i64 sh) := blk_cell (bl_block hbw hk_g7) 1 (by rfl)
          rw [hnlen] at hNx
          rw [hrlen]
          have hnr := hidI (And.intro hnlen hrlen)
          clear hnlen hrlen
          go_wp2_with fail
          refine (Clamp_calls _ _ _ _).mono ?_
          rintro e w12 ⟨rfl, hw12⟩
          subst hw12
          rw [hcu.out]
          go_wp2_with fail
          refine (hNx.out _ hbw hrv hry).mono ?_
          rintro e w13 ⟨An, cn, rfl, hrn, hb13⟩
          replace hbw := bl_step hbw hb13
          replace hrr := hrr.below hb13
          clear hb13 hNx hry hrv y0 y1
          have d8 : ((i : Int) != (i : Int)) = false := by simp
          go_wp2
          clear d8
          have hbz := hbw
          go_loopw [28] (fun x wr => ∃ k : Nat, k ≤ i ∧ x = .int .i64 k ∧ Below w13.heap.size w13 wr) (fun x _ => (i - intOf x).toNat)
          case atStart => exact ⟨0, by omega, rfl, Below.refl _ _⟩
          case round =>
            clear hbw
            obtain ⟨k, hk, rfl, hbk⟩ := hrel
            by_cases hlt : k < i
            · have hd : decide ((k : Int) < (i : Int)) = true := decide_eq_true (by omega)
              obtain ⟨br, or_, rfl, her1, her2⟩ := hrr.at (k := k) (by have := hnr.out; omega)
              obtain ⟨bn, on_, rfl, hen⟩ := hrn.at (i := k) (by have := hnr.out; omega)
              have hhk := hhas.out k hlt
              obtain ⟨⟨r1, r2⟩, hr12⟩ : ∃ z, rl.getD k ⟨0, 0⟩ = z := ⟨_, rfl⟩
              obtain ⟨n1, hn1⟩ : ∃ z, nl.getD k 0 = z := ⟨_, rfl⟩
              rw [hr12, hn1] at hhk
              rw [hr12] at her1 her2
              rw [hn1] at hen
              simp only [] at her1 her2
              have hHas := hidI (fun W => refHas_calls r1 r2 n1 W)
              rw [hhk] at hHas
              replace hhk := hidI hhk
              replace hr12 := hidI hr12
              replace hn1 := hidI hn1
              go_upto_region 28 with fail
              have hbw := hbk
              replace hbw := bl_drew hbw
              refine start_ (n := 10) (S := fun w' => w'.cell? ⟨br, or_ + k * 2, none⟩ = some (.int .i64 r1) ∧ w'.cell? ⟨br, or_ + k * 2 + 1, none⟩ = some (.int .i64 r2) ∧ w'.cell? ⟨bn, on_ + k, none⟩ = some (.int .i64 n1)) (ds := []) #[false, false, false, false, false, false, false, false, false, false] (by kernel_rfl) rfl rfl ⟨(bl_cell hbw her1), (bl_cell hbw her2), (bl_cell hbw hen)⟩ (fun hHeld => ?_)
              generalize wr.drew = wn at *
              refine pure_ (i := 0) (N := some 197) (v := ?_) (a' := ?_) #[true, false, false, false, false, false, false, false, false, false] rfl rfl (by kernel_rfl) (fun _ _ _ h => h) (Or.inl ⟨by rfl, ?_⟩) ?_ ?_
              rotate_left
              · intro w'
                go_simp
                with_reducible rfl
              rotate_left
              · simp only [Act.put, List.setIfInBounds_toArray, List.set_cons_zero, List.set_cons_succ, i64_w, i32_w]
                rfl
              refine pure_ (i := 1) (N := some 198) (v := ?_) (a' := ?_) #[true, true, false, false, false, false, false, false, false, false] rfl rfl (by kernel_rfl) (fun _ _ _ h => h) (Or.inl ⟨by rfl, ?_⟩) ?_ ?_
              rotate_left
              · intro w'
                go_simp
                with_reducible rfl
              rotate_left
              · simp only [Act.put, List.setIfInBounds_toArray, List.set_cons_zero, List.set_cons_succ, i64_w, i32_w]
                rfl
              refine pure_ (i := 2) (N := some 199) (v := ?_) (a' := ?_) #[true, true, true, false, false, false, false, false, false, false] rfl rfl (by kernel_rfl) (fun _ _ _ h => h) (Or.inl ⟨by rfl, ?_⟩) ?_ ?_
              rotate_left
              · intro w'
                go_simp
                with_reducible rfl
              rotate_left
              · simp only [Act.put, List.setIfInBounds_toArray, List.set_cons_zero, List.set_cons_succ, i64_w, i32_w]
                rfl
              refine pure_ (i := 4) (N := some 201) (v := ?_) (a' := ?_) #[true, true, true, false, true, false, false, false, false, false] rfl rfl (by kernel_rfl) (fun _ _ _ h => h) (Or.inl ⟨by rfl, ?_⟩) ?_ ?_
              rotate_left
              · intro w'
                go_simp
                with_reducible rfl
              rotate_left
              · simp only [Act.put, List.setIfInBounds_toArray, List.set_cons_zero, List.set_cons_succ, i64_w, i32_w]
                rfl
              refine pure_ (i := 5) (N := some 202) (v := ?_) (a' := ?_) #[true, true, true, false, true, true, false, false, false, false] rfl rfl (by kernel_rfl) (fun _ _ _ h => h) (Or.inl ⟨by rfl, ?_⟩) ?_ ?_
              rotate_left
              · intro w'
                go_simp
                with_reducible rfl
              rotate_left
              · simp only [Act.put, List.setIfInBounds_toArray, List.set_cons_zero, List.set_cons_succ, i64_w, i32_w]
                rfl
              refine pure_ (i := 6) (N := some 203) (v := ?_) (a' := ?_) #[true, true, true, false, true, true, true, false, false, false] rfl rfl (by kernel_rfl) (fun _ _ _ h => h) (Or.inl ⟨by rfl, ?_⟩) ?_ ?_
              rotate_left
              · intro w'
                go_simp
                with_reducible rfl
              rotate_left
              · simp only [Act.put, List.setIfInBounds_toArray, List.set_cons_zero, List.set_cons_succ, i64_w, i32_w]
                rfl
              refine take_ (i := 3) (N := some 200) (v := ?_) (a' := ?_) #[true, true, true, true, true, true, true, false, false, false] rfl rfl (by kernel_rfl) (fun _ _ _ h => h) (Or.inl ⟨by rfl, ?_⟩) hHeld ?_ ?_
              rotate_left
              · rintro w' ⟨s0, s1, s2⟩
                go_simp
                with_reducible rfl
              rotate_left
              · simp only [Act.put, List.setIfInBounds_toArray, List.set_cons_zero, List.set_cons_succ, i64_w, i32_w]
                rfl
              refine take_ (i := 7) (N := some 204) (v := ?_) (a' := ?_) #[true, true, true, true, true, true, true, true, false, false] rfl rfl (by kernel_rfl) (fun _ _ _ h => h) (Or.inl ⟨by rfl, ?_⟩) hHeld ?_ ?_
              rotate_left
              · rintro w' ⟨s0, s1, s2⟩
                go_simp
                with_reducible rfl
              rotate_left
              · simp only [Act.put, List.setIfInBounds_toArray, List.set_cons_zero, List.set_cons_succ, i64_w, i32_w]
                rfl
              refine one_ (i := 8) (N := some 205) #[true, true, true, true, true, true, true, true, true, false] rfl rfl (by kernel_rfl) (by decide) (fun K hK => ?_)
              refine goes_ Try.func23 (by kernel_rfl) rfl #[.agg #[.int .i64 r1, .int .i64 r2], .int .i64 n1] (by rfl) rfl rfl (by simp only [List.map_toArray, List.map_cons, List.map_nil] <;> rfl) ?_
              refine (hHas.out _).mono ?_
              rintro e wn ⟨rfl, hbn⟩
              refine ⟨_, rfl, ?_⟩
              replace hbw := bl_step hbw hbn
              clear hbn
              clear hHeld
              refine hK.out _ _ ⟨(bl_cell hbw her1), (bl_cell hbw her2), (bl_cell hbw hen)⟩ (fun hHeld => ?_)
              clear hK K
              refine norm_ (a' := ?_) ?_ ?_
              rotate_left
              · show Act.put _ (some 205) _ = _
                simp only [Act.put, List.setIfInBounds_toArray, List.set_cons_zero, List.set_cons_succ, i64_w, i32_w]
                rfl
              refine pure_ (i := 9) (N := some 206) (v := ?_) (a' := ?_) #[true, true, true, true, true, true, true, true, true, true] rfl rfl (by kernel_rfl) (fun _ _ _ h => h) (Or.inl ⟨by rfl, ?_⟩) ?_ ?_
              rotate_left
              · intro w'
                go_simp
                with_reducible rfl
              rotate_left
              · simp only [Act.put, List.setIfInBounds_toArray, List.set_cons_zero, List.set_cons_succ, i64_w, i32_w]
                rfl
              refine done_ (by kernel_rfl) ?_
              have hb64 : ((k : Int) + 1) ≤ 9223372036854775807 := by omega
              go_wp2
              go_roundw
              case rel => exact ⟨k + 1, by omega, by go_num, hbw⟩
              case measure => simp [intOf]; omega
            · have hke : k = i := by omega
              subst hke
              have hd : decide ((k : Int) < (k : Int)) = false := decide_eq_false (by omega)
              have hbw := bl_step hbz hbk
              have hbw := bl_step hbw0 hbw
              go_wp2_with fail
              refine (alive15_calls _).mono ?_
              rintro e wz ⟨rfl, hbz⟩
              replace hbw := bl_step hbw hbz
              subst hw0
              go_wp2
              go_ret
              exact ⟨rfl, hbw⟩
        · skip
          have hh1 := hlaw1.out rfl
          have hHs := hidI (fun W => refHas_calls cl ch bs W)
          rw [hh1] at hHs
          replace hh1 := hidI hh1
          have hk_gc := hkc
          replace hk_gc := blk_drew hk_gc
          replace hbw := bl_drew hbw
          refine start_ (n := 9) (S := fun w' => w'.cell? ⟨gc, 0, none⟩ = some (.int .i64 cl) ∧ w'.cell? ⟨gc, 1, none⟩ = some (.int .i64 ch)) (ds := []) #[false, false, false, false, false, false, false, false, false] (by kernel_rfl) rfl rfl ⟨(blk_cell hk_gc 0 (by rfl)), (blk_cell hk_gc 1 (by rfl))⟩ (fun hHeld => ?_)
          generalize w10.drew = wn at *
          refine pure_ (i := 0) (N := some 150) (v := ?_) (a' := ?_) #[true, false, false, false, false, false, false, false, false] rfl rfl (by kernel_rfl) (fun _ _ _ h => h) (Or.inl ⟨by rfl, ?_⟩) ?_ ?_
          rotate_left
          · intro w'
            go_simp
            with_reducible rfl
          rotate_left
          · simp only [Act.put, List.setIfInBounds_toArray, List.set_cons_zero, List.set_cons_succ, i64_w, i32_w]
            rfl
          refine pure_ (i := 1) (N := some 151) (v := ?_) (a' := ?_) #[true, true, false, false, false, false, false, false, false] rfl rfl (by kernel_rfl) (fun _ _ _ h => h) (Or.inl ⟨by rfl, ?_⟩) ?_ ?_
          rotate_left
          · intro w'
            go_simp
            with_reducible rfl
          rotate_left
          · simp only [Act.put, List.setIfInBounds_toArray, List.set_cons_zero, List.set_cons_succ, i64_w, i32_w]
            rfl
          refine pure_ (i := 3) (N := some 153) (v := ?_) (a' := ?_) #[true, true, false, true, false, false, false, false, false] rfl rfl (by kernel_rfl) (fun _ _ _ h => h) (Or.inl ⟨by rfl, ?_⟩) ?_ ?_
          rotate_left
          · intro w'
            go_simp
            with_reducible rfl
          rotate_left
          · simp only [Act.put, List.setIfInBounds_toArray, List.set_cons_zero, List.set_cons_succ, i64_w, i32_w]
            rfl
          refine pure_ (i := 4) (N := some 154) (v := ?_) (a' := ?_) #[true, true, false, true, true, false, false, false, false] rfl rfl (by kernel_rfl) (fun _ _ _ h => h) (Or.inl ⟨by rfl, ?_⟩) ?_ ?_
          rotate_left
          · intro w'
            go_simp
            with_reducible rfl
          rotate_left
          · simp only [Act.put, List.setIfInBounds_toArray, List.set_cons_zero, List.set_cons_succ, i64_w, i32_w]
            rfl
          refine take_ (i := 2) (N := some 152) (v := ?_) (a' := ?_) #[true, true, true, true, true, false, false, false, false] rfl rfl (by kernel_rfl) (fun _ _ _ h => h) (Or.inl ⟨by rfl, ?_⟩) hHeld ?_ ?_
          rotate_left
          · rintro w' ⟨s0, s1⟩
            go_simp
            with_reducible rfl
          rotate_left
          · simp only [Act.put, List.setIfInBounds_toArray, List.set_cons_zero, List.set_cons_succ, i64_w, i32_w]
            rfl
          refine one_ (i := 5) (N := some 155) #[true, true, true, true, true, true, false, false, false] rfl rfl (by kernel_rfl) (by decide) (fun K hK => ?_)
          refine goes_ Try.func24 (by kernel_rfl) rfl #[.pointer (some ⟨g, 0, none⟩), .slice Ay i cy] (by rfl) rfl rfl (by simp only [List.map_toArray, List.map_cons, List.map_nil] <;> rfl) ?_
          refine (hBa.out _ hbw hry).mono ?_
          rintro e wn ⟨rfl, hbn⟩
          refine ⟨_, rfl, ?_⟩
          replace hk_gc := bl_block hbn hk_gc
          replace hbw := bl_step hbw hbn
          replace hry := hry.below hbn
          replace hrv := hrv.below hbn
          clear hbn
          clear hHeld
          refine hK.out _ _ ⟨(blk_cell hk_gc 0 (by rfl)), (blk_cell hk_gc 1 (by rfl))⟩ (fun hHeld => ?_)
          clear hK K
          refine norm_ (a' := ?_) ?_ ?_
          rotate_left
          · show Act.put _ (some 155) _ = _
            simp only [Act.put, List.setIfInBounds_toArray, List.set_cons_zero, List.set_cons_succ, i64_w, i32_w]
            rfl
          refine one_ (i := 6) (N := some 156) #[true, true, true, true, true, true, true, false, false] rfl rfl (by kernel_rfl) (by decide) (fun K hK => ?_)
          refine goes_ Try.func23 (by kernel_rfl) rfl #[.agg #[.int .i64 cl, .int .i64 ch], .int .i64 bs] (by rfl) rfl rfl (by simp only [List.map_toArray, List.map_cons, List.map_nil] <;> rfl) ?_
          refine (hHs.out _).mono ?_
          rintro e wn ⟨rfl, hbn⟩
          refine ⟨_, rfl, ?_⟩
          replace hk_gc := bl_block hbn hk_gc
          replace hbw := bl_step hbw hbn
          replace hry := hry.below hbn
          replace hrv := hrv.below hbn
          clear hbn
          clear hHeld
          refine hK.out _ _ ⟨(blk_cell hk_gc 0 (by rfl)), (blk_cell hk_gc 1 (by rfl))⟩ (fun hHeld => ?_)
          clear hK K
          refine norm_ (a' := ?_) ?_ ?_
          rotate_left
          · show Act.put _ (some 156) _ = _
            simp only [Act.put, List.setIfInBounds_toArray, List.set_cons_zero, List.set_cons_succ, i64_w, i32_w]
            rfl
          refine pure_ (i := 7) (N := some 157) (v := ?_) (a' := ?_) #[true, true, true, true, true, true, true, true, false] rfl rfl (by kernel_rfl) (fun _ _ _ h => h) (Or.inl ⟨by rfl, ?_⟩) ?_ ?_
          rotate_left
          · intro w'
            go_simp
            with_reducible rfl
          rotate_left
          · simp only [Act.put, List.setIfInBounds_toArray, List.set_cons_zero, List.set_cons_succ, i64_w, i32_w]
            rfl
          refine pure_ (i := 8) (N := some 158) (v := ?_) (a' := ?_) #[true, true, true, true, true, true, true, true, true] rfl rfl (by kernel_rfl) (fun _ _ _ h => h) (Or.inl ⟨by rfl, ?_⟩) ?_ ?_
          rotate_left
          · intro w'
            go_simp
            with_reducible rfl
          rotate_left
          · simp only [Act.put, List.setIfInBounds_toArray, List.set_cons_zero, List.set_cons_succ, i64_w, i32_w]
            rfl
          refine done_ (by kernel_rfl) ?_
          have hkc := hk_gc
          clear hk_gc
          clear hkc
          have y0 : wn.cell? ⟨g7, 0, none⟩ = some (.int .i64 sl) := blk_cell (bl_block hbw hk_g7) 0 (by rfl)
          have y1 : wn.cell? ⟨g7, 1, none⟩ = some (.int .i64 sh) := blk_cell (bl_block hbw hk_g7) 1 (by rfl)
          go_wp2_with fail
          refine (hRe.out _ hbw).mono ?_
          rintro e w11 ⟨Ar, cr, rfl, hrr, hb11⟩
          replace hbw := bl_step hbw hb11
          replace hry := hry.below hb11
          replace hrv := hrv.below hb11
          clear hb11 hRe y0 y1
          cases ok
          · skip
            have hbw := bl_step hbw0 hbw
            go_wp2_with fail
            refine (alive15_calls _).mono ?_
            rintro e wz ⟨rfl, hbz⟩
            replace hbw := bl_step hbw hbz
            subst hw0
            go_wp2
            go_ret
            exact ⟨rfl, hbw⟩
          obtain ⟨rfl, hnlen, hrlen, hhas⟩ := hlaw2.out rfl
          replace hhas := hidI hhas
          have y0 : w11.cell? ⟨g7, 0, none⟩ = some (.int .i64 sl) := blk_cell (bl_block hbw hk_g7) 0 (by rfl)
          have y1 : w11.cell? ⟨g7, 1, none⟩ = some (.int .i64 sh) := blk_cell (bl_block hbw hk_g7) 1 (by rfl)
          rw [hnlen] at hNx
          rw [hrlen]
          have hnr := hidI (And.intro hnlen hrlen)
          clear hnlen hrlen
          go_wp2_with fail
          refine (Clamp_calls _ _ _ _).mono ?_
          rintro e w12 ⟨rfl, hw12⟩
          subst hw12
          rw [hcu.out]
          go_wp2_with fail
          refine (hNx.out _ hbw hrv hry).mono ?_
          rintro e w13 ⟨An, cn, rfl, hrn, hb13⟩
          replace hbw := bl_step hbw hb13
          replace hrr := hrr.below hb13
          clear hb13 hNx hry hrv y0 y1
          have d8 : ((i : Int) != (i : Int)) = false := by simp
          go_wp2
          clear d8
          have hbz := hbw
          go_loopw [28] (fun x wr => ∃ k : Nat, k ≤ i ∧ x = .int .i64 k ∧ Below w13.heap.size w13 wr) (fun x _ => (i - intOf x).toNat)
          case atStart => exact ⟨0, by omega, rfl, Below.refl _ _⟩
          case round =>
            clear hbw
            obtain ⟨k, hk, rfl, hbk⟩ := hrel
            by_cases hlt : k < i
            · have hd : decide ((k : Int) < (i : Int)) = true := decide_eq_true (by omega)
              obtain ⟨br, or_, rfl, her1, her2⟩ := hrr.at (k := k) (by have := hnr.out; omega)
              obtain ⟨bn, on_, rfl, hen⟩ := hrn.at (i := k) (by have := hnr.out; omega)
              have hhk := hhas.out k hlt
              obtain ⟨⟨r1, r2⟩, hr12⟩ : ∃ z, rl.getD k ⟨0, 0⟩ = z := ⟨_, rfl⟩
              obtain ⟨n1, hn1⟩ : ∃ z, nl.getD k 0 = z := ⟨_, rfl⟩
              rw [hr12, hn1] at hhk
              rw [hr12] at her1 her2
              rw [hn1] at hen
              simp only [] at her1 her2
              have hHas := hidI (fun W => refHas_calls r1 r2 n1 W)
              rw [hhk] at hHas
              replace hhk := hidI hhk
              replace hr12 := hidI hr12
              replace hn1 := hidI hn1
              go_upto_region 28 with fail
              have hbw := hbk
              replace hbw := bl_drew hbw
              refine start_ (n := 10) (S := fun w' => w'.cell? ⟨br, or_ + k * 2, none⟩ = some (.int .i64 r1) ∧ w'.cell? ⟨br, or_ + k * 2 + 1, none⟩ = some (.int .i64 r2) ∧ w'.cell? ⟨bn, on_ + k, none⟩ = some (.int .i64 n1)) (ds := []) #[false, false, false, false, false, false, false, false, false, false] (by kernel_rfl) rfl rfl ⟨(bl_cell hbw her1), (bl_cell hbw her2), (bl_cell hbw hen)⟩ (fun hHeld => ?_)
              generalize wr.drew = wn at *
              refine pure_ (i := 0) (N := some 197) (v := ?_) (a' := ?_) #[true, false, false, false, false, false, false, false, false, false] rfl rfl (by kernel_rfl) (fun _ _ _ h => h) (Or.inl ⟨by rfl, ?_⟩) ?_ ?_
              rotate_left
              · intro w'
                go_simp
                with_reducible rfl
              rotate_left
              · simp only [Act.put, List.setIfInBounds_toArray, List.set_cons_zero, List.set_cons_succ, i64_w, i32_w]
                rfl
              refine pure_ (i := 1) (N := some 198) (v := ?_) (a' := ?_) #[true, true, false, false, false, false, false, false, false, false] rfl rfl (by kernel_rfl) (fun _ _ _ h => h) (Or.inl ⟨by rfl, ?_⟩) ?_ ?_
              rotate_left
              · intro w'
                go_simp
                with_reducible rfl
              rotate_left
              · simp only [Act.put, List.setIfInBounds_toArray, List.set_cons_zero, List.set_cons_succ, i64_w, i32_w]
                rfl
              refine pure_ (i := 2) (N := some 199) (v := ?_) (a' := ?_) #[true, true, true, false, false, false, false, false, false, false] rfl rfl (by kernel_rfl) (fun _ _ _ h => h) (Or.inl ⟨by rfl, ?_⟩) ?_ ?_
              rotate_left
              · intro w'
                go_simp
                with_reducible rfl
              rotate_left
              · simp only [Act.put, List.setIfInBounds_toArray, List.set_cons_zero, List.set_cons_succ, i64_w, i32_w]
                rfl
              refine pure_ (i := 4) (N := some 201) (v := ?_) (a' := ?_) #[true, true, true, false, true, false, false, false, false, false] rfl rfl (by kernel_rfl) (fun _ _ _ h => h) (Or.inl ⟨by rfl, ?_⟩) ?_ ?_
              rotate_left
              · intro w'
                go_simp
                with_reducible rfl
              rotate_left
              · simp only [Act.put, List.setIfInBounds_toArray, List.set_cons_zero, List.set_cons_succ, i64_w, i32_w]
                rfl
              refine pure_ (i := 5) (N := some 202) (v := ?_) (a' := ?_) #[true, true, true, false, true, true, false, false, false, false] rfl rfl (by kernel_rfl) (fun _ _ _ h => h) (Or.inl ⟨by rfl, ?_⟩) ?_ ?_
              rotate_left
              · intro w'
                go_simp
                with_reducible rfl
              rotate_left
              · simp only [Act.put, List.setIfInBounds_toArray, List.set_cons_zero, List.set_cons_succ, i64_w, i32_w]
                rfl
              refine pure_ (i := 6) (N := some 203) (v := ?_) (a' := ?_) #[true, true, true, false, true, true, true, false, false, false] rfl rfl (by kernel_rfl) (fun _ _ _ h => h) (Or.inl ⟨by rfl, ?_⟩) ?_ ?_
              rotate_left
              · intro w'
                go_simp
                with_reducible rfl
              rotate_left
              · simp only [Act.put, List.setIfInBounds_toArray, List.set_cons_zero, List.set_cons_succ, i64_w, i32_w]
                rfl
              refine take_ (i := 3) (N := some 200) (v := ?_) (a' := ?_) #[true, true, true, true, true, true, true, false, false, false] rfl rfl (by kernel_rfl) (fun _ _ _ h => h) (Or.inl ⟨by rfl, ?_⟩) hHeld ?_ ?_
              rotate_left
              · rintro w' ⟨s0, s1, s2⟩
                go_simp
                with_reducible rfl
              rotate_left
              · simp only [Act.put, List.setIfInBounds_toArray, List.set_cons_zero, List.set_cons_succ, i64_w, i32_w]
                rfl
              refine take_ (i := 7) (N := some 204) (v := ?_) (a' := ?_) #[true, true, true, true, true, true, true, true, false, false] rfl rfl (by kernel_rfl) (fun _ _ _ h => h) (Or.inl ⟨by rfl, ?_⟩) hHeld ?_ ?_
              rotate_left
              · rintro w' ⟨s0, s1, s2⟩
                go_simp
                with_reducible rfl
              rotate_left
              · simp only [Act.put, List.setIfInBounds_toArray, List.set_cons_zero, List.set_cons_succ, i64_w, i32_w]
                rfl
              refine one_ (i := 8) (N := some 205) #[true, true, true, true, true, true, true, true, true, false] rfl rfl (by kernel_rfl) (by decide) (fun K hK => ?_)
              refine goes_ Try.func23 (by kernel_rfl) rfl #[.agg #[.int .i64 r1, .int .i64 r2], .int .i64 n1] (by rfl) rfl rfl (by simp only [List.map_toArray, List.map_cons, List.map_nil] <;> rfl) ?_
              refine (hHas.out _).mono ?_
              rintro e wn ⟨rfl, hbn⟩
              refine ⟨_, rfl, ?_⟩
              replace hbw := bl_step hbw hbn
              clear hbn
              clear hHeld
              refine hK.out _ _ ⟨(bl_cell hbw her1), (bl_cell hbw her2), (bl_cell hbw hen)⟩ (fun hHeld => ?_)
              clear hK K
              refine norm_ (a' := ?_) ?_ ?_
              rotate_left
              · show Act.put _ (some 205) _ = _
                simp only [Act.put, List.setIfInBounds_toArray, List.set_cons_zero, List.set_cons_succ, i64_w, i32_w]
                rfl
              refine pure_ (i := 9) (N := some 206) (v := ?_) (a' := ?_) #[true, true, true, true, true, true, true, true, true, true] rfl rfl (by kernel_rfl) (fun _ _ _ h => h) (Or.inl ⟨by rfl, ?_⟩) ?_ ?_
              rotate_left
              · intro w'
                go_simp
                with_reducible rfl
              rotate_left
              · simp only [Act.put, List.setIfInBounds_toArray, List.set_cons_zero, List.set_cons_succ, i64_w, i32_w]
                rfl
              refine done_ (by kernel_rfl) ?_
              have hb64 : ((k : Int) + 1) ≤ 9223372036854775807 := by omega
              go_wp2
              go_roundw
              case rel => exact ⟨k + 1, by omega, by go_num, hbw⟩
              case measure => simp [intOf]; omega
            · have hke : k = i := by omega
              subst hke
              have hd : decide ((k : Int) < (k : Int)) = false := decide_eq_false (by omega)
              have hbw := bl_step hbz hbk
              have hbw := bl_step hbw0 hbw
              go_wp2_with fail
              refine (alive15_calls _).mono ?_
              rintro e wz ⟨rfl, hbz⟩
              replace hbw := bl_step hbw hbz
              subst hw0
              go_wp2
              go_ret
              exact ⟨rfl, hbw⟩
end Go.Proofs.Ythdaidmjjcmccaa
