/- Proved here: lemmas and contracts (what a function of the program computes) that the proofs of the laws of this seat lean on. Conditions: as each theorem states. -/
import Derived.Test.YtcmdhkefenjldaaPl11
set_option linter.unusedVariables false
set_option linter.unusedSimpArgs false
namespace Go.Pk
open Go.RowKit
theorem sumI_zeros (l : List Int) (h : ∀ a ∈ l, a = 0) : sumI l = 0 := by
  unfold sumI
  induction l with
  | nil => rfl
  | cons a l ih =>
    rw [List.foldl_cons, h a (by simp)]
    exact ih (fun b hb => h b (by simp [hb]))
theorem getD_zeros (n i : Nat) : (List.replicate n (0 : Int)).getD i 0 = 0 := by
  rw [List.getD_eq_getElem?_getD, List.getElem?_replicate]
  split <;> rfl
theorem nextZ_zero (p : Pl) (n i : Nat) : nextZ p 0 (List.replicate n 0) (List.replicate n 0) i = 0 := by
  unfold nextZ exS
  apply sumI_zeros
  intro a ha
  unfold pairsP at ha
  simp only [List.map_append, List.map_map, List.mem_append, List.map_cons, List.map_nil, List.mem_cons, List.mem_map, List.not_mem_nil, or_false, Function.comp, getD_zeros, Int.mul_zero] at ha
  rcases ha with (h | h) | ⟨_, _, h⟩
  · exact h
  · exact h
  · exact h.symm
theorem nextP_zero {p : Pl} (h : GoodP p) (l : List Int) (hl : l = List.replicate p.B.length 0) : nextP p 0 l l = (l, true) := by
  obtain ⟨h1, h2, -⟩ := h.lens
  have hlen : l.length = p.B.length := by rw [hl, List.length_replicate]
  have hare : areP p l.length = true := by unfold areP; simp [hlen]; omega
  unfold nextP
  rw [if_pos ⟨hare, rfl⟩]
  have hz : ∀ i, nextZ p 0 l l i = 0 := fun i => by rw [hl]; exact nextZ_zero p _ i
  have hall : (List.range p.B.length).all (fun i => fitsI (nextZ p 0 l l i)) = true := by
    rw [List.all_eq_true]
    intro i _
    rw [hz]
    decide
  rw [if_pos hall]
  have e : (List.range p.B.length).map (nextZ p 0 l l) = l := by
    rw [hl]
    apply List.ext_getElem
    · simp
    · intro i h1 h2
      simp [nextZ_zero]
  rw [e]
theorem GoodP.inp {p : Pl} (h : GoodP p) : p.inp.lo ≤ p.inp.hi := by
  have hw := h.2.1
  unfold wrongP at hw
  simp only [Bool.or_eq_false_iff] at hw
  have := hw.1.1.1.1
  unfold emptyB at this
  have := of_decide_eq_false this
  omega
theorem baseP_in {p : Pl} (h : GoodP p) (x : List Int) (hx : x.length = p.B.length) : p.inp.lo ≤ baseP p x ∧ baseP p x ≤ p.inp.hi := by
  obtain ⟨h1, h2, -⟩ := h.lens
  have hare : areP p x.length = true := by unfold areP; simp [hx]; omega
  have := h.inp
  unfold baseP
  rw [if_pos hare]
  unfold clampTo
  split
  · omega
  · split <;> omega
theorem stays_law {p : Pl} (h : GoodP p) (x : List Int) (hx : x.length = p.B.length) (i : Nat) (hi : i < x.length) : (insideP p x && (decide (x.getD i 0 < (p.Safe.getD i ⟨0, 0⟩).lo) || decide ((p.Safe.getD i ⟨0, 0⟩).hi < x.getD i 0))) = false := by
  obtain ⟨h1, h2, h3, h4, h5, h6, h7, h8⟩ := h.lens
  cases hin : insideP p x
  · rfl
  · unfold insideP at hin
    rw [Bool.and_eq_true, List.all_eq_true] at hin
    have hi1 := hin.2 i (List.mem_range.2 hi)
    have hw := h.2.1
    unfold wrongP at hw
    simp only [Bool.or_eq_false_iff, List.any_eq_false] at hw
    have hm : (p.Inv.getD i ⟨0, 0⟩, p.Safe.getD i ⟨0, 0⟩) ∈ p.Inv.zip p.Safe := by
      rw [List.getD_eq_getElem?_getD, List.getD_eq_getElem?_getD, List.getElem?_eq_getElem (by omega), List.getElem?_eq_getElem (by omega)]
      rw [List.mem_iff_getElem]
      exact ⟨i, by simp; omega, by simp⟩
    have hz := hw.2 _ hm
    unfold inS at hz
    unfold hasS at hi1
    simp at hz hi1 ⊢
    omega
end Go.Pk
namespace Go.Proofs.Ytcmdhkefenjldaa
open Go.RowKit Go.Pk Go.Proofs.YtcmdhkefenjldaaW.PrintLast
theorem infoI12 : (Try.prog.info? 3).map (fun i => (i.zero, i.size, i.bytes)) = some (some (.int .i64 0), 1, 8) := by kernel_rfl
theorem mk_zeros (N : Nat) (hN : N ≤ 3) (W : World) : (Instr.makeSlice 23 (.int .i64 (N : Int)) (.int .i64 (N : Int))).run Try.prog W = .ok (.slice (some ⟨W.heap.size, 0, none⟩) N N) (W.alloc (.cells (encI (List.replicate N 0)).toArray 3)) := by
  have hi := infoI12
  cases hib : Try.prog.info? 3 with
  | none => rw [hib] at hi; cases hi
  | some ib =>
    rw [hib] at hi
    simp only [Option.map_some, Option.some.injEq, Prod.mk.injEq] at hi
    obtain ⟨hz0, hz1, hz2⟩ := hi
    have h := run_make (P := Try.prog) W 23 3 ib (.int .i64 0) Try.underlying23 hib hz0 .i64 .i64 (N : Int) (N : Int) (by omega) (by omega) (by rw [hz2]; omega) (by omega)
    rw [h, hz1]
    have hm : madeCells #[Value.int .i64 0] N = Array.replicate N (Value.int .i64 0) := by
      apply Array.ext
      · simp [madeCells]
      · intro i h1 h2
        simp [madeCells, Nat.mod_one]
    have he : (encI (List.replicate N 0)).toArray = Array.replicate N (Value.int .i64 0) := by simp [encI]
    rw [he, ← hm]
    simp [Value.cells]
set_option maxHeartbeats 8000000 in
set_option maxRecDepth 100000 in
theorem Stays_walk (q : PA) (p : Pl) (lx : List Int) (ax : Option Addr) (cx : Nat) (w : World) (hq : q.rd w p) (hin : InP p) (hx : RdI w ax lx) (hix : InI lx) : Calls Try.prog 4 #[.agg (q.cells p).toArray, .slice ax lx.length cx] w fun e w' => e = .returned (.bool true) ∧ Below w.heap.size w w' := by
  have hlight := hidI (fun W (hW : q.rd W p) => Light_calls q p W hW)
  have hnewL := hidI (fun W (hW : q.rd W p) => New_long q p W hW)
  have hnewS := hidI (fun W (hW : q.rd W p) => New_some q p W hW hin)
  obtain ⟨aA, cA, aB, cB, aW, cW, aI, cI, aS, cS, aG, cG⟩ := q
  unfold PA.cells at hlight hnewL hnewS ⊢
  simp only [] at hlight hnewL hnewS
  obtain ⟨il, hil⟩ : ∃ z, p.inp.lo = z := ⟨_, rfl⟩
  obtain ⟨ih, hih⟩ : ∃ z, p.inp.hi = z := ⟨_, rfl⟩
  obtain ⟨bi, hbi⟩ : ∃ z, p.bias = z := ⟨_, rfl⟩
  simp only [hil, hih, hbi] at hlight hnewL hnewS ⊢
  go_enter Try.func4, Try.ntmps4
  go_upto_region 1 with fail
  have hk_g1 := blk_new w (.cells #[.slice aA p.A.length cA, .slice aB p.B.length cB, .int .i64 il, .int .i64 ih, .slice aW p.W.length cW, .slice aI p.Inv.length cI, .slice aS p.Safe.length cS, .slice aG p.gain.length cG, .int .i64 bi] 28)
  have hbw := bl_alloc (Below.refl w.heap.size w) (.cells #[.slice aA p.A.length cA, .slice aB p.B.length cB, .int .i64 il, .int .i64 ih, .slice aW p.W.length cW, .slice aI p.Inv.length cI, .slice aS p.Safe.length cS, .slice aG p.gain.length cG, .int .i64 bi] 28)
  generalize w.alloc (.cells #[.slice aA p.A.length cA, .slice aB p.B.length cB, .int .i64 il, .int .i64 ih, .slice aW p.W.length cW, .slice aI p.Inv.length cI, .slice aS p.Safe.length cS, .slice aG p.gain.length cG, .int .i64 bi] 28) = W1 at *
  replace hq := hq.below hbw
  replace hx := hx.below hbw
  obtain ⟨w0, hw0⟩ : ∃ z : World, z = w := ⟨_, rfl⟩
  rw [← hw0] at hbw
  obtain ⟨g1, hg1⟩ : ∃ g, w.heap.size = g := ⟨_, rfl⟩
  rw [hg1] at hk_g1
  rw [hg1]
  clear hg1
  have y0 : W1.cell? ⟨g1, 0, none⟩ = some (.slice aA p.A.length cA) := blk_cell hk_g1 0 (by rfl)
  have y1 : W1.cell? ⟨g1, 1, none⟩ = some (.slice aB p.B.length cB) := blk_cell hk_g1 1 (by rfl)
  have y2 : W1.cell? ⟨g1, 2, none⟩ = some (.int .i64 il) := blk_cell hk_g1 2 (by rfl)
  have y3 : W1.cell? ⟨g1, 3, none⟩ = some (.int .i64 ih) := blk_cell hk_g1 3 (by rfl)
  have y4 : W1.cell? ⟨g1, 4, none⟩ = some (.slice aW p.W.length cW) := blk_cell hk_g1 4 (by rfl)
  have y5 : W1.cell? ⟨g1, 5, none⟩ = some (.slice aI p.Inv.length cI) := blk_cell hk_g1 5 (by rfl)
  have y6 : W1.cell? ⟨g1, 6, none⟩ = some (.slice aS p.Safe.length cS) := blk_cell hk_g1 6 (by rfl)
  have y7 : W1.cell? ⟨g1, 7, none⟩ = some (.slice aG p.gain.length cG) := blk_cell hk_g1 7 (by rfl)
  have y8 : W1.cell? ⟨g1, 8, none⟩ = some (.int .i64 bi) := blk_cell hk_g1 8 (by rfl)
  go_wp2_with fail
  have hnew : Calls Try.prog 12 #[.agg #[.slice aA p.A.length cA, .slice aB p.B.length cB, .int .i64 il, .int .i64 ih, .slice aW p.W.length cW, .slice aI p.Inv.length cI, .slice aS p.Safe.length cS, .slice aG p.gain.length cG, .int .i64 bi]] W1 fun e w' => Below W1.heap.size W1 w' ∧ ((∃ n : Int, e = .returned (.tuple #[.pointer none, .int .i64 n]) ∧ Hid (n ≠ 0)) ∨ (GoodP p ∧ ∃ g, e = .returned (.tuple #[.pointer (some ⟨g, 0, none⟩), .int .i64 0]) ∧ KitAt w' g 51 p ∧ W1.heap.size ≤ g)) := by
    by_cases hl : longP p = true
    · refine (hnewS.out W1 hq hl).mono ?_
      rintro e w' ⟨hb, h1, h2⟩
      by_cases hw : wrongP p = true
      · exact ⟨hb, Or.inl ⟨42, h1 hw, by unfold Hid; omega⟩⟩
      · have hw' : wrongP p = false := by simpa using hw
        exact ⟨hb, Or.inr ⟨⟨hl, hw', hin⟩, h2 hw'⟩⟩
    · have hl' : longP p = false := by simpa using hl
      refine (hnewL.out W1 hq hl').mono ?_
      rintro e w' ⟨h1, hb⟩
      exact ⟨hb, Or.inl ⟨1, h1, by unfold Hid; omega⟩⟩
  clear hnewL hnewS
  refine hnew.mono ?_
  clear hnew y0 y1 y2 y3 y4 y5 y6 y7 y8
  rintro e w2 ⟨hb2, hcase⟩
  replace hk_g1 := bl_block hb2 hk_g1
  replace hbw := bl_step hbw hb2
  replace hq := hq.below hb2
  replace hx := hx.below hb2
  have y0 : w2.cell? ⟨g1, 0, none⟩ = some (.slice aA p.A.length cA) := blk_cell hk_g1 0 (by rfl)
  have y1 : w2.cell? ⟨g1, 1, none⟩ = some (.slice aB p.B.length cB) := blk_cell hk_g1 1 (by rfl)
  have y2 : w2.cell? ⟨g1, 2, none⟩ = some (.int .i64 il) := blk_cell hk_g1 2 (by rfl)
  have y3 : w2.cell? ⟨g1, 3, none⟩ = some (.int .i64 ih) := blk_cell hk_g1 3 (by rfl)
  have y4 : w2.cell? ⟨g1, 4, none⟩ = some (.slice aW p.W.length cW) := blk_cell hk_g1 4 (by rfl)
  have y5 : w2.cell? ⟨g1, 5, none⟩ = some (.slice aI p.Inv.length cI) := blk_cell hk_g1 5 (by rfl)
  have y6 : w2.cell? ⟨g1, 6, none⟩ = some (.slice aS p.Safe.length cS) := blk_cell hk_g1 6 (by rfl)
  have y7 : w2.cell? ⟨g1, 7, none⟩ = some (.slice aG p.gain.length cG) := blk_cell hk_g1 7 (by rfl)
  have y8 : w2.cell? ⟨g1, 8, none⟩ = some (.int .i64 bi) := blk_cell hk_g1 8 (by rfl)
  rcases hcase with ⟨n, rfl, hn⟩ | ⟨hgood, g, rfl, hkit, hgn⟩
  · have d0 : ((n == 0) : Bool) = false := by have := hn.out; simpa using this
    have d1 : ((n != 0) : Bool) = true := by have := hn.out; simpa using this
    go_upto_region 4 with fail
    go_wp2_with fail
    refine (hlight.out w2 hq).mono ?_
    rintro e w3 ⟨rfl, hb3⟩
    replace hbw := bl_step hbw hb3
    clear y0 y1 y2 y3 y4 y5 y6 y7 y8 hb3
    cases lightP p
    all_goals
      go_wp2_with fail
      refine (alive15_calls _).mono ?_
      rintro e w4 ⟨rfl, hb4⟩
      replace hbw := bl_step hbw hb4
      subst hw0
      go_wp2
      go_ret
      exact ⟨rfl, hbw⟩
  · go_upto_region 4 with fail
    go_wp2_with fail
    refine (hlight.out w2 hq).mono ?_
    rintro e w3 ⟨rfl, hb3⟩
    replace hbw := bl_step hbw hb3
    replace hk_g1 := bl_block hb3 hk_g1
    replace hq := hq.below hb3
    replace hx := hx.below hb3
    replace hkit := hkit.below hb3
    clear y0 y1 y2 y3 y4 y5 y6 y7 y8 hb3
    cases lightP p
    · go_wp2_with fail
      refine (alive15_calls _).mono ?_
      rintro e w4 ⟨rfl, hb4⟩
      replace hbw := bl_step hbw hb4
      subst hw0
      go_wp2
      go_ret
      exact ⟨rfl, hbw⟩
    go_wp2_with fail
    refine (Dim_calls g p _ hkit).mono ?_
    rintro e w4 ⟨rfl, hw4⟩
    subst hw4
    by_cases hlen : lx.length = p.B.length
    · have d1 : ((lx.length : Int) != (p.B.length : Int)) = false := by simp [hlen]
      have hl2 := hidI hlen
      clear hlen
      have hlens := hgood.lens
      obtain ⟨h1, h3, hA1, hA2, hW1, hI1, hS1, hG1⟩ := hlens
      have hba := Base_calls g p lx ax cx w4 hkit hG1 h3 hgood.2.2.2.2.2.2.2.2.1 hgood.2.2.2.2.2.2.2.2.2.1 hgood.2.2.2.2.2.2.2.2.2.2 hx hix
      obtain ⟨hbl, hbh⟩ := baseP_in hgood lx hl2.out
      rw [hil] at hbl
      rw [hih] at hbh
      replace hG1 := hidI (And.intro h1 (And.intro h3 (And.intro hI1 (And.intro hS1 hG1))))
      clear h1 h3 hA1 hA2 hW1 hI1 hS1
      have e2 : decide (baseP p lx < il) = false := decide_eq_false (by omega)
      have e3 : decide (ih < baseP p lx) = false := decide_eq_false (by omega)
      generalize baseP p lx = b at *
      clear hbl hbh
      go_wp2_with fail
      refine hba.mono ?_
      clear hba
      rintro e w5 ⟨rfl, hb5⟩
      replace hbw := bl_step hbw hb5
      replace hk_g1 := bl_block hb5 hk_g1
      replace hq := hq.below hb5
      replace hx := hx.below hb5
      replace hkit := hkit.below hb5
      clear hb5
      have y2 : w5.cell? ⟨g1, 2, none⟩ = some (.int .i64 il) := blk_cell hk_g1 2 (by rfl)
      have y3 : w5.cell? ⟨g1, 3, none⟩ = some (.int .i64 ih) := blk_cell hk_g1 3 (by rfl)
      go_wp2_with fail
      refine (Dim_calls g p _ hkit).mono ?_
      rintro e w6 ⟨rfl, hw6⟩
      subst hw6
      clear y2 y3
      obtain ⟨N, hN⟩ : ∃ N, Hid (p.B.length = N) := ⟨_, rfl⟩
      have hN3 : N ≤ 3 := by have := hG1.out.2.1; have := hN.out; omega
      rw [hN.out]
      have hmk := mk_zeros N hN3
      clear hN3
      go_wp2_with fail
      clear hmk
      obtain ⟨n6, hn6⟩ : ∃ n, w6.heap.size = n := ⟨_, rfl⟩
      rw [hn6]
      obtain ⟨V, eV⟩ : ∃ W, W = w6.alloc (.cells (encI (List.replicate N 0)).toArray 3) := ⟨_, rfl⟩
      rw [← eV]
      obtain ⟨kz, sz⟩ := al_step eV hn6
      have bV : Below w6.heap.size w6 V := by rw [eV]; exact bl_alloc (Below.refl _ _) _
      replace hbw := bl_step hbw bV
      replace hk_g1 := bl_block bV hk_g1
      replace hq := hq.below bV
      replace hx := hx.below bV
      replace hkit := hkit.below bV
      have hNl : (List.replicate N (0 : Int)).length = N := List.length_replicate
      have hN3 : N ≤ 3 := by have := hG1.out.2.1; have := hN.out; omega
      have hz : RdI V (some ⟨n6, 0, none⟩) (List.replicate N 0) := RdI.of_blk kz (by rw [hNl]; omega)
      have hiz : InI (List.replicate N 0) := by unfold InI; intro a ha; have := List.eq_of_mem_replicate ha; omega
      have hnx := Next_yes g p 0 (List.replicate N 0) (List.replicate N 0) _ _ N N V hgood hkit hz hz hiz hiz (by omega) (by omega) (by rw [hNl]; exact hN.out.symm) (by rw [hNl]; exact hN.out.symm)
      rw [nextP_zero hgood (List.replicate N 0) (by rw [hN.out]), hNl] at hnx
      clear eV sz bV hN3
      refine hnx.mono ?_
      clear hnx
      rintro e w7 ⟨A, c, rfl, hrd, hb7⟩
      simp only [hNl] at *
      replace hbw := bl_step hbw hb7
      replace hk_g1 := bl_block hb7 hk_g1
      replace hq := hq.below hb7
      replace hx := hx.below hb7
      replace hkit := hkit.below hb7
      clear hb7 kz hz
      have d5 : ((N : Int) != (N : Int)) = false := by simp
      go_wp2_with fail
      have hdim := Dim_calls g p w7 hkit
      rw [hN.out] at hdim
      refine hdim.mono ?_
      clear hdim
      rintro e w8 ⟨rfl, hw8⟩
      subst hw8
      go_upto_region 14 with fail
      clear d5
      have hb80 := Below.refl w8.heap.size w8
      go_loopw [11] (fun x wr => ∃ i : Nat, i ≤ lx.length ∧ x = .int .i64 i ∧ Below w8.heap.size w8 wr) (fun x _ => (lx.length - intOf x).toNat)
      case atStart => exact ⟨0, by omega, rfl, hb80⟩
      case round =>
        obtain ⟨i, hi, rfl, hb8⟩ := hrel
        by_cases hlt : i < lx.length
        · have hd : decide ((i : Int) < (lx.length : Int)) = true := decide_eq_true (by omega)
          have hiN : i < N := by have := hl2.out; have := hN.out; omega
          have hiS : i < p.Safe.length := by have := hG1.out.2.2.2.1; have := hl2.out; omega
          obtain ⟨bY, oY, rfl, hey⟩ := (hrd.below hb8).at (i := i) (by rw [List.length_replicate]; exact hiN)
          rw [getD_zeros] at hey
          have hxw := hx.below hb8
          obtain ⟨bx, ox, rfl, hex⟩ := hxw.at hlt
          obtain ⟨bS, oS, rfl, hem0, hem1⟩ := (hq.S.below hb8).at hiS
          have hkw := hkit.below hb8
          have hlaw := stays_law hgood lx hl2.out i hlt
          have hins := hidI (fun W (hk : KitAt W g 51 p) (hxx : RdI W (some ⟨bx, ox, none⟩) lx) => Inside_calls g p lx (some ⟨bx, ox, none⟩) cx W hk hG1.out.2.2.1 hxx)
          replace hbw := bl_step hbw hb8
          replace hk_g1 := bl_block hb8 hk_g1
          generalize insideP p lx = bin at *
          generalize lx.getD i 0 = xi at *
          generalize (p.Safe.getD i ⟨0, 0⟩).lo = m0 at *
          generalize (p.Safe.getD i ⟨0, 0⟩).hi = m1 at *
          obtain ⟨q0, hq0⟩ : ∃ b, Hid (decide (xi < m0) = b) := ⟨_, rfl⟩
          obtain ⟨q1, hq1⟩ : ∃ b, Hid (decide (m1 < xi) = b) := ⟨_, rfl⟩
          rw [hq0.out, hq1.out] at hlaw
          replace hlaw := hidI hlaw
          have hdY : decide ((i : Int) < (N : Int)) = true := decide_eq_true (by omega)
          have hdS : decide ((i : Int) < (p.Safe.length : Int)) = true := decide_eq_true (by omega)
          go_upto_region 16 with fail
          have c0_ey : wr.drew.cell? ⟨bY, oY + i, none⟩ = some (.int .i64 0) := hey
          have c0_ex : wr.drew.cell? ⟨bx, ox + i, none⟩ = some (.int .i64 xi) := hex
          have c0_em0 : wr.drew.cell? ⟨bS, oS + i * 2, none⟩ = some (.int .i64 m0) := hem0
          have c0_em1 : wr.drew.cell? ⟨bS, oS + i * 2 + 1, none⟩ = some (.int .i64 m1) := hem1
          have c0_hb8w : Below w8.heap.size w8 wr.drew := bl_drew hb8
          have c0_hkw := hkw.below (bl_drew (Below.refl wr.heap.size wr))
          have c0_hxw := hxw.below (bl_drew (Below.refl wr.heap.size wr))
          clear hey hex hem0 hem1 hkw hxw
          obtain ⟨B0, hB0⟩ : ∃ B, B = wr.heap.size := ⟨_, rfl⟩
          have c0_hsz : B0 ≤ wr.heap.size := Nat.le_of_eq hB0
          have hw0B0 : w0.heap.size ≤ B0 := by rw [hB0]; exact hbw.size
          have c0_hle : wr.heap.size ≤ B0 := Nat.le_of_eq hB0.symm
          have c0_hk_g1 := blk_drew hk_g1
          have c0_lt_g1 : g1 < B0 := by rw [hB0]; exact blk_lt hk_g1
          have c0_hbw := bl_drew hbw
          clear hB0 hbw hk_g1
          refine region_lin (n := 36) (st := ?st12) { R := [0, 0, 3, 7, 15, 31, 63, 63, 255, 511, 1023, 1023, 4095, 8191, 1023, 17407, 1023, 115711, 246783, 508927, 1048575, 2097151, 4194303, 4194303, 16777215, 33554431, 4194303, 71303167, 4194303, 473956351, 1010827263, 2084569087, 4294967295, 8589934591, 17179869183, 34359738367], kill := [[], [], [], [], [], [], [], [], [], [], [], [], [], [], [], [], [], [], [], [], [], [], [], [], [], [], [], [], [], [], [], [], [], [], [], []], cls := [0, 0, 0, 0, 0, 0, 0, 0, 0, 0, 0, 0, 0, 0, 0, 0, 0, 0, 0, 0, 0, 0, 0, 0, 0, 0, 0, 0, 0, 0, 0, 0, 0, 0, 0, 0], dst := [some 78, some 79, some 80, some 81, some 82, some 83, some 84, some 85, some 86, some 87, some 88, some 89, some 90, some 91, some 92, some 93, some 94, some 95, some 96, some 97, some 98, some 99, some 100, some 101, some 102, some 103, some 104, some 105, some 106, some 107, some 108, some 109, some 110, some 111, some 112, some 113], pre := [[], [], [0, 1], [2], [3], [4], [5], [5], [5, 6, 7], [5, 8], [9], [9], [9, 10, 11], [9, 12], [9], [9, 14], [9], [9, 15, 16], [9, 17], [9, 18], [9, 13, 19], [9, 20], [21], [21], [21, 22, 23], [21, 24], [21], [21, 26], [21], [21, 27, 28], [21, 29], [21, 30], [21, 25, 31], [9, 21, 32], [5, 9, 33], [5, 34]], cov := [], fin := [35], locs := [], tgt := [none], abt := [none, none, none, none, none, none, none, none, none, none, none, none, none, none, none, none, none, none, none, none, none, none, none, none, none, none, none, none, none, none, none, none, none, none, none, none] }
            [.v [78] (fun vs => (vs.getD 0 undef) = .slice (some ⟨bY, oY, none⟩) N c),
             .v [79] (fun vs => (vs.getD 0 undef) = .int .i64 (i : Int)),
             .v [80] (fun vs => (vs.getD 0 undef) = .pointer (some ⟨bY, oY + i, none⟩)),
             .v [81] (fun vs => (vs.getD 0 undef) = .int .i64 0),
             .v [82] (fun vs => (vs.getD 0 undef) = .bool false),
             .v [83] (fun vs => (vs.getD 0 undef) = .bool false),
             .v [84] (fun vs => (vs.getD 0 undef) = .pointer (some ⟨g, 0, none⟩)),
             .v [85] (fun vs => (vs.getD 0 undef) = .slice (some ⟨bx, ox, none⟩) lx.length cx),
             .v [86] (fun vs => (vs.getD 0 undef) = .bool bin),
             .v [87] (fun vs => (vs.getD 0 undef) = .bool bin),
             .v [88] (fun vs => (bin = true → (vs.getD 0 undef) = .slice (some ⟨bx, ox, none⟩) lx.length cx) ∧ (bin = false → (vs.getD 0 undef) = undef)),
             .v [89] (fun vs => (bin = true → (vs.getD 0 undef) = .int .i64 (i : Int)) ∧ (bin = false → (vs.getD 0 undef) = undef)),
             .v [90] (fun vs => (bin = true → (vs.getD 0 undef) = .pointer (some ⟨bx, ox + i, none⟩)) ∧ (bin = false → (vs.getD 0 undef) = undef)),
             .v [91] (fun vs => (bin = true → (vs.getD 0 undef) = .int .i64 xi) ∧ (bin = false → (vs.getD 0 undef) = undef)),
             .v [92] (fun vs => (bin = true → (vs.getD 0 undef) = .pointer (some ⟨g1, 6, none⟩)) ∧ (bin = false → (vs.getD 0 undef) = undef)),
             .v [93] (fun vs => (bin = true → (vs.getD 0 undef) = .slice (some ⟨bS, oS, none⟩) p.Safe.length cS) ∧ (bin = false → (vs.getD 0 undef) = undef)),
             .v [94] (fun vs => (bin = true → (vs.getD 0 undef) = .int .i64 (i : Int)) ∧ (bin = false → (vs.getD 0 undef) = undef)),
             .v [95] (fun vs => (bin = true → (vs.getD 0 undef) = .pointer (some ⟨bS, oS + i * 2, none⟩)) ∧ (bin = false → (vs.getD 0 undef) = undef)),
             .v [96] (fun vs => (bin = true → (vs.getD 0 undef) = .pointer (some ⟨bS, oS + i * 2, none⟩)) ∧ (bin = false → (vs.getD 0 undef) = undef)),
             .v [97] (fun vs => (bin = true → (vs.getD 0 undef) = .int .i64 m0) ∧ (bin = false → (vs.getD 0 undef) = undef)),
             .v [98] (fun vs => (bin = true → (vs.getD 0 undef) = .bool q0) ∧ (bin = false → (vs.getD 0 undef) = undef)),
             .v [99] (fun vs => (bin = true → (vs.getD 0 undef) = .bool q0) ∧ (bin = false → (vs.getD 0 undef) = undef)),
             .v [100] (fun vs => ((bin && (!q0)) = true → (vs.getD 0 undef) = .slice (some ⟨bx, ox, none⟩) lx.length cx) ∧ ((bin && (!q0)) = false → (vs.getD 0 undef) = undef)),
             .v [101] (fun vs => ((bin && (!q0)) = true → (vs.getD 0 undef) = .int .i64 (i : Int)) ∧ ((bin && (!q0)) = false → (vs.getD 0 undef) = undef)),
             .v [102] (fun vs => ((bin && (!q0)) = true → (vs.getD 0 undef) = .pointer (some ⟨bx, ox + i, none⟩)) ∧ ((bin && (!q0)) = false → (vs.getD 0 undef) = undef)),
             .v [103] (fun vs => ((bin && (!q0)) = true → (vs.getD 0 undef) = .int .i64 xi) ∧ ((bin && (!q0)) = false → (vs.getD 0 undef) = undef)),
             .v [104] (fun vs => ((bin && (!q0)) = true → (vs.getD 0 undef) = .pointer (some ⟨g1, 6, none⟩)) ∧ ((bin && (!q0)) = false → (vs.getD 0 undef) = undef)),
             .v [105] (fun vs => ((bin && (!q0)) = true → (vs.getD 0 undef) = .slice (some ⟨bS, oS, none⟩) p.Safe.length cS) ∧ ((bin && (!q0)) = false → (vs.getD 0 undef) = undef)),
             .v [106] (fun vs => ((bin && (!q0)) = true → (vs.getD 0 undef) = .int .i64 (i : Int)) ∧ ((bin && (!q0)) = false → (vs.getD 0 undef) = undef)),
             .v [107] (fun vs => ((bin && (!q0)) = true → (vs.getD 0 undef) = .pointer (some ⟨bS, oS + i * 2, none⟩)) ∧ ((bin && (!q0)) = false → (vs.getD 0 undef) = undef)),
             .v [108] (fun vs => ((bin && (!q0)) = true → (vs.getD 0 undef) = .pointer (some ⟨bS, oS + i * 2 + 1, none⟩)) ∧ ((bin && (!q0)) = false → (vs.getD 0 undef) = undef)),
             .v [109] (fun vs => ((bin && (!q0)) = true → (vs.getD 0 undef) = .int .i64 m1) ∧ ((bin && (!q0)) = false → (vs.getD 0 undef) = undef)),
             .v [110] (fun vs => ((bin && (!q0)) = true → (vs.getD 0 undef) = .bool q1) ∧ ((bin && (!q0)) = false → (vs.getD 0 undef) = undef)),
             .v [111] (fun vs => (bin = true → (vs.getD 0 undef) = .bool (q0 || q1)) ∧ (bin = false → (vs.getD 0 undef) = undef)),
             .v [112] (fun vs => (vs.getD 0 undef) = .bool (bin && (q0 || q1))),
             .v [113] (fun vs => (vs.getD 0 undef) = .bool (bin && (q0 || q1)))]
            (fun w => B0 ≤ w.heap.size ∧ w.heap[g1]? = some (.cells #[.slice aA p.A.length cA, .slice aB p.B.length cB, .int .i64 il, .int .i64 ih, .slice aW p.W.length cW, .slice aI p.Inv.length cI, .slice (some ⟨bS, oS, none⟩) p.Safe.length cS, .slice aG p.gain.length cG, .int .i64 bi] 28 (0, 0)) ∧ g1 < B0 ∧ Below w0.heap.size w0 w ∧ Below w8.heap.size w8 w ∧ w.cell? ⟨bY, oY + i, none⟩ = some (.int .i64 0) ∧ w.cell? ⟨bx, ox + i, none⟩ = some (.int .i64 xi) ∧ w.cell? ⟨bS, oS + i * 2, none⟩ = some (.int .i64 m0) ∧ w.cell? ⟨bS, oS + i * 2 + 1, none⟩ = some (.int .i64 m1) ∧ KitAt w g 51 p ∧ RdI w (some ⟨bx, ox, none⟩) lx)
            (fun c => ([fun s w w' => Below w.heap.size w w'] : List ((Nat → Value) → World → World → Prop)).getD c (fun s w w' => w' = w))
            [78, 79, 80, 81, 82, 83, 84, 85, 86, 87, 88, 89, 90, 91, 92, 93, 94, 95, 96, 97, 98, 99, 100, 101, 102, 103, 104, 105, 106, 107, 108, 109, 110, 111, 112, 113] (by kernel_rfl) ⟨by kernel_rfl, by kernel_rfl, by kernel_rfl, by kernel_rfl, by kernel_rfl, by kernel_rfl, by kernel_rfl, by kernel_rfl⟩ (fun s => ?_) ?_ ?_ ?_ ?_ ?_ (fun s w hC hA => ?_)
          rotate_left
          · simp only [fillS, List.foldl, List.setIfInBounds_toArray, List.set_cons_zero, List.set_cons_succ]; rfl
          · exact ⟨c0_hsz, c0_hk_g1, c0_lt_g1, c0_hbw, c0_hb8w, c0_ey, c0_ex, c0_em0, c0_em1, c0_hkw, c0_hxw⟩
          · intro c s w w' hE
            match c, hE with
            | 0, hE => exact Below.size hE
            | c + 1, hE => cases hE; exact Nat.le_refl _
          · rintro c s w w' ⟨hsz, hk_g1, lt_g1, hbw, hb8w, ey, ex, em0, em1, hkw, hxw⟩ hE
            match c, hE with
            | 0, hE => replace hE : Below w.heap.size w w' := hE; exact ⟨Nat.le_trans hsz hE.size, bl_block hE hk_g1, lt_g1, bl_step hbw hE, bl_step hb8w hE, bl_cell hE ey, bl_cell hE ex, bl_cell hE em0, bl_cell hE em1, hkw.below hE, hxw.below hE⟩
            | c + 1, hE => cases hE; exact ⟨hsz, hk_g1, lt_g1, hbw, hb8w, ey, ex, em0, em1, hkw, hxw⟩
          · exact trivial
          · skip
            refine StepsP.cons ?_ ?_
            · intro Q s w hC hA K hK
              clear hC
              clear hA
              refine guard_none (by rfl) ?_
              refine wp_value (v := .slice (some ⟨bY, oY, none⟩) N c) (w1 := w) ?_ (hK.out _ w (Below.refl _ _) rfl (fun h => by cases h))
              go_simp
              try (first | done | rfl | (simp; done))
            refine StepsP.cons ?_ ?_
            · intro Q s w hC hA K hK
              clear hC
              clear hA
              refine guard_none (by rfl) ?_
              refine wp_value (v := .int .i64 (i : Int)) (w1 := w) ?_ (hK.out _ w (Below.refl _ _) rfl (fun h => by cases h))
              go_simp
              try (first | done | rfl | (simp; done))
            refine StepsP.cons ?_ ?_
            · intro Q s w hC hA K hK
              clear hC
              obtain ⟨f0, f1, -⟩ := hA
              replace f0 : (s 78) = .slice (some ⟨bY, oY, none⟩) N c := f0
              replace f1 : (s 79) = .int .i64 (i : Int) := f1
              refine guard_none (by rfl) ?_
              refine wp_value (v := .pointer (some ⟨bY, oY + i, none⟩)) (w1 := w) ?_ (hK.out _ w (Below.refl _ _) rfl (fun h => by cases h))
              try simp only [f0, f1]
              go_simp
              first | done | (simp [hdY]; done)
            refine StepsP.cons ?_ ?_
            · intro Q s w hC hA K hK
              obtain ⟨hsz, hk_g1, lt_g1, hbw, hb8w, ey, ex, em0, em1, hkw, hxw⟩ := hC
              obtain ⟨f2, -⟩ := hA
              replace f2 : (s 80) = .pointer (some ⟨bY, oY + i, none⟩) := f2
              refine guard_none (by rfl) ?_
              refine wp_value (v := .int .i64 0) (w1 := w) ?_ (hK.out _ w (Below.refl _ _) rfl (fun h => by cases h))
              try simp only [f2]
              go_simp
              try (first | done | rfl | (simp; done))
            refine StepsP.cons ?_ ?_
            · intro Q s w hC hA K hK
              clear hC
              obtain ⟨f3, -⟩ := hA
              replace f3 : (s 81) = .int .i64 0 := f3
              refine guard_none (by rfl) ?_
              refine wp_value (v := .bool false) (w1 := w) ?_ (hK.out _ w (Below.refl _ _) rfl (fun h => by cases h))
              try simp only [f3]
              go_simp
              try (first | done | rfl | (simp; done))
            refine StepsP.cons ?_ ?_
            · intro Q s w hC hA K hK
              clear hC
              obtain ⟨f4, -⟩ := hA
              replace f4 : (s 82) = .bool false := f4
              refine guard_none (by rfl) ?_
              refine wp_value (v := .bool false) (w1 := w) ?_ (hK.out _ w (Below.refl _ _) rfl (fun h => by cases h))
              try simp only [f4]
              go_simp
              try (first | done | rfl | (simp; done))
            refine StepsP.cons ?_ ?_
            · intro Q s w hC hA K hK
              clear hC
              obtain ⟨f5, -⟩ := hA
              replace f5 : (s 83) = .bool false := f5
              refine guard_on (d := 83) (want := false) (by rfl) (by rfl) ?_ ?_
              · exact f5
              refine wp_value (v := .pointer (some ⟨g, 0, none⟩)) (w1 := w) ?_ (hK.out _ w (Below.refl _ _) rfl (fun h => by cases h))
              try simp only [f5]
              go_simp
              try (first | done | rfl | (simp; done))
            refine StepsP.cons ?_ ?_
            · intro Q s w hC hA K hK
              clear hC
              obtain ⟨f5, -⟩ := hA
              replace f5 : (s 83) = .bool false := f5
              refine guard_on (d := 83) (want := false) (by rfl) (by rfl) ?_ ?_
              · exact f5
              refine wp_value (v := .slice (some ⟨bx, ox, none⟩) lx.length cx) (w1 := w) ?_ (hK.out _ w (Below.refl _ _) rfl (fun h => by cases h))
              try simp only [f5]
              go_simp
              try (first | done | rfl | (simp; done))
            refine StepsP.cons ?_ ?_
            · intro Q s w hC hA K hK
              obtain ⟨hsz, hk_g1, lt_g1, hbw, hb8w, ey, ex, em0, em1, hkw, hxw⟩ := hC
              obtain ⟨f5, f6, f7, -⟩ := hA
              replace f5 : (s 83) = .bool false := f5
              replace f6 : (s 84) = .pointer (some ⟨g, 0, none⟩) := f6
              replace f7 : (s 85) = .slice (some ⟨bx, ox, none⟩) lx.length cx := f7
              refine guard_on (d := 83) (want := false) (by rfl) (by rfl) ?_ ?_
              · exact f5
              refine wp_call (N := some 86) (by rfl) Try.func18 (by kernel_rfl) #[.pointer (some ⟨g, 0, none⟩), .slice (some ⟨bx, ox, none⟩) lx.length cx] rfl (by rfl) ?_ ?_
              · show [s 84, s 85] = [.pointer (some ⟨g, 0, none⟩), .slice (some ⟨bx, ox, none⟩) lx.length cx]
                first | rfl | simp only [f5, f6, f7]
              refine (hins.out _ hkw hxw).mono ?_
              rintro e w1 ⟨rfl, hb⟩
              refine ⟨_, rfl, ?_⟩
              exact hK.out _ _ hb rfl (fun h => by cases h)
            refine StepsP.cons ?_ ?_
            · intro Q s w hC hA K hK
              clear hC
              obtain ⟨f5, f8, -⟩ := hA
              replace f5 : (s 83) = .bool false := f5
              replace f8 : (s 86) = .bool bin := f8
              refine guard_on (d := 83) (want := false) (by rfl) (by rfl) ?_ ?_
              · exact f5
              refine wp_value (v := .bool bin) (w1 := w) ?_ (hK.out _ w (Below.refl _ _) rfl (fun h => by cases h))
              try simp only [f5, f8]
              go_simp
              try (first | done | rfl | (simp; done))
            refine StepsP.cons ?_ ?_
            · intro Q s w hC hA K hK
              clear hC
              obtain ⟨f9, -⟩ := hA
              replace f9 : (s 87) = .bool bin := f9
              cases hc : bin
              · refine guard_off (d := 87) (want := true) (by rfl) (by rfl) ?_ ?_
                · show s 87 ≠ .bool true
                  · intro h_
                    rw [f9] at h_; injection h_ with h_; rw [Bool.eq_false_iff] at hc; exact hc (by (first | (simp only [h_, Bool.and_true, Bool.true_and, Bool.not_true, Bool.not_false, Bool.and_self]; done) | simp_all))
                exact hK.out _ w (Below.refl _ _) ⟨fun h_ => (by rw [hc] at h_; cases h_), fun _ => rfl⟩ (fun _ g h => by cases h)
              · refine guard_on (d := 87) (want := true) (by rfl) (by rfl) ?_ ?_
                · exact (f9).trans (by rw [show bin = true by (first | (simp only [Bool.and_eq_true, Bool.not_eq_true', Bool.not_eq_false'] at hc; simp only [hc, Bool.and_true, Bool.true_and, Bool.not_true, Bool.not_false, Bool.and_self]; done) | (simp only [hc, Bool.and_true, Bool.true_and, Bool.not_true, Bool.not_false, Bool.and_self]; done) | simp_all)])
                refine wp_value (v := .slice (some ⟨bx, ox, none⟩) lx.length cx) (w1 := w) ?_ (hK.out _ w (Below.refl _ _) ⟨fun _ => rfl, fun h_ => (by rw [hc] at h_; cases h_)⟩ (fun h => by cases h))
                try simp only [f9]
                go_simp
                try (first | done | rfl | (simp; done))
            refine StepsP.cons ?_ ?_
            · intro Q s w hC hA K hK
              clear hC
              obtain ⟨f9, -⟩ := hA
              replace f9 : (s 87) = .bool bin := f9
              cases hc : bin
              · refine guard_off (d := 87) (want := true) (by rfl) (by rfl) ?_ ?_
                · show s 87 ≠ .bool true
                  · intro h_
                    rw [f9] at h_; injection h_ with h_; rw [Bool.eq_false_iff] at hc; exact hc (by (first | (simp only [h_, Bool.and_true, Bool.true_and, Bool.not_true, Bool.not_false, Bool.and_self]; done) | simp_all))
                exact hK.out _ w (Below.refl _ _) ⟨fun h_ => (by rw [hc] at h_; cases h_), fun _ => rfl⟩ (fun _ g h => by cases h)
              · refine guard_on (d := 87) (want := true) (by rfl) (by rfl) ?_ ?_
                · exact (f9).trans (by rw [show bin = true by (first | (simp only [Bool.and_eq_true, Bool.not_eq_true', Bool.not_eq_false'] at hc; simp only [hc, Bool.and_true, Bool.true_and, Bool.not_true, Bool.not_false, Bool.and_self]; done) | (simp only [hc, Bool.and_true, Bool.true_and, Bool.not_true, Bool.not_false, Bool.and_self]; done) | simp_all)])
                refine wp_value (v := .int .i64 (i : Int)) (w1 := w) ?_ (hK.out _ w (Below.refl _ _) ⟨fun _ => rfl, fun h_ => (by rw [hc] at h_; cases h_)⟩ (fun h => by cases h))
                try simp only [f9]
                go_simp
                try (first | done | rfl | (simp; done))
            refine StepsP.cons ?_ ?_
            · intro Q s w hC hA K hK
              clear hC
              obtain ⟨f9, f10, f11, -⟩ := hA
              replace f9 : (s 87) = .bool bin := f9
              replace f10 : (bin = true → (s 88) = .slice (some ⟨bx, ox, none⟩) lx.length cx) ∧ (bin = false → (s 88) = undef) := f10
              replace f11 : (bin = true → (s 89) = .int .i64 (i : Int)) ∧ (bin = false → (s 89) = undef) := f11
              cases hc : bin
              · refine guard_off (d := 87) (want := true) (by rfl) (by rfl) ?_ ?_
                · show s 87 ≠ .bool true
                  · intro h_
                    rw [f9] at h_; injection h_ with h_; rw [Bool.eq_false_iff] at hc; exact hc (by (first | (simp only [h_, Bool.and_true, Bool.true_and, Bool.not_true, Bool.not_false, Bool.and_self]; done) | simp_all))
                exact hK.out _ w (Below.refl _ _) ⟨fun h_ => (by rw [hc] at h_; cases h_), fun _ => rfl⟩ (fun _ g h => by cases h)
              · refine guard_on (d := 87) (want := true) (by rfl) (by rfl) ?_ ?_
                · exact (f9).trans (by rw [show bin = true by (first | (simp only [Bool.and_eq_true, Bool.not_eq_true', Bool.not_eq_false'] at hc; simp only [hc, Bool.and_true, Bool.true_and, Bool.not_true, Bool.not_false, Bool.and_self]; done) | (simp only [hc, Bool.and_true, Bool.true_and, Bool.not_true, Bool.not_false, Bool.and_self]; done) | simp_all)])
                replace f10 := f10.1 (by exact hc)
                replace f11 := f11.1 (by exact hc)
                refine wp_value (v := .pointer (some ⟨bx, ox + i, none⟩)) (w1 := w) ?_ (hK.out _ w (Below.refl _ _) ⟨fun _ => rfl, fun h_ => (by rw [hc] at h_; cases h_)⟩ (fun h => by cases h))
                try simp only [f9, f10, f11]
                go_simp
                first | done | (simp [hd]; done)
            refine StepsP.cons ?_ ?_
            · intro Q s w hC hA K hK
              obtain ⟨hsz, hk_g1, lt_g1, hbw, hb8w, ey, ex, em0, em1, hkw, hxw⟩ := hC
              obtain ⟨f9, f12, -⟩ := hA
              replace f9 : (s 87) = .bool bin := f9
              replace f12 : (bin = true → (s 90) = .pointer (some ⟨bx, ox + i, none⟩)) ∧ (bin = false → (s 90) = undef) := f12
              cases hc : bin
              · refine guard_off (d := 87) (want := true) (by rfl) (by rfl) ?_ ?_
                · show s 87 ≠ .bool true
                  · intro h_
                    rw [f9] at h_; injection h_ with h_; rw [Bool.eq_false_iff] at hc; exact hc (by (first | (simp only [h_, Bool.and_true, Bool.true_and, Bool.not_true, Bool.not_false, Bool.and_self]; done) | simp_all))
                exact hK.out _ w (Below.refl _ _) ⟨fun h_ => (by rw [hc] at h_; cases h_), fun _ => rfl⟩ (fun _ g h => by cases h)
              · refine guard_on (d := 87) (want := true) (by rfl) (by rfl) ?_ ?_
                · exact (f9).trans (by rw [show bin = true by (first | (simp only [Bool.and_eq_true, Bool.not_eq_true', Bool.not_eq_false'] at hc; simp only [hc, Bool.and_true, Bool.true_and, Bool.not_true, Bool.not_false, Bool.and_self]; done) | (simp only [hc, Bool.and_true, Bool.true_and, Bool.not_true, Bool.not_false, Bool.and_self]; done) | simp_all)])
                replace f12 := f12.1 (by exact hc)
                refine wp_value (v := .int .i64 xi) (w1 := w) ?_ (hK.out _ w (Below.refl _ _) ⟨fun _ => rfl, fun h_ => (by rw [hc] at h_; cases h_)⟩ (fun h => by cases h))
                try simp only [f9, f12]
                go_simp
                try (first | done | rfl | (simp; done))
            refine StepsP.cons ?_ ?_
            · intro Q s w hC hA K hK
              clear hC
              obtain ⟨f9, -⟩ := hA
              replace f9 : (s 87) = .bool bin := f9
              cases hc : bin
              · refine guard_off (d := 87) (want := true) (by rfl) (by rfl) ?_ ?_
                · show s 87 ≠ .bool true
                  · intro h_
                    rw [f9] at h_; injection h_ with h_; rw [Bool.eq_false_iff] at hc; exact hc (by (first | (simp only [h_, Bool.and_true, Bool.true_and, Bool.not_true, Bool.not_false, Bool.and_self]; done) | simp_all))
                exact hK.out _ w (Below.refl _ _) ⟨fun h_ => (by rw [hc] at h_; cases h_), fun _ => rfl⟩ (fun _ g h => by cases h)
              · refine guard_on (d := 87) (want := true) (by rfl) (by rfl) ?_ ?_
                · exact (f9).trans (by rw [show bin = true by (first | (simp only [Bool.and_eq_true, Bool.not_eq_true', Bool.not_eq_false'] at hc; simp only [hc, Bool.and_true, Bool.true_and, Bool.not_true, Bool.not_false, Bool.and_self]; done) | (simp only [hc, Bool.and_true, Bool.true_and, Bool.not_true, Bool.not_false, Bool.and_self]; done) | simp_all)])
                refine wp_value (v := .pointer (some ⟨g1, 6, none⟩)) (w1 := w) ?_ (hK.out _ w (Below.refl _ _) ⟨fun _ => rfl, fun h_ => (by rw [hc] at h_; cases h_)⟩ (fun h => by cases h))
                try simp only [f9]
                go_simp
                try (first | done | rfl | (simp; done))
            refine StepsP.cons ?_ ?_
            · intro Q s w hC hA K hK
              obtain ⟨hsz, hk_g1, lt_g1, hbw, hb8w, ey, ex, em0, em1, hkw, hxw⟩ := hC
              obtain ⟨f9, f14, -⟩ := hA
              replace f9 : (s 87) = .bool bin := f9
              replace f14 : (bin = true → (s 92) = .pointer (some ⟨g1, 6, none⟩)) ∧ (bin = false → (s 92) = undef) := f14
              cases hc : bin
              · refine guard_off (d := 87) (want := true) (by rfl) (by rfl) ?_ ?_
                · show s 87 ≠ .bool true
                  · intro h_
                    rw [f9] at h_; injection h_ with h_; rw [Bool.eq_false_iff] at hc; exact hc (by (first | (simp only [h_, Bool.and_true, Bool.true_and, Bool.not_true, Bool.not_false, Bool.and_self]; done) | simp_all))
                exact hK.out _ w (Below.refl _ _) ⟨fun h_ => (by rw [hc] at h_; cases h_), fun _ => rfl⟩ (fun _ g h => by cases h)
              · refine guard_on (d := 87) (want := true) (by rfl) (by rfl) ?_ ?_
                · exact (f9).trans (by rw [show bin = true by (first | (simp only [Bool.and_eq_true, Bool.not_eq_true', Bool.not_eq_false'] at hc; simp only [hc, Bool.and_true, Bool.true_and, Bool.not_true, Bool.not_false, Bool.and_self]; done) | (simp only [hc, Bool.and_true, Bool.true_and, Bool.not_true, Bool.not_false, Bool.and_self]; done) | simp_all)])
                replace f14 := f14.1 (by exact hc)
                have m0_g1 : w.cell? ⟨g1, 0, none⟩ = some (.slice aA p.A.length cA) := blk_cell hk_g1 0 (by rfl)
                have m1_g1 : w.cell? ⟨g1, 1, none⟩ = some (.slice aB p.B.length cB) := blk_cell hk_g1 1 (by rfl)
                have m2_g1 : w.cell? ⟨g1, 2, none⟩ = some (.int .i64 il) := blk_cell hk_g1 2 (by rfl)
                have m3_g1 : w.cell? ⟨g1, 3, none⟩ = some (.int .i64 ih) := blk_cell hk_g1 3 (by rfl)
                have m4_g1 : w.cell? ⟨g1, 4, none⟩ = some (.slice aW p.W.length cW) := blk_cell hk_g1 4 (by rfl)
                have m5_g1 : w.cell? ⟨g1, 5, none⟩ = some (.slice aI p.Inv.length cI) := blk_cell hk_g1 5 (by rfl)
                have m6_g1 : w.cell? ⟨g1, 6, none⟩ = some (.slice (some ⟨bS, oS, none⟩) p.Safe.length cS) := blk_cell hk_g1 6 (by rfl)
                have m7_g1 : w.cell? ⟨g1, 7, none⟩ = some (.slice aG p.gain.length cG) := blk_cell hk_g1 7 (by rfl)
                have m8_g1 : w.cell? ⟨g1, 8, none⟩ = some (.int .i64 bi) := blk_cell hk_g1 8 (by rfl)
                refine wp_value (v := .slice (some ⟨bS, oS, none⟩) p.Safe.length cS) (w1 := w) ?_ (hK.out _ w (Below.refl _ _) ⟨fun _ => rfl, fun h_ => (by rw [hc] at h_; cases h_)⟩ (fun h => by cases h))
                try simp only [f9, f14]
                go_simp
                try (first | done | rfl | (simp; done))
            refine StepsP.cons ?_ ?_
            · intro Q s w hC hA K hK
              clear hC
              obtain ⟨f9, -⟩ := hA
              replace f9 : (s 87) = .bool bin := f9
              cases hc : bin
              · refine guard_off (d := 87) (want := true) (by rfl) (by rfl) ?_ ?_
                · show s 87 ≠ .bool true
                  · intro h_
                    rw [f9] at h_; injection h_ with h_; rw [Bool.eq_false_iff] at hc; exact hc (by (first | (simp only [h_, Bool.and_true, Bool.true_and, Bool.not_true, Bool.not_false, Bool.and_self]; done) | simp_all))
                exact hK.out _ w (Below.refl _ _) ⟨fun h_ => (by rw [hc] at h_; cases h_), fun _ => rfl⟩ (fun _ g h => by cases h)
              · refine guard_on (d := 87) (want := true) (by rfl) (by rfl) ?_ ?_
                · exact (f9).trans (by rw [show bin = true by (first | (simp only [Bool.and_eq_true, Bool.not_eq_true', Bool.not_eq_false'] at hc; simp only [hc, Bool.and_true, Bool.true_and, Bool.not_true, Bool.not_false, Bool.and_self]; done) | (simp only [hc, Bool.and_true, Bool.true_and, Bool.not_true, Bool.not_false, Bool.and_self]; done) | simp_all)])
                refine wp_value (v := .int .i64 (i : Int)) (w1 := w) ?_ (hK.out _ w (Below.refl _ _) ⟨fun _ => rfl, fun h_ => (by rw [hc] at h_; cases h_)⟩ (fun h => by cases h))
                try simp only [f9]
                go_simp
                try (first | done | rfl | (simp; done))
            refine StepsP.cons ?_ ?_
            · intro Q s w hC hA K hK
              clear hC
              obtain ⟨f9, f15, f16, -⟩ := hA
              replace f9 : (s 87) = .bool bin := f9
              replace f15 : (bin = true → (s 93) = .slice (some ⟨bS, oS, none⟩) p.Safe.length cS) ∧ (bin = false → (s 93) = undef) := f15
              replace f16 : (bin = true → (s 94) = .int .i64 (i : Int)) ∧ (bin = false → (s 94) = undef) := f16
              cases hc : bin
              · refine guard_off (d := 87) (want := true) (by rfl) (by rfl) ?_ ?_
                · show s 87 ≠ .bool true
                  · intro h_
                    rw [f9] at h_; injection h_ with h_; rw [Bool.eq_false_iff] at hc; exact hc (by (first | (simp only [h_, Bool.and_true, Bool.true_and, Bool.not_true, Bool.not_false, Bool.and_self]; done) | simp_all))
                exact hK.out _ w (Below.refl _ _) ⟨fun h_ => (by rw [hc] at h_; cases h_), fun _ => rfl⟩ (fun _ g h => by cases h)
              · refine guard_on (d := 87) (want := true) (by rfl) (by rfl) ?_ ?_
                · exact (f9).trans (by rw [show bin = true by (first | (simp only [Bool.and_eq_true, Bool.not_eq_true', Bool.not_eq_false'] at hc; simp only [hc, Bool.and_true, Bool.true_and, Bool.not_true, Bool.not_false, Bool.and_self]; done) | (simp only [hc, Bool.and_true, Bool.true_and, Bool.not_true, Bool.not_false, Bool.and_self]; done) | simp_all)])
                replace f15 := f15.1 (by exact hc)
                replace f16 := f16.1 (by exact hc)
                refine wp_value (v := .pointer (some ⟨bS, oS + i * 2, none⟩)) (w1 := w) ?_ (hK.out _ w (Below.refl _ _) ⟨fun _ => rfl, fun h_ => (by rw [hc] at h_; cases h_)⟩ (fun h => by cases h))
                try simp only [f9, f15, f16]
                go_simp
                first | done | (simp [hdS]; done)
            refine StepsP.cons ?_ ?_
            · intro Q s w hC hA K hK
              clear hC
              obtain ⟨f9, f17, -⟩ := hA
              replace f9 : (s 87) = .bool bin := f9
              replace f17 : (bin = true → (s 95) = .pointer (some ⟨bS, oS + i * 2, none⟩)) ∧ (bin = false → (s 95) = undef) := f17
              cases hc : bin
              · refine guard_off (d := 87) (want := true) (by rfl) (by rfl) ?_ ?_
                · show s 87 ≠ .bool true
                  · intro h_
                    rw [f9] at h_; injection h_ with h_; rw [Bool.eq_false_iff] at hc; exact hc (by (first | (simp only [h_, Bool.and_true, Bool.true_and, Bool.not_true, Bool.not_false, Bool.and_self]; done) | simp_all))
                exact hK.out _ w (Below.refl _ _) ⟨fun h_ => (by rw [hc] at h_; cases h_), fun _ => rfl⟩ (fun _ g h => by cases h)
              · refine guard_on (d := 87) (want := true) (by rfl) (by rfl) ?_ ?_
                · exact (f9).trans (by rw [show bin = true by (first | (simp only [Bool.and_eq_true, Bool.not_eq_true', Bool.not_eq_false'] at hc; simp only [hc, Bool.and_true, Bool.true_and, Bool.not_true, Bool.not_false, Bool.and_self]; done) | (simp only [hc, Bool.and_true, Bool.true_and, Bool.not_true, Bool.not_false, Bool.and_self]; done) | simp_all)])
                replace f17 := f17.1 (by exact hc)
                refine wp_value (v := .pointer (some ⟨bS, oS + i * 2, none⟩)) (w1 := w) ?_ (hK.out _ w (Below.refl _ _) ⟨fun _ => rfl, fun h_ => (by rw [hc] at h_; cases h_)⟩ (fun h => by cases h))
                try simp only [f9, f17]
                go_simp
                first | done | (simp [hdS]; done)
            refine StepsP.cons ?_ ?_
            · intro Q s w hC hA K hK
              obtain ⟨hsz, hk_g1, lt_g1, hbw, hb8w, ey, ex, em0, em1, hkw, hxw⟩ := hC
              obtain ⟨f9, f18, -⟩ := hA
              replace f9 : (s 87) = .bool bin := f9
              replace f18 : (bin = true → (s 96) = .pointer (some ⟨bS, oS + i * 2, none⟩)) ∧ (bin = false → (s 96) = undef) := f18
              cases hc : bin
              · refine guard_off (d := 87) (want := true) (by rfl) (by rfl) ?_ ?_
                · show s 87 ≠ .bool true
                  · intro h_
                    rw [f9] at h_; injection h_ with h_; rw [Bool.eq_false_iff] at hc; exact hc (by (first | (simp only [h_, Bool.and_true, Bool.true_and, Bool.not_true, Bool.not_false, Bool.and_self]; done) | simp_all))
                exact hK.out _ w (Below.refl _ _) ⟨fun h_ => (by rw [hc] at h_; cases h_), fun _ => rfl⟩ (fun _ g h => by cases h)
              · refine guard_on (d := 87) (want := true) (by rfl) (by rfl) ?_ ?_
                · exact (f9).trans (by rw [show bin = true by (first | (simp only [Bool.and_eq_true, Bool.not_eq_true', Bool.not_eq_false'] at hc; simp only [hc, Bool.and_true, Bool.true_and, Bool.not_true, Bool.not_false, Bool.and_self]; done) | (simp only [hc, Bool.and_true, Bool.true_and, Bool.not_true, Bool.not_false, Bool.and_self]; done) | simp_all)])
                replace f18 := f18.1 (by exact hc)
                refine wp_value (v := .int .i64 m0) (w1 := w) ?_ (hK.out _ w (Below.refl _ _) ⟨fun _ => rfl, fun h_ => (by rw [hc] at h_; cases h_)⟩ (fun h => by cases h))
                try simp only [f9, f18]
                go_simp
                try (first | done | rfl | (simp; done))
            refine StepsP.cons ?_ ?_
            · intro Q s w hC hA K hK
              clear hC
              obtain ⟨f9, f13, f19, -⟩ := hA
              replace f9 : (s 87) = .bool bin := f9
              replace f13 : (bin = true → (s 91) = .int .i64 xi) ∧ (bin = false → (s 91) = undef) := f13
              replace f19 : (bin = true → (s 97) = .int .i64 m0) ∧ (bin = false → (s 97) = undef) := f19
              cases hc : bin
              · refine guard_off (d := 87) (want := true) (by rfl) (by rfl) ?_ ?_
                · show s 87 ≠ .bool true
                  · intro h_
                    rw [f9] at h_; injection h_ with h_; rw [Bool.eq_false_iff] at hc; exact hc (by (first | (simp only [h_, Bool.and_true, Bool.true_and, Bool.not_true, Bool.not_false, Bool.and_self]; done) | simp_all))
                exact hK.out _ w (Below.refl _ _) ⟨fun h_ => (by rw [hc] at h_; cases h_), fun _ => rfl⟩ (fun _ g h => by cases h)
              · refine guard_on (d := 87) (want := true) (by rfl) (by rfl) ?_ ?_
                · exact (f9).trans (by rw [show bin = true by (first | (simp only [Bool.and_eq_true, Bool.not_eq_true', Bool.not_eq_false'] at hc; simp only [hc, Bool.and_true, Bool.true_and, Bool.not_true, Bool.not_false, Bool.and_self]; done) | (simp only [hc, Bool.and_true, Bool.true_and, Bool.not_true, Bool.not_false, Bool.and_self]; done) | simp_all)])
                replace f13 := f13.1 (by exact hc)
                replace f19 := f19.1 (by exact hc)
                refine wp_value (v := .bool q0) (w1 := w) ?_ (hK.out _ w (Below.refl _ _) ⟨fun _ => rfl, fun h_ => (by rw [hc] at h_; cases h_)⟩ (fun h => by cases h))
                try simp only [f9, f13, f19]
                go_simp
                first | done | exact hq0.out | (simp [hq0.out]; done) | (rw [hq0.out]; done)
            refine StepsP.cons ?_ ?_
            · intro Q s w hC hA K hK
              clear hC
              obtain ⟨f9, f20, -⟩ := hA
              replace f9 : (s 87) = .bool bin := f9
              replace f20 : (bin = true → (s 98) = .bool q0) ∧ (bin = false → (s 98) = undef) := f20
              cases hc : bin
              · refine guard_off (d := 87) (want := true) (by rfl) (by rfl) ?_ ?_
                · show s 87 ≠ .bool true
                  · intro h_
                    rw [f9] at h_; injection h_ with h_; rw [Bool.eq_false_iff] at hc; exact hc (by (first | (simp only [h_, Bool.and_true, Bool.true_and, Bool.not_true, Bool.not_false, Bool.and_self]; done) | simp_all))
                exact hK.out _ w (Below.refl _ _) ⟨fun h_ => (by rw [hc] at h_; cases h_), fun _ => rfl⟩ (fun _ g h => by cases h)
              · refine guard_on (d := 87) (want := true) (by rfl) (by rfl) ?_ ?_
                · exact (f9).trans (by rw [show bin = true by (first | (simp only [Bool.and_eq_true, Bool.not_eq_true', Bool.not_eq_false'] at hc; simp only [hc, Bool.and_true, Bool.true_and, Bool.not_true, Bool.not_false, Bool.and_self]; done) | (simp only [hc, Bool.and_true, Bool.true_and, Bool.not_true, Bool.not_false, Bool.and_self]; done) | simp_all)])
                replace f20 := f20.1 (by exact hc)
                refine wp_value (v := .bool q0) (w1 := w) ?_ (hK.out _ w (Below.refl _ _) ⟨fun _ => rfl, fun h_ => (by rw [hc] at h_; cases h_)⟩ (fun h => by cases h))
                try simp only [f9, f20]
                go_simp
                try (first | done | rfl | (simp; done))
            refine StepsP.cons ?_ ?_
            · intro Q s w hC hA K hK
              clear hC
              obtain ⟨f21, -⟩ := hA
              replace f21 : (bin = true → (s 99) = .bool q0) ∧ (bin = false → (s 99) = undef) := f21
              cases hc : (bin && (!q0))
              · refine guard_off (d := 99) (want := false) (by rfl) (by rfl) ?_ ?_
                · show s 99 ≠ .bool false
                  · intro h_
                    cases hcj : bin
                    · rw [f21.2 hcj] at h_; cases h_
                    · rw [f21.1 hcj] at h_; injection h_ with h_; rw [Bool.eq_false_iff] at hc; exact hc (by (first | (simp only [Bool.and_eq_true, Bool.not_eq_true', Bool.not_eq_false'] at hcj; simp only [hcj, h_, Bool.and_true, Bool.true_and, Bool.not_true, Bool.not_false, Bool.and_self]; done) | (simp only [hcj, h_, Bool.and_true, Bool.true_and, Bool.not_true, Bool.not_false, Bool.and_self]; done) | simp_all))
                exact hK.out _ w (Below.refl _ _) ⟨fun h_ => (by rw [hc] at h_; cases h_), fun _ => rfl⟩ (fun _ g h => by cases h)
              · refine guard_on (d := 99) (want := false) (by rfl) (by rfl) ?_ ?_
                · exact (f21.1 (by (first | (simp only [Bool.and_eq_true, Bool.not_eq_true', Bool.not_eq_false'] at hc; simp only [hc, Bool.and_true, Bool.true_and, Bool.not_true, Bool.not_false, Bool.and_self]; done) | (simp only [hc, Bool.and_true, Bool.true_and, Bool.not_true, Bool.not_false, Bool.and_self]; done) | simp_all))).trans (by rw [show q0 = false by (first | (simp only [Bool.and_eq_true, Bool.not_eq_true', Bool.not_eq_false'] at hc; simp only [hc, Bool.and_true, Bool.true_and, Bool.not_true, Bool.not_false, Bool.and_self]; done) | (simp only [hc, Bool.and_true, Bool.true_and, Bool.not_true, Bool.not_false, Bool.and_self]; done) | simp_all)])
                replace f21 := f21.1 (by (first | (simp only [Bool.and_eq_true, Bool.not_eq_true', Bool.not_eq_false'] at hc; simp only [hc, Bool.and_true, Bool.true_and, Bool.not_true, Bool.not_false, Bool.and_self]; done) | (simp only [hc, Bool.and_true, Bool.true_and, Bool.not_true, Bool.not_false, Bool.and_self]; done) | simp_all))
                refine wp_value (v := .slice (some ⟨bx, ox, none⟩) lx.length cx) (w1 := w) ?_ (hK.out _ w (Below.refl _ _) ⟨fun _ => rfl, fun h_ => (by rw [hc] at h_; cases h_)⟩ (fun h => by cases h))
                try simp only [f21]
                go_simp
                try (first | done | rfl | (simp; done))
            refine StepsP.cons ?_ ?_
            · intro Q s w hC hA K hK
              clear hC
              obtain ⟨f21, -⟩ := hA
              replace f21 : (bin = true → (s 99) = .bool q0) ∧ (bin = false → (s 99) = undef) := f21
              cases hc : (bin && (!q0))
              · refine guard_off (d := 99) (want := false) (by rfl) (by rfl) ?_ ?_
                · show s 99 ≠ .bool false
                  · intro h_
                    cases hcj : bin
                    · rw [f21.2 hcj] at h_; cases h_
                    · rw [f21.1 hcj] at h_; injection h_ with h_; rw [Bool.eq_false_iff] at hc; exact hc (by (first | (simp only [Bool.and_eq_true, Bool.not_eq_true', Bool.not_eq_false'] at hcj; simp only [hcj, h_, Bool.and_true, Bool.true_and, Bool.not_true, Bool.not_false, Bool.and_self]; done) | (simp only [hcj, h_, Bool.and_true, Bool.true_and, Bool.not_true, Bool.not_false, Bool.and_self]; done) | simp_all))
                exact hK.out _ w (Below.refl _ _) ⟨fun h_ => (by rw [hc] at h_; cases h_), fun _ => rfl⟩ (fun _ g h => by cases h)
              · refine guard_on (d := 99) (want := false) (by rfl) (by rfl) ?_ ?_
                · exact (f21.1 (by (first | (simp only [Bool.and_eq_true, Bool.not_eq_true', Bool.not_eq_false'] at hc; simp only [hc, Bool.and_true, Bool.true_and, Bool.not_true, Bool.not_false, Bool.and_self]; done) | (simp only [hc, Bool.and_true, Bool.true_and, Bool.not_true, Bool.not_false, Bool.and_self]; done) | simp_all))).trans (by rw [show q0 = false by (first | (simp only [Bool.and_eq_true, Bool.not_eq_true', Bool.not_eq_false'] at hc; simp only [hc, Bool.and_true, Bool.true_and, Bool.not_true, Bool.not_false, Bool.and_self]; done) | (simp only [hc, Bool.and_true, Bool.true_and, Bool.not_true, Bool.not_false, Bool.and_self]; done) | simp_all)])
                replace f21 := f21.1 (by (first | (simp only [Bool.and_eq_true, Bool.not_eq_true', Bool.not_eq_false'] at hc; simp only [hc, Bool.and_true, Bool.true_and, Bool.not_true, Bool.not_false, Bool.and_self]; done) | (simp only [hc, Bool.and_true, Bool.true_and, Bool.not_true, Bool.not_false, Bool.and_self]; done) | simp_all))
                refine wp_value (v := .int .i64 (i : Int)) (w1 := w) ?_ (hK.out _ w (Below.refl _ _) ⟨fun _ => rfl, fun h_ => (by rw [hc] at h_; cases h_)⟩ (fun h => by cases h))
                try simp only [f21]
                go_simp
                try (first | done | rfl | (simp; done))
            refine StepsP.cons ?_ ?_
            · intro Q s w hC hA K hK
              clear hC
              obtain ⟨f21, f22, f23, -⟩ := hA
              replace f21 : (bin = true → (s 99) = .bool q0) ∧ (bin = false → (s 99) = undef) := f21
              replace f22 : ((bin && (!q0)) = true → (s 100) = .slice (some ⟨bx, ox, none⟩) lx.length cx) ∧ ((bin && (!q0)) = false → (s 100) = undef) := f22
              replace f23 : ((bin && (!q0)) = true → (s 101) = .int .i64 (i : Int)) ∧ ((bin && (!q0)) = false → (s 101) = undef) := f23
              cases hc : (bin && (!q0))
              · refine guard_off (d := 99) (want := false) (by rfl) (by rfl) ?_ ?_
                · show s 99 ≠ .bool false
                  · intro h_
                    cases hcj : bin
                    · rw [f21.2 hcj] at h_; cases h_
                    · rw [f21.1 hcj] at h_; injection h_ with h_; rw [Bool.eq_false_iff] at hc; exact hc (by (first | (simp only [Bool.and_eq_true, Bool.not_eq_true', Bool.not_eq_false'] at hcj; simp only [hcj, h_, Bool.and_true, Bool.true_and, Bool.not_true, Bool.not_false, Bool.and_self]; done) | (simp only [hcj, h_, Bool.and_true, Bool.true_and, Bool.not_true, Bool.not_false, Bool.and_self]; done) | simp_all))
                exact hK.out _ w (Below.refl _ _) ⟨fun h_ => (by rw [hc] at h_; cases h_), fun _ => rfl⟩ (fun _ g h => by cases h)
              · refine guard_on (d := 99) (want := false) (by rfl) (by rfl) ?_ ?_
                · exact (f21.1 (by (first | (simp only [Bool.and_eq_true, Bool.not_eq_true', Bool.not_eq_false'] at hc; simp only [hc, Bool.and_true, Bool.true_and, Bool.not_true, Bool.not_false, Bool.and_self]; done) | (simp only [hc, Bool.and_true, Bool.true_and, Bool.not_true, Bool.not_false, Bool.and_self]; done) | simp_all))).trans (by rw [show q0 = false by (first | (simp only [Bool.and_eq_true, Bool.not_eq_true', Bool.not_eq_false'] at hc; simp only [hc, Bool.and_true, Bool.true_and, Bool.not_true, Bool.not_false, Bool.and_self]; done) | (simp only [hc, Bool.and_true, Bool.true_and, Bool.not_true, Bool.not_false, Bool.and_self]; done) | simp_all)])
                replace f21 := f21.1 (by (first | (simp only [Bool.and_eq_true, Bool.not_eq_true', Bool.not_eq_false'] at hc; simp only [hc, Bool.and_true, Bool.true_and, Bool.not_true, Bool.not_false, Bool.and_self]; done) | (simp only [hc, Bool.and_true, Bool.true_and, Bool.not_true, Bool.not_false, Bool.and_self]; done) | simp_all))
                replace f22 := f22.1 (by exact hc)
                replace f23 := f23.1 (by exact hc)
                refine wp_value (v := .pointer (some ⟨bx, ox + i, none⟩)) (w1 := w) ?_ (hK.out _ w (Below.refl _ _) ⟨fun _ => rfl, fun h_ => (by rw [hc] at h_; cases h_)⟩ (fun h => by cases h))
                try simp only [f21, f22, f23]
                go_simp
                first | done | (simp [hd]; done)
            refine StepsP.cons ?_ ?_
            · intro Q s w hC hA K hK
              obtain ⟨hsz, hk_g1, lt_g1, hbw, hb8w, ey, ex, em0, em1, hkw, hxw⟩ := hC
              obtain ⟨f21, f24, -⟩ := hA
              replace f21 : (bin = true → (s 99) = .bool q0) ∧ (bin = false → (s 99) = undef) := f21
              replace f24 : ((bin && (!q0)) = true → (s 102) = .pointer (some ⟨bx, ox + i, none⟩)) ∧ ((bin && (!q0)) = false → (s 102) = undef) := f24
              cases hc : (bin && (!q0))
              · refine guard_off (d := 99) (want := false) (by rfl) (by rfl) ?_ ?_
                · show s 99 ≠ .bool false
                  · intro h_
                    cases hcj : bin
                    · rw [f21.2 hcj] at h_; cases h_
                    · rw [f21.1 hcj] at h_; injection h_ with h_; rw [Bool.eq_false_iff] at hc; exact hc (by (first | (simp only [Bool.and_eq_true, Bool.not_eq_true', Bool.not_eq_false'] at hcj; simp only [hcj, h_, Bool.and_true, Bool.true_and, Bool.not_true, Bool.not_false, Bool.and_self]; done) | (simp only [hcj, h_, Bool.and_true, Bool.true_and, Bool.not_true, Bool.not_false, Bool.and_self]; done) | simp_all))
                exact hK.out _ w (Below.refl _ _) ⟨fun h_ => (by rw [hc] at h_; cases h_), fun _ => rfl⟩ (fun _ g h => by cases h)
              · refine guard_on (d := 99) (want := false) (by rfl) (by rfl) ?_ ?_
                · exact (f21.1 (by (first | (simp only [Bool.and_eq_true, Bool.not_eq_true', Bool.not_eq_false'] at hc; simp only [hc, Bool.and_true, Bool.true_and, Bool.not_true, Bool.not_false, Bool.and_self]; done) | (simp only [hc, Bool.and_true, Bool.true_and, Bool.not_true, Bool.not_false, Bool.and_self]; done) | simp_all))).trans (by rw [show q0 = false by (first | (simp only [Bool.and_eq_true, Bool.not_eq_true', Bool.not_eq_false'] at hc; simp only [hc, Bool.and_true, Bool.true_and, Bool.not_true, Bool.not_false, Bool.and_self]; done) | (simp only [hc, Bool.and_true, Bool.true_and, Bool.not_true, Bool.not_false, Bool.and_self]; done) | simp_all)])
                replace f21 := f21.1 (by (first | (simp only [Bool.and_eq_true, Bool.not_eq_true', Bool.not_eq_false'] at hc; simp only [hc, Bool.and_true, Bool.true_and, Bool.not_true, Bool.not_false, Bool.and_self]; done) | (simp only [hc, Bool.and_true, Bool.true_and, Bool.not_true, Bool.not_false, Bool.and_self]; done) | simp_all))
                replace f24 := f24.1 (by exact hc)
                refine wp_value (v := .int .i64 xi) (w1 := w) ?_ (hK.out _ w (Below.refl _ _) ⟨fun _ => rfl, fun h_ => (by rw [hc] at h_; cases h_)⟩ (fun h => by cases h))
                try simp only [f21, f24]
                go_simp
                try (first | done | rfl | (simp; done))
            refine StepsP.cons ?_ ?_
            · intro Q s w hC hA K hK
              clear hC
              obtain ⟨f21, -⟩ := hA
              replace f21 : (bin = true → (s 99) = .bool q0) ∧ (bin = false → (s 99) = undef) := f21
              cases hc : (bin && (!q0))
              · refine guard_off (d := 99) (want := false) (by rfl) (by rfl) ?_ ?_
                · show s 99 ≠ .bool false
                  · intro h_
                    cases hcj : bin
                    · rw [f21.2 hcj] at h_; cases h_
                    · rw [f21.1 hcj] at h_; injection h_ with h_; rw [Bool.eq_false_iff] at hc; exact hc (by (first | (simp only [Bool.and_eq_true, Bool.not_eq_true', Bool.not_eq_false'] at hcj; simp only [hcj, h_, Bool.and_true, Bool.true_and, Bool.not_true, Bool.not_false, Bool.and_self]; done) | (simp only [hcj, h_, Bool.and_true, Bool.true_and, Bool.not_true, Bool.not_false, Bool.and_self]; done) | simp_all))
                exact hK.out _ w (Below.refl _ _) ⟨fun h_ => (by rw [hc] at h_; cases h_), fun _ => rfl⟩ (fun _ g h => by cases h)
              · refine guard_on (d := 99) (want := false) (by rfl) (by rfl) ?_ ?_
                · exact (f21.1 (by (first | (simp only [Bool.and_eq_true, Bool.not_eq_true', Bool.not_eq_false'] at hc; simp only [hc, Bool.and_true, Bool.true_and, Bool.not_true, Bool.not_false, Bool.and_self]; done) | (simp only [hc, Bool.and_true, Bool.true_and, Bool.not_true, Bool.not_false, Bool.and_self]; done) | simp_all))).trans (by rw [show q0 = false by (first | (simp only [Bool.and_eq_true, Bool.not_eq_true', Bool.not_eq_false'] at hc; simp only [hc, Bool.and_true, Bool.true_and, Bool.not_true, Bool.not_false, Bool.and_self]; done) | (simp only [hc, Bool.and_true, Bool.true_and, Bool.not_true, Bool.not_false, Bool.and_self]; done) | simp_all)])
                replace f21 := f21.1 (by (first | (simp only [Bool.and_eq_true, Bool.not_eq_true', Bool.not_eq_false'] at hc; simp only [hc, Bool.and_true, Bool.true_and, Bool.not_true, Bool.not_false, Bool.and_self]; done) | (simp only [hc, Bool.and_true, Bool.true_and, Bool.not_true, Bool.not_false, Bool.and_self]; done) | simp_all))
                refine wp_value (v := .pointer (some ⟨g1, 6, none⟩)) (w1 := w) ?_ (hK.out _ w (Below.refl _ _) ⟨fun _ => rfl, fun h_ => (by rw [hc] at h_; cases h_)⟩ (fun h => by cases h))
                try simp only [f21]
                go_simp
                try (first | done | rfl | (simp; done))
            refine StepsP.cons ?_ ?_
            · intro Q s w hC hA K hK
              obtain ⟨hsz, hk_g1, lt_g1, hbw, hb8w, ey, ex, em0, em1, hkw, hxw⟩ := hC
              obtain ⟨f21, f26, -⟩ := hA
              replace f21 : (bin = true → (s 99) = .bool q0) ∧ (bin = false → (s 99) = undef) := f21
              replace f26 : ((bin && (!q0)) = true → (s 104) = .pointer (some ⟨g1, 6, none⟩)) ∧ ((bin && (!q0)) = false → (s 104) = undef) := f26
              cases hc : (bin && (!q0))
              · refine guard_off (d := 99) (want := false) (by rfl) (by rfl) ?_ ?_
                · show s 99 ≠ .bool false
                  · intro h_
                    cases hcj : bin
                    · rw [f21.2 hcj] at h_; cases h_
                    · rw [f21.1 hcj] at h_; injection h_ with h_; rw [Bool.eq_false_iff] at hc; exact hc (by (first | (simp only [Bool.and_eq_true, Bool.not_eq_true', Bool.not_eq_false'] at hcj; simp only [hcj, h_, Bool.and_true, Bool.true_and, Bool.not_true, Bool.not_false, Bool.and_self]; done) | (simp only [hcj, h_, Bool.and_true, Bool.true_and, Bool.not_true, Bool.not_false, Bool.and_self]; done) | simp_all))
                exact hK.out _ w (Below.refl _ _) ⟨fun h_ => (by rw [hc] at h_; cases h_), fun _ => rfl⟩ (fun _ g h => by cases h)
              · refine guard_on (d := 99) (want := false) (by rfl) (by rfl) ?_ ?_
                · exact (f21.1 (by (first | (simp only [Bool.and_eq_true, Bool.not_eq_true', Bool.not_eq_false'] at hc; simp only [hc, Bool.and_true, Bool.true_and, Bool.not_true, Bool.not_false, Bool.and_self]; done) | (simp only [hc, Bool.and_true, Bool.true_and, Bool.not_true, Bool.not_false, Bool.and_self]; done) | simp_all))).trans (by rw [show q0 = false by (first | (simp only [Bool.and_eq_true, Bool.not_eq_true', Bool.not_eq_false'] at hc; simp only [hc, Bool.and_true, Bool.true_and, Bool.not_true, Bool.not_false, Bool.and_self]; done) | (simp only [hc, Bool.and_true, Bool.true_and, Bool.not_true, Bool.not_false, Bool.and_self]; done) | simp_all)])
                replace f21 := f21.1 (by (first | (simp only [Bool.and_eq_true, Bool.not_eq_true', Bool.not_eq_false'] at hc; simp only [hc, Bool.and_true, Bool.true_and, Bool.not_true, Bool.not_false, Bool.and_self]; done) | (simp only [hc, Bool.and_true, Bool.true_and, Bool.not_true, Bool.not_false, Bool.and_self]; done) | simp_all))
                replace f26 := f26.1 (by exact hc)
                have m0_g1 : w.cell? ⟨g1, 0, none⟩ = some (.slice aA p.A.length cA) := blk_cell hk_g1 0 (by rfl)
                have m1_g1 : w.cell? ⟨g1, 1, none⟩ = some (.slice aB p.B.length cB) := blk_cell hk_g1 1 (by rfl)
                have m2_g1 : w.cell? ⟨g1, 2, none⟩ = some (.int .i64 il) := blk_cell hk_g1 2 (by rfl)
                have m3_g1 : w.cell? ⟨g1, 3, none⟩ = some (.int .i64 ih) := blk_cell hk_g1 3 (by rfl)
                have m4_g1 : w.cell? ⟨g1, 4, none⟩ = some (.slice aW p.W.length cW) := blk_cell hk_g1 4 (by rfl)
                have m5_g1 : w.cell? ⟨g1, 5, none⟩ = some (.slice aI p.Inv.length cI) := blk_cell hk_g1 5 (by rfl)
                have m6_g1 : w.cell? ⟨g1, 6, none⟩ = some (.slice (some ⟨bS, oS, none⟩) p.Safe.length cS) := blk_cell hk_g1 6 (by rfl)
                have m7_g1 : w.cell? ⟨g1, 7, none⟩ = some (.slice aG p.gain.length cG) := blk_cell hk_g1 7 (by rfl)
                have m8_g1 : w.cell? ⟨g1, 8, none⟩ = some (.int .i64 bi) := blk_cell hk_g1 8 (by rfl)
                refine wp_value (v := .slice (some ⟨bS, oS, none⟩) p.Safe.length cS) (w1 := w) ?_ (hK.out _ w (Below.refl _ _) ⟨fun _ => rfl, fun h_ => (by rw [hc] at h_; cases h_)⟩ (fun h => by cases h))
                try simp only [f21, f26]
                go_simp
                try (first | done | rfl | (simp; done))
            refine StepsP.cons ?_ ?_
            · intro Q s w hC hA K hK
              clear hC
              obtain ⟨f21, -⟩ := hA
              replace f21 : (bin = true → (s 99) = .bool q0) ∧ (bin = false → (s 99) = undef) := f21
              cases hc : (bin && (!q0))
              · refine guard_off (d := 99) (want := false) (by rfl) (by rfl) ?_ ?_
                · show s 99 ≠ .bool false
                  · intro h_
                    cases hcj : bin
                    · rw [f21.2 hcj] at h_; cases h_
                    · rw [f21.1 hcj] at h_; injection h_ with h_; rw [Bool.eq_false_iff] at hc; exact hc (by (first | (simp only [Bool.and_eq_true, Bool.not_eq_true', Bool.not_eq_false'] at hcj; simp only [hcj, h_, Bool.and_true, Bool.true_and, Bool.not_true, Bool.not_false, Bool.and_self]; done) | (simp only [hcj, h_, Bool.and_true, Bool.true_and, Bool.not_true, Bool.not_false, Bool.and_self]; done) | simp_all))
                exact hK.out _ w (Below.refl _ _) ⟨fun h_ => (by rw [hc] at h_; cases h_), fun _ => rfl⟩ (fun _ g h => by cases h)
              · refine guard_on (d := 99) (want := false) (by rfl) (by rfl) ?_ ?_
                · exact (f21.1 (by (first | (simp only [Bool.and_eq_true, Bool.not_eq_true', Bool.not_eq_false'] at hc; simp only [hc, Bool.and_true, Bool.true_and, Bool.not_true, Bool.not_false, Bool.and_self]; done) | (simp only [hc, Bool.and_true, Bool.true_and, Bool.not_true, Bool.not_false, Bool.and_self]; done) | simp_all))).trans (by rw [show q0 = false by (first | (simp only [Bool.and_eq_true, Bool.not_eq_true', Bool.not_eq_false'] at hc; simp only [hc, Bool.and_true, Bool.true_and, Bool.not_true, Bool.not_false, Bool.and_self]; done) | (simp only [hc, Bool.and_true, Bool.true_and, Bool.not_true, Bool.not_false, Bool.and_self]; done) | simp_all)])
                replace f21 := f21.1 (by (first | (simp only [Bool.and_eq_true, Bool.not_eq_true', Bool.not_eq_false'] at hc; simp only [hc, Bool.and_true, Bool.true_and, Bool.not_true, Bool.not_false, Bool.and_self]; done) | (simp only [hc, Bool.and_true, Bool.true_and, Bool.not_true, Bool.not_false, Bool.and_self]; done) | simp_all))
                refine wp_value (v := .int .i64 (i : Int)) (w1 := w) ?_ (hK.out _ w (Below.refl _ _) ⟨fun _ => rfl, fun h_ => (by rw [hc] at h_; cases h_)⟩ (fun h => by cases h))
                try simp only [f21]
                go_simp
                try (first | done | rfl | (simp; done))
            refine StepsP.cons ?_ ?_
            · intro Q s w hC hA K hK
              clear hC
              obtain ⟨f21, f27, f28, -⟩ := hA
              replace f21 : (bin = true → (s 99) = .bool q0) ∧ (bin = false → (s 99) = undef) := f21
              replace f27 : ((bin && (!q0)) = true → (s 105) = .slice (some ⟨bS, oS, none⟩) p.Safe.length cS) ∧ ((bin && (!q0)) = false → (s 105) = undef) := f27
              replace f28 : ((bin && (!q0)) = true → (s 106) = .int .i64 (i : Int)) ∧ ((bin && (!q0)) = false → (s 106) = undef) := f28
              cases hc : (bin && (!q0))
              · refine guard_off (d := 99) (want := false) (by rfl) (by rfl) ?_ ?_
                · show s 99 ≠ .bool false
                  · intro h_
                    cases hcj : bin
                    · rw [f21.2 hcj] at h_; cases h_
                    · rw [f21.1 hcj] at h_; injection h_ with h_; rw [Bool.eq_false_iff] at hc; exact hc (by (first | (simp only [Bool.and_eq_true, Bool.not_eq_true', Bool.not_eq_false'] at hcj; simp only [hcj, h_, Bool.and_true, Bool.true_and, Bool.not_true, Bool.not_false, Bool.and_self]; done) | (simp only [hcj, h_, Bool.and_true, Bool.true_and, Bool.not_true, Bool.not_false, Bool.and_self]; done) | simp_all))
                exact hK.out _ w (Below.refl _ _) ⟨fun h_ => (by rw [hc] at h_; cases h_), fun _ => rfl⟩ (fun _ g h => by cases h)
              · refine guard_on (d := 99) (want := false) (by rfl) (by rfl) ?_ ?_
                · exact (f21.1 (by (first | (simp only [Bool.and_eq_true, Bool.not_eq_true', Bool.not_eq_false'] at hc; simp only [hc, Bool.and_true, Bool.true_and, Bool.not_true, Bool.not_false, Bool.and_self]; done) | (simp only [hc, Bool.and_true, Bool.true_and, Bool.not_true, Bool.not_false, Bool.and_self]; done) | simp_all))).trans (by rw [show q0 = false by (first | (simp only [Bool.and_eq_true, Bool.not_eq_true', Bool.not_eq_false'] at hc; simp only [hc, Bool.and_true, Bool.true_and, Bool.not_true, Bool.not_false, Bool.and_self]; done) | (simp only [hc, Bool.and_true, Bool.true_and, Bool.not_true, Bool.not_false, Bool.and_self]; done) | simp_all)])
                replace f21 := f21.1 (by (first | (simp only [Bool.and_eq_true, Bool.not_eq_true', Bool.not_eq_false'] at hc; simp only [hc, Bool.and_true, Bool.true_and, Bool.not_true, Bool.not_false, Bool.and_self]; done) | (simp only [hc, Bool.and_true, Bool.true_and, Bool.not_true, Bool.not_false, Bool.and_self]; done) | simp_all))
                replace f27 := f27.1 (by exact hc)
                replace f28 := f28.1 (by exact hc)
                refine wp_value (v := .pointer (some ⟨bS, oS + i * 2, none⟩)) (w1 := w) ?_ (hK.out _ w (Below.refl _ _) ⟨fun _ => rfl, fun h_ => (by rw [hc] at h_; cases h_)⟩ (fun h => by cases h))
                try simp only [f21, f27, f28]
                go_simp
                first | done | (simp [hdS]; done)
            refine StepsP.cons ?_ ?_
            · intro Q s w hC hA K hK
              clear hC
              obtain ⟨f21, f29, -⟩ := hA
              replace f21 : (bin = true → (s 99) = .bool q0) ∧ (bin = false → (s 99) = undef) := f21
              replace f29 : ((bin && (!q0)) = true → (s 107) = .pointer (some ⟨bS, oS + i * 2, none⟩)) ∧ ((bin && (!q0)) = false → (s 107) = undef) := f29
              cases hc : (bin && (!q0))
              · refine guard_off (d := 99) (want := false) (by rfl) (by rfl) ?_ ?_
                · show s 99 ≠ .bool false
                  · intro h_
                    cases hcj : bin
                    · rw [f21.2 hcj] at h_; cases h_
                    · rw [f21.1 hcj] at h_; injection h_ with h_; rw [Bool.eq_false_iff] at hc; exact hc (by (first | (simp only [Bool.and_eq_true, Bool.not_eq_true', Bool.not_eq_false'] at hcj; simp only [hcj, h_, Bool.and_true, Bool.true_and, Bool.not_true, Bool.not_false, Bool.and_self]; done) | (simp only [hcj, h_, Bool.and_true, Bool.true_and, Bool.not_true, Bool.not_false, Bool.and_self]; done) | simp_all))
                exact hK.out _ w (Below.refl _ _) ⟨fun h_ => (by rw [hc] at h_; cases h_), fun _ => rfl⟩ (fun _ g h => by cases h)
              · refine guard_on (d := 99) (want := false) (by rfl) (by rfl) ?_ ?_
                · exact (f21.1 (by (first | (simp only [Bool.and_eq_true, Bool.not_eq_true', Bool.not_eq_false'] at hc; simp only [hc, Bool.and_true, Bool.true_and, Bool.not_true, Bool.not_false, Bool.and_self]; done) | (simp only [hc, Bool.and_true, Bool.true_and, Bool.not_true, Bool.not_false, Bool.and_self]; done) | simp_all))).trans (by rw [show q0 = false by (first | (simp only [Bool.and_eq_true, Bool.not_eq_true', Bool.not_eq_false'] at hc; simp only [hc, Bool.and_true, Bool.true_and, Bool.not_true, Bool.not_false, Bool.and_self]; done) | (simp only [hc, Bool.and_true, Bool.true_and, Bool.not_true, Bool.not_false, Bool.and_self]; done) | simp_all)])
                replace f21 := f21.1 (by (first | (simp only [Bool.and_eq_true, Bool.not_eq_true', Bool.not_eq_false'] at hc; simp only [hc, Bool.and_true, Bool.true_and, Bool.not_true, Bool.not_false, Bool.and_self]; done) | (simp only [hc, Bool.and_true, Bool.true_and, Bool.not_true, Bool.not_false, Bool.and_self]; done) | simp_all))
                replace f29 := f29.1 (by exact hc)
                refine wp_value (v := .pointer (some ⟨bS, oS + i * 2 + 1, none⟩)) (w1 := w) ?_ (hK.out _ w (Below.refl _ _) ⟨fun _ => rfl, fun h_ => (by rw [hc] at h_; cases h_)⟩ (fun h => by cases h))
                try simp only [f21, f29]
                go_simp
                first | done | (simp [hdS]; done)
            refine StepsP.cons ?_ ?_
            · intro Q s w hC hA K hK
              obtain ⟨hsz, hk_g1, lt_g1, hbw, hb8w, ey, ex, em0, em1, hkw, hxw⟩ := hC
              obtain ⟨f21, f30, -⟩ := hA
              replace f21 : (bin = true → (s 99) = .bool q0) ∧ (bin = false → (s 99) = undef) := f21
              replace f30 : ((bin && (!q0)) = true → (s 108) = .pointer (some ⟨bS, oS + i * 2 + 1, none⟩)) ∧ ((bin && (!q0)) = false → (s 108) = undef) := f30
              cases hc : (bin && (!q0))
              · refine guard_off (d := 99) (want := false) (by rfl) (by rfl) ?_ ?_
                · show s 99 ≠ .bool false
                  · intro h_
                    cases hcj : bin
                    · rw [f21.2 hcj] at h_; cases h_
                    · rw [f21.1 hcj] at h_; injection h_ with h_; rw [Bool.eq_false_iff] at hc; exact hc (by (first | (simp only [Bool.and_eq_true, Bool.not_eq_true', Bool.not_eq_false'] at hcj; simp only [hcj, h_, Bool.and_true, Bool.true_and, Bool.not_true, Bool.not_false, Bool.and_self]; done) | (simp only [hcj, h_, Bool.and_true, Bool.true_and, Bool.not_true, Bool.not_false, Bool.and_self]; done) | simp_all))
                exact hK.out _ w (Below.refl _ _) ⟨fun h_ => (by rw [hc] at h_; cases h_), fun _ => rfl⟩ (fun _ g h => by cases h)
              · refine guard_on (d := 99) (want := false) (by rfl) (by rfl) ?_ ?_
                · exact (f21.1 (by (first | (simp only [Bool.and_eq_true, Bool.not_eq_true', Bool.not_eq_false'] at hc; simp only [hc, Bool.and_true, Bool.true_and, Bool.not_true, Bool.not_false, Bool.and_self]; done) | (simp only [hc, Bool.and_true, Bool.true_and, Bool.not_true, Bool.not_false, Bool.and_self]; done) | simp_all))).trans (by rw [show q0 = false by (first | (simp only [Bool.and_eq_true, Bool.not_eq_true', Bool.not_eq_false'] at hc; simp only [hc, Bool.and_true, Bool.true_and, Bool.not_true, Bool.not_false, Bool.and_self]; done) | (simp only [hc, Bool.and_true, Bool.true_and, Bool.not_true, Bool.not_false, Bool.and_self]; done) | simp_all)])
                replace f21 := f21.1 (by (first | (simp only [Bool.and_eq_true, Bool.not_eq_true', Bool.not_eq_false'] at hc; simp only [hc, Bool.and_true, Bool.true_and, Bool.not_true, Bool.not_false, Bool.and_self]; done) | (simp only [hc, Bool.and_true, Bool.true_and, Bool.not_true, Bool.not_false, Bool.and_self]; done) | simp_all))
                replace f30 := f30.1 (by exact hc)
                refine wp_value (v := .int .i64 m1) (w1 := w) ?_ (hK.out _ w (Below.refl _ _) ⟨fun _ => rfl, fun h_ => (by rw [hc] at h_; cases h_)⟩ (fun h => by cases h))
                try simp only [f21, f30]
                go_simp
                try (first | done | rfl | (simp; done))
            refine StepsP.cons ?_ ?_
            · intro Q s w hC hA K hK
              clear hC
              obtain ⟨f21, f25, f31, -⟩ := hA
              replace f21 : (bin = true → (s 99) = .bool q0) ∧ (bin = false → (s 99) = undef) := f21
              replace f25 : ((bin && (!q0)) = true → (s 103) = .int .i64 xi) ∧ ((bin && (!q0)) = false → (s 103) = undef) := f25
              replace f31 : ((bin && (!q0)) = true → (s 109) = .int .i64 m1) ∧ ((bin && (!q0)) = false → (s 109) = undef) := f31
              cases hc : (bin && (!q0))
              · refine guard_off (d := 99) (want := false) (by rfl) (by rfl) ?_ ?_
                · show s 99 ≠ .bool false
                  · intro h_
                    cases hcj : bin
                    · rw [f21.2 hcj] at h_; cases h_
                    · rw [f21.1 hcj] at h_; injection h_ with h_; rw [Bool.eq_false_iff] at hc; exact hc (by (first | (simp only [Bool.and_eq_true, Bool.not_eq_true', Bool.not_eq_false'] at hcj; simp only [hcj, h_, Bool.and_true, Bool.true_and, Bool.not_true, Bool.not_false, Bool.and_self]; done) | (simp only [hcj, h_, Bool.and_true, Bool.true_and, Bool.not_true, Bool.not_false, Bool.and_self]; done) | simp_all))
                exact hK.out _ w (Below.refl _ _) ⟨fun h_ => (by rw [hc] at h_; cases h_), fun _ => rfl⟩ (fun _ g h => by cases h)
              · refine guard_on (d := 99) (want := false) (by rfl) (by rfl) ?_ ?_
                · exact (f21.1 (by (first | (simp only [Bool.and_eq_true, Bool.not_eq_true', Bool.not_eq_false'] at hc; simp only [hc, Bool.and_true, Bool.true_and, Bool.not_true, Bool.not_false, Bool.and_self]; done) | (simp only [hc, Bool.and_true, Bool.true_and, Bool.not_true, Bool.not_false, Bool.and_self]; done) | simp_all))).trans (by rw [show q0 = false by (first | (simp only [Bool.and_eq_true, Bool.not_eq_true', Bool.not_eq_false'] at hc; simp only [hc, Bool.and_true, Bool.true_and, Bool.not_true, Bool.not_false, Bool.and_self]; done) | (simp only [hc, Bool.and_true, Bool.true_and, Bool.not_true, Bool.not_false, Bool.and_self]; done) | simp_all)])
                replace f21 := f21.1 (by (first | (simp only [Bool.and_eq_true, Bool.not_eq_true', Bool.not_eq_false'] at hc; simp only [hc, Bool.and_true, Bool.true_and, Bool.not_true, Bool.not_false, Bool.and_self]; done) | (simp only [hc, Bool.and_true, Bool.true_and, Bool.not_true, Bool.not_false, Bool.and_self]; done) | simp_all))
                replace f25 := f25.1 (by exact hc)
                replace f31 := f31.1 (by exact hc)
                refine wp_value (v := .bool q1) (w1 := w) ?_ (hK.out _ w (Below.refl _ _) ⟨fun _ => rfl, fun h_ => (by rw [hc] at h_; cases h_)⟩ (fun h => by cases h))
                try simp only [f21, f25, f31]
                go_simp
                first | done | exact hq1.out | (simp [hq1.out]; done) | (rw [hq1.out]; done)
            refine StepsP.cons ?_ ?_
            · intro Q s w hC hA K hK
              clear hC
              obtain ⟨f9, f21, f32, -⟩ := hA
              replace f9 : (s 87) = .bool bin := f9
              replace f21 : (bin = true → (s 99) = .bool q0) ∧ (bin = false → (s 99) = undef) := f21
              replace f32 : ((bin && (!q0)) = true → (s 110) = .bool q1) ∧ ((bin && (!q0)) = false → (s 110) = undef) := f32
              cases hc : bin
              · refine guard_off (d := 87) (want := true) (by rfl) (by rfl) ?_ ?_
                · show s 87 ≠ .bool true
                  · intro h_
                    rw [f9] at h_; injection h_ with h_; rw [Bool.eq_false_iff] at hc; exact hc (by (first | (simp only [h_, Bool.and_true, Bool.true_and, Bool.not_true, Bool.not_false, Bool.and_self]; done) | simp_all))
                exact hK.out _ w (Below.refl _ _) ⟨fun h_ => (by rw [hc] at h_; cases h_), fun _ => rfl⟩ (fun _ g h => by cases h)
              · refine guard_on (d := 87) (want := true) (by rfl) (by rfl) ?_ ?_
                · exact (f9).trans (by rw [show bin = true by (first | (simp only [Bool.and_eq_true, Bool.not_eq_true', Bool.not_eq_false'] at hc; simp only [hc, Bool.and_true, Bool.true_and, Bool.not_true, Bool.not_false, Bool.and_self]; done) | (simp only [hc, Bool.and_true, Bool.true_and, Bool.not_true, Bool.not_false, Bool.and_self]; done) | simp_all)])
                replace f21 := f21.1 (by exact hc)
                refine wp_value (v := .bool (q0 || q1)) (w1 := w) ?_ (hK.out _ w (Below.refl _ _) ⟨fun _ => rfl, fun h_ => (by rw [hc] at h_; cases h_)⟩ (fun h => by cases h))
                cases ht : q0
                · have hy_ := f32.1 (by first | (simp only [Bool.and_eq_true, Bool.not_eq_true', Bool.not_eq_false'] at hc ht; simp only [hc, ht, Bool.and_true, Bool.true_and, Bool.not_true, Bool.not_false, Bool.and_self]; done) | (simp only [Bool.and_eq_true, Bool.not_eq_true', Bool.not_eq_false'] at ht; simp only [ht, Bool.and_true, Bool.true_and, Bool.not_true, Bool.not_false, Bool.and_self]; done) | (simp only [ht, Bool.and_true, Bool.true_and, Bool.not_true, Bool.not_false, Bool.and_self]; done) | simp_all)
                  have hct_ : s 99 = .bool false := by rw [f21, ht]
                  simp only [hct_, hy_]
                  go_simp
                  try simp
                · skip
                  have hct_ : s 99 = .bool true := by rw [f21, ht]
                  simp only [hct_]
                  go_simp
                  try simp
            refine StepsP.cons ?_ ?_
            · intro Q s w hC hA K hK
              clear hC
              obtain ⟨f5, f9, f33, -⟩ := hA
              replace f5 : (s 83) = .bool false := f5
              replace f9 : (s 87) = .bool bin := f9
              replace f33 : (bin = true → (s 111) = .bool (q0 || q1)) ∧ (bin = false → (s 111) = undef) := f33
              refine guard_on (d := 83) (want := false) (by rfl) (by rfl) ?_ ?_
              · exact f5
              refine wp_value (v := .bool (bin && (q0 || q1))) (w1 := w) ?_ (hK.out _ w (Below.refl _ _) rfl (fun h => by cases h))
              cases ht : bin
              · skip
                have hct_ : s 87 = .bool false := by rw [f9, ht]
                simp only [hct_]
                go_simp
                try simp
              · have hy_ := f33.1 (by first | (simp only [Bool.and_eq_true, Bool.not_eq_true', Bool.not_eq_false'] at hc ht; simp only [hc, ht, Bool.and_true, Bool.true_and, Bool.not_true, Bool.not_false, Bool.and_self]; done) | (simp only [Bool.and_eq_true, Bool.not_eq_true', Bool.not_eq_false'] at ht; simp only [ht, Bool.and_true, Bool.true_and, Bool.not_true, Bool.not_false, Bool.and_self]; done) | (simp only [ht, Bool.and_true, Bool.true_and, Bool.not_true, Bool.not_false, Bool.and_self]; done) | simp_all)
                have hct_ : s 87 = .bool true := by rw [f9, ht]
                simp only [hct_, hy_]
                go_simp
                try simp
            refine StepsP.cons ?_ ?_
            · intro Q s w hC hA K hK
              clear hC
              obtain ⟨f5, f34, -⟩ := hA
              replace f5 : (s 83) = .bool false := f5
              replace f34 : (s 112) = .bool (bin && (q0 || q1)) := f34
              refine guard_none (by rfl) ?_
              refine wp_value (v := .bool (bin && (q0 || q1))) (w1 := w) ?_ (hK.out _ w (Below.refl _ _) rfl (fun h => by cases h))
              try simp only [f5, f34]
              go_simp
              try (first | done | rfl | (simp; done))
            exact StepsP.nil
          obtain ⟨hsz, hk_g1, lt_g1, hbw, hb8w, ey, ex, em0, em1, hkw, hxw⟩ := hC
          obtain ⟨f35, -⟩ := hA
          replace f35 : (s 113) = .bool (bin && (q0 || q1)) := f35
          refine act_eq (b' := ?b12) ?h12 ?q12
          case h12 => simp only [f35]; rfl
          have hlf : (false || (bin && (q0 || q1))) = false := by rw [hlaw.out]; rfl
          first | rw [hlf] | rw [hlaw.out] | simp only [hlaw.out, Bool.false_or]
          have hxb : lx.length ≤ 9223372036854775807 := hx.1
          go_wp2
          go_roundw
          case rel => exact ⟨i + 1, by omega, by go_num, hb8w⟩
          case measure => simp [intOf]; omega
        · have hd : decide ((i : Int) < (lx.length : Int)) = false := decide_eq_false (by omega)
          replace hbw := bl_step hbw hb8
          go_wp2_with fail
          refine (alive15_calls _).mono ?_
          rintro e w9 ⟨rfl, hb9⟩
          replace hbw := bl_step hbw hb9
          subst hw0
          go_wp2
          go_ret
          exact ⟨rfl, hbw⟩
    · have d1 : ((lx.length : Int) != (p.B.length : Int)) = true := by simp; omega
      go_wp2_with fail
      refine (alive15_calls _).mono ?_
      rintro e w4 ⟨rfl, hb4⟩
      replace hbw := bl_step hbw hb4
      subst hw0
      go_wp2
      go_ret
      exact ⟨rfl, hbw⟩
end Go.Proofs.Ytcmdhkefenjldaa
