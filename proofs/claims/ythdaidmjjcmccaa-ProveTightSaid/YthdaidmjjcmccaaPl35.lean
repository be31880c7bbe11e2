/- Proved here: lemmas and contracts (what a function of the program computes) that the proofs of the laws of this seat lean on. Conditions: as each theorem states. -/
import Derived.Test.YthdaidmjjcmccaaPl34
set_option linter.unusedVariables false
set_option linter.unusedSimpArgs false
namespace Go.Proofs.Ythdaidmjjcmccaa
open Go.RowKit Go.Pk Go.Proofs.YthdaidmjjcmccaaW.PrintLast
set_option maxHeartbeats 8000000 in
set_option maxRecDepth 100000 in
theorem prField0 (a0 a1 a2 : Value) (w : World) : (Instr.field 58 (.agg #[a0, a1, a2]) 0).run Try.prog w = .ok a0 w := by kernel_rfl
set_option maxHeartbeats 8000000 in
set_option maxRecDepth 100000 in
theorem PTight_walk (q : PA) (p : Pl) (ls : List Int) (ii : Int) (as_ : Option Addr) (cs : Nat) (w : World) (hq : q.rd w p) (hin : InP p) (hs : RdI w as_ ls) (hsi : InI ls) (hi0 : -9223372036854775808 ≤ ii) (hi1 : ii ≤ 9223372036854775807) :
    Calls Try.prog 5 #[.agg (q.cells p).toArray, .slice as_ ls.length cs, .int .i64 ii] w fun e w' => e = .returned (.bool true) ∧ Below w.heap.size w w' := by
  have hLt := hidI (fun W (h : q.rd W p) => Light_calls q p W h)
  have hNw := hidI (fun W (as_ : Option Addr) (ls : List Int) (cs : Nat) (h : q.rd W p) (h2 : RdI W as_ ls) => New16_calls q p as_ ls cs W h hin h2)
  have hin2 := hidI hin
  have hok : Hid (newOk p ls = true → GoodP p ∧ InI (slP p ls) ∧ slacksP p ls = true ∧ kitOk p = true) := fun h => by
    unfold newOk at h
    rw [Bool.and_eq_true] at h
    refine ⟨kitOk_good h.1 hin, ?_, h.2, h.1⟩
    unfold slP InI
    intro x hx
    rcases List.mem_append.1 hx with hx | hx
    · exact hsi x hx
    · rw [(List.mem_replicate.1 hx).2]; omega
  obtain ⟨aA, cA, aB, cB, aW, cW, aI, cI, aS, cS, aG, cG⟩ := q
  unfold PA.cells at hLt hNw ⊢
  simp only [] at hLt hNw
  obtain ⟨ok1, hok1⟩ : ∃ z, newOk p ls = z := ⟨_, rfl⟩
  obtain ⟨lt1, hlt1⟩ : ∃ z, lightP p = z := ⟨_, rfl⟩
  have hNw1 := hidI (fun W => hNw.out W as_ ls cs)
  rw [hok1] at hNw1 hok
  rw [hlt1] at hLt
  have hsiH := hidI hsi
  clear hok1 hlt1 hin hsi
  replace hi0 := hidI (And.intro hi0 hi1)
  clear hi1
  go_enter Try.func5, Try.ntmps5
  go_upto_region 1 with fail
  have hk_g1 := blk_new w (.cells #[.slice aA p.A.length cA, .slice aB p.B.length cB, .int .i64 p.inp.lo, .int .i64 p.inp.hi, .slice aW p.W.length cW, .slice aI p.Inv.length cI, .slice aS p.Safe.length cS, .slice aG p.gain.length cG, .int .i64 p.bias] 28)
  have hbw := bl_alloc (Below.refl w.heap.size w) (.cells #[.slice aA p.A.length cA, .slice aB p.B.length cB, .int .i64 p.inp.lo, .int .i64 p.inp.hi, .slice aW p.W.length cW, .slice aI p.Inv.length cI, .slice aS p.Safe.length cS, .slice aG p.gain.length cG, .int .i64 p.bias] 28)
  generalize w.alloc (.cells #[.slice aA p.A.length cA, .slice aB p.B.length cB, .int .i64 p.inp.lo, .int .i64 p.inp.hi, .slice aW p.W.length cW, .slice aI p.Inv.length cI, .slice aS p.Safe.length cS, .slice aG p.gain.length cG, .int .i64 p.bias] 28) = W1 at *
  obtain ⟨w0, hw0⟩ : ∃ z : World, z = w := ⟨_, rfl⟩
  rw [← hw0] at hbw hq hs
  obtain ⟨g1, hg1⟩ : ∃ g, w.heap.size = g := ⟨_, rfl⟩
  rw [hg1] at hk_g1
  rw [hg1]
  clear hg1
  have y0 : W1.cell? ⟨g1, 0, none⟩ = some (.slice aA p.A.length cA) := blk_cell hk_g1 0 (by rfl)
  have y1 : W1.cell? ⟨g1, 1, none⟩ = some (.slice aB p.B.length cB) := blk_cell hk_g1 1 (by rfl)
  have y2 : W1.cell? ⟨g1, 2, none⟩ = some (.int .i64 p.inp.lo) := blk_cell hk_g1 2 (by rfl)
  have y3 : W1.cell? ⟨g1, 3, none⟩ = some (.int .i64 p.inp.hi) := blk_cell hk_g1 3 (by rfl)
  have y4 : W1.cell? ⟨g1, 4, none⟩ = some (.slice aW p.W.length cW) := blk_cell hk_g1 4 (by rfl)
  have y5 : W1.cell? ⟨g1, 5, none⟩ = some (.slice aI p.Inv.length cI) := blk_cell hk_g1 5 (by rfl)
  have y6 : W1.cell? ⟨g1, 6, none⟩ = some (.slice aS p.Safe.length cS) := blk_cell hk_g1 6 (by rfl)
  have y7 : W1.cell? ⟨g1, 7, none⟩ = some (.slice aG p.gain.length cG) := blk_cell hk_g1 7 (by rfl)
  have y8 : W1.cell? ⟨g1, 8, none⟩ = some (.int .i64 p.bias) := blk_cell hk_g1 8 (by rfl)
  go_wp2_with fail
  refine (hNw1.out W1 (hq.below hbw) (hs.below hbw)).mono ?_
  rintro e w2 ⟨hb2, h1, h2⟩
  replace hbw := bl_step hbw hb2
  replace hk_g1 := bl_block hb2 hk_g1
  clear hb2 hNw1 y0 y1 y2 y3 y4 y5 y6 y7 y8
  have y0 : w2.cell? ⟨g1, 0, none⟩ = some (.slice aA p.A.length cA) := blk_cell hk_g1 0 (by rfl)
  have y1 : w2.cell? ⟨g1, 1, none⟩ = some (.slice aB p.B.length cB) := blk_cell hk_g1 1 (by rfl)
  have y2 : w2.cell? ⟨g1, 2, none⟩ = some (.int .i64 p.inp.lo) := blk_cell hk_g1 2 (by rfl)
  have y3 : w2.cell? ⟨g1, 3, none⟩ = some (.int .i64 p.inp.hi) := blk_cell hk_g1 3 (by rfl)
  have y4 : w2.cell? ⟨g1, 4, none⟩ = some (.slice aW p.W.length cW) := blk_cell hk_g1 4 (by rfl)
  have y5 : w2.cell? ⟨g1, 5, none⟩ = some (.slice aI p.Inv.length cI) := blk_cell hk_g1 5 (by rfl)
  have y6 : w2.cell? ⟨g1, 6, none⟩ = some (.slice aS p.Safe.length cS) := blk_cell hk_g1 6 (by rfl)
  have y7 : w2.cell? ⟨g1, 7, none⟩ = some (.slice aG p.gain.length cG) := blk_cell hk_g1 7 (by rfl)
  have y8 : w2.cell? ⟨g1, 8, none⟩ = some (.int .i64 p.bias) := blk_cell hk_g1 8 (by rfl)
  cases ok1
  · obtain ⟨er, hne, rfl⟩ := h1 rfl
    have dE : (er == 0) = false := by simpa using hne
    have dE2 : (er != 0) = true := by simpa using hne
    clear h1 h2 hok hs hne
    go_wp2_with fail
    refine (hLt.out w2 (hq.below hbw)).mono ?_
    rintro e w3 ⟨rfl, hb3⟩
    replace hbw := bl_step hbw hb3
    clear hb3 hLt hq hk_g1 y0 y1 y2 y3 y4 y5 y6 y7 y8
    cases lt1
    · skip
      go_wp2_with fail
      refine (alive16_calls _).mono ?_
      rintro e wz ⟨rfl, hbz⟩
      replace hbw := bl_step hbw hbz
      subst hw0
      go_wp2
      go_ret
      exact ⟨rfl, hbw⟩
    · skip
      go_wp2_with fail
      refine (alive16_calls _).mono ?_
      rintro e wz ⟨rfl, hbz⟩
      replace hbw := bl_step hbw hbz
      subst hw0
      go_wp2
      go_ret
      exact ⟨rfl, hbw⟩
  obtain ⟨gl, rfl, hlk, hgl⟩ := h2 rfl
  obtain ⟨hgood, hsl, hslk, hkok⟩ := hok.out (by simp)
  clear h1 h2 hok hgl
  go_wp2_with fail
  refine (hLt.out w2 (hq.below hbw)).mono ?_
  rintro e w3 ⟨rfl, hb3⟩
  replace hbw := bl_step hbw hb3
  replace hlk := hlk.below hb3
  replace hk_g1 := bl_block hb3 hk_g1
  clear hb3 hLt y0 y1 y2 y3 y4 y5 y6 y7 y8
  cases lt1
  · skip
    go_wp2_with fail
    refine (alive16_calls _).mono ?_
    rintro e wz ⟨rfl, hbz⟩
    replace hbw := bl_step hbw hbz
    subst hw0
    go_wp2
    go_ret
    exact ⟨rfl, hbw⟩
  by_cases h0 : ls.length = 0
  · have d0 : ((ls.length : Int) == 0) = true := by simp [h0]
    replace h0 := hidI h0
    skip
    go_wp2_with fail
    refine (alive16_calls _).mono ?_
    rintro e wz ⟨rfl, hbz⟩
    replace hbw := bl_step hbw hbz
    subst hw0
    go_wp2
    go_ret
    exact ⟨rfl, hbw⟩
  have d0 : ((ls.length : Int) == 0) = false := by simp [h0]
  have hpos : 0 < ls.length := by omega
  have hsk := slacks_iff.1 hslk
  have hl3 : ls.length ≤ 3 := by have := hgood.lens; have := hsk.1; omega
  have ht1 := Int.tmod_lt_of_pos ii (b := (ls.length : Int)) (by omega)
  have ht2 := Int.lt_tmod_of_pos ii (b := (ls.length : Int)) (by omega)
  obtain ⟨r, hr⟩ : ∃ z, Int.tmod ii (ls.length : Int) = z := ⟨_, rfl⟩
  rw [hr] at ht1 ht2
  replace h0 := hidI h0
  replace hpos := hidI hpos
  by_cases hneg : r < 0
  · obtain ⟨k, hkI⟩ : ∃ k : Nat, r + (ls.length : Int) = (k : Int) := ⟨(r + ls.length).toNat, by omega⟩
    have hkl : k < ls.length := by omega
    go_upto_region 9 with fail
    have hbw0 := hbw
    clear hbw
    have hqV := hq.below hbw0
    have hs3 := hs.below hbw0
    have hvl : (encI ls).length = ls.length * 1 := by simp [encI]
    have h1c : ∀ u ∈ encI ls, u.oneCell' = true := by intro u hu; simp [encI] at hu; obtain ⟨_, _, rfl⟩ := hu; rfl
    obtain ⟨v1, w5, hr5, ho5, hg5, -⟩ := run_appRd (P := Try.prog) w3 w3.heap.size 23 23 3 _ 1 8 Try.underlying23 infoI27 (by rfl) (by omega) (.slice none 0 0) 0 [] (World.ownsRow_nil _ _ _ _) as_ ls.length cs (encI ls) hvl hs3.2 h1c (by omega) (by omega) (Nat.le_refl _)
    rw [List.nil_append, Nat.zero_add] at ho5
    have hb5 : Below w3.heap.size w3 w5 := bl_grown (Below.refl _ _) hg5 (fun k h => by cases h)
    obtain ⟨A5, c5, rfl, hc5, hrd5, hn5, -⟩ := own_rdC ho5
    obtain ⟨g5, hg5', rfl⟩ := own_some ho5 hpos.out
    go_upto_region 10 with (first | (at_builtin; refine Lib.wpList_append_run _ rfl (.const (.slice none 0 0)) (.tmp 49) 23 23 rfl (.slice none 0 0) (.slice as_ ls.length cs) rfl rfl (.slice (some ⟨g5, 0, none⟩) ls.length c5) w5 hr5 ?_) | fail)
    have hv0 := hsk.2 k
    have hv1 := hsiH.out.getD k
    have hcv : w5.cell? ⟨g5, k, none⟩ = some (.int .i64 (ls.getD k 0)) := by
      obtain ⟨b5, o5, hbo, hcv⟩ := (show RdI w5 (some ⟨g5, 0, none⟩) ls from ⟨hn5, hrd5⟩).at hkl
      cases hbo
      rw [Nat.zero_add] at hcv
      exact hcv
    obtain ⟨v, hv⟩ : ∃ z, ls.getD k 0 = z := ⟨_, rfl⟩
    rw [hv] at hv0 hv1 hcv
    have hz5 := own_froz ho5 k
    obtain ⟨h, hh⟩ : ∃ z, Int.tdiv v 2 = z := ⟨_, rfl⟩
    have hh2 : v / 2 = h := by rw [← hh, Int.tdiv_eq_ediv_of_nonneg hv0]
    have hhb : 0 ≤ h ∧ h ≤ v := by omega
    have hwr : wrap64 h = h := by unfold wrap64; omega
    have hset := own_setIdx ho5 (i := k) (by omega) (.int .i64 h)
    rw [show (encI ls).set k (.int .i64 h) = encI (ls.set k h) by simp [encI, List.map_set]] at hset
    have hrd6 : RdI (w5.setCell ⟨g5, k, none⟩ (.int .i64 h)) (some ⟨g5, 0, none⟩) (ls.set k h) := (own_rd hset).1
    have hb6 := bl_set hb5 (p := ⟨g5, k, none⟩) hg5' (.int .i64 h)
    clear ho5 hset hrd5 hb5 hg5 hvl h1c hr5
    replace hhb := hidI (And.intro hv (And.intro hhb (And.intro hv0 hv1)))
    clear hv hv0 hv1
    go_upto_region 11 with fail
    clear hh hh2 hcv hz5 hwr
    generalize w5.setCell ⟨g5, k, none⟩ (.int .i64 h) = W6 at *
    have hbw := hb6
    clear hb6 hs3
    obtain ⟨hv, hhb', hv0, hv1⟩ := hhb.out
    have hsk2 : slacksP p (ls.set k h) = true := slacks_iff.2 ⟨by rw [List.length_set]; exact hsk.1, fun j => by rw [getD_set']; split; omega; exact hsk.2 j⟩
    have hn2 : newOk p (ls.set k h) = true := by unfold newOk; rw [hkok, hsk2]; rfl
    have hs0 : slacksP p [] = true := slacks_iff.2 ⟨by simp, fun j => by simp⟩
    have hn3 : newOk p [] = true := by unfold newOk; rw [hkok, hs0]; rfl
    have hle2 : ∀ j, (ls.set k h).getD j 0 ≤ ls.getD j 0 := fun j => by
      rw [getD_set']
      split
      · rename_i e; rw [e.1, hv]; omega
      · omega
    have hle3 : ∀ j, ([] : List Int).getD j 0 ≤ ls.getD j 0 := fun j => by have := hsk.2 j; simp at this ⊢; omega
    have hw2 := holds_less hgood (s := ls.set k h) (t := ls) (by rw [List.length_set]; exact hsk.1) hsk.1 hle2 (box := p.Inv) (by have := hgood.lens; omega)
    have hw3 := holds_less hgood (s := []) (t := ls) (by simp) hsk.1 hle3 (box := p.Inv) (by have := hgood.lens; omega)
    have hti := tight_law hgood (s := []) (t := ls) (by simp) hsk.1 hle3 (depthN 2)
    have hsl2 : InI (slP p (ls.set k h)) := InI.of_slP (fun j => by rw [getD_set']; split; omega; exact hsiH.out.getD j)
    have hsl3 : InI (slP p []) := InI.of_slP (fun j => by simp)
    have hNw2 := hNw.out W6 (some ⟨g5, 0, none⟩) (ls.set k h) c5 (hqV.below hbw) hrd6
    rw [List.length_set, hn2] at hNw2
    have hNw3 := hidI (fun W (hb : Below w3.heap.size w3 W) => hNw.out W none [] 0 (hqV.below hb) ⟨by simp, RdC.nil _ _⟩)
    simp only [List.length_nil] at hNw3
    rw [hn3] at hNw3
    clear hNw hn2 hn3 hs0 hle2 hle3 hsk2 hhb hv hhb' hv0 hv1
    obtain ⟨s1, hs1⟩ : ∃ z, slP p ls = z := ⟨_, rfl⟩
    obtain ⟨s2, hs2⟩ : ∃ z, slP p (ls.set k h) = z := ⟨_, rfl⟩
    obtain ⟨s3, hs3⟩ : ∃ z, slP p [] = z := ⟨_, rfl⟩
    rw [hs1] at hlk hsl hw2 hw3 hti
    rw [hs2] at hNw2 hw2 hsl2
    rw [hs3] at hNw3 hw3 hti hsl3
    clear hs1 hs2 hs3
    have hI := hqV.I
    have hIs : Hid (InS p.Inv ∧ p.Inv.length ≤ 1000000) := ⟨hgood.2.2.2.2.2.2.1, by have := hgood.lens; omega⟩
    simp only [] at hI
    have y0 : W6.cell? ⟨g1, 0, none⟩ = some (.slice aA p.A.length cA) := blk_cell (bl_block hbw hk_g1) 0 (by rfl)
    have y1 : W6.cell? ⟨g1, 1, none⟩ = some (.slice aB p.B.length cB) := blk_cell (bl_block hbw hk_g1) 1 (by rfl)
    have y2 : W6.cell? ⟨g1, 2, none⟩ = some (.int .i64 p.inp.lo) := blk_cell (bl_block hbw hk_g1) 2 (by rfl)
    have y3 : W6.cell? ⟨g1, 3, none⟩ = some (.int .i64 p.inp.hi) := blk_cell (bl_block hbw hk_g1) 3 (by rfl)
    have y4 : W6.cell? ⟨g1, 4, none⟩ = some (.slice aW p.W.length cW) := blk_cell (bl_block hbw hk_g1) 4 (by rfl)
    have y5 : W6.cell? ⟨g1, 5, none⟩ = some (.slice aI p.Inv.length cI) := blk_cell (bl_block hbw hk_g1) 5 (by rfl)
    have y6 : W6.cell? ⟨g1, 6, none⟩ = some (.slice aS p.Safe.length cS) := blk_cell (bl_block hbw hk_g1) 6 (by rfl)
    have y7 : W6.cell? ⟨g1, 7, none⟩ = some (.slice aG p.gain.length cG) := blk_cell (bl_block hbw hk_g1) 7 (by rfl)
    have y8 : W6.cell? ⟨g1, 8, none⟩ = some (.int .i64 p.bias) := blk_cell (bl_block hbw hk_g1) 8 (by rfl)
    go_wp2_with fail
    refine hNw2.mono ?_
    clear hNw2
    rintro e w7 ⟨hb7, -, h2⟩
    obtain ⟨gm, rfl, hlm, -⟩ := h2 (by simp)
    replace hbw := bl_step hbw hb7
    clear hb7 h2 hrd6
    clear y0 y1 y2 y3 y4 y5 y6 y7 y8
    have y0 : w7.cell? ⟨g1, 0, none⟩ = some (.slice aA p.A.length cA) := blk_cell (bl_block hbw hk_g1) 0 (by rfl)
    have y1 : w7.cell? ⟨g1, 1, none⟩ = some (.slice aB p.B.length cB) := blk_cell (bl_block hbw hk_g1) 1 (by rfl)
    have y2 : w7.cell? ⟨g1, 2, none⟩ = some (.int .i64 p.inp.lo) := blk_cell (bl_block hbw hk_g1) 2 (by rfl)
    have y3 : w7.cell? ⟨g1, 3, none⟩ = some (.int .i64 p.inp.hi) := blk_cell (bl_block hbw hk_g1) 3 (by rfl)
    have y4 : w7.cell? ⟨g1, 4, none⟩ = some (.slice aW p.W.length cW) := blk_cell (bl_block hbw hk_g1) 4 (by rfl)
    have y5 : w7.cell? ⟨g1, 5, none⟩ = some (.slice aI p.Inv.length cI) := blk_cell (bl_block hbw hk_g1) 5 (by rfl)
    have y6 : w7.cell? ⟨g1, 6, none⟩ = some (.slice aS p.Safe.length cS) := blk_cell (bl_block hbw hk_g1) 6 (by rfl)
    have y7 : w7.cell? ⟨g1, 7, none⟩ = some (.slice aG p.gain.length cG) := blk_cell (bl_block hbw hk_g1) 7 (by rfl)
    have y8 : w7.cell? ⟨g1, 8, none⟩ = some (.int .i64 p.bias) := blk_cell (bl_block hbw hk_g1) 8 (by rfl)
    go_wp2_with fail
    refine (hNw3.out w7 hbw).mono ?_
    clear hNw3
    rintro e w8 ⟨hb8, -, h2⟩
    obtain ⟨gn, rfl, hln, -⟩ := h2 (by simp)
    replace hbw := bl_step hbw hb8
    replace hlm := hlm.below hb8
    clear hb8 h2
    clear y0 y1 y2 y3 y4 y5 y6 y7 y8
    replace hbw0 := bl_step hbw0 hbw
    replace hI := hI.below hbw
    replace hlk := hlk.below hbw
    replace hk_g1 := bl_block hbw hk_g1
    clear hbw hqV
    have hbw := Below.refl w8.heap.size w8
    have hH1 := hidI (fun W (h : Below w8.heap.size w8 W) => Holds_calls gl p s1 aI p.Inv cI W hgood (hlk.below h) hsl (hI.below h) hIs.out.1 hIs.out.2)
    have hH2 := hidI (fun W (h : Below w8.heap.size w8 W) => Holds_calls gm p s2 aI p.Inv cI W hgood (hlm.below h) hsl2 (hI.below h) hIs.out.1 hIs.out.2)
    have hH3 := hidI (fun W (h : Below w8.heap.size w8 W) => Holds_calls gn p s3 aI p.Inv cI W hgood (hln.below h) hsl3 (hI.below h) hIs.out.1 hIs.out.2)
    have hP1 := hidI (fun W (h : Below w8.heap.size w8 W) => Prove_calls gl p s1 2 W hgood (hlk.below h) hsl (by omega) (by omega))
    have hP3 := hidI (fun W (h : Below w8.heap.size w8 W) => Prove_calls gn p s3 2 W hgood (hln.below h) hsl3 (by omega) (by omega))
    obtain ⟨b1, hb1⟩ : ∃ z, holdsP p s1 p.Inv = z := ⟨_, rfl⟩
    obtain ⟨b2, hb2⟩ : ∃ z, holdsP p s2 p.Inv = z := ⟨_, rfl⟩
    obtain ⟨b3, hb3⟩ : ∃ z, holdsP p s3 p.Inv = z := ⟨_, rfl⟩
    obtain ⟨z1, hz1⟩ : ∃ z, boxG (holdsP p s1) (depthN 2) p.Inv = z := ⟨_, rfl⟩
    obtain ⟨z3, hz3⟩ : ∃ z, boxG (holdsP p s3) (depthN 2) p.Inv = z := ⟨_, rfl⟩
    rw [hb1] at hH1 hw2 hw3
    rw [hb2] at hH2 hw2
    rw [hb3] at hH3 hw3
    rw [hz1] at hP1 hti
    rw [hz3] at hP3 hti
    clear hb1 hb2 hb3 hz1 hz3
    obtain ⟨r1, hr1⟩ : ∃ z, prRes z1 = z := ⟨_, rfl⟩
    obtain ⟨r3, hr3⟩ : ∃ z, prRes z3 = z := ⟨_, rfl⟩
    obtain ⟨n1, hn1⟩ : ∃ z, z1.1 = z := ⟨_, rfl⟩
    obtain ⟨n3, hn3⟩ : ∃ z, z3.1 = z := ⟨_, rfl⟩
    obtain ⟨L1, hL1⟩ : ∃ z, prAt z1 = z := ⟨_, rfl⟩
    obtain ⟨L3, hL3⟩ : ∃ z, prAt z3 = z := ⟨_, rfl⟩
    rw [hr1, hn1, hL1] at hP1
    rw [hr3, hn3, hL3] at hP3
    rw [hr1, hr3] at hti
    have hr13 := hidI hti
    replace hw2 := hidI hw2
    replace hw3 := hidI hw3
    clear hti hr1 hr3 hn1 hn3 hL1 hL3 hsl hsl2 hsl3 hsk hgood hkok hslk hin2
    go_wp2_with fail
    refine (alive16_calls _).mono ?_
    rintro e w9 ⟨rfl, hb9⟩
    replace hbw := bl_step hbw hb9
    clear hb9
    have y5 : w9.cell? ⟨g1, 5, none⟩ = some (.slice aI p.Inv.length cI) := blk_cell (bl_block hbw hk_g1) 5 (by rfl)
    go_wp2_with fail
    refine (hH1.out _ hbw).mono ?_
    rintro e w10 ⟨rfl, hb10⟩
    replace hbw := bl_step hbw hb10
    clear hb10 y5 hH1
    cases b1
    · skip
      go_wp2_with fail
      refine (hP1.out _ hbw).mono ?_
      rintro e wa ⟨A1, c1, rfl, hc1, hr1_, hba⟩
      replace hbw := bl_step hbw hba
      clear hba hP1
      have hfd := prField0 (.int .i64 r1) (.int .i64 n1) (.slice A1 L1.length c1) wa
      by_cases hz1 : r1 = 0
      · have hz3 := hr13.out hz1
        subst hz1
        rw [hz3] at hP3
        clear hz3
        go_wp2_with fail
        refine (hP3.out _ hbw).mono ?_
        rintro e wb ⟨A3, c3, rfl, hc3, hr3_, hbb⟩
        replace hbw := bl_step hbw hbb
        clear hbb hP3 hfd
        have hfd := prField0 (.int .i64 0) (.int .i64 n3) (.slice A3 L3.length c3) wb
        subst hw0
        go_wp2
        go_ret
        exact ⟨rfl, bl_step hbw0 hbw⟩
      · have dz : (r1 != 0) = true := by simpa using hz1
        have dz2 : (r1 == 0) = false := by simpa using hz1
        subst hw0
        go_wp2
        go_ret
        exact ⟨rfl, bl_step hbw0 hbw⟩
    have e2 := hw2.out rfl
    have e3 := hw3.out rfl
    subst e2
    subst e3
    have y5 : w10.cell? ⟨g1, 5, none⟩ = some (.slice aI p.Inv.length cI) := blk_cell (bl_block hbw hk_g1) 5 (by rfl)
    go_wp2_with fail
    refine (hH2.out _ hbw).mono ?_
    rintro e w11 ⟨rfl, hb11⟩
    replace hbw := bl_step hbw hb11
    clear hb11 y5 hH2
    have y5 : w11.cell? ⟨g1, 5, none⟩ = some (.slice aI p.Inv.length cI) := blk_cell (bl_block hbw hk_g1) 5 (by rfl)
    go_wp2_with fail
    refine (hH3.out _ hbw).mono ?_
    rintro e w12 ⟨rfl, hb12⟩
    replace hbw := bl_step hbw hb12
    clear hb12 y5 hH3
    go_wp2_with fail
    refine (hP1.out _ hbw).mono ?_
    rintro e wa ⟨A1, c1, rfl, hc1, hr1_, hba⟩
    replace hbw := bl_step hbw hba
    clear hba hP1
    have hfd := prField0 (.int .i64 r1) (.int .i64 n1) (.slice A1 L1.length c1) wa
    by_cases hz1 : r1 = 0
    · have hz3 := hr13.out hz1
      subst hz1
      rw [hz3] at hP3
      clear hz3
      go_wp2_with fail
      refine (hP3.out _ hbw).mono ?_
      rintro e wb ⟨A3, c3, rfl, hc3, hr3_, hbb⟩
      replace hbw := bl_step hbw hbb
      clear hbb hP3 hfd
      have hfd := prField0 (.int .i64 0) (.int .i64 n3) (.slice A3 L3.length c3) wb
      subst hw0
      go_wp2
      go_ret
      exact ⟨rfl, bl_step hbw0 hbw⟩
    · have dz : (r1 != 0) = true := by simpa using hz1
      have dz2 : (r1 == 0) = false := by simpa using hz1
      subst hw0
      go_wp2
      go_ret
      exact ⟨rfl, bl_step hbw0 hbw⟩
  · obtain ⟨k, rfl⟩ : ∃ k : Nat, r = (k : Int) := ⟨r.toNat, by omega⟩
    have hkl : k < ls.length := by omega
    go_upto_region 9 with fail
    have hbw0 := hbw
    clear hbw
    have hqV := hq.below hbw0
    have hs3 := hs.below hbw0
    have hvl : (encI ls).length = ls.length * 1 := by simp [encI]
    have h1c : ∀ u ∈ encI ls, u.oneCell' = true := by intro u hu; simp [encI] at hu; obtain ⟨_, _, rfl⟩ := hu; rfl
    obtain ⟨v1, w5, hr5, ho5, hg5, -⟩ := run_appRd (P := Try.prog) w3 w3.heap.size 23 23 3 _ 1 8 Try.underlying23 infoI27 (by rfl) (by omega) (.slice none 0 0) 0 [] (World.ownsRow_nil _ _ _ _) as_ ls.length cs (encI ls) hvl hs3.2 h1c (by omega) (by omega) (Nat.le_refl _)
    rw [List.nil_append, Nat.zero_add] at ho5
    have hb5 : Below w3.heap.size w3 w5 := bl_grown (Below.refl _ _) hg5 (fun k h => by cases h)
    obtain ⟨A5, c5, rfl, hc5, hrd5, hn5, -⟩ := own_rdC ho5
    obtain ⟨g5, hg5', rfl⟩ := own_some ho5 hpos.out
    go_upto_region 10 with (first | (at_builtin; refine Lib.wpList_append_run _ rfl (.const (.slice none 0 0)) (.tmp 49) 23 23 rfl (.slice none 0 0) (.slice as_ ls.length cs) rfl rfl (.slice (some ⟨g5, 0, none⟩) ls.length c5) w5 hr5 ?_) | fail)
    have hv0 := hsk.2 k
    have hv1 := hsiH.out.getD k
    have hcv : w5.cell? ⟨g5, k, none⟩ = some (.int .i64 (ls.getD k 0)) := by
      obtain ⟨b5, o5, hbo, hcv⟩ := (show RdI w5 (some ⟨g5, 0, none⟩) ls from ⟨hn5, hrd5⟩).at hkl
      cases hbo
      rw [Nat.zero_add] at hcv
      exact hcv
    obtain ⟨v, hv⟩ : ∃ z, ls.getD k 0 = z := ⟨_, rfl⟩
    rw [hv] at hv0 hv1 hcv
    have hz5 := own_froz ho5 k
    obtain ⟨h, hh⟩ : ∃ z, Int.tdiv v 2 = z := ⟨_, rfl⟩
    have hh2 : v / 2 = h := by rw [← hh, Int.tdiv_eq_ediv_of_nonneg hv0]
    have hhb : 0 ≤ h ∧ h ≤ v := by omega
    have hwr : wrap64 h = h := by unfold wrap64; omega
    have hset := own_setIdx ho5 (i := k) (by omega) (.int .i64 h)
    rw [show (encI ls).set k (.int .i64 h) = encI (ls.set k h) by simp [encI, List.map_set]] at hset
    have hrd6 : RdI (w5.setCell ⟨g5, k, none⟩ (.int .i64 h)) (some ⟨g5, 0, none⟩) (ls.set k h) := (own_rd hset).1
    have hb6 := bl_set hb5 (p := ⟨g5, k, none⟩) hg5' (.int .i64 h)
    clear ho5 hset hrd5 hb5 hg5 hvl h1c hr5
    replace hhb := hidI (And.intro hv (And.intro hhb (And.intro hv0 hv1)))
    clear hv hv0 hv1
    go_upto_region 11 with fail
    clear hh hh2 hcv hz5 hwr
    generalize w5.setCell ⟨g5, k, none⟩ (.int .i64 h) = W6 at *
    have hbw := hb6
    clear hb6 hs3
    obtain ⟨hv, hhb', hv0, hv1⟩ := hhb.out
    have hsk2 : slacksP p (ls.set k h) = true := slacks_iff.2 ⟨by rw [List.length_set]; exact hsk.1, fun j => by rw [getD_set']; split; omega; exact hsk.2 j⟩
    have hn2 : newOk p (ls.set k h) = true := by unfold newOk; rw [hkok, hsk2]; rfl
    have hs0 : slacksP p [] = true := slacks_iff.2 ⟨by simp, fun j => by simp⟩
    have hn3 : newOk p [] = true := by unfold newOk; rw [hkok, hs0]; rfl
    have hle2 : ∀ j, (ls.set k h).getD j 0 ≤ ls.getD j 0 := fun j => by
      rw [getD_set']
      split
      · rename_i e; rw [e.1, hv]; omega
      · omega
    have hle3 : ∀ j, ([] : List Int).getD j 0 ≤ ls.getD j 0 := fun j => by have := hsk.2 j; simp at this ⊢; omega
    have hw2 := holds_less hgood (s := ls.set k h) (t := ls) (by rw [List.length_set]; exact hsk.1) hsk.1 hle2 (box := p.Inv) (by have := hgood.lens; omega)
    have hw3 := holds_less hgood (s := []) (t := ls) (by simp) hsk.1 hle3 (box := p.Inv) (by have := hgood.lens; omega)
    have hti := tight_law hgood (s := []) (t := ls) (by simp) hsk.1 hle3 (depthN 2)
    have hsl2 : InI (slP p (ls.set k h)) := InI.of_slP (fun j => by rw [getD_set']; split; omega; exact hsiH.out.getD j)
    have hsl3 : InI (slP p []) := InI.of_slP (fun j => by simp)
    have hNw2 := hNw.out W6 (some ⟨g5, 0, none⟩) (ls.set k h) c5 (hqV.below hbw) hrd6
    rw [List.length_set, hn2] at hNw2
    have hNw3 := hidI (fun W (hb : Below w3.heap.size w3 W) => hNw.out W none [] 0 (hqV.below hb) ⟨by simp, RdC.nil _ _⟩)
    simp only [List.length_nil] at hNw3
    rw [hn3] at hNw3
    clear hNw hn2 hn3 hs0 hle2 hle3 hsk2 hhb hv hhb' hv0 hv1
    obtain ⟨s1, hs1⟩ : ∃ z, slP p ls = z := ⟨_, rfl⟩
    obtain ⟨s2, hs2⟩ : ∃ z, slP p (ls.set k h) = z := ⟨_, rfl⟩
    obtain ⟨s3, hs3⟩ : ∃ z, slP p [] = z := ⟨_, rfl⟩
    rw [hs1] at hlk hsl hw2 hw3 hti
    rw [hs2] at hNw2 hw2 hsl2
    rw [hs3] at hNw3 hw3 hti hsl3
    clear hs1 hs2 hs3
    have hI := hqV.I
    have hIs : Hid (InS p.Inv ∧ p.Inv.length ≤ 1000000) := ⟨hgood.2.2.2.2.2.2.1, by have := hgood.lens; omega⟩
    simp only [] at hI
    have y0 : W6.cell? ⟨g1, 0, none⟩ = some (.slice aA p.A.length cA) := blk_cell (bl_block hbw hk_g1) 0 (by rfl)
    have y1 : W6.cell? ⟨g1, 1, none⟩ = some (.slice aB p.B.length cB) := blk_cell (bl_block hbw hk_g1) 1 (by rfl)
    have y2 : W6.cell? ⟨g1, 2, none⟩ = some (.int .i64 p.inp.lo) := blk_cell (bl_block hbw hk_g1) 2 (by rfl)
    have y3 : W6.cell? ⟨g1, 3, none⟩ = some (.int .i64 p.inp.hi) := blk_cell (bl_block hbw hk_g1) 3 (by rfl)
    have y4 : W6.cell? ⟨g1, 4, none⟩ = some (.slice aW p.W.length cW) := blk_cell (bl_block hbw hk_g1) 4 (by rfl)
    have y5 : W6.cell? ⟨g1, 5, none⟩ = some (.slice aI p.Inv.length cI) := blk_cell (bl_block hbw hk_g1) 5 (by rfl)
    have y6 : W6.cell? ⟨g1, 6, none⟩ = some (.slice aS p.Safe.length cS) := blk_cell (bl_block hbw hk_g1) 6 (by rfl)
    have y7 : W6.cell? ⟨g1, 7, none⟩ = some (.slice aG p.gain.length cG) := blk_cell (bl_block hbw hk_g1) 7 (by rfl)
    have y8 : W6.cell? ⟨g1, 8, none⟩ = some (.int .i64 p.bias) := blk_cell (bl_block hbw hk_g1) 8 (by rfl)
    go_wp2_with fail
    refine hNw2.mono ?_
    clear hNw2
    rintro e w7 ⟨hb7, -, h2⟩
    obtain ⟨gm, rfl, hlm, -⟩ := h2 (by simp)
    replace hbw := bl_step hbw hb7
    clear hb7 h2 hrd6
    clear y0 y1 y2 y3 y4 y5 y6 y7 y8
    have y0 : w7.cell? ⟨g1, 0, none⟩ = some (.slice aA p.A.length cA) := blk_cell (bl_block hbw hk_g1) 0 (by rfl)
    have y1 : w7.cell? ⟨g1, 1, none⟩ = some (.slice aB p.B.length cB) := blk_cell (bl_block hbw hk_g1) 1 (by rfl)
    have y2 : w7.cell? ⟨g1, 2, none⟩ = some (.int .i64 p.inp.lo) := blk_cell (bl_block hbw hk_g1) 2 (by rfl)
    have y3 : w7.cell? ⟨g1, 3, none⟩ = some (.int .i64 p.inp.hi) := blk_cell (bl_block hbw hk_g1) 3 (by rfl)
    have y4 : w7.cell? ⟨g1, 4, none⟩ = some (.slice aW p.W.length cW) := blk_cell (bl_block hbw hk_g1) 4 (by rfl)
    have y5 : w7.cell? ⟨g1, 5, none⟩ = some (.slice aI p.Inv.length cI) := blk_cell (bl_block hbw hk_g1) 5 (by rfl)
    have y6 : w7.cell? ⟨g1, 6, none⟩ = some (.slice aS p.Safe.length cS) := blk_cell (bl_block hbw hk_g1) 6 (by rfl)
    have y7 : w7.cell? ⟨g1, 7, none⟩ = some (.slice aG p.gain.length cG) := blk_cell (bl_block hbw hk_g1) 7 (by rfl)
    have y8 : w7.cell? ⟨g1, 8, none⟩ = some (.int .i64 p.bias) := blk_cell (bl_block hbw hk_g1) 8 (by rfl)
    go_wp2_with fail
    refine (hNw3.out w7 hbw).mono ?_
    clear hNw3
    rintro e w8 ⟨hb8, -, h2⟩
    obtain ⟨gn, rfl, hln, -⟩ := h2 (by simp)
    replace hbw := bl_step hbw hb8
    replace hlm := hlm.below hb8
    clear hb8 h2
    clear y0 y1 y2 y3 y4 y5 y6 y7 y8
    replace hbw0 := bl_step hbw0 hbw
    replace hI := hI.below hbw
    replace hlk := hlk.below hbw
    replace hk_g1 := bl_block hbw hk_g1
    clear hbw hqV
    have hbw := Below.refl w8.heap.size w8
    have hH1 := hidI (fun W (h : Below w8.heap.size w8 W) => Holds_calls gl p s1 aI p.Inv cI W hgood (hlk.below h) hsl (hI.below h) hIs.out.1 hIs.out.2)
    have hH2 := hidI (fun W (h : Below w8.heap.size w8 W) => Holds_calls gm p s2 aI p.Inv cI W hgood (hlm.below h) hsl2 (hI.below h) hIs.out.1 hIs.out.2)
    have hH3 := hidI (fun W (h : Below w8.heap.size w8 W) => Holds_calls gn p s3 aI p.Inv cI W hgood (hln.below h) hsl3 (hI.below h) hIs.out.1 hIs.out.2)
    have hP1 := hidI (fun W (h : Below w8.heap.size w8 W) => Prove_calls gl p s1 2 W hgood (hlk.below h) hsl (by omega) (by omega))
    have hP3 := hidI (fun W (h : Below w8.heap.size w8 W) => Prove_calls gn p s3 2 W hgood (hln.below h) hsl3 (by omega) (by omega))
    obtain ⟨b1, hb1⟩ : ∃ z, holdsP p s1 p.Inv = z := ⟨_, rfl⟩
    obtain ⟨b2, hb2⟩ : ∃ z, holdsP p s2 p.Inv = z := ⟨_, rfl⟩
    obtain ⟨b3, hb3⟩ : ∃ z, holdsP p s3 p.Inv = z := ⟨_, rfl⟩
    obtain ⟨z1, hz1⟩ : ∃ z, boxG (holdsP p s1) (depthN 2) p.Inv = z := ⟨_, rfl⟩
    obtain ⟨z3, hz3⟩ : ∃ z, boxG (holdsP p s3) (depthN 2) p.Inv = z := ⟨_, rfl⟩
    rw [hb1] at hH1 hw2 hw3
    rw [hb2] at hH2 hw2
    rw [hb3] at hH3 hw3
    rw [hz1] at hP1 hti
    rw [hz3] at hP3 hti
    clear hb1 hb2 hb3 hz1 hz3
    obtain ⟨r1, hr1⟩ : ∃ z, prRes z1 = z := ⟨_, rfl⟩
    obtain ⟨r3, hr3⟩ : ∃ z, prRes z3 = z := ⟨_, rfl⟩
    obtain ⟨n1, hn1⟩ : ∃ z, z1.1 = z := ⟨_, rfl⟩
    obtain ⟨n3, hn3⟩ : ∃ z, z3.1 = z := ⟨_, rfl⟩
    obtain ⟨L1, hL1⟩ : ∃ z, prAt z1 = z := ⟨_, rfl⟩
    obtain ⟨L3, hL3⟩ : ∃ z, prAt z3 = z := ⟨_, rfl⟩
    rw [hr1, hn1, hL1] at hP1
    rw [hr3, hn3, hL3] at hP3
    rw [hr1, hr3] at hti
    have hr13 := hidI hti
    replace hw2 := hidI hw2
    replace hw3 := hidI hw3
    clear hti hr1 hr3 hn1 hn3 hL1 hL3 hsl hsl2 hsl3 hsk hgood hkok hslk hin2
    go_wp2_with fail
    refine (alive16_calls _).mono ?_
    rintro e w9 ⟨rfl, hb9⟩
    replace hbw := bl_step hbw hb9
    clear hb9
    have y5 : w9.cell? ⟨g1, 5, none⟩ = some (.slice aI p.Inv.length cI) := blk_cell (bl_block hbw hk_g1) 5 (by rfl)
    go_wp2_with fail
    refine (hH1.out _ hbw).mono ?_
    rintro e w10 ⟨rfl, hb10⟩
    replace hbw := bl_step hbw hb10
    clear hb10 y5 hH1
    cases b1
    · skip
      go_wp2_with fail
      refine (hP1.out _ hbw).mono ?_
      rintro e wa ⟨A1, c1, rfl, hc1, hr1_, hba⟩
      replace hbw := bl_step hbw hba
      clear hba hP1
      have hfd := prField0 (.int .i64 r1) (.int .i64 n1) (.slice A1 L1.length c1) wa
      by_cases hz1 : r1 = 0
      · have hz3 := hr13.out hz1
        subst hz1
        rw [hz3] at hP3
        clear hz3
        go_wp2_with fail
        refine (hP3.out _ hbw).mono ?_
        rintro e wb ⟨A3, c3, rfl, hc3, hr3_, hbb⟩
        replace hbw := bl_step hbw hbb
        clear hbb hP3 hfd
        have hfd := prField0 (.int .i64 0) (.int .i64 n3) (.slice A3 L3.length c3) wb
        subst hw0
        go_wp2
        go_ret
        exact ⟨rfl, bl_step hbw0 hbw⟩
      · have dz : (r1 != 0) = true := by simpa using hz1
        have dz2 : (r1 == 0) = false := by simpa using hz1
        subst hw0
        go_wp2
        go_ret
        exact ⟨rfl, bl_step hbw0 hbw⟩
    have e2 := hw2.out rfl
    have e3 := hw3.out rfl
    subst e2
    subst e3
    have y5 : w10.cell? ⟨g1, 5, none⟩ = some (.slice aI p.Inv.length cI) := blk_cell (bl_block hbw hk_g1) 5 (by rfl)
    go_wp2_with fail
    refine (hH2.out _ hbw).mono ?_
    rintro e w11 ⟨rfl, hb11⟩
    replace hbw := bl_step hbw hb11
    clear hb11 y5 hH2
    have y5 : w11.cell? ⟨g1, 5, none⟩ = some (.slice aI p.Inv.length cI) := blk_cell (bl_block hbw hk_g1) 5 (by rfl)
    go_wp2_with fail
    refine (hH3.out _ hbw).mono ?_
    rintro e w12 ⟨rfl, hb12⟩
    replace hbw := bl_step hbw hb12
    clear hb12 y5 hH3
    go_wp2_with fail
    refine (hP1.out _ hbw).mono ?_
    rintro e wa ⟨A1, c1, rfl, hc1, hr1_, hba⟩
    replace hbw := bl_step hbw hba
    clear hba hP1
    have hfd := prField0 (.int .i64 r1) (.int .i64 n1) (.slice A1 L1.length c1) wa
    by_cases hz1 : r1 = 0
    · have hz3 := hr13.out hz1
      subst hz1
      rw [hz3] at hP3
      clear hz3
      go_wp2_with fail
      refine (hP3.out _ hbw).mono ?_
      rintro e wb ⟨A3, c3, rfl, hc3, hr3_, hbb⟩
      replace hbw := bl_step hbw hbb
      clear hbb hP3 hfd
      have hfd := prField0 (.int .i64 0) (.int .i64 n3) (.slice A3 L3.length c3) wb
      subst hw0
      go_wp2
      go_ret
      exact ⟨rfl, bl_step hbw0 hbw⟩
    · have dz : (r1 != 0) = true := by simpa using hz1
      have dz2 : (r1 == 0) = false := by simpa using hz1
      subst hw0
      go_wp2
      go_ret
      exact ⟨rfl, bl_step hbw0 hbw⟩
end Go.Proofs.Ythdaidmjjcmccaa
