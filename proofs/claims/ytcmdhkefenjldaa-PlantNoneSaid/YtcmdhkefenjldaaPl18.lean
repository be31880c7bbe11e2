/- Proved here: lemmas and contracts (what a function of the program computes) that the proofs of the laws of this seat lean on. Conditions: as each theorem states. -/
import Derived.Test.YtcmdhkefenjldaaPl13
import Derived.Test.YtcmdhkefenjldaaMp2
set_option linter.unusedVariables false
set_option linter.unusedSimpArgs false
namespace Go.Pk
open Go.RowKit
theorem AtM.of {M : Nat} {l : List Int} {n : Nat} (hn : l.length = n) (h : ∀ j, j < n → -(M : Int) ≤ l.getD j 0 ∧ l.getD j 0 ≤ M) : AtM M l := fun i => by
  by_cases hi : i < n
  · exact h i hi
  · rw [List.getD_eq_getElem?_getD, List.getElem?_eq_none (by omega)]; simp
end Go.Pk
namespace Go.Proofs.Ytcmdhkefenjldaa
open Go.RowKit Go.Pk Go.Proofs.YtcmdhkefenjldaaW.PrintLast
set_option maxHeartbeats 8000000 in
set_option maxRecDepth 100000 in
theorem Adds_walk (q : PA) (p : Pl) (u v : Int) (lw lx ly : List Int) (aw ax ay : Option Addr) (cw cx cy : Nat) (w : World) (hq : q.rd w p) (hin : InP p) (hw : RdI w aw lw) (hx : RdI w ax lx) (hy : RdI w ay ly) (hiw : InI lw) (hix : InI lx) (hiy : InI ly) :
    Calls Try.prog 3 #[.agg (q.cells p).toArray, .int .i64 u, .int .i64 v, .slice aw lw.length cw, .slice ax lx.length cx, .slice ay ly.length cy] w fun e w' => e = .returned (.bool true) ∧ Below w.heap.size w w' := by
  have hlight := hidI (fun W (hW : q.rd W p) => Light_calls q p W hW)
  have hnewL := hidI (fun W (hW : q.rd W p) => New_long q p W hW)
  have hnewS := hidI (fun W (hW : q.rd W p) => New_some q p W hW hin)
  obtain ⟨aA, cA, aB, cB, aW, cW, aI, cI, aS, cS, aG, cG⟩ := q
  unfold PA.cells at hlight hnewL hnewS ⊢
  simp only [] at hlight hnewL hnewS
  obtain ⟨il, hil⟩ : ∃ z, p.inp.lo = z := ⟨_, rfl⟩
  obtain ⟨ih, hih⟩ : ∃ z, p.inp.hi = z := ⟨_, rfl⟩
  obtain ⟨bi, hbi⟩ : ∃ z, p.bias = z := ⟨_, rfl⟩
  simp only [hil, hih, hbi] at hlight hnewL hnewS ⊢
  clear hil hih hbi
  go_enter Try.func3, Try.ntmps3
  go_upto_region 1 with fail
  have hk_g1 := blk_new w (.cells #[.slice aA p.A.length cA, .slice aB p.B.length cB, .int .i64 il, .int .i64 ih, .slice aW p.W.length cW, .slice aI p.Inv.length cI, .slice aS p.Safe.length cS, .slice aG p.gain.length cG, .int .i64 bi] 28)
  have hbw := bl_alloc (Below.refl w.heap.size w) (.cells #[.slice aA p.A.length cA, .slice aB p.B.length cB, .int .i64 il, .int .i64 ih, .slice aW p.W.length cW, .slice aI p.Inv.length cI, .slice aS p.Safe.length cS, .slice aG p.gain.length cG, .int .i64 bi] 28)
  generalize w.alloc (.cells #[.slice aA p.A.length cA, .slice aB p.B.length cB, .int .i64 il, .int .i64 ih, .slice aW p.W.length cW, .slice aI p.Inv.length cI, .slice aS p.Safe.length cS, .slice aG p.gain.length cG, .int .i64 bi] 28) = W1 at *
  replace hq := hq.below hbw
  replace hx := hx.below hbw
  replace hy := hy.below hbw
  replace hw := hw.below hbw
  obtain ⟨w0, hw0⟩ : ∃ z : World, z = w := ⟨_, rfl⟩
  rw [← hw0] at hbw
  obtain ⟨g1, hg1⟩ : ∃ g, w.heap.size = g := ⟨_, rfl⟩
  rw [hg1] at hk_g1
  rw [hg1]
  clear hg1
  have y0 : W1.cell? ⟨g1, 0, none⟩ = some (.slice aA p.A.length cA) := blk_cell hk_g1 0 (by rfl)
  have y1 : W1.cell? ⟨g1, 1, none⟩ = some (.slice aB p.B.length cB) := blk_cell hk_g1 1 (by rfl)
  have y2 : W1.cell? ⟨g1, 2, none⟩ = some (.int .i64 il) := blk_cell hk_g1 2 (by rfl)
  have y3 : W1.cell? ⟨g1, 3, none⟩ = some (.int .i64 ih) := blk_cell hk_g1 3 (by rfl)
  have y4 : W1.cell? ⟨g1, 4, none⟩ = some (.slice aW p.W.length cW) := blk_cell hk_g1 4 (by rfl)
  have y5 : W1.cell? ⟨g1, 5, none⟩ = some (.slice aI p.Inv.length cI) := blk_cell hk_g1 5 (by rfl)
  have y6 : W1.cell? ⟨g1, 6, none⟩ = some (.slice aS p.Safe.length cS) := blk_cell hk_g1 6 (by rfl)
  have y7 : W1.cell? ⟨g1, 7, none⟩ = some (.slice aG p.gain.length cG) := blk_cell hk_g1 7 (by rfl)
  have y8 : W1.cell? ⟨g1, 8, none⟩ = some (.int .i64 bi) := blk_cell hk_g1 8 (by rfl)
  go_wp2_with fail
  have hnew : Calls Try.prog 12 #[.agg #[.slice aA p.A.length cA, .slice aB p.B.length cB, .int .i64 il, .int .i64 ih, .slice aW p.W.length cW, .slice aI p.Inv.length cI, .slice aS p.Safe.length cS, .slice aG p.gain.length cG, .int .i64 bi]] W1 fun e w' => Below W1.heap.size W1 w' ∧ ((∃ n : Int, e = .returned (.tuple #[.pointer none, .int .i64 n]) ∧ Hid (n ≠ 0)) ∨ (GoodP p ∧ ∃ g, e = .returned (.tuple #[.pointer (some ⟨g, 0, none⟩), .int .i64 0]) ∧ KitAt w' g 51 p ∧ W1.heap.size ≤ g)) := by
    by_cases hl : longP p = true
    · refine (hnewS.out W1 hq hl).mono ?_
      rintro e w' ⟨hb, h1, h2⟩
      by_cases hw : wrongP p = true
      · exact ⟨hb, Or.inl ⟨42, h1 hw, by unfold Hid; omega⟩⟩
      · have hw' : wrongP p = false := by simpa using hw
        exact ⟨hb, Or.inr ⟨⟨hl, hw', hin⟩, h2 hw'⟩⟩
    · have hl' : longP p = false := by simpa using hl
      refine (hnewL.out W1 hq hl').mono ?_
      rintro e w' ⟨h1, hb⟩
      exact ⟨hb, Or.inl ⟨1, h1, by unfold Hid; omega⟩⟩
  clear hnewL hnewS
  refine hnew.mono ?_
  clear hnew y0 y1 y2 y3 y4 y5 y6 y7 y8
  rintro e w2 ⟨hb2, hcase⟩
  replace hk_g1 := bl_block hb2 hk_g1
  replace hbw := bl_step hbw hb2
  replace hq := hq.below hb2
  replace hx := hx.below hb2
  replace hy := hy.below hb2
  replace hw := hw.below hb2
  have y0 : w2.cell? ⟨g1, 0, none⟩ = some (.slice aA p.A.length cA) := blk_cell hk_g1 0 (by rfl)
  have y1 : w2.cell? ⟨g1, 1, none⟩ = some (.slice aB p.B.length cB) := blk_cell hk_g1 1 (by rfl)
  have y2 : w2.cell? ⟨g1, 2, none⟩ = some (.int .i64 il) := blk_cell hk_g1 2 (by rfl)
  have y3 : w2.cell? ⟨g1, 3, none⟩ = some (.int .i64 ih) := blk_cell hk_g1 3 (by rfl)
  have y4 : w2.cell? ⟨g1, 4, none⟩ = some (.slice aW p.W.length cW) := blk_cell hk_g1 4 (by rfl)
  have y5 : w2.cell? ⟨g1, 5, none⟩ = some (.slice aI p.Inv.length cI) := blk_cell hk_g1 5 (by rfl)
  have y6 : w2.cell? ⟨g1, 6, none⟩ = some (.slice aS p.Safe.length cS) := blk_cell hk_g1 6 (by rfl)
  have y7 : w2.cell? ⟨g1, 7, none⟩ = some (.slice aG p.gain.length cG) := blk_cell hk_g1 7 (by rfl)
  have y8 : w2.cell? ⟨g1, 8, none⟩ = some (.int .i64 bi) := blk_cell hk_g1 8 (by rfl)
  rcases hcase with ⟨n, rfl, hn⟩ | ⟨hgood, g, rfl, hkit, hgn⟩
  · have d0 : ((n == 0) : Bool) = false := by have := hn.out; simpa using this
    have d1 : ((n != 0) : Bool) = true := by have := hn.out; simpa using this
    go_upto_region 4 with fail
    go_wp2_with fail
    refine (hlight.out w2 hq).mono ?_
    rintro e w3 ⟨rfl, hb3⟩
    replace hbw := bl_step hbw hb3
    clear y0 y1 y2 y3 y4 y5 y6 y7 y8 hb3
    cases lightP p
    all_goals
      go_wp2_with fail
      refine (alive15_calls _).mono ?_
      rintro e wz ⟨rfl, hbz⟩
      replace hbw := bl_step hbw hbz
      subst hw0
      go_wp2
      go_ret
      exact ⟨rfl, hbw⟩
  · go_upto_region 4 with fail
    go_wp2_with fail
    refine (hlight.out w2 hq).mono ?_
    rintro e w3 ⟨rfl, hb3⟩
    replace hbw := bl_step hbw hb3
    replace hx := hx.below hb3
    replace hy := hy.below hb3
    replace hw := hw.below hb3
    replace hkit := hkit.below hb3
    clear y0 y1 y2 y3 y4 y5 y6 y7 y8 hb3 hk_g1 hq hb2 hlight hgn
    cases lightP p
    · skip
      go_wp2_with fail
      refine (alive15_calls _).mono ?_
      rintro e wz ⟨rfl, hbz⟩
      replace hbw := bl_step hbw hbz
      subst hw0
      go_wp2
      go_ret
      exact ⟨rfl, hbw⟩
    obtain ⟨N, hN⟩ : ∃ N, Hid (p.B.length = N) := ⟨_, rfl⟩
    have hlens := hidI hgood.lens
    have hN3 : 1 ≤ N ∧ N ≤ 3 := by have := hlens.out; have := hN.out; omega
    have hDim := hidI (fun W (h : KitAt W g 51 p) => Dim_calls g p W h)
    rw [hN.out] at hDim
    have hD0 := hidI (hDim.out _ hkit)
    go_wp2_with fail
    refine (hD0.out).mono ?_
    rintro e w4 ⟨rfl, hw4⟩
    subst hw4
    by_cases h1 : ((lw.length : Int) != (N : Int)) = true
    · skip
      go_wp2_with fail
      refine (alive15_calls _).mono ?_
      rintro e wz ⟨rfl, hbz⟩
      replace hbw := bl_step hbw hbz
      subst hw0
      go_wp2
      go_ret
      exact ⟨rfl, hbw⟩
    have e1 : Hid (lw.length = N) := by unfold Hid; simp at h1; omega
    replace h1 : ((lw.length : Int) != (N : Int)) = false := by simpa using h1
    go_wp2_with fail
    refine (hD0.out).mono ?_
    rintro e w4 ⟨rfl, hw4⟩
    subst hw4
    by_cases h2 : ((lx.length : Int) != (N : Int)) = true
    · skip
      go_wp2_with fail
      refine (alive15_calls _).mono ?_
      rintro e wz ⟨rfl, hbz⟩
      replace hbw := bl_step hbw hbz
      subst hw0
      go_wp2
      go_ret
      exact ⟨rfl, hbw⟩
    have e2 : Hid (lx.length = N) := by unfold Hid; simp at h2; omega
    replace h2 : ((lx.length : Int) != (N : Int)) = false := by simpa using h2
    go_wp2_with fail
    refine (hD0.out).mono ?_
    rintro e w4 ⟨rfl, hw4⟩
    subst hw4
    by_cases h3 : ((ly.length : Int) != (N : Int)) = true
    · skip
      go_wp2_with fail
      refine (alive15_calls _).mono ?_
      rintro e wz ⟨rfl, hbz⟩
      replace hbw := bl_step hbw hbz
      subst hw0
      go_wp2
      go_ret
      exact ⟨rfl, hbw⟩
    have e3 : Hid (ly.length = N) := by unfold Hid; simp at h3; omega
    replace h3 : ((ly.length : Int) != (N : Int)) = false := by simpa using h3
    go_wp2_with fail
    refine (hD0.out).mono ?_
    rintro e w4 ⟨rfl, hw4⟩
    subst hw4
    have hlE := hidI (And.intro e1.out (And.intro e2.out (And.intro e3.out (And.intro hN.out hlens.out))))
    clear e1 e2 e3 h1 h2 h3 hlens hN hD0
    have hmk := mk_zeros N hN3.2
    go_wp2_with fail
    clear hmk
    obtain ⟨n6, hn6⟩ : ∃ n, w4.heap.size = n := ⟨_, rfl⟩
    rw [hn6]
    obtain ⟨V, eV⟩ : ∃ W, W = w4.alloc (.cells (encI (List.replicate N 0)).toArray 3) := ⟨_, rfl⟩
    rw [← eV]
    obtain ⟨kz, sz⟩ := al_step eV hn6
    have bV : Below w4.heap.size w4 V := by rw [eV]; exact bl_alloc (Below.refl _ _) _
    replace hbw := bl_step hbw bV
    replace hx := hx.below bV
    replace hy := hy.below bV
    replace hw := hw.below bV
    replace hkit := hkit.below bV
    have hNl : (List.replicate N (0 : Int)).length = N := List.length_replicate
    have hz : RdI V (some ⟨n6, 0, none⟩) (List.replicate N 0) := RdI.of_blk kz (by rw [hNl]; omega)
    clear eV sz bV kz hn6 hNl
    go_upto_region 9 with fail
    have hb8 := Below.refl V.heap.size V
    go_loopw [16, 17] (fun zv x wr => ∃ i : Nat, i ≤ N ∧ x = .int .i64 i ∧ Below V.heap.size V wr ∧ wr.ownsRow V.heap.size 3 1 zv i (encI ((List.range i).map fun j => lx.getD j 0 + ly.getD j 0)) ∧ Hid (∀ j, j < i → (-281474976710656 ≤ lx.getD j 0 ∧ lx.getD j 0 ≤ 281474976710656) ∧ (-281474976710656 ≤ ly.getD j 0 ∧ ly.getD j 0 ≤ 281474976710656) ∧ (-281474976710656 ≤ lw.getD j 0 ∧ lw.getD j 0 ≤ 281474976710656))) (fun _ x _ => (N - intOf x).toNat)
    case atStart => exact ⟨0, by omega, rfl, hb8, World.ownsRow_nil _ _ _ _, fun j hj => by omega⟩
    case round =>
      clear hb8
      obtain ⟨i, hi, rfl, hb8, ho, hsm⟩ := hrel
      have hDw := hidI (hDim.out _ (hkit.below hb8))
      go_wp2_with fail
      refine (hDw.out).mono ?_
      rintro e w5 ⟨rfl, hw5⟩
      subst hw5
      by_cases hlt : i < N
      · have hd : decide ((i : Int) < (N : Int)) = true := decide_eq_true (by omega)
        have s1 : i < lx.length := by have := hlE.out; omega
        have s2 : i < ly.length := by have := hlE.out; omega
        have s3 : i < lw.length := by have := hlE.out; omega
        obtain ⟨bx, ox, rfl, hex⟩ := hx.at (i := i) (by have := hlE.out; omega)
        obtain ⟨by_, oy, rfl, hey⟩ := hy.at (i := i) (by have := hlE.out; omega)
        obtain ⟨bw, ow, rfl, hew⟩ := hw.at (i := i) (by have := hlE.out; omega)
        have hpS : Hid (encI ((List.range (i + 1)).map fun j => lx.getD j 0 + ly.getD j 0) = encI ((List.range i).map fun j => lx.getD j 0 + ly.getD j 0) ++ encI [lx.getD i 0 + ly.getD i 0]) := by unfold Hid; rw [List.range_succ, List.map_append]; simp [encI]
        obtain ⟨xi, hxi⟩ : ∃ z, lx.getD i 0 = z := ⟨_, rfl⟩
        obtain ⟨yi, hyi⟩ : ∃ z, ly.getD i 0 = z := ⟨_, rfl⟩
        obtain ⟨wi, hwi⟩ : ∃ z, lw.getD i 0 = z := ⟨_, rfl⟩
        rw [hxi, hyi] at hpS
        rw [hxi] at hex
        rw [hyi] at hey
        rw [hwi] at hew
        replace hxi := hidI (And.intro hxi (And.intro hyi hwi))
        clear hyi hwi
        have kex := hex
        have key := hey
        replace hex := bl_cell hb8 hex
        replace hey := bl_cell hb8 hey
        replace hew := bl_cell hb8 hew
        by_cases q0 : decide ((281474976710656 : Int) < xi) = true
        · replace hbw := bl_step hbw hb8
          go_wp2_with fail
          refine (alive15_calls _).mono ?_
          rintro e wz ⟨rfl, hbz⟩
          replace hbw := bl_step hbw hbz
          subst hw0
          go_wp2
          go_ret
          exact ⟨rfl, hbw⟩
        replace q0 : decide ((281474976710656 : Int) < xi) = false := by simpa using q0
        by_cases q1 : decide (xi < (-281474976710656 : Int)) = true
        · replace hbw := bl_step hbw hb8
          go_wp2_with fail
          refine (alive15_calls _).mono ?_
          rintro e wz ⟨rfl, hbz⟩
          replace hbw := bl_step hbw hbz
          subst hw0
          go_wp2
          go_ret
          exact ⟨rfl, hbw⟩
        replace q1 : decide (xi < (-281474976710656 : Int)) = false := by simpa using q1
        by_cases q2 : decide ((281474976710656 : Int) < yi) = true
        · replace hbw := bl_step hbw hb8
          go_wp2_with fail
          refine (alive15_calls _).mono ?_
          rintro e wz ⟨rfl, hbz⟩
          replace hbw := bl_step hbw hbz
          subst hw0
          go_wp2
          go_ret
          exact ⟨rfl, hbw⟩
        replace q2 : decide ((281474976710656 : Int) < yi) = false := by simpa using q2
        by_cases q3 : decide (yi < (-281474976710656 : Int)) = true
        · replace hbw := bl_step hbw hb8
          go_wp2_with fail
          refine (alive15_calls _).mono ?_
          rintro e wz ⟨rfl, hbz⟩
          replace hbw := bl_step hbw hbz
          subst hw0
          go_wp2
          go_ret
          exact ⟨rfl, hbw⟩
        replace q3 : decide (yi < (-281474976710656 : Int)) = false := by simpa using q3
        by_cases q4 : decide ((281474976710656 : Int) < wi) = true
        · replace hbw := bl_step hbw hb8
          go_wp2_with fail
          refine (alive15_calls _).mono ?_
          rintro e wz ⟨rfl, hbz⟩
          replace hbw := bl_step hbw hbz
          subst hw0
          go_wp2
          go_ret
          exact ⟨rfl, hbw⟩
        replace q4 : decide ((281474976710656 : Int) < wi) = false := by simpa using q4
        by_cases q5 : decide (wi < (-281474976710656 : Int)) = true
        · replace hbw := bl_step hbw hb8
          go_wp2_with fail
          refine (alive15_calls _).mono ?_
          rintro e wz ⟨rfl, hbz⟩
          replace hbw := bl_step hbw hbz
          subst hw0
          go_wp2
          go_ret
          exact ⟨rfl, hbw⟩
        replace q5 : decide (wi < (-281474976710656 : Int)) = false := by simpa using q5
        have hsmi : Hid ((-281474976710656 ≤ xi ∧ xi ≤ 281474976710656) ∧ (-281474976710656 ≤ yi ∧ yi ≤ 281474976710656) ∧ (-281474976710656 ≤ wi ∧ wi ≤ 281474976710656)) := by unfold Hid; simp at q0 q1 q2 q3 q4 q5; omega
        go_upto_region 13 with fail
        clear q0 q1 q2 q3 q4 q5 hex hey hew
        have hbw5 := hb8
        have hsi := hsmi.out
        obtain ⟨A9, c9, rfl, hc9, -, -, -⟩ := own_rdC ho
        replace ho := own_drew ho
        have hbV : V.heap.size ≤ w5.drew.heap.size := hb8.size
        replace hbw := bl_step hbw hb8
        have hsum : wrap64 (xi + yi) = xi + yi := by unfold wrap64; omega
        replace hsum := hidI hsum
        clear hb8 hsi
        have hbw8 := hbw
        have hbw := hbw5
        clear hbw5
        replace hbw := bl_drew hbw
        refine start_ (n := 13) (S := fun w' => w'.cell? ⟨bx, ox + i, none⟩ = some (.int .i64 xi) ∧ w'.cell? ⟨by_, oy + i, none⟩ = some (.int .i64 yi)) (ds := []) #[false, false, false, false, false, false, false, false, false, false, false, false, false] (by kernel_rfl) rfl rfl ⟨(bl_cell hbw kex), (bl_cell hbw key)⟩ (fun hHeld => ?_)
        generalize w5.drew = wn at *
        refine pure_ (i := 0) (N := some 115) (v := ?_) (a' := ?_) #[true, false, false, false, false, false, false, false, false, false, false, false, false] rfl rfl (by kernel_rfl) (fun _ _ _ h => h) (Or.inl ⟨by rfl, ?_⟩) ?_ ?_
        rotate_left
        · intro w'
          go_simp
          with_reducible rfl
        rotate_left
        · simp only [Act.put, List.setIfInBounds_toArray, List.set_cons_zero, List.set_cons_succ, i64_w, i32_w]
          rfl
        refine pure_ (i := 1) (N := some 116) (v := ?_) (a' := ?_) #[true, true, false, false, false, false, false, false, false, false, false, false, false] rfl rfl (by kernel_rfl) (fun _ _ _ h => h) (Or.inl ⟨by rfl, ?_⟩) ?_ ?_
        rotate_left
        · intro w'
          go_simp
          with_reducible rfl
        rotate_left
        · simp only [Act.put, List.setIfInBounds_toArray, List.set_cons_zero, List.set_cons_succ, i64_w, i32_w]
          rfl
        refine pure_ (i := 2) (N := some 117) (v := ?_) (a' := ?_) #[true, true, true, false, false, false, false, false, false, false, false, false, false] rfl rfl (by kernel_rfl) (fun _ _ _ h => h) (Or.inl ⟨by rfl, ?_⟩) ?_ ?_
        rotate_left
        · intro w'
          go_simp
          with_reducible rfl
        rotate_left
        · simp only [Act.put, List.setIfInBounds_toArray, List.set_cons_zero, List.set_cons_succ, i64_w, i32_w]
          rfl
        refine pure_ (i := 3) (N := some 118) (v := ?_) (a' := ?_) #[true, true, true, true, false, false, false, false, false, false, false, false, false] rfl rfl (by kernel_rfl) (fun _ _ _ h => h) (Or.inl ⟨by rfl, ?_⟩) ?_ ?_
        rotate_left
        · intro w'
          go_simp
          with_reducible rfl
        rotate_left
        · simp only [Act.put, List.setIfInBounds_toArray, List.set_cons_zero, List.set_cons_succ, i64_w, i32_w]
          rfl
        refine pure_ (i := 5) (N := some 120) (v := ?_) (a' := ?_) #[true, true, true, true, false, true, false, false, false, false, false, false, false] rfl rfl (by kernel_rfl) (fun _ _ _ h => h) (Or.inl ⟨by rfl, ?_⟩) ?_ ?_
        rotate_left
        · intro w'
          go_simp
          with_reducible rfl
        rotate_left
        · simp only [Act.put, List.setIfInBounds_toArray, List.set_cons_zero, List.set_cons_succ, i64_w, i32_w]
          rfl
        refine pure_ (i := 6) (N := some 121) (v := ?_) (a' := ?_) #[true, true, true, true, false, true, true, false, false, false, false, false, false] rfl rfl (by kernel_rfl) (fun _ _ _ h => h) (Or.inl ⟨by rfl, ?_⟩) ?_ ?_
        rotate_left
        · intro w'
          go_simp
          with_reducible rfl
        rotate_left
        · simp only [Act.put, List.setIfInBounds_toArray, List.set_cons_zero, List.set_cons_succ, i64_w, i32_w]
          rfl
        refine pure_ (i := 7) (N := some 122) (v := ?_) (a' := ?_) #[true, true, true, true, false, true, true, true, false, false, false, false, false] rfl rfl (by kernel_rfl) (fun _ _ _ h => h) (Or.inl ⟨by rfl, ?_⟩) ?_ ?_
        rotate_left
        · intro w'
          go_simp
          with_reducible rfl
        rotate_left
        · simp only [Act.put, List.setIfInBounds_toArray, List.set_cons_zero, List.set_cons_succ, i64_w, i32_w]
          rfl
        refine take_ (i := 4) (N := some 119) (v := ?_) (a' := ?_) #[true, true, true, true, true, true, true, true, false, false, false, false, false] rfl rfl (by kernel_rfl) (fun _ _ _ h => h) (Or.inl ⟨by rfl, ?_⟩) hHeld ?_ ?_
        rotate_left
        · rintro w' ⟨s0, s1⟩
          go_simp
          with_reducible rfl
        rotate_left
        · simp only [Act.put, List.setIfInBounds_toArray, List.set_cons_zero, List.set_cons_succ, i64_w, i32_w]
          rfl
        refine take_ (i := 8) (N := some 123) (v := ?_) (a' := ?_) #[true, true, true, true, true, true, true, true, true, false, false, false, false] rfl rfl (by kernel_rfl) (fun _ _ _ h => h) (Or.inl ⟨by rfl, ?_⟩) hHeld ?_ ?_
        rotate_left
        · rintro w' ⟨s0, s1⟩
          go_simp
          with_reducible rfl
        rotate_left
        · simp only [Act.put, List.setIfInBounds_toArray, List.set_cons_zero, List.set_cons_succ, i64_w, i32_w]
          rfl
        refine pure_ (i := 9) (N := some 124) (v := ?_) (a' := ?_) #[true, true, true, true, true, true, true, true, true, true, false, false, false] rfl rfl (by kernel_rfl) (fun _ _ _ h => h) (Or.inl ⟨by rfl, ?_⟩) ?_ ?_
        rotate_left
        · intro w'
          go_simp
          with_reducible rfl
        rotate_left
        · simp only [Act.put, List.setIfInBounds_toArray, List.set_cons_zero, List.set_cons_succ, i64_w, i32_w]
          rfl
        refine one_ (i := 10) (N := some 125) #[true, true, true, true, true, true, true, true, true, true, true, false, false] rfl rfl (by kernel_rfl) (by decide) (fun K hK => ?_)
        refine value_ (w1 := wn.alloc (.cells #[.int .i64 (wrap64 (xi + yi))] 3)) (v := .slice (some ⟨wn.heap.size, 0, none⟩) 1 1) (by rfl) rfl ?_ ?_
        · go_simp
          try rfl
        have hk_10 : (wn.alloc (.cells #[.int .i64 (wrap64 (xi + yi))] 3)).heap[wn.heap.size]? = some (.cells #[.int .i64 (wrap64 (xi + yi))] 3 (0, 0)) := blk_new wn _
        have hle_10 : V.heap.size ≤ wn.heap.size := hbw.size
        replace hbw := bl_alloc hbw (.cells #[.int .i64 (wrap64 (xi + yi))] 3)
        replace ho := own_alloc ho (.cells #[.int .i64 (wrap64 (xi + yi))] 3)
        replace hbV : V.heap.size ≤ (wn.alloc (.cells #[.int .i64 (wrap64 (xi + yi))] 3)).heap.size := by have h_ := (bl_alloc (Below.refl wn.heap.size wn) (.cells #[.int .i64 (wrap64 (xi + yi))] 3)).size; omega
        generalize wn.heap.size = g10 at *
        generalize wn.alloc (.cells #[.int .i64 (wrap64 (xi + yi))] 3) = wn at *
        clear hHeld
        refine hK.out _ _ ⟨(bl_cell hbw kex), (bl_cell hbw key)⟩ (fun hHeld => ?_)
        clear hK K
        refine norm_ (a' := ?_) ?_ ?_
        rotate_left
        · show Act.put _ (some 125) _ = _
          simp only [Act.put, List.setIfInBounds_toArray, List.set_cons_zero, List.set_cons_succ, i64_w, i32_w]
          rfl
        refine one_ (i := 11) (N := some 126) #[true, true, true, true, true, true, true, true, true, true, true, true, false] rfl rfl (by kernel_rfl) (by decide) (fun K hK => ?_)
        obtain ⟨v2, w2, hrun, ho2, hg2, -⟩ := run_appRd (P := Try.prog) wn V.heap.size 23 23 3 _ 1 _ Try.underlying23 infoI (by rfl) (by omega) (.slice A9 i c9) i (encI ((List.range i).map fun j => lx.getD j 0 + ly.getD j 0)) ho (some ⟨g10, 0, none⟩) 1 1 (encI [wrap64 (xi + yi)]) (by rfl) (fun k v hk => ⟨g10, 0, rfl, by rw [Nat.zero_add, blkc hk_10]; simpa [encI] using hk⟩) (by intro v hv; simp [encI] at hv; subst hv; rfl) (by omega) (by omega) hbV
        obtain ⟨A2, c2, rfl, hc2', hr2, hn2, -⟩ := own_rdC ho2
        refine value_ (w1 := w2) (v := .slice A2 (i + 1) c2) (by rfl) rfl (exec_app (.tmp 115) (.tmp 125) 23 (by rfl) (by rfl) (by rfl) hrun) ?_
        replace hbw := bl_grown hbw hg2 (fun k hk => (own_lt ho k hk).1)
        clear ho hk_10 hle_10 hg2 hrun
        generalize w2 = wn at *
        clear hHeld
        refine hK.out _ _ ⟨(bl_cell hbw kex), (bl_cell hbw key)⟩ (fun hHeld => ?_)
        clear hK K
        refine norm_ (a' := ?_) ?_ ?_
        rotate_left
        · show Act.put _ (some 126) _ = _
          simp only [Act.put, List.setIfInBounds_toArray, List.set_cons_zero, List.set_cons_succ, i64_w, i32_w]
          rfl
        refine pure_ (i := 12) (N := some 16) (v := ?_) (a' := ?_) #[true, true, true, true, true, true, true, true, true, true, true, true, true] rfl rfl (by kernel_rfl) (fun _ _ _ h => h) (Or.inl ⟨by rfl, ?_⟩) ?_ ?_
        rotate_left
        · intro w'
          go_simp
          with_reducible rfl
        rotate_left
        · simp only [Act.put, List.setIfInBounds_toArray, List.set_cons_zero, List.set_cons_succ, i64_w, i32_w]
          rfl
        refine done_ (by kernel_rfl) ?_
        have hb64 : ((i : Int) + 1) ≤ 9223372036854775807 := by omega
        go_wp2
        go_roundw
        case rel =>
          refine ⟨i + 1, by omega, by go_num, hbw, by rw [hpS.out, ← hsum.out]; exact ho2, fun j hj => ?_⟩
          by_cases hji : j < i
          · exact hsm.out j hji
          · obtain rfl : j = i := by omega
            obtain ⟨a1, a2, a3⟩ := hxi.out
            rw [a1, a2, a3]
            exact hsmi.out
        case measure => simp [intOf]; omega
      · have hie : i = N := by omega
        subst hie
        have hd : decide ((i : Int) < (i : Int)) = false := decide_eq_false (by omega)
        obtain ⟨A9, c9, rfl, hc9, hrz, hnz, -⟩ := own_rdC ho
        replace hbw := bl_step hbw hb8
        replace hx := hx.below hb8
        replace hy := hy.below hb8
        replace hw := hw.below hb8
        replace hz := hz.below hb8
        replace hkit := hkit.below hb8
        obtain ⟨lz, hlz⟩ : ∃ z, (List.range i).map (fun j => lx.getD j 0 + ly.getD j 0) = z := ⟨_, rfl⟩
        have hzl : lz.length = i := by rw [← hlz]; simp
        rw [hlz] at hrz
        have hrzI : RdI w5 A9 lz := ⟨by omega, hrz⟩
        have hzv : ∀ j, j < i → lz.getD j 0 = lx.getD j 0 + ly.getD j 0 := fun j hj => by rw [← hlz, getD_map_range _ _ _ _ hj]
        clear hlz hrz ho hb8
        replace hzl := hidI hzl
        replace hzv := hidI hzv
        have e9 : (lz.length : Int) = (i : Int) := by rw [hzl.out]
        replace e9 := hidI e9
        by_cases q0 : decide ((281474976710656 : Int) < u) = true
        · skip
          go_wp2_with fail
          refine (alive15_calls _).mono ?_
          rintro e wz ⟨rfl, hbz⟩
          replace hbw := bl_step hbw hbz
          subst hw0
          go_wp2
          go_ret
          exact ⟨rfl, hbw⟩
        replace q0 : decide ((281474976710656 : Int) < u) = false := by simpa using q0
        by_cases q1 : decide (u < (-281474976710656 : Int)) = true
        · skip
          go_wp2_with fail
          refine (alive15_calls _).mono ?_
          rintro e wz ⟨rfl, hbz⟩
          replace hbw := bl_step hbw hbz
          subst hw0
          go_wp2
          go_ret
          exact ⟨rfl, hbw⟩
        replace q1 : decide (u < (-281474976710656 : Int)) = false := by simpa using q1
        by_cases q2 : decide ((281474976710656 : Int) < v) = true
        · skip
          go_wp2_with fail
          refine (alive15_calls _).mono ?_
          rintro e wz ⟨rfl, hbz⟩
          replace hbw := bl_step hbw hbz
          subst hw0
          go_wp2
          go_ret
          exact ⟨rfl, hbw⟩
        replace q2 : decide ((281474976710656 : Int) < v) = false := by simpa using q2
        by_cases q3 : decide (v < (-281474976710656 : Int)) = true
        · skip
          go_wp2_with fail
          refine (alive15_calls _).mono ?_
          rintro e wz ⟨rfl, hbz⟩
          replace hbw := bl_step hbw hbz
          subst hw0
          go_wp2
          go_ret
          exact ⟨rfl, hbw⟩
        replace q3 : decide (v < (-281474976710656 : Int)) = false := by simpa using q3
        have huv : Hid ((-281474976710656 ≤ u ∧ u ≤ 281474976710656) ∧ (-281474976710656 ≤ v ∧ v ≤ 281474976710656)) := by unfold Hid; simp at q0 q1 q2 q3; omega
        go_upto_region 16 with fail
        clear q0 q1 q2 q3
        obtain ⟨hlw, hlx, hly, hNB, -⟩ := hlE.out
        obtain ⟨⟨u0, u1⟩, v0, v1⟩ := huv.out
        have hsm' := hsm.out
        have iAw : AtM 562949953421312 lw := AtM.of hlw (fun j hj => by have := hsm' j hj; omega)
        have iAx : AtM 562949953421312 lx := AtM.of hlx (fun j hj => by have := hsm' j hj; omega)
        have iAy : AtM 562949953421312 ly := AtM.of hly (fun j hj => by have := hsm' j hj; omega)
        have iAz : AtM 562949953421312 lz := AtM.of hzl.out (fun j hj => by have := hsm' j hj; rw [hzv.out j hj]; omega)
        have hzz : (List.replicate i (0 : Int)).length = i := List.length_replicate
        have iA0 : AtM 562949953421312 (List.replicate i 0) := AtM.of hzz (fun j hj => by rw [getD_zeros]; omega)
        have iz0 : InI (List.replicate i 0) := by intro a ha; have := List.eq_of_mem_replicate ha; omega
        have izz : InI lz := by
          intro a ha
          obtain ⟨k, hk, rfl⟩ := List.mem_iff_getElem.1 ha
          have h1 := iAz k
          rw [List.getD_eq_getElem?_getD, List.getElem?_eq_getElem hk] at h1
          simp at h1
          omega
        obtain ⟨p1, r1⟩ := nextP_small hgood (u := u) (w := lw) (x := lx) (by omega) (by omega) (by omega) (by omega) iAw iAx
        obtain ⟨p2, r2⟩ := nextP_small hgood (u := v) (w := List.replicate i 0) (x := ly) (by omega) (by omega) (by omega) (by omega) iA0 iAy
        obtain ⟨p3, r3⟩ := nextP_small hgood (u := u + v) (w := lw) (x := lz) (by have := hzl.out; omega) (by omega) (by omega) (by omega) iAw iAz
        have hn1 := hidI (fun W (hk : KitAt W g 51 p) (h1 : RdI W aw lw) (h2 : RdI W ax lx) => Next_yes g p u lw lx aw ax cw cx W hgood hk h1 h2 hiw hix (by omega) (by omega) (by omega) (by omega))
        have hn2 := hidI (fun W (hk : KitAt W g 51 p) (h1 : RdI W (some ⟨n6, 0, none⟩) (List.replicate i 0)) (h2 : RdI W ay ly) => Next_yes g p v (List.replicate i 0) ly (some ⟨n6, 0, none⟩) ay i cy W hgood hk h1 h2 iz0 hiy (by omega) (by omega) (by omega) (by omega))
        have hn3 := hidI (fun W (hk : KitAt W g 51 p) (h1 : RdI W aw lw) (h2 : RdI W A9 lz) => Next_yes g p (u + v) lw lz aw A9 cw c9 W hgood hk h1 h2 hiw izz (by omega) (by omega) (by have := hzl.out; omega) (by omega))
        have hcmp : ∀ j, j < i → ((List.range p.B.length).map (nextZ p (u + v) lw lz)).getD j 0 = ((List.range p.B.length).map (nextZ p u lw lx)).getD j 0 + ((List.range p.B.length).map (nextZ p v (List.replicate i 0) ly)).getD j 0 ∧ wrap64 (((List.range p.B.length).map (nextZ p u lw lx)).getD j 0 + ((List.range p.B.length).map (nextZ p v (List.replicate i 0) ly)).getD j 0) = ((List.range p.B.length).map (nextZ p u lw lx)).getD j 0 + ((List.range p.B.length).map (nextZ p v (List.replicate i 0) ly)).getD j 0 := fun j hj => by
          have hjB : j < p.B.length := by omega
          rw [getD_map_range _ _ _ _ hjB, getD_map_range _ _ _ _ hjB, getD_map_range _ _ _ _ hjB]
          refine ⟨nextZ_add p u v lw _ lx ly lz j (getD_zeros i) (fun k hk => hzv.out k (by have := (hgood.row hjB).1; omega)), ?_⟩
          have := r1 j hjB
          have := r2 j hjB
          unfold wrap64
          omega
        rw [p1] at hn1
        rw [p2, hzz] at hn2
        rw [p3, hzl.out] at hn3
        simp only [] at hn1 hn2 hn3
        have hl1 : ((List.range p.B.length).map (nextZ p u lw lx)).length = i := by simp; omega
        have hl2 : ((List.range p.B.length).map (nextZ p v (List.replicate i 0) ly)).length = i := by simp; omega
        have hl3 : ((List.range p.B.length).map (nextZ p (u + v) lw lz)).length = i := by simp; omega
        obtain ⟨la, hla⟩ : ∃ z, (List.range p.B.length).map (nextZ p u lw lx) = z := ⟨_, rfl⟩
        obtain ⟨lb, hlb⟩ : ∃ z, (List.range p.B.length).map (nextZ p v (List.replicate i 0) ly) = z := ⟨_, rfl⟩
        obtain ⟨lc, hlc⟩ : ∃ z, (List.range p.B.length).map (nextZ p (u + v) lw lz) = z := ⟨_, rfl⟩
        rw [hla] at hn1 hcmp hl1
        rw [hlb] at hn2 hcmp hl2
        rw [hlc] at hn3 hcmp hl3
        rw [hl1] at hn1
        rw [hl2] at hn2
        rw [hl3] at hn3
        have hwv : Hid (wrap64 (u + v) = u + v) := by unfold Hid wrap64; omega
        have hll := hidI (And.intro hl1 (And.intro hl2 hl3))
        replace hcmp := hidI hcmp
        clear hla hlb hlc hl1 hl2 hl3 p1 p2 p3 r1 r2 r3 iAw iAx iAy iAz hzz iA0 iz0 izz hsm' hlw hlx hly hNB u0 u1 v0 v1 hd hi hlt
        have hrz := hrzI
        clear hrzI
        go_wp2_with fail
        refine (hn1.out _ hkit hw hx).mono ?_
        rintro e w10 ⟨Aa, ca, rfl, hra, hb10⟩
        replace hbw := bl_step hbw hb10
        replace hx := hx.below hb10
        replace hy := hy.below hb10
        replace hw := hw.below hb10
        replace hz := hz.below hb10
        replace hrz := hrz.below hb10
        replace hkit := hkit.below hb10
        clear hb10
        go_wp2_with fail
        refine (hn2.out _ hkit hz hy).mono ?_
        rintro e w11 ⟨Ab, cb, rfl, hrb, hb11⟩
        replace hbw := bl_step hbw hb11
        replace hx := hx.below hb11
        replace hy := hy.below hb11
        replace hw := hw.below hb11
        replace hz := hz.below hb11
        replace hrz := hrz.below hb11
        replace hkit := hkit.below hb11
        replace hra := hra.below hb11
        clear hb11
        go_wp2_with fail
        try rw [hwv.out]
        refine (hn3.out _ hkit hw hrz).mono ?_
        rintro e w12 ⟨Ac, cc, rfl, hrc, hb12⟩
        replace hbw := bl_step hbw hb12
        replace hx := hx.below hb12
        replace hy := hy.below hb12
        replace hw := hw.below hb12
        replace hz := hz.below hb12
        replace hrz := hrz.below hb12
        replace hkit := hkit.below hb12
        replace hra := hra.below hb12
        replace hrb := hrb.below hb12
        clear hb12
        have hD := hidI (hDim.out _ hkit)
        have d9 : ((i : Int) != (i : Int)) = false := by simp
        go_wp2_with fail
        refine (hD.out).mono ?_
        rintro e w13 ⟨rfl, hw13⟩
        subst hw13
        go_wp2_with fail
        refine (hD.out).mono ?_
        rintro e w14 ⟨rfl, hw14⟩
        subst hw14
        go_wp2_with fail
        refine (hD.out).mono ?_
        rintro e w15 ⟨rfl, hw15⟩
        subst hw15
        clear d9
        go_upto_region 22 with fail
        have hb15 := Below.refl w15.heap.size w15
        go_loopw [24] (fun x wr => ∃ k : Nat, k ≤ i ∧ x = .int .i64 k ∧ Below w15.heap.size w15 wr) (fun x _ => (i - intOf x).toNat)
        case atStart => exact ⟨0, by omega, rfl, hb15⟩
        case round =>
          obtain ⟨k, hk, rfl, hb16⟩ := hrel
          by_cases hlt : k < i
          · have hd : decide ((k : Int) < (i : Int)) = true := decide_eq_true (by omega)
            obtain ⟨ba, oa, rfl, hea⟩ := (hra.below hb16).at (i := k) (by have := hll.out; omega)
            obtain ⟨bb, ob, rfl, heb⟩ := (hrb.below hb16).at (i := k) (by have := hll.out; omega)
            obtain ⟨bc, oc, rfl, hec⟩ := (hrc.below hb16).at (i := k) (by have := hll.out; omega)
            obtain ⟨hc1, hc2⟩ := hcmp.out k hlt
            rw [← hc2] at hc1
            obtain ⟨va, hva⟩ : ∃ z, la.getD k 0 = z := ⟨_, rfl⟩
            obtain ⟨vb, hvb⟩ : ∃ z, lb.getD k 0 = z := ⟨_, rfl⟩
            obtain ⟨vc, hvc⟩ : ∃ z, lc.getD k 0 = z := ⟨_, rfl⟩
            rw [hva] at hea hc1
            rw [hvb] at heb hc1
            rw [hvc] at hec hc1
            clear hva hvb hvc hc2
            have hne : (vc != wrap64 (va + vb)) = false := by simp [hc1]
            replace hc1 := hidI hc1
            go_upto_region 24 with fail
            have hbw16 := hbw
            have hbw := hb16
            replace hbw := bl_drew hbw
            refine start_ (n := 14) (S := fun w' => w'.cell? ⟨ba, oa + k, none⟩ = some (.int .i64 va) ∧ w'.cell? ⟨bb, ob + k, none⟩ = some (.int .i64 vb) ∧ w'.cell? ⟨bc, oc + k, none⟩ = some (.int .i64 vc)) (ds := []) #[false, false, false, false, false, false, false, false, false, false, false, false, false, false] (by kernel_rfl) rfl rfl ⟨hea, heb, hec⟩ (fun hHeld => ?_)
            generalize wr.drew = wn at *
            refine pure_ (i := 0) (N := some 205) (v := ?_) (a' := ?_) #[true, false, false, false, false, false, false, false, false, false, false, false, false, false] rfl rfl (by kernel_rfl) (fun _ _ _ h => h) (Or.inl ⟨by rfl, ?_⟩) ?_ ?_
            rotate_left
            · intro w'
              go_simp
              with_reducible rfl
            rotate_left
            · simp only [Act.put, List.setIfInBounds_toArray, List.set_cons_zero, List.set_cons_succ, i64_w, i32_w]
              rfl
            refine pure_ (i := 1) (N := some 206) (v := ?_) (a' := ?_) #[true, true, false, false, false, false, false, false, false, false, false, false, false, false] rfl rfl (by kernel_rfl) (fun _ _ _ h => h) (Or.inl ⟨by rfl, ?_⟩) ?_ ?_
            rotate_left
            · intro w'
              go_simp
              with_reducible rfl
            rotate_left
            · simp only [Act.put, List.setIfInBounds_toArray, List.set_cons_zero, List.set_cons_succ, i64_w, i32_w]
              rfl
            refine pure_ (i := 2) (N := some 207) (v := ?_) (a' := ?_) #[true, true, true, false, false, false, false, false, false, false, false, false, false, false] rfl rfl (by kernel_rfl) (fun _ _ _ h => h) (Or.inl ⟨by rfl, ?_⟩) ?_ ?_
            rotate_left
            · intro w'
              go_simp
              with_reducible rfl
            rotate_left
            · simp only [Act.put, List.setIfInBounds_toArray, List.set_cons_zero, List.set_cons_succ, i64_w, i32_w]
              rfl
            refine pure_ (i := 4) (N := some 209) (v := ?_) (a' := ?_) #[true, true, true, false, true, false, false, false, false, false, false, false, false, false] rfl rfl (by kernel_rfl) (fun _ _ _ h => h) (Or.inl ⟨by rfl, ?_⟩) ?_ ?_
            rotate_left
            · intro w'
              go_simp
              with_reducible rfl
            rotate_left
            · simp only [Act.put, List.setIfInBounds_toArray, List.set_cons_zero, List.set_cons_succ, i64_w, i32_w]
              rfl
            refine pure_ (i := 5) (N := some 210) (v := ?_) (a' := ?_) #[true, true, true, false, true, true, false, false, false, false, false, false, false, false] rfl rfl (by kernel_rfl) (fun _ _ _ h => h) (Or.inl ⟨by rfl, ?_⟩) ?_ ?_
            rotate_left
            · intro w'
              go_simp
              with_reducible rfl
            rotate_left
            · simp only [Act.put, List.setIfInBounds_toArray, List.set_cons_zero, List.set_cons_succ, i64_w, i32_w]
              rfl
            refine pure_ (i := 6) (N := some 211) (v := ?_) (a' := ?_) #[true, true, true, false, true, true, true, false, false, false, false, false, false, false] rfl rfl (by kernel_rfl) (fun _ _ _ h => h) (Or.inl ⟨by rfl, ?_⟩) ?_ ?_
            rotate_left
            · intro w'
              go_simp
              with_reducible rfl
            rotate_left
            · simp only [Act.put, List.setIfInBounds_toArray, List.set_cons_zero, List.set_cons_succ, i64_w, i32_w]
              rfl
            refine pure_ (i := 8) (N := some 213) (v := ?_) (a' := ?_) #[true, true, true, false, true, true, true, false, true, false, false, false, false, false] rfl rfl (by kernel_rfl) (fun _ _ _ h => h) (Or.inl ⟨by rfl, ?_⟩) ?_ ?_
            rotate_left
            · intro w'
              go_simp
              with_reducible rfl
            rotate_left
            · simp only [Act.put, List.setIfInBounds_toArray, List.set_cons_zero, List.set_cons_succ, i64_w, i32_w]
              rfl
            refine pure_ (i := 9) (N := some 214) (v := ?_) (a' := ?_) #[true, true, true, false, true, true, true, false, true, true, false, false, false, false] rfl rfl (by kernel_rfl) (fun _ _ _ h => h) (Or.inl ⟨by rfl, ?_⟩) ?_ ?_
            rotate_left
            · intro w'
              go_simp
              with_reducible rfl
            rotate_left
            · simp only [Act.put, List.setIfInBounds_toArray, List.set_cons_zero, List.set_cons_succ, i64_w, i32_w]
              rfl
            refine pure_ (i := 10) (N := some 215) (v := ?_) (a' := ?_) #[true, true, true, false, true, true, true, false, true, true, true, false, false, false] rfl rfl (by kernel_rfl) (fun _ _ _ h => h) (Or.inl ⟨by rfl, ?_⟩) ?_ ?_
            rotate_left
            · intro w'
              go_simp
              with_reducible rfl
            rotate_left
            · simp only [Act.put, List.setIfInBounds_toArray, List.set_cons_zero, List.set_cons_succ, i64_w, i32_w]
              rfl
            refine take_ (i := 3) (N := some 208) (v := ?_) (a' := ?_) #[true, true, true, true, true, true, true, false, true, true, true, false, false, false] rfl rfl (by kernel_rfl) (fun _ _ _ h => h) (Or.inl ⟨by rfl, ?_⟩) hHeld ?_ ?_
            rotate_left
            · rintro w' ⟨s0, s1, s2⟩
              go_simp
              with_reducible rfl
            rotate_left
            · simp only [Act.put, List.setIfInBounds_toArray, List.set_cons_zero, List.set_cons_succ, i64_w, i32_w]
              rfl
            refine take_ (i := 7) (N := some 212) (v := ?_) (a' := ?_) #[true, true, true, true, true, true, true, true, true, true, true, false, false, false] rfl rfl (by kernel_rfl) (fun _ _ _ h => h) (Or.inl ⟨by rfl, ?_⟩) hHeld ?_ ?_
            rotate_left
            · rintro w' ⟨s0, s1, s2⟩
              go_simp
              with_reducible rfl
            rotate_left
            · simp only [Act.put, List.setIfInBounds_toArray, List.set_cons_zero, List.set_cons_succ, i64_w, i32_w]
              rfl
            refine take_ (i := 11) (N := some 216) (v := ?_) (a' := ?_) #[true, true, true, true, true, true, true, true, true, true, true, true, false, false] rfl rfl (by kernel_rfl) (fun _ _ _ h => h) (Or.inl ⟨by rfl, ?_⟩) hHeld ?_ ?_
            rotate_left
            · rintro w' ⟨s0, s1, s2⟩
              go_simp
              with_reducible rfl
            rotate_left
            · simp only [Act.put, List.setIfInBounds_toArray, List.set_cons_zero, List.set_cons_succ, i64_w, i32_w]
              rfl
            refine pure_ (i := 12) (N := some 217) (v := ?_) (a' := ?_) #[true, true, true, true, true, true, true, true, true, true, true, true, true, false] rfl rfl (by kernel_rfl) (fun _ _ _ h => h) (Or.inl ⟨by rfl, ?_⟩) ?_ ?_
            rotate_left
            · intro w'
              go_simp
              with_reducible rfl
            rotate_left
            · simp only [Act.put, List.setIfInBounds_toArray, List.set_cons_zero, List.set_cons_succ, i64_w, i32_w]
              rfl
            refine pure_ (i := 13) (N := some 218) (v := ?_) (a' := ?_) #[true, true, true, true, true, true, true, true, true, true, true, true, true, true] rfl rfl (by kernel_rfl) (fun _ _ _ h => h) (Or.inl ⟨by rfl, ?_⟩) ?_ ?_
            rotate_left
            · intro w'
              go_simp
              with_reducible rfl
            rotate_left
            · simp only [Act.put, List.setIfInBounds_toArray, List.set_cons_zero, List.set_cons_succ, i64_w, i32_w]
              rfl
            refine done_ (by kernel_rfl) ?_
            have hb64 : ((k : Int) + 1) ≤ 9223372036854775807 := by omega
            go_wp2
            go_roundw
            case rel => exact ⟨k + 1, by omega, by go_num, hbw⟩
            case measure => simp [intOf]; omega
          · have hke : k = i := by omega
            subst hke
            have hd : decide ((k : Int) < (k : Int)) = false := decide_eq_false (by omega)
            replace hbw := bl_step hbw hb16
            go_wp2_with fail
            refine (alive15_calls _).mono ?_
            rintro e wz ⟨rfl, hbz⟩
            replace hbw := bl_step hbw hbz
            subst hw0
            go_wp2
            go_ret
            exact ⟨rfl, hbw⟩
end Go.Proofs.Ytcmdhkefenjldaa
