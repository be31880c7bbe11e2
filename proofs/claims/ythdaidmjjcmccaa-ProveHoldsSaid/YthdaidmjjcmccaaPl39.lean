/- Proved here: lemmas and contracts (what a function of the program computes) that the proofs of the laws of this seat lean on. Conditions: as each theorem states. -/
import Derived.Test.YthdaidmjjcmccaaPl40
import Derived.Test.YthdaidmjjcmccaaOwn3
import Derived.Test.YthdaidmjjcmccaaRefs
import Derived.Test.YthdaidmjjcmccaaPl30
import Derived.Test.YthdaidmjjcmccaaPl10
import Derived.Test.YthdaidmjjcmccaaLin
set_option linter.unusedVariables false
set_option linter.unusedSimpArgs false
namespace Go.Proofs.Ythdaidmjjcmccaa
open Go.RowKit Go.Pk Go.Proofs.YthdaidmjjcmccaaW.PrintLast
set_option maxHeartbeats 8000000 in
set_option maxRecDepth 100000 in
theorem PrHolds_walk (q : PA) (p : Pl) (ls : List Int) (dep : Int) (lx lo lw : List Int) (as_ ax ao aw : Option Addr) (cs cx co cw : Nat) (w : World) (hq : q.rd w p) (hin : InP p) (hs : RdI w as_ ls) (hsi : InI ls) (hdep : -9223372036854775808 ≤ dep) (hx : RdI w ax lx) (ho : RdI w ao lo) (hw : RdI w aw lw) :
    Calls Try.prog 7 #[.agg (q.cells p).toArray, .slice as_ ls.length cs, .int .i64 dep, .slice ax lx.length cx, .slice ao lo.length co, .slice aw lw.length cw] w fun e w' => e = .returned (.bool true) ∧ Below w.heap.size w w' := by
  have hpW0 := hidI (fun W (h : q.rd W p) => h.W)
  have hpI0 := hidI (fun W (h : q.rd W p) => h.I)
  have hLt := hidI (fun W (h : q.rd W p) => Light_calls q p W h)
  have hNw := hidI (fun W (h : q.rd W p) (h2 : RdI W as_ ls) => New16_calls q p as_ ls cs W h hin h2)
  have hok := hidI (fun h => newOk_yes (p := p) (ls := ls) hin hsi h)
  obtain ⟨aA, cA, aB, cB, aW, cW, aI, cI, aS, cS, aG, cG⟩ := q
  unfold PA.cells at hLt hNw ⊢
  simp only [] at hLt hNw
  obtain ⟨ok1, hok1⟩ : ∃ z, newOk p ls = z := ⟨_, rfl⟩
  obtain ⟨lt1, hlt1⟩ : ∃ z, lightP p = z := ⟨_, rfl⟩
  rw [hok1] at hNw hok
  rw [hlt1] at hLt
  clear hok1 hlt1 hin
  replace hsi := hidI hsi
  simp only [] at hpW0 hpI0
  replace hdep := hidI hdep
  go_enter Try.func7, Try.ntmps7
  go_upto_region 1 with fail
  have hk_g1 := blk_new w (.cells #[.slice aA p.A.length cA, .slice aB p.B.length cB, .int .i64 p.inp.lo, .int .i64 p.inp.hi, .slice aW p.W.length cW, .slice aI p.Inv.length cI, .slice aS p.Safe.length cS, .slice aG p.gain.length cG, .int .i64 p.bias] 28)
  have hbw0 := bl_alloc (Below.refl w.heap.size w) (.cells #[.slice aA p.A.length cA, .slice aB p.B.length cB, .int .i64 p.inp.lo, .int .i64 p.inp.hi, .slice aW p.W.length cW, .slice aI p.Inv.length cI, .slice aS p.Safe.length cS, .slice aG p.gain.length cG, .int .i64 p.bias] 28)
  generalize w.alloc (.cells #[.slice aA p.A.length cA, .slice aB p.B.length cB, .int .i64 p.inp.lo, .int .i64 p.inp.hi, .slice aW p.W.length cW, .slice aI p.Inv.length cI, .slice aS p.Safe.length cS, .slice aG p.gain.length cG, .int .i64 p.bias] 28) = W1 at *
  obtain ⟨w0, hw0⟩ : ∃ z : World, z = w := ⟨_, rfl⟩
  obtain ⟨g1, hg1⟩ : ∃ g, w.heap.size = g := ⟨_, rfl⟩
  rw [hg1] at hk_g1
  rw [hg1]
  clear hg1
  rw [← hw0] at hbw0 hq hs ho hx hw
  have y0 : W1.cell? ⟨g1, 0, none⟩ = some (.slice aA p.A.length cA) := blk_cell hk_g1 0 (by rfl)
  have y1 : W1.cell? ⟨g1, 1, none⟩ = some (.slice aB p.B.length cB) := blk_cell hk_g1 1 (by rfl)
  have y2 : W1.cell? ⟨g1, 2, none⟩ = some (.int .i64 p.inp.lo) := blk_cell hk_g1 2 (by rfl)
  have y3 : W1.cell? ⟨g1, 3, none⟩ = some (.int .i64 p.inp.hi) := blk_cell hk_g1 3 (by rfl)
  have y4 : W1.cell? ⟨g1, 4, none⟩ = some (.slice aW p.W.length cW) := blk_cell hk_g1 4 (by rfl)
  have y5 : W1.cell? ⟨g1, 5, none⟩ = some (.slice aI p.Inv.length cI) := blk_cell hk_g1 5 (by rfl)
  have y6 : W1.cell? ⟨g1, 6, none⟩ = some (.slice aS p.Safe.length cS) := blk_cell hk_g1 6 (by rfl)
  have y7 : W1.cell? ⟨g1, 7, none⟩ = some (.slice aG p.gain.length cG) := blk_cell hk_g1 7 (by rfl)
  have y8 : W1.cell? ⟨g1, 8, none⟩ = some (.int .i64 p.bias) := blk_cell hk_g1 8 (by rfl)
  go_wp2_with fail
  refine (hNw.out W1 (hq.below hbw0) (hs.below hbw0)).mono ?_
  rintro e V ⟨hb2, h1, h2⟩
  replace hbw0 := bl_step hbw0 hb2
  replace hk_g1 := bl_block hb2 hk_g1
  clear hb2 hNw y0 y1 y2 y3 y4 y5 y6 y7 y8
  replace ho := ho.below hbw0
  replace hx := hx.below hbw0
  replace hw := hw.below hbw0
  replace hs := hs.below hbw0
  have y0 : V.cell? ⟨g1, 0, none⟩ = some (.slice aA p.A.length cA) := blk_cell hk_g1 0 (by rfl)
  have y1 : V.cell? ⟨g1, 1, none⟩ = some (.slice aB p.B.length cB) := blk_cell hk_g1 1 (by rfl)
  have y2 : V.cell? ⟨g1, 2, none⟩ = some (.int .i64 p.inp.lo) := blk_cell hk_g1 2 (by rfl)
  have y3 : V.cell? ⟨g1, 3, none⟩ = some (.int .i64 p.inp.hi) := blk_cell hk_g1 3 (by rfl)
  have y4 : V.cell? ⟨g1, 4, none⟩ = some (.slice aW p.W.length cW) := blk_cell hk_g1 4 (by rfl)
  have y5 : V.cell? ⟨g1, 5, none⟩ = some (.slice aI p.Inv.length cI) := blk_cell hk_g1 5 (by rfl)
  have y6 : V.cell? ⟨g1, 6, none⟩ = some (.slice aS p.Safe.length cS) := blk_cell hk_g1 6 (by rfl)
  have y7 : V.cell? ⟨g1, 7, none⟩ = some (.slice aG p.gain.length cG) := blk_cell hk_g1 7 (by rfl)
  have y8 : V.cell? ⟨g1, 8, none⟩ = some (.int .i64 p.bias) := blk_cell hk_g1 8 (by rfl)
  cases ok1
  · obtain ⟨er, hne, rfl⟩ := h1 rfl
    have dE : (er == 0) = false := by simpa using hne
    have dE2 : (er != 0) = true := by simpa using hne
    clear h1 h2 hok hs hne
    go_wp2_with fail
    refine (hLt.out V (hq.below hbw0)).mono ?_
    rintro e w3 ⟨rfl, hbw⟩
    clear hLt hq hk_g1 y0 y1 y2 y3 y4 y5 y6 y7 y8
    cases lt1
    · skip
      have hbw := bl_step hbw0 hbw
      go_wp2_with fail
      refine (alive16_calls _).mono ?_
      rintro e wz ⟨rfl, hbz⟩
      replace hbw := bl_step hbw hbz
      subst hw0
      go_wp2
      go_ret
      exact ⟨rfl, hbw⟩
    · skip
      have hbw := bl_step hbw0 hbw
      go_wp2_with fail
      refine (alive16_calls _).mono ?_
      rintro e wz ⟨rfl, hbz⟩
      replace hbw := bl_step hbw hbz
      subst hw0
      go_wp2
      go_ret
      exact ⟨rfl, hbw⟩
  obtain ⟨gl, rfl, hlk, hgl⟩ := h2 rfl
  obtain ⟨hgood, hsl, hslk, -⟩ := hok.out (by simp)
  clear h1 h2 hok hgl
  go_wp2_with fail
  refine (hLt.out V (hq.below hbw0)).mono ?_
  rintro e w3 ⟨rfl, hbw⟩
  have hpW := hpW0.out V (hq.below hbw0)
  have hpI := hpI0.out V (hq.below hbw0)
  clear hLt hq y0 y1 y2 y3 y4 y5 y6 y7 y8 hpW0 hpI0
  cases lt1
  · skip
    have hbw := bl_step hbw0 hbw
    go_wp2_with fail
    refine (alive16_calls _).mono ?_
    rintro e wz ⟨rfl, hbz⟩
    replace hbw := bl_step hbw hbz
    subst hw0
    go_wp2
    go_ret
    exact ⟨rfl, hbw⟩
  by_cases hd6 : 6 < dep
  · skip
    have hbw := bl_step hbw0 hbw
    go_wp2_with fail
    refine (alive16_calls _).mono ?_
    rintro e wz ⟨rfl, hbz⟩
    replace hbw := bl_step hbw hbz
    subst hw0
    go_wp2
    go_ret
    exact ⟨rfl, hbw⟩
  have hd6n : decide (6 < dep) = false := decide_eq_false hd6
  have hlk0 := hidI hlk
  obtain ⟨gk, aSl, cSl, hk_gl, -, -, hkit⟩ := hlk
  obtain ⟨N, hN⟩ : ∃ N, Hid (p.B.length = N) := ⟨_, rfl⟩
  have hlens := hidI hgood.lens
  have hN3 : 1 ≤ N ∧ N ≤ 3 := by have := hlens.out; have := hN.out; omega
  have hDm := hidI (fun W (h : Below V.heap.size V W) => Dim_calls gk p W (hkit.below h))
  rw [hN.out] at hDm
  have y0 : w3.cell? ⟨gl, 0, none⟩ = some (.pointer (some ⟨gk, 0, none⟩)) := blk_cell (bl_block hbw hk_gl) 0 (by rfl)
  go_wp2_with fail
  refine (hDm.out _ hbw).mono ?_
  rintro e w4 ⟨rfl, hw_⟩
  subst hw_
  clear y0
  by_cases h1 : (lx.length : Int) < (N : Int)
  · have d2 : decide ((lx.length : Int) < (N : Int)) = true := decide_eq_true h1
    have hbw := bl_step hbw0 hbw
    go_wp2_with fail
    refine (alive16_calls _).mono ?_
    rintro e wz ⟨rfl, hbz⟩
    replace hbw := bl_step hbw hbz
    subst hw0
    go_wp2
    go_ret
    exact ⟨rfl, hbw⟩
  have elx : N ≤ lx.length := by omega
  have dlx : decide ((lx.length : Int) < (N : Int)) = false := decide_eq_false h1
  have nlx : decide (lx.length < N) = false := decide_eq_false (by omega)
  clear h1
  have y0 : w4.cell? ⟨gl, 0, none⟩ = some (.pointer (some ⟨gk, 0, none⟩)) := blk_cell (bl_block hbw hk_gl) 0 (by rfl)
  go_wp2_with fail
  refine (hDm.out _ hbw).mono ?_
  rintro e w5 ⟨rfl, hw_⟩
  subst hw_
  clear y0
  by_cases h1 : (lo.length : Int) < (N : Int)
  · have d2 : decide ((lo.length : Int) < (N : Int)) = true := decide_eq_true h1
    have hbw := bl_step hbw0 hbw
    go_wp2_with fail
    refine (alive16_calls _).mono ?_
    rintro e wz ⟨rfl, hbz⟩
    replace hbw := bl_step hbw hbz
    subst hw0
    go_wp2
    go_ret
    exact ⟨rfl, hbw⟩
  have elo : N ≤ lo.length := by omega
  have dlo : decide ((lo.length : Int) < (N : Int)) = false := decide_eq_false h1
  have nlo : decide (lo.length < N) = false := decide_eq_false (by omega)
  clear h1
  have y0 : w5.cell? ⟨gl, 0, none⟩ = some (.pointer (some ⟨gk, 0, none⟩)) := blk_cell (bl_block hbw hk_gl) 0 (by rfl)
  go_wp2_with fail
  refine (hDm.out _ hbw).mono ?_
  rintro e w6 ⟨rfl, hw_⟩
  subst hw_
  clear y0
  by_cases h1 : (lw.length : Int) < (N : Int)
  · have d2 : decide ((lw.length : Int) < (N : Int)) = true := decide_eq_true h1
    have hbw := bl_step hbw0 hbw
    go_wp2_with fail
    refine (alive16_calls _).mono ?_
    rintro e wz ⟨rfl, hbz⟩
    replace hbw := bl_step hbw hbz
    subst hw0
    go_wp2
    go_ret
    exact ⟨rfl, hbw⟩
  have elw : N ≤ lw.length := by omega
  have dlw : decide ((lw.length : Int) < (N : Int)) = false := decide_eq_false h1
  have nlw : decide (lw.length < N) = false := decide_eq_false (by omega)
  clear h1
  have hP1 := hidI (fun W (h : Below V.heap.size V W) => Prove_calls gl p (slP p ls) dep W hgood (hlk0.out.below h) hsl (by omega) hdep.out)
  have hlaw := hidI (fun x v hz h1 h2 h3 h4 => prove_holds_law hgood hslk (d := depthN dep) hz (x := x) (v := v) (off := lo) h1 h2 h3 h4)
  obtain ⟨z1, hz1⟩ : ∃ z, boxG (holdsP p (slP p ls)) (depthN dep) p.Inv = z := ⟨_, rfl⟩
  rw [hz1] at hP1 hlaw
  obtain ⟨r1, hr1⟩ : ∃ z, prRes z1 = z := ⟨_, rfl⟩
  obtain ⟨n1, hn1⟩ : ∃ z, z1.1 = z := ⟨_, rfl⟩
  obtain ⟨L1, hL1⟩ : ∃ z, prAt z1 = z := ⟨_, rfl⟩
  rw [hr1, hn1, hL1] at hP1
  rw [hr1] at hlaw
  clear hz1 hr1 hn1 hL1
  go_wp2_with fail
  refine (hP1.out _ hbw).mono ?_
  rintro e w7 ⟨A1, c1, rfl, hc1, hr1_, hb7⟩
  replace hbw := bl_step hbw hb7
  have hfd := prField0 (.int .i64 r1) (.int .i64 n1) (.slice A1 L1.length c1) w7
  clear hb7 hP1 hc1 hr1_ dlx dlo dlw nlx nlo nlw
  by_cases hz : r1 = 0
  rotate_left
  · have dz : (r1 != 0) = true := by simpa using hz
    have dz2 : (r1 == 0) = false := by simpa using hz
    have hbw := bl_step hbw0 hbw
    go_wp2_with fail
    refine (alive16_calls _).mono ?_
    rintro e wz ⟨rfl, hbz⟩
    replace hbw := bl_step hbw hbz
    subst hw0
    go_wp2
    go_ret
    exact ⟨rfl, hbw⟩
  subst hz
  go_wp2
  clear hfd hd6 hd6n
  have hka := blk_new w7 (.cells #[.bool false] 65)
  have hga : V.heap.size ≤ w7.heap.size := hbw.size
  have hbA := bl_alloc (Below.refl w7.heap.size w7) (.cells #[.bool false] 65)
  have hsz := World.size_alloc w7 (.cells #[.bool false] 65)
  replace hbw := bl_step hbw hbA
  clear hbA
  generalize w7.alloc (.cells #[.bool false] 65) = w8 at *
  generalize w7.heap.size = ga at *
  have hacc := AccAt.blk hka
  clear hka
  obtain ⟨B, hB⟩ : ∃ B, B = w8.heap.size := ⟨_, rfl⟩
  have hgB : ga < B := by omega
  have hsB0 : B ≤ w8.heap.size := by omega
  have hVB : V.heap.size ≤ B := by omega
  clear hsz hB
  have hla : V.heap.size ≤ (⟨ga, 0, none⟩ : Addr).block := hga
  have hlE := hidI (And.intro hN.out hlens.out)
  have hsk := hidI (slacks_iff.1 hslk)
  have hys := hidI (fun n => clampsL_succ lx p.Inv n)
  have hvs := hidI (fun n => clampsL_succ lw p.W n)
  have hgs := hidI (fun n => guessL_succ (clampsL lx p.Inv N) lo ls n)
  have hyl := hidI (fun n => clampsL_length lx p.Inv n)
  have hvl := hidI (fun n => clampsL_length lw p.W n)
  have hgl := hidI (fun n => guessL_length (clampsL lx p.Inv N) lo ls n)
  have hgi := hidI (fun n => guessL_inI (clampsL lx p.Inv N) lo ls n)
  have hyB := hidI (fun n h => clampsL_inB (x := lx) (b := p.Inv) (n := n) h)
  have hvB := hidI (fun n h => clampsL_inB (x := lw) (b := p.W) (n := n) h)
  have hyg : Hid (∀ j, j < N → (clampsL lx p.Inv N).getD j 0 = clampTo (lx.getD j 0) (p.Inv.getD j ⟨0, 0⟩).lo (p.Inv.getD j ⟨0, 0⟩).hi) := fun j hj => by unfold clampsL; rw [getD_map_range _ _ _ _ hj]
  have hgu : Hid (guessL (clampsL lx p.Inv N) lo ls = guessL (clampsL lx p.Inv N) lo ls) := rfl
  obtain ⟨ys, hys0⟩ : ∃ f : Nat → List Int, f = clampsL lx p.Inv := ⟨_, rfl⟩
  obtain ⟨vs, hvs0⟩ : ∃ f : Nat → List Int, f = clampsL lw p.W := ⟨_, rfl⟩
  obtain ⟨gs, hgs0⟩ : ∃ f : Nat → List Int, f = guessL (clampsL lx p.Inv N) lo ls := ⟨_, rfl⟩
  rw [← hgs0] at hgs hgl hgi
  rw [← hys0] at hys hyl hyB hyg hgs hgs0
  rw [← hvs0] at hvs hvl hvB
  have ho0 : Own3 w8 B 3 (.slice none 0 0) (.slice none 0 0) (.slice none 0 0) (ys 0) (gs 0) (vs 0) := by
    rw [show ys 0 = [] by rw [hys0]; rfl, show vs 0 = [] by rw [hvs0]; rfl, show gs 0 = [] by rw [hgs0]; rfl]
    exact Own3.nil _ _ _
  replace hgs0 := hidI hgs0
  clear hys0 hvs0 hgu hN hlens hlk0 hslk hsl hga
  go_loopw [16, 17, 18, 19] (fun yv gv vv x wr => ∃ i : Nat, i ≤ N ∧ x = .int .i64 i ∧ Below V.heap.size V wr ∧ B ≤ wr.heap.size ∧ Own3 wr B 3 yv gv vv (ys i) (gs i) (vs i) ∧ ∃ o, AccAt wr (some ⟨ga, 0, none⟩) o) (fun _ _ _ x _ => (N - intOf x).toNat)
  case atStart => exact ⟨0, by omega, rfl, hbw, hsB0, ho0, _, hacc⟩
  case round =>
    clear hbw hsB0 ho0 hacc
    obtain ⟨i, hi, rfl, hbw, hsB, ho3, oa, hacc⟩ := hrel
    have y0 : wr.cell? ⟨gl, 0, none⟩ = some (.pointer (some ⟨gk, 0, none⟩)) := blk_cell (bl_block hbw hk_gl) 0 (by rfl)
    go_wp2_with fail
    refine (hDm.out _ hbw).mono ?_
    rintro e w9 ⟨rfl, hw9⟩
    subst hw9
    clear y0
    by_cases hlt : i < N
    · have hd : decide ((i : Int) < (N : Int)) = true := decide_eq_true (by omega)
      have il1 : i < lx.length := by omega
      have il2 : i < lo.length := by omega
      have il3 : i < lw.length := by omega
      have il4 : i < p.W.length := by have := hlE.out; omega
      have il5 : i < p.Inv.length := by have := hlE.out; omega
      have hysi := hidI (hys.out i)
      have hvsi := hidI (hvs.out i)
      have hgsi := hidI (hgs.out i)
      have hYl := hidI (hyl.out i)
      have hVl := hidI (hvl.out i)
      have hGl := hidI (hgl.out i)
      have hygi := hyg.out i hlt
      obtain ⟨ib, iob, hbI, hi1, hi2⟩ := hpI.at (k := i) (by have := hlE.out; omega)
      subst hbI
      obtain ⟨wb_, owb, hbW, hw1, hw2⟩ := hpW.at (k := i) (by have := hlE.out; omega)
      subst hbW
      obtain ⟨bx, ox, rfl, hex⟩ := hx.at (i := i) (by omega)
      obtain ⟨bo, oo, rfl, heo⟩ := ho.at (i := i) (by omega)
      obtain ⟨bw, ow, rfl, hew⟩ := hw.at (i := i) (by omega)
      obtain ⟨xi, hz1⟩ : ∃ z, lx.getD i 0 = z := ⟨_, rfl⟩
      obtain ⟨oi, hz2⟩ : ∃ z, lo.getD i 0 = z := ⟨_, rfl⟩
      obtain ⟨wi, hz3⟩ : ∃ z, lw.getD i 0 = z := ⟨_, rfl⟩
      obtain ⟨⟨nl, nh⟩, hz4⟩ : ∃ z, p.Inv.getD i ⟨0, 0⟩ = z := ⟨_, rfl⟩
      obtain ⟨⟨wl, wh⟩, hz5⟩ : ∃ z, p.W.getD i ⟨0, 0⟩ = z := ⟨_, rfl⟩
      rw [hz1] at hex hysi hygi
      rw [hz2] at heo hgsi
      rw [hz3] at hew hvsi
      rw [hz4] at hi1 hi2 hysi hygi
      rw [hz5] at hw1 hw2 hvsi
      simp only [] at hi1 hi2 hysi hygi hw1 hw2 hvsi
      rw [hygi] at hgsi
      have hniB : -9223372036854775808 ≤ clampTo xi nl nh ∧ clampTo xi nl nh ≤ 9223372036854775807 := by
        have h1 := (hgood.2.2.2.2.2.2.1).one i
        rw [hz4] at h1
        have h2 := clampTo_in (x := xi) (lo := nl) (hi := nh) (by have := (hgood.Wne (i := i) (by have := hlE.out; omega)).2; rw [hz4] at this; exact this)
        unfold InSp at h1
        simp only [] at h1
        omega
      clear hz1 hz2 hz3 hz5 hygi
      replace hz4 := hidI hz4
      obtain ⟨ni, hni⟩ : ∃ z, Hid (clampTo xi nl nh = z) := ⟨_, rfl⟩
      rw [hni.out] at hysi hgsi hniB
      obtain ⟨vi, hvi⟩ : ∃ z, Hid (clampTo wi wl wh = z) := ⟨_, rfl⟩
      rw [hvi.out] at hvsi
      obtain ⟨s, hsv⟩ : ∃ z, ls.getD i 0 = z := ⟨_, rfl⟩
      have hs0 : 0 ≤ s := by rw [← hsv]; exact hsk.out.2 i
      have hs1 : s ≤ 9223372036854775807 := by rw [← hsv]; exact (hsi.out.getD i).2
      rw [hsv] at hgsi
      obtain ⟨ci, hci⟩ : ∃ z, Hid (clampTo oi (-s) s = z) := ⟨_, rfl⟩
      have hciB : -9223372036854775808 ≤ ci ∧ ci ≤ 9223372036854775807 := by have := clampTo_in (x := oi) (lo := -s) (hi := s) (by omega); rw [hci.out] at this; omega
      have hneg : IntKind.i64.wrap (-s) = -s := IntWalk.i64_in _ (by omega)
      unfold guessAt at hgsi
      rw [hci.out] at hgsi
      have hAdd := hidI (fun W g o (hA : AccAt W (some ⟨ga, 0, none⟩) o) (hk : W.heap[g]? = some (.cells #[.int .i64 ni, .int .i64 ci] 3 (0, 0))) => Add_calls (some ⟨ga, 0, none⟩) (some ⟨g, 0, none⟩) [ni, ci] 2 o W hA (RdI.of_blk (l := [ni, ci]) hk (by simp)) (by intro x hx; simp at hx; rcases hx with rfl | rfl <;> omega))
      obtain ⟨gi, hgi_⟩ : ∃ z, clampI (sumI [ni, ci]) = z := ⟨_, rfl⟩
      obtain ⟨ov, hov⟩ : ∃ z, ovI (sumI [ni, ci]) = z := ⟨_, rfl⟩
      rw [hgi_] at hgsi hAdd
      rw [hov] at hAdd
      clear hgi_ hov
      by_cases hil : i < ls.length
      · have hd2 : decide ((i : Int) < (ls.length : Int)) = true := decide_eq_true (by omega)
        obtain ⟨bs, os, rfl, hes⟩ := hs.at (i := i) hil
        rw [hsv] at hes
        replace hsv := hidI hsv
        have ks := bl_cell hbw hes
        go_upto_region 14 with fail
        clear ks
        replace ho3 := ho3.drew
        replace hacc := AccAt.below hacc (bl_drew (Below.refl _ _))
        replace hsB : B ≤ w9.drew.heap.size := hsB
        replace hbw := bl_drew hbw
        refine start_ (n := 18) (S := fun w' => w'.cell? ⟨bx, ox + i, none⟩ = some (.int .i64 xi) ∧ w'.cell? ⟨g1, 5, none⟩ = some (.slice (some ⟨ib, iob, none⟩) p.Inv.length cI) ∧ w'.cell? ⟨ib, iob + i * 2, none⟩ = some (.int .i64 nl) ∧ w'.cell? ⟨ib, iob + i * 2 + 1, none⟩ = some (.int .i64 nh)) (ds := []) #[false, false, false, false, false, false, false, false, false, false, false, false, false, false, false, false, false, false] (by kernel_rfl) rfl rfl ⟨(bl_cell hbw hex), (blk_cell (bl_block hbw hk_g1) 5 (by rfl)), (bl_cell hbw hi1), (bl_cell hbw hi2)⟩ (fun hHeld => ?_)
        generalize w9.drew = wn at *
        refine pure_ (i := 0) (N := some 104) (v := ?_) (a' := ?_) #[true, false, false, false, false, false, false, false, false, false, false, false, false, false, false, false, false, false] rfl rfl (by kernel_rfl) (fun _ _ _ h => h) (Or.inl ⟨by rfl, ?_⟩) ?_ ?_
        rotate_left
        · intro w'
          go_simp
          with_reducible rfl
        rotate_left
        · simp only [Act.put, List.setIfInBounds_toArray, List.set_cons_zero, List.set_cons_succ, i64_w, i32_w]
          rfl
        refine pure_ (i := 1) (N := some 105) (v := ?_) (a' := ?_) #[true, true, false, false, false, false, false, false, false, false, false, false, false, false, false, false, false, false] rfl rfl (by kernel_rfl) (fun _ _ _ h => h) (Or.inl ⟨by rfl, ?_⟩) ?_ ?_
        rotate_left
        · intro w'
          go_simp
          with_reducible rfl
        rotate_left
        · simp only [Act.put, List.setIfInBounds_toArray, List.set_cons_zero, List.set_cons_succ, i64_w, i32_w]
          rfl
        refine pure_ (i := 2) (N := some 106) (v := ?_) (a' := ?_) #[true, true, true, false, false, false, false, false, false, false, false, false, false, false, false, false, false, false] rfl rfl (by kernel_rfl) (fun _ _ _ h => h) (Or.inl ⟨by rfl, ?_⟩) ?_ ?_
        rotate_left
        · intro w'
          go_simp
          with_reducible rfl
        rotate_left
        · simp only [Act.put, List.setIfInBounds_toArray, List.set_cons_zero, List.set_cons_succ, i64_w, i32_w]
          rfl
        refine pure_ (i := 4) (N := some 108) (v := ?_) (a' := ?_) #[true, true, true, false, true, false, false, false, false, false, false, false, false, false, false, false, false, false] rfl rfl (by kernel_rfl) (fun _ _ _ h => h) (Or.inl ⟨by rfl, ?_⟩) ?_ ?_
        rotate_left
        · intro w'
          go_simp
          with_reducible rfl
        rotate_left
        · simp only [Act.put, List.setIfInBounds_toArray, List.set_cons_zero, List.set_cons_succ, i64_w, i32_w]
          rfl
        refine pure_ (i := 6) (N := some 110) (v := ?_) (a' := ?_) #[true, true, true, false, true, false, true, false, false, false, false, false, false, false, false, false, false, false] rfl rfl (by kernel_rfl) (fun _ _ _ h => h) (Or.inl ⟨by rfl, ?_⟩) ?_ ?_
        rotate_left
        · intro w'
          go_simp
          with_reducible rfl
        rotate_left
        · simp only [Act.put, List.setIfInBounds_toArray, List.set_cons_zero, List.set_cons_succ, i64_w, i32_w]
          rfl
        refine pure_ (i := 10) (N := some 114) (v := ?_) (a' := ?_) #[true, true, true, false, true, false, true, false, false, false, true, false, false, false, false, false, false, false] rfl rfl (by kernel_rfl) (fun _ _ _ h => h) (Or.inl ⟨by rfl, ?_⟩) ?_ ?_
        rotate_left
        · intro w'
          go_simp
          with_reducible rfl
        rotate_left
        · simp only [Act.put, List.setIfInBounds_toArray, List.set_cons_zero, List.set_cons_succ, i64_w, i32_w]
          rfl
        refine pure_ (i := 12) (N := some 116) (v := ?_) (a' := ?_) #[true, true, true, false, true, false, true, false, false, false, true, false, true, false, false, false, false, false] rfl rfl (by kernel_rfl) (fun _ _ _ h => h) (Or.inl ⟨by rfl, ?_⟩) ?_ ?_
        rotate_left
        · intro w'
          go_simp
          with_reducible rfl
        rotate_left
        · simp only [Act.put, List.setIfInBounds_toArray, List.set_cons_zero, List.set_cons_succ, i64_w, i32_w]
          rfl
        refine take_ (i := 3) (N := some 107) (v := ?_) (a' := ?_) #[true, true, true, true, true, false, true, false, false, false, true, false, true, false, false, false, false, false] rfl rfl (by kernel_rfl) (fun _ _ _ h => h) (Or.inl ⟨by rfl, ?_⟩) hHeld ?_ ?_
        rotate_left
        · rintro w' ⟨s0, s1, s2, s3⟩
          go_simp
          with_reducible rfl
        rotate_left
        · simp only [Act.put, List.setIfInBounds_toArray, List.set_cons_zero, List.set_cons_succ, i64_w, i32_w]
          rfl
        refine take_ (i := 5) (N := some 109) (v := ?_) (a' := ?_) #[true, true, true, true, true, true, true, false, false, false, true, false, true, false, false, false, false, false] rfl rfl (by kernel_rfl) (fun _ _ _ h => h) (Or.inl ⟨by rfl, ?_⟩) hHeld ?_ ?_
        rotate_left
        · rintro w' ⟨s0, s1, s2, s3⟩
          go_simp
          with_reducible rfl
        rotate_left
        · simp only [Act.put, List.setIfInBounds_toArray, List.set_cons_zero, List.set_cons_succ, i64_w, i32_w]
          rfl
        refine pure_ (i := 7) (N := some 111) (v := ?_) (a' := ?_) #[true, true, true, true, true, true, true, true, false, false, true, false, true, false, false, false, false, false] rfl rfl (by kernel_rfl) (fun _ _ _ h => h) (Or.inl ⟨by rfl, ?_⟩) ?_ ?_
        rotate_left
        · intro w'
          go_simp
          with_reducible rfl
        rotate_left
        · simp only [Act.put, List.setIfInBounds_toArray, List.set_cons_zero, List.set_cons_succ, i64_w, i32_w]
          rfl
        refine pure_ (i := 8) (N := some 112) (v := ?_) (a' := ?_) #[true, true, true, true, true, true, true, true, true, false, true, false, true, false, false, false, false, false] rfl rfl (by kernel_rfl) (fun _ _ _ h => h) (Or.inl ⟨by rfl, ?_⟩) ?_ ?_
        rotate_left
        · intro w'
          go_simp
          with_reducible rfl
        rotate_left
        · simp only [Act.put, List.setIfInBounds_toArray, List.set_cons_zero, List.set_cons_succ, i64_w, i32_w]
          rfl
        refine take_ (i := 9) (N := some 113) (v := ?_) (a' := ?_) #[true, true, true, true, true, true, true, true, true, true, true, false, true, false, false, false, false, false] rfl rfl (by kernel_rfl) (fun _ _ _ h => h) (Or.inl ⟨by rfl, ?_⟩) hHeld ?_ ?_
        rotate_left
        · rintro w' ⟨s0, s1, s2, s3⟩
          go_simp
          with_reducible rfl
        rotate_left
        · simp only [Act.put, List.setIfInBounds_toArray, List.set_cons_zero, List.set_cons_succ, i64_w, i32_w]
          rfl
        refine take_ (i := 11) (N := some 115) (v := ?_) (a' := ?_) #[true, true, true, true, true, true, true, true, true, true, true, true, true, false, false, false, false, false] rfl rfl (by kernel_rfl) (fun _ _ _ h => h) (Or.inl ⟨by rfl, ?_⟩) hHeld ?_ ?_
        rotate_left
        · rintro w' ⟨s0, s1, s2, s3⟩
          go_simp
          with_reducible rfl
        rotate_left
        · simp only [Act.put, List.setIfInBounds_toArray, List.set_cons_zero, List.set_cons_succ, i64_w, i32_w]
          rfl
        refine pure_ (i := 13) (N := some 117) (v := ?_) (a' := ?_) #[true, true, true, true, true, true, true, true, true, true, true, true, true, true, false, false, false, false] rfl rfl (by kernel_rfl) (fun _ _ _ h => h) (Or.inl ⟨by rfl, ?_⟩) ?_ ?_
        rotate_left
        · intro w'
          go_simp
          with_reducible rfl
        rotate_left
        · simp only [Act.put, List.setIfInBounds_toArray, List.set_cons_zero, List.set_cons_succ, i64_w, i32_w]
          rfl
        refine pure_ (i := 14) (N := some 118) (v := ?_) (a' := ?_) #[true, true, true, true, true, true, true, true, true, true, true, true, true, true, true, false, false, false] rfl rfl (by kernel_rfl) (fun _ _ _ h => h) (Or.inl ⟨by rfl, ?_⟩) ?_ ?_
        rotate_left
        · intro w'
          go_simp
          with_reducible rfl
        rotate_left
        · simp only [Act.put, List.setIfInBounds_toArray, List.set_cons_zero, List.set_cons_succ, i64_w, i32_w]
          rfl
        refine take_ (i := 15) (N := some 119) (v := ?_) (a' := ?_) #[true, true, true, true, true, true, true, true, true, true, true, true, true, true, true, true, false, false] rfl rfl (by kernel_rfl) (fun _ _ _ h => h) (Or.inl ⟨by rfl, ?_⟩) hHeld ?_ ?_
        rotate_left
        · rintro w' ⟨s0, s1, s2, s3⟩
          go_simp
          with_reducible rfl
        rotate_left
        · simp only [Act.put, List.setIfInBounds_toArray, List.set_cons_zero, List.set_cons_succ, i64_w, i32_w]
          rfl
        refine one_ (i := 16) (N := some 120) #[true, true, true, true, true, true, true, true, true, true, true, true, true, true, true, true, true, false] rfl rfl (by kernel_rfl) (by decide) (fun K hK => ?_)
        refine goes_ Try.func22 (by kernel_rfl) rfl #[.int .i64 xi, .int .i64 nl, .int .i64 nh] (by rfl) rfl rfl (by simp only [List.map_toArray, List.map_cons, List.map_nil] <;> rfl) ?_
        refine (Clamp_calls _ _ _ _).mono ?_
        rintro e wn ⟨rfl, rfl⟩
        refine ⟨_, rfl, ?_⟩
        rw [hni.out]
        clear hHeld
        refine hK.out _ _ ⟨(bl_cell hbw hex), (blk_cell (bl_block hbw hk_g1) 5 (by rfl)), (bl_cell hbw hi1), (bl_cell hbw hi2)⟩ (fun hHeld => ?_)
        clear hK K
        refine norm_ (a' := ?_) ?_ ?_
        rotate_left
        · show Act.put _ (some 120) _ = _
          simp only [Act.put, List.setIfInBounds_toArray, List.set_cons_zero, List.set_cons_succ, i64_w, i32_w]
          rfl
        refine pure_ (i := 17) (N := some 21) (v := ?_) (a' := ?_) #[true, true, true, true, true, true, true, true, true, true, true, true, true, true, true, true, true, true] rfl rfl (by kernel_rfl) (fun _ _ _ h => h) (Or.inl ⟨by rfl, ?_⟩) ?_ ?_
        rotate_left
        · intro w'
          go_simp
          with_reducible rfl
        rotate_left
        · simp only [Act.put, List.setIfInBounds_toArray, List.set_cons_zero, List.set_cons_succ, i64_w, i32_w]
          rfl
        refine done_ (by kernel_rfl) ?_
        go_upto_region 16 with (first | (at_builtin; go_loud (refine list_app3 rfl (.tmp 121) (.tmp 123) 23 rfl rfl Try.underlying23 infoI27 (ho3.alloc _) (some ⟨wn.heap.size, 0, none⟩) [ni] 1 1 rfl (RdI.of_blk (l := [ni]) (blk_new wn (.cells #[.int .i64 ni] 3)) (by simp)) rfl rfl (by rw [hYl.out]; simp; omega) (Nat.le_trans hsB (bl_alloc (Below.refl _ _) _).size) ?_); intro va wa hoa hba) | fail)
        rw [← hysi.out] at hoa
        replace hbw := (bl_alloc hbw (.cells #[.int .i64 ni] 3)).trans (Below.mono hba hVB)
        replace hacc := AccAt.keep (hacc.below (bl_alloc (Below.refl _ _) (.cells #[.int .i64 ni] 3))) hba (fun a_ h_ => by cases h_; exact hgB)
        replace hsB : B ≤ wa.heap.size := Nat.le_trans (Nat.le_trans hsB (bl_alloc (Below.refl _ _) (.cells #[.int .i64 ni] 3)).size) hba.size
        clear hba
        have ho4 := hoa.rot
        clear hoa ho3
        have k1 := bl_cell hbw heo
        go_wp2_with fail
        refine (Clamp_calls _ _ _ _).mono ?_
        rintro e wb ⟨rfl, hwb⟩
        subst hwb
        first | rw [hci.out] | (have h_ := hci.out; simp only [Int.neg_zero] at h_; rw [h_]; clear h_)
        clear k1
        go_wp2_with fail
        refine (hAdd.out _ wb.heap.size _ (hacc.below (bl_alloc (Below.refl _ _) (.cells #[.int .i64 ni, .int .i64 ci] 3))) (blk_new wb (.cells #[.int .i64 ni, .int .i64 ci] 3))).mono ?_
        rintro e wc ⟨rfl, hbc⟩
        have hbw4 := bl_own (bl_alloc hbw (.cells #[.int .i64 ni, .int .i64 ci] 3)) hla hbc
        have ho5 := (ho4.alloc (.cells #[.int .i64 ni, .int .i64 ci] 3)).acc hbc (fun k hk => PNe.of (by simp only []; omega))
        have hacc4 := AccAt.or (hacc.below (bl_alloc (Below.refl _ _) (.cells #[.int .i64 ni, .int .i64 ci] 3))) hbc
        have hsB4 : B ≤ wc.heap.size := by have h1 := (bl_alloc (Below.refl wb.heap.size wb) (.cells #[.int .i64 ni, .int .i64 ci] 3)).size; have h_ := hbc.size; rw [orCell_size] at h_; omega
        clear hbc hbw hacc hsB ho4
        obtain ⟨o4, hacc⟩ : ∃ o, AccAt wc (some ⟨ga, 0, none⟩) o := ⟨_, hacc4⟩
        have hbw := hbw4
        have hsB := hsB4
        clear hacc4 hbw4 hsB4
        go_upto_region 17 with (first | (at_builtin; go_loud (refine list_app3 rfl (.tmp 125) (.tmp 138) 23 rfl rfl Try.underlying23 infoI27 (ho5.alloc _) (some ⟨wc.heap.size, 0, none⟩) [gi] 1 1 rfl (RdI.of_blk (l := [gi]) (blk_new wc (.cells #[.int .i64 gi] 3)) (by simp)) rfl rfl (by rw [hGl.out]; simp; omega) (Nat.le_trans hsB (bl_alloc (Below.refl _ _) _).size) ?_); intro va wa hoa hba) | fail)
        rw [← hgsi.out] at hoa
        replace hbw := (bl_alloc hbw (.cells #[.int .i64 gi] 3)).trans (Below.mono hba hVB)
        replace hacc := AccAt.keep (hacc.below (bl_alloc (Below.refl _ _) (.cells #[.int .i64 gi] 3))) hba (fun a_ h_ => by cases h_; exact hgB)
        replace hsB : B ≤ wa.heap.size := Nat.le_trans (Nat.le_trans hsB (bl_alloc (Below.refl _ _) (.cells #[.int .i64 gi] 3)).size) hba.size
        clear hba
        replace ho3 := hoa.rot.drew
        clear hoa ho5
        replace hacc := AccAt.below hacc (bl_drew (Below.refl _ _))
        replace hsB : B ≤ wa.drew.heap.size := hsB
        replace hbw := bl_drew hbw
        refine start_ (n := 21) (S := fun w' => w'.cell? ⟨bw, ow + i, none⟩ = some (.int .i64 wi) ∧ w'.cell? ⟨g1, 4, none⟩ = some (.slice (some ⟨wb_, owb, none⟩) p.W.length cW) ∧ w'.cell? ⟨wb_, owb + i * 2, none⟩ = some (.int .i64 wl) ∧ w'.cell? ⟨wb_, owb + i * 2 + 1, none⟩ = some (.int .i64 wh)) (ds := []) #[false, false, false, false, false, false, false, false, false, false, false, false, false, false, false, false, false, false, false, false, false] (by kernel_rfl) rfl rfl ⟨(bl_cell hbw hew), (blk_cell (bl_block hbw hk_g1) 4 (by rfl)), (bl_cell hbw hw1), (bl_cell hbw hw2)⟩ (fun hHeld => ?_)
        generalize wa.drew = wn at *
        refine pure_ (i := 0) (N := some 140) (v := ?_) (a' := ?_) #[true, false, false, false, false, false, false, false, false, false, false, false, false, false, false, false, false, false, false, false, false] rfl rfl (by kernel_rfl) (fun _ _ _ h => h) (Or.inl ⟨by rfl, ?_⟩) ?_ ?_
        rotate_left
        · intro w'
          go_simp
          with_reducible rfl
        rotate_left
        · simp only [Act.put, List.setIfInBounds_toArray, List.set_cons_zero, List.set_cons_succ, i64_w, i32_w]
          rfl
        refine pure_ (i := 1) (N := some 141) (v := ?_) (a' := ?_) #[true, true, false, false, false, false, false, false, false, false, false, false, false, false, false, false, false, false, false, false, false] rfl rfl (by kernel_rfl) (fun _ _ _ h => h) (Or.inl ⟨by rfl, ?_⟩) ?_ ?_
        rotate_left
        · intro w'
          go_simp
          with_reducible rfl
        rotate_left
        · simp only [Act.put, List.setIfInBounds_toArray, List.set_cons_zero, List.set_cons_succ, i64_w, i32_w]
          rfl
        refine pure_ (i := 2) (N := some 142) (v := ?_) (a' := ?_) #[true, true, true, false, false, false, false, false, false, false, false, false, false, false, false, false, false, false, false, false, false] rfl rfl (by kernel_rfl) (fun _ _ _ h => h) (Or.inl ⟨by rfl, ?_⟩) ?_ ?_
        rotate_left
        · intro w'
          go_simp
          with_reducible rfl
        rotate_left
        · simp only [Act.put, List.setIfInBounds_toArray, List.set_cons_zero, List.set_cons_succ, i64_w, i32_w]
          rfl
        refine pure_ (i := 3) (N := some 143) (v := ?_) (a' := ?_) #[true, true, true, true, false, false, false, false, false, false, false, false, false, false, false, false, false, false, false, false, false] rfl rfl (by kernel_rfl) (fun _ _ _ h => h) (Or.inl ⟨by rfl, ?_⟩) ?_ ?_
        rotate_left
        · intro w'
          go_simp
          with_reducible rfl
        rotate_left
        · simp only [Act.put, List.setIfInBounds_toArray, List.set_cons_zero, List.set_cons_succ, i64_w, i32_w]
          rfl
        refine pure_ (i := 5) (N := some 145) (v := ?_) (a' := ?_) #[true, true, true, true, false, true, false, false, false, false, false, false, false, false, false, false, false, false, false, false, false] rfl rfl (by kernel_rfl) (fun _ _ _ h => h) (Or.inl ⟨by rfl, ?_⟩) ?_ ?_
        rotate_left
        · intro w'
          go_simp
          with_reducible rfl
        rotate_left
        · simp only [Act.put, List.setIfInBounds_toArray, List.set_cons_zero, List.set_cons_succ, i64_w, i32_w]
          rfl
        refine pure_ (i := 7) (N := some 147) (v := ?_) (a' := ?_) #[true, true, true, true, false, true, false, true, false, false, false, false, false, false, false, false, false, false, false, false, false] rfl rfl (by kernel_rfl) (fun _ _ _ h => h) (Or.inl ⟨by rfl, ?_⟩) ?_ ?_
        rotate_left
        · intro w'
          go_simp
          with_reducible rfl
        rotate_left
        · simp only [Act.put, List.setIfInBounds_toArray, List.set_cons_zero, List.set_cons_succ, i64_w, i32_w]
          rfl
        refine pure_ (i := 11) (N := some 151) (v := ?_) (a' := ?_) #[true, true, true, true, false, true, false, true, false, false, false, true, false, false, false, false, false, false, false, false, false] rfl rfl (by kernel_rfl) (fun _ _ _ h => h) (Or.inl ⟨by rfl, ?_⟩) ?_ ?_
        rotate_left
        · intro w'
          go_simp
          with_reducible rfl
        rotate_left
        · simp only [Act.put, List.setIfInBounds_toArray, List.set_cons_zero, List.set_cons_succ, i64_w, i32_w]
          rfl
        refine pure_ (i := 13) (N := some 153) (v := ?_) (a' := ?_) #[true, true, true, true, false, true, false, true, false, false, false, true, false, true, false, false, false, false, false, false, false] rfl rfl (by kernel_rfl) (fun _ _ _ h => h) (Or.inl ⟨by rfl, ?_⟩) ?_ ?_
        rotate_left
        · intro w'
          go_simp
          with_reducible rfl
        rotate_left
        · simp only [Act.put, List.setIfInBounds_toArray, List.set_cons_zero, List.set_cons_succ, i64_w, i32_w]
          rfl
        refine take_ (i := 4) (N := some 144) (v := ?_) (a' := ?_) #[true, true, true, true, true, true, false, true, false, false, false, true, false, true, false, false, false, false, false, false, false] rfl rfl (by kernel_rfl) (fun _ _ _ h => h) (Or.inl ⟨by rfl, ?_⟩) hHeld ?_ ?_
        rotate_left
        · rintro w' ⟨s0, s1, s2, s3⟩
          go_simp
          with_reducible rfl
        rotate_left
        · simp only [Act.put, List.setIfInBounds_toArray, List.set_cons_zero, List.set_cons_succ, i64_w, i32_w]
          rfl
        refine take_ (i := 6) (N := some 146) (v := ?_) (a' := ?_) #[true, true, true, true, true, true, true, true, false, false, false, true, false, true, false, false, false, false, false, false, false] rfl rfl (by kernel_rfl) (fun _ _ _ h => h) (Or.inl ⟨by rfl, ?_⟩) hHeld ?_ ?_
        rotate_left
        · rintro w' ⟨s0, s1, s2, s3⟩
          go_simp
          with_reducible rfl
        rotate_left
        · simp only [Act.put, List.setIfInBounds_toArray, List.set_cons_zero, List.set_cons_succ, i64_w, i32_w]
          rfl
        refine pure_ (i := 8) (N := some 148) (v := ?_) (a' := ?_) #[true, true, true, true, true, true, true, true, true, false, false, true, false, true, false, false, false, false, false, false, false] rfl rfl (by kernel_rfl) (fun _ _ _ h => h) (Or.inl ⟨by rfl, ?_⟩) ?_ ?_
        rotate_left
        · intro w'
          go_simp
          with_reducible rfl
        rotate_left
        · simp only [Act.put, List.setIfInBounds_toArray, List.set_cons_zero, List.set_cons_succ, i64_w, i32_w]
          rfl
        refine pure_ (i := 9) (N := some 149) (v := ?_) (a' := ?_) #[true, true, true, true, true, true, true, true, true, true, false, true, false, true, false, false, false, false, false, false, false] rfl rfl (by kernel_rfl) (fun _ _ _ h => h) (Or.inl ⟨by rfl, ?_⟩) ?_ ?_
        rotate_left
        · intro w'
          go_simp
          with_reducible rfl
        rotate_left
        · simp only [Act.put, List.setIfInBounds_toArray, List.set_cons_zero, List.set_cons_succ, i64_w, i32_w]
          rfl
        refine take_ (i := 10) (N := some 150) (v := ?_) (a' := ?_) #[true, true, true, true, true, true, true, true, true, true, true, true, false, true, false, false, false, false, false, false, false] rfl rfl (by kernel_rfl) (fun _ _ _ h => h) (Or.inl ⟨by rfl, ?_⟩) hHeld ?_ ?_
        rotate_left
        · rintro w' ⟨s0, s1, s2, s3⟩
          go_simp
          with_reducible rfl
        rotate_left
        · simp only [Act.put, List.setIfInBounds_toArray, List.set_cons_zero, List.set_cons_succ, i64_w, i32_w]
          rfl
        refine take_ (i := 12) (N := some 152) (v := ?_) (a' := ?_) #[true, true, true, true, true, true, true, true, true, true, true, true, true, true, false, false, false, false, false, false, false] rfl rfl (by kernel_rfl) (fun _ _ _ h => h) (Or.inl ⟨by rfl, ?_⟩) hHeld ?_ ?_
        rotate_left
        · rintro w' ⟨s0, s1, s2, s3⟩
          go_simp
          with_reducible rfl
        rotate_left
        · simp only [Act.put, List.setIfInBounds_toArray, List.set_cons_zero, List.set_cons_succ, i64_w, i32_w]
          rfl
        refine pure_ (i := 14) (N := some 154) (v := ?_) (a' := ?_) #[true, true, true, true, true, true, true, true, true, true, true, true, true, true, true, false, false, false, false, false, false] rfl rfl (by kernel_rfl) (fun _ _ _ h => h) (Or.inl ⟨by rfl, ?_⟩) ?_ ?_
        rotate_left
        · intro w'
          go_simp
          with_reducible rfl
        rotate_left
        · simp only [Act.put, List.setIfInBounds_toArray, List.set_cons_zero, List.set_cons_succ, i64_w, i32_w]
          rfl
        refine pure_ (i := 15) (N := some 155) (v := ?_) (a' := ?_) #[true, true, true, true, true, true, true, true, true, true, true, true, true, true, true, true, false, false, false, false, false] rfl rfl (by kernel_rfl) (fun _ _ _ h => h) (Or.inl ⟨by rfl, ?_⟩) ?_ ?_
        rotate_left
        · intro w'
          go_simp
          with_reducible rfl
        rotate_left
        · simp only [Act.put, List.setIfInBounds_toArray, List.set_cons_zero, List.set_cons_succ, i64_w, i32_w]
          rfl
        refine take_ (i := 16) (N := some 156) (v := ?_) (a' := ?_) #[true, true, true, true, true, true, true, true, true, true, true, true, true, true, true, true, true, false, false, false, false] rfl rfl (by kernel_rfl) (fun _ _ _ h => h) (Or.inl ⟨by rfl, ?_⟩) hHeld ?_ ?_
        rotate_left
        · rintro w' ⟨s0, s1, s2, s3⟩
          go_simp
          with_reducible rfl
        rotate_left
        · simp only [Act.put, List.setIfInBounds_toArray, List.set_cons_zero, List.set_cons_succ, i64_w, i32_w]
          rfl
        refine one_ (i := 17) (N := some 157) #[true, true, true, true, true, true, true, true, true, true, true, true, true, true, true, true, true, true, false, false, false] rfl rfl (by kernel_rfl) (by decide) (fun K hK => ?_)
        refine goes_ Try.func22 (by kernel_rfl) rfl #[.int .i64 wi, .int .i64 wl, .int .i64 wh] (by rfl) rfl rfl (by simp only [List.map_toArray, List.map_cons, List.map_nil] <;> rfl) ?_
        refine (Clamp_calls _ _ _ _).mono ?_
        rintro e wn ⟨rfl, rfl⟩
        refine ⟨_, rfl, ?_⟩
        rw [hvi.out]
        clear hHeld
        refine hK.out _ _ ⟨(bl_cell hbw hew), (blk_cell (bl_block hbw hk_g1) 4 (by rfl)), (bl_cell hbw hw1), (bl_cell hbw hw2)⟩ (fun hHeld => ?_)
        clear hK K
        refine norm_ (a' := ?_) ?_ ?_
        rotate_left
        · show Act.put _ (some 157) _ = _
          simp only [Act.put, List.setIfInBounds_toArray, List.set_cons_zero, List.set_cons_succ, i64_w, i32_w]
          rfl
        refine one_ (i := 18) (N := some 158) #[true, true, true, true, true, true, true, true, true, true, true, true, true, true, true, true, true, true, true, false, false] rfl rfl (by kernel_rfl) (by decide) (fun K hK => ?_)
        refine value_ (w1 := wn.alloc (.cells #[.int .i64 vi] 3)) (v := .slice (some ⟨wn.heap.size, 0, none⟩) 1 1) (by rfl) rfl ?_ ?_
        · go_simp
          try rfl
        have hk_18 : (wn.alloc (.cells #[.int .i64 vi] 3)).heap[wn.heap.size]? = some (.cells #[.int .i64 vi] 3 (0, 0)) := blk_new wn _
        have hle_18 : V.heap.size ≤ wn.heap.size := hbw.size
        replace hbw := bl_alloc hbw (.cells #[.int .i64 vi] 3)
        replace ho3 := ho3.alloc (.cells #[.int .i64 vi] 3)
        replace hacc := hacc.below (bl_alloc (Below.refl _ _) (.cells #[.int .i64 vi] 3))
        replace hsB : B ≤ (wn.alloc (.cells #[.int .i64 vi] 3)).heap.size := by have h_ := (bl_alloc (Below.refl wn.heap.size wn) (.cells #[.int .i64 vi] 3)).size; omega
        generalize wn.heap.size = g18 at *
        generalize wn.alloc (.cells #[.int .i64 vi] 3) = wn at *
        clear hHeld
        refine hK.out _ _ ⟨(bl_cell hbw hew), (blk_cell (bl_block hbw hk_g1) 4 (by rfl)), (bl_cell hbw hw1), (bl_cell hbw hw2)⟩ (fun hHeld => ?_)
        clear hK K
        refine norm_ (a' := ?_) ?_ ?_
        rotate_left
        · show Act.put _ (some 158) _ = _
          simp only [Act.put, List.setIfInBounds_toArray, List.set_cons_zero, List.set_cons_succ, i64_w, i32_w]
          rfl
        refine one_ (i := 19) (N := some 159) #[true, true, true, true, true, true, true, true, true, true, true, true, true, true, true, true, true, true, true, true, false] rfl rfl (by kernel_rfl) (by decide) (fun K hK => ?_)
        obtain ⟨v2, w2, hrun, ho2, hg2⟩ := ho3.app1 (P := Try.prog) 23 Try.underlying23 infoI27 g18 vi hk_18 (by rw [hVl.out]; omega) hsB
        rw [← hvsi.out] at ho2
        refine value_ (w1 := w2) (v := v2) (by rfl) rfl (exec_app (.tmp 140) (.tmp 158) 23 (by rfl) (by rfl) (by rfl) hrun) ?_
        replace hbw := hbw.trans (Below.mono hg2 hVB)
        replace hacc := AccAt.keep hacc hg2 (fun a_ h_ => by cases h_; exact hgB)
        replace hsB : B ≤ w2.heap.size := Nat.le_trans hsB hg2.size
        clear ho3 hk_18 hle_18 hrun hg2
        generalize w2 = wn at *
        clear hHeld
        refine hK.out _ _ ⟨(bl_cell hbw hew), (blk_cell (bl_block hbw hk_g1) 4 (by rfl)), (bl_cell hbw hw1), (bl_cell hbw hw2)⟩ (fun hHeld => ?_)
        clear hK K
        refine norm_ (a' := ?_) ?_ ?_
        rotate_left
        · show Act.put _ (some 159) _ = _
          simp only [Act.put, List.setIfInBounds_toArray, List.set_cons_zero, List.set_cons_succ, i64_w, i32_w]
          rfl
        refine pure_ (i := 20) (N := some 18) (v := ?_) (a' := ?_) #[true, true, true, true, true, true, true, true, true, true, true, true, true, true, true, true, true, true, true, true, true] rfl rfl (by kernel_rfl) (fun _ _ _ h => h) (Or.inl ⟨by rfl, ?_⟩) ?_ ?_
        rotate_left
        · intro w'
          go_simp
          with_reducible rfl
        rotate_left
        · simp only [Act.put, List.setIfInBounds_toArray, List.set_cons_zero, List.set_cons_succ, i64_w, i32_w]
          rfl
        refine done_ (by kernel_rfl) ?_
        have hb64 : ((i : Int) + 1) ≤ 9223372036854775807 := by omega
        go_wp2
        go_roundw
        case rel => exact ⟨i + 1, by omega, by go_num, hbw, hsB, ho2.rot, _, hacc⟩
        case measure => simp [intOf]; omega
      · have hd2 : decide ((i : Int) < (ls.length : Int)) = false := decide_eq_false (by omega)
        have hsz : s = 0 := by rw [← hsv, List.getD_eq_getElem?_getD, List.getElem?_eq_none (by omega)]; rfl
        replace hsv := hidI hsv
        subst hsz
        have ks : True := trivial
        go_upto_region 14 with fail
        clear ks
        replace ho3 := ho3.drew
        replace hacc := AccAt.below hacc (bl_drew (Below.refl _ _))
        replace hsB : B ≤ w9.drew.heap.size := hsB
        replace hbw := bl_drew hbw
        refine start_ (n := 18) (S := fun w' => w'.cell? ⟨bx, ox + i, none⟩ = some (.int .i64 xi) ∧ w'.cell? ⟨g1, 5, none⟩ = some (.slice (some ⟨ib, iob, none⟩) p.Inv.length cI) ∧ w'.cell? ⟨ib, iob + i * 2, none⟩ = some (.int .i64 nl) ∧ w'.cell? ⟨ib, iob + i * 2 + 1, none⟩ = some (.int .i64 nh)) (ds := []) #[false, false, false, false, false, false, false, false, false, false, false, false, false, false, false, false, false, false] (by kernel_rfl) rfl rfl ⟨(bl_cell hbw hex), (blk_cell (bl_block hbw hk_g1) 5 (by rfl)), (bl_cell hbw hi1), (bl_cell hbw hi2)⟩ (fun hHeld => ?_)
        generalize w9.drew = wn at *
        refine pure_ (i := 0) (N := some 104) (v := ?_) (a' := ?_) #[true, false, false, false, false, false, false, false, false, false, false, false, false, false, false, false, false, false] rfl rfl (by kernel_rfl) (fun _ _ _ h => h) (Or.inl ⟨by rfl, ?_⟩) ?_ ?_
        rotate_left
        · intro w'
          go_simp
          with_reducible rfl
        rotate_left
        · simp only [Act.put, List.setIfInBounds_toArray, List.set_cons_zero, List.set_cons_succ, i64_w, i32_w]
          rfl
        refine pure_ (i := 1) (N := some 105) (v := ?_) (a' := ?_) #[true, true, false, false, false, false, false, false, false, false, false, false, false, false, false, false, false, false] rfl rfl (by kernel_rfl) (fun _ _ _ h => h) (Or.inl ⟨by rfl, ?_⟩) ?_ ?_
        rotate_left
        · intro w'
          go_simp
          with_reducible rfl
        rotate_left
        · simp only [Act.put, List.setIfInBounds_toArray, List.set_cons_zero, List.set_cons_succ, i64_w, i32_w]
          rfl
        refine pure_ (i := 2) (N := some 106) (v := ?_) (a' := ?_) #[true, true, true, false, false, false, false, false, false, false, false, false, false, false, false, false, false, false] rfl rfl (by kernel_rfl) (fun _ _ _ h => h) (Or.inl ⟨by rfl, ?_⟩) ?_ ?_
        rotate_left
        · intro w'
          go_simp
          with_reducible rfl
        rotate_left
        · simp only [Act.put, List.setIfInBounds_toArray, List.set_cons_zero, List.set_cons_succ, i64_w, i32_w]
          rfl
        refine pure_ (i := 4) (N := some 108) (v := ?_) (a' := ?_) #[true, true, true, false, true, false, false, false, false, false, false, false, false, false, false, false, false, false] rfl rfl (by kernel_rfl) (fun _ _ _ h => h) (Or.inl ⟨by rfl, ?_⟩) ?_ ?_
        rotate_left
        · intro w'
          go_simp
          with_reducible rfl
        rotate_left
        · simp only [Act.put, List.setIfInBounds_toArray, List.set_cons_zero, List.set_cons_succ, i64_w, i32_w]
          rfl
        refine pure_ (i := 6) (N := some 110) (v := ?_) (a' := ?_) #[true, true, true, false, true, false, true, false, false, false, false, false, false, false, false, false, false, false] rfl rfl (by kernel_rfl) (fun _ _ _ h => h) (Or.inl ⟨by rfl, ?_⟩) ?_ ?_
        rotate_left
        · intro w'
          go_simp
          with_reducible rfl
        rotate_left
        · simp only [Act.put, List.setIfInBounds_toArray, List.set_cons_zero, List.set_cons_succ, i64_w, i32_w]
          rfl
        refine pure_ (i := 10) (N := some 114) (v := ?_) (a' := ?_) #[true, true, true, false, true, false, true, false, false, false, true, false, false, false, false, false, false, false] rfl rfl (by kernel_rfl) (fun _ _ _ h => h) (Or.inl ⟨by rfl, ?_⟩) ?_ ?_
        rotate_left
        · intro w'
          go_simp
          with_reducible rfl
        rotate_left
        · simp only [Act.put, List.setIfInBounds_toArray, List.set_cons_zero, List.set_cons_succ, i64_w, i32_w]
          rfl
        refine pure_ (i := 12) (N := some 116) (v := ?_) (a' := ?_) #[true, true, true, false, true, false, true, false, false, false, true, false, true, false, false, false, false, false] rfl rfl (by kernel_rfl) (fun _ _ _ h => h) (Or.inl ⟨by rfl, ?_⟩) ?_ ?_
        rotate_left
        · intro w'
          go_simp
          with_reducible rfl
        rotate_left
        · simp only [Act.put, List.setIfInBounds_toArray, List.set_cons_zero, List.set_cons_succ, i64_w, i32_w]
          rfl
        refine take_ (i := 3) (N := some 107) (v := ?_) (a' := ?_) #[true, true, true, true, true, false, true, false, false, false, true, false, true, false, false, false, false, false] rfl rfl (by kernel_rfl) (fun _ _ _ h => h) (Or.inl ⟨by rfl, ?_⟩) hHeld ?_ ?_
        rotate_left
        · rintro w' ⟨s0, s1, s2, s3⟩
          go_simp
          with_reducible rfl
        rotate_left
        · simp only [Act.put, List.setIfInBounds_toArray, List.set_cons_zero, List.set_cons_succ, i64_w, i32_w]
          rfl
        refine take_ (i := 5) (N := some 109) (v := ?_) (a' := ?_) #[true, true, true, true, true, true, true, false, false, false, true, false, true, false, false, false, false, false] rfl rfl (by kernel_rfl) (fun _ _ _ h => h) (Or.inl ⟨by rfl, ?_⟩) hHeld ?_ ?_
        rotate_left
        · rintro w' ⟨s0, s1, s2, s3⟩
          go_simp
          with_reducible rfl
        rotate_left
        · simp only [Act.put, List.setIfInBounds_toArray, List.set_cons_zero, List.set_cons_succ, i64_w, i32_w]
          rfl
        refine pure_ (i := 7) (N := some 111) (v := ?_) (a' := ?_) #[true, true, true, true, true, true, true, true, false, false, true, false, true, false, false, false, false, false] rfl rfl (by kernel_rfl) (fun _ _ _ h => h) (Or.inl ⟨by rfl, ?_⟩) ?_ ?_
        rotate_left
        · intro w'
          go_simp
          with_reducible rfl
        rotate_left
        · simp only [Act.put, List.setIfInBounds_toArray, List.set_cons_zero, List.set_cons_succ, i64_w, i32_w]
          rfl
        refine pure_ (i := 8) (N := some 112) (v := ?_) (a' := ?_) #[true, true, true, true, true, true, true, true, true, false, true, false, true, false, false, false, false, false] rfl rfl (by kernel_rfl) (fun _ _ _ h => h) (Or.inl ⟨by rfl, ?_⟩) ?_ ?_
        rotate_left
        · intro w'
          go_simp
          with_reducible rfl
        rotate_left
        · simp only [Act.put, List.setIfInBounds_toArray, List.set_cons_zero, List.set_cons_succ, i64_w, i32_w]
          rfl
        refine take_ (i := 9) (N := some 113) (v := ?_) (a' := ?_) #[true, true, true, true, true, true, true, true, true, true, true, false, true, false, false, false, false, false] rfl rfl (by kernel_rfl) (fun _ _ _ h => h) (Or.inl ⟨by rfl, ?_⟩) hHeld ?_ ?_
        rotate_left
        · rintro w' ⟨s0, s1, s2, s3⟩
          go_simp
          with_reducible rfl
        rotate_left
        · simp only [Act.put, List.setIfInBounds_toArray, List.set_cons_zero, List.set_cons_succ, i64_w, i32_w]
          rfl
        refine take_ (i := 11) (N := some 115) (v := ?_) (a' := ?_) #[true, true, true, true, true, true, true, true, true, true, true, true, true, false, false, false, false, false] rfl rfl (by kernel_rfl) (fun _ _ _ h => h) (Or.inl ⟨by rfl, ?_⟩) hHeld ?_ ?_
        rotate_left
        · rintro w' ⟨s0, s1, s2, s3⟩
          go_simp
          with_reducible rfl
        rotate_left
        · simp only [Act.put, List.setIfInBounds_toArray, List.set_cons_zero, List.set_cons_succ, i64_w, i32_w]
          rfl
        refine pure_ (i := 13) (N := some 117) (v := ?_) (a' := ?_) #[true, true, true, true, true, true, true, true, true, true, true, true, true, true, false, false, false, false] rfl rfl (by kernel_rfl) (fun _ _ _ h => h) (Or.inl ⟨by rfl, ?_⟩) ?_ ?_
        rotate_left
        · intro w'
          go_simp
          with_reducible rfl
        rotate_left
        · simp only [Act.put, List.setIfInBounds_toArray, List.set_cons_zero, List.set_cons_succ, i64_w, i32_w]
          rfl
        refine pure_ (i := 14) (N := some 118) (v := ?_) (a' := ?_) #[true, true, true, true, true, true, true, true, true, true, true, true, true, true, true, false, false, false] rfl rfl (by kernel_rfl) (fun _ _ _ h => h) (Or.inl ⟨by rfl, ?_⟩) ?_ ?_
        rotate_left
        · intro w'
          go_simp
          with_reducible rfl
        rotate_left
        · simp only [Act.put, List.setIfInBounds_toArray, List.set_cons_zero, List.set_cons_succ, i64_w, i32_w]
          rfl
        refine take_ (i := 15) (N := some 119) (v := ?_) (a' := ?_) #[true, true, true, true, true, true, true, true, true, true, true, true, true, true, true, true, false, false] rfl rfl (by kernel_rfl) (fun _ _ _ h => h) (Or.inl ⟨by rfl, ?_⟩) hHeld ?_ ?_
        rotate_left
        · rintro w' ⟨s0, s1, s2, s3⟩
          go_simp
          with_reducible rfl
        rotate_left
        · simp only [Act.put, List.setIfInBounds_toArray, List.set_cons_zero, List.set_cons_succ, i64_w, i32_w]
          rfl
        refine one_ (i := 16) (N := some 120) #[true, true, true, true, true, true, true, true, true, true, true, true, true, true, true, true, true, false] rfl rfl (by kernel_rfl) (by decide) (fun K hK => ?_)
        refine goes_ Try.func22 (by kernel_rfl) rfl #[.int .i64 xi, .int .i64 nl, .int .i64 nh] (by rfl) rfl rfl (by simp only [List.map_toArray, List.map_cons, List.map_nil] <;> rfl) ?_
        refine (Clamp_calls _ _ _ _).mono ?_
        rintro e wn ⟨rfl, rfl⟩
        refine ⟨_, rfl, ?_⟩
        rw [hni.out]
        clear hHeld
        refine hK.out _ _ ⟨(bl_cell hbw hex), (blk_cell (bl_block hbw hk_g1) 5 (by rfl)), (bl_cell hbw hi1), (bl_cell hbw hi2)⟩ (fun hHeld => ?_)
        clear hK K
        refine norm_ (a' := ?_) ?_ ?_
        rotate_left
        · show Act.put _ (some 120) _ = _
          simp only [Act.put, List.setIfInBounds_toArray, List.set_cons_zero, List.set_cons_succ, i64_w, i32_w]
          rfl
        refine pure_ (i := 17) (N := some 21) (v := ?_) (a' := ?_) #[true, true, true, true, true, true, true, true, true, true, true, true, true, true, true, true, true, true] rfl rfl (by kernel_rfl) (fun _ _ _ h => h) (Or.inl ⟨by rfl, ?_⟩) ?_ ?_
        rotate_left
        · intro w'
          go_simp
          with_reducible rfl
        rotate_left
        · simp only [Act.put, List.setIfInBounds_toArray, List.set_cons_zero, List.set_cons_succ, i64_w, i32_w]
          rfl
        refine done_ (by kernel_rfl) ?_
        go_upto_region 16 with (first | (at_builtin; go_loud (refine list_app3 rfl (.tmp 121) (.tmp 123) 23 rfl rfl Try.underlying23 infoI27 (ho3.alloc _) (some ⟨wn.heap.size, 0, none⟩) [ni] 1 1 rfl (RdI.of_blk (l := [ni]) (blk_new wn (.cells #[.int .i64 ni] 3)) (by simp)) rfl rfl (by rw [hYl.out]; simp; omega) (Nat.le_trans hsB (bl_alloc (Below.refl _ _) _).size) ?_); intro va wa hoa hba) | fail)
        rw [← hysi.out] at hoa
        replace hbw := (bl_alloc hbw (.cells #[.int .i64 ni] 3)).trans (Below.mono hba hVB)
        replace hacc := AccAt.keep (hacc.below (bl_alloc (Below.refl _ _) (.cells #[.int .i64 ni] 3))) hba (fun a_ h_ => by cases h_; exact hgB)
        replace hsB : B ≤ wa.heap.size := Nat.le_trans (Nat.le_trans hsB (bl_alloc (Below.refl _ _) (.cells #[.int .i64 ni] 3)).size) hba.size
        clear hba
        have ho4 := hoa.rot
        clear hoa ho3
        have k1 := bl_cell hbw heo
        go_wp2_with fail
        refine (Clamp_calls _ _ _ _).mono ?_
        rintro e wb ⟨rfl, hwb⟩
        subst hwb
        first | rw [hci.out] | (have h_ := hci.out; simp only [Int.neg_zero] at h_; rw [h_]; clear h_)
        clear k1
        go_wp2_with fail
        refine (hAdd.out _ wb.heap.size _ (hacc.below (bl_alloc (Below.refl _ _) (.cells #[.int .i64 ni, .int .i64 ci] 3))) (blk_new wb (.cells #[.int .i64 ni, .int .i64 ci] 3))).mono ?_
        rintro e wc ⟨rfl, hbc⟩
        have hbw4 := bl_own (bl_alloc hbw (.cells #[.int .i64 ni, .int .i64 ci] 3)) hla hbc
        have ho5 := (ho4.alloc (.cells #[.int .i64 ni, .int .i64 ci] 3)).acc hbc (fun k hk => PNe.of (by simp only []; omega))
        have hacc4 := AccAt.or (hacc.below (bl_alloc (Below.refl _ _) (.cells #[.int .i64 ni, .int .i64 ci] 3))) hbc
        have hsB4 : B ≤ wc.heap.size := by have h1 := (bl_alloc (Below.refl wb.heap.size wb) (.cells #[.int .i64 ni, .int .i64 ci] 3)).size; have h_ := hbc.size; rw [orCell_size] at h_; omega
        clear hbc hbw hacc hsB ho4
        obtain ⟨o4, hacc⟩ : ∃ o, AccAt wc (some ⟨ga, 0, none⟩) o := ⟨_, hacc4⟩
        have hbw := hbw4
        have hsB := hsB4
        clear hacc4 hbw4 hsB4
        go_upto_region 17 with (first | (at_builtin; go_loud (refine list_app3 rfl (.tmp 125) (.tmp 138) 23 rfl rfl Try.underlying23 infoI27 (ho5.alloc _) (some ⟨wc.heap.size, 0, none⟩) [gi] 1 1 rfl (RdI.of_blk (l := [gi]) (blk_new wc (.cells #[.int .i64 gi] 3)) (by simp)) rfl rfl (by rw [hGl.out]; simp; omega) (Nat.le_trans hsB (bl_alloc (Below.refl _ _) _).size) ?_); intro va wa hoa hba) | fail)
        rw [← hgsi.out] at hoa
        replace hbw := (bl_alloc hbw (.cells #[.int .i64 gi] 3)).trans (Below.mono hba hVB)
        replace hacc := AccAt.keep (hacc.below (bl_alloc (Below.refl _ _) (.cells #[.int .i64 gi] 3))) hba (fun a_ h_ => by cases h_; exact hgB)
        replace hsB : B ≤ wa.heap.size := Nat.le_trans (Nat.le_trans hsB (bl_alloc (Below.refl _ _) (.cells #[.int .i64 gi] 3)).size) hba.size
        clear hba
        replace ho3 := hoa.rot.drew
        clear hoa ho5
        replace hacc := AccAt.below hacc (bl_drew (Below.refl _ _))
        replace hsB : B ≤ wa.drew.heap.size := hsB
        replace hbw := bl_drew hbw
        refine start_ (n := 21) (S := fun w' => w'.cell? ⟨bw, ow + i, none⟩ = some (.int .i64 wi) ∧ w'.cell? ⟨g1, 4, none⟩ = some (.slice (some ⟨wb_, owb, none⟩) p.W.length cW) ∧ w'.cell? ⟨wb_, owb + i * 2, none⟩ = some (.int .i64 wl) ∧ w'.cell? ⟨wb_, owb + i * 2 + 1, none⟩ = some (.int .i64 wh)) (ds := []) #[false, false, false, false, false, false, false, false, false, false, false, false, false, false, false, false, false, false, false, false, false] (by kernel_rfl) rfl rfl ⟨(bl_cell hbw hew), (blk_cell (bl_block hbw hk_g1) 4 (by rfl)), (bl_cell hbw hw1), (bl_cell hbw hw2)⟩ (fun hHeld => ?_)
        generalize wa.drew = wn at *
        refine pure_ (i := 0) (N := some 140) (v := ?_) (a' := ?_) #[true, false, false, false, false, false, false, false, false, false, false, false, false, false, false, false, false, false, false, false, false] rfl rfl (by kernel_rfl) (fun _ _ _ h => h) (Or.inl ⟨by rfl, ?_⟩) ?_ ?_
        rotate_left
        · intro w'
          go_simp
          with_reducible rfl
        rotate_left
        · simp only [Act.put, List.setIfInBounds_toArray, List.set_cons_zero, List.set_cons_succ, i64_w, i32_w]
          rfl
        refine pure_ (i := 1) (N := some 141) (v := ?_) (a' := ?_) #[true, true, false, false, false, false, false, false, false, false, false, false, false, false, false, false, false, false, false, false, false] rfl rfl (by kernel_rfl) (fun _ _ _ h => h) (Or.inl ⟨by rfl, ?_⟩) ?_ ?_
        rotate_left
        · intro w'
          go_simp
          with_reducible rfl
        rotate_left
        · simp only [Act.put, List.setIfInBounds_toArray, List.set_cons_zero, List.set_cons_succ, i64_w, i32_w]
          rfl
        refine pure_ (i := 2) (N := some 142) (v := ?_) (a' := ?_) #[true, true, true, false, false, false, false, false, false, false, false, false, false, false, false, false, false, false, false, false, false] rfl rfl (by kernel_rfl) (fun _ _ _ h => h) (Or.inl ⟨by rfl, ?_⟩) ?_ ?_
        rotate_left
        · intro w'
          go_simp
          with_reducible rfl
        rotate_left
        · simp only [Act.put, List.setIfInBounds_toArray, List.set_cons_zero, List.set_cons_succ, i64_w, i32_w]
          rfl
        refine pure_ (i := 3) (N := some 143) (v := ?_) (a' := ?_) #[true, true, true, true, false, false, false, false, false, false, false, false, false, false, false, false, false, false, false, false, false] rfl rfl (by kernel_rfl) (fun _ _ _ h => h) (Or.inl ⟨by rfl, ?_⟩) ?_ ?_
        rotate_left
        · intro w'
          go_simp
          with_reducible rfl
        rotate_left
        · simp only [Act.put, List.setIfInBounds_toArray, List.set_cons_zero, List.set_cons_succ, i64_w, i32_w]
          rfl
        refine pure_ (i := 5) (N := some 145) (v := ?_) (a' := ?_) #[true, true, true, true, false, true, false, false, false, false, false, false, false, false, false, false, false, false, false, false, false] rfl rfl (by kernel_rfl) (fun _ _ _ h => h) (Or.inl ⟨by rfl, ?_⟩) ?_ ?_
        rotate_left
        · intro w'
          go_simp
          with_reducible rfl
        rotate_left
        · simp only [Act.put, List.setIfInBounds_toArray, List.set_cons_zero, List.set_cons_succ, i64_w, i32_w]
          rfl
        refine pure_ (i := 7) (N := some 147) (v := ?_) (a' := ?_) #[true, true, true, true, false, true, false, true, false, false, false, false, false, false, false, false, false, false, false, false, false] rfl rfl (by kernel_rfl) (fun _ _ _ h => h) (Or.inl ⟨by rfl, ?_⟩) ?_ ?_
        rotate_left
        · intro w'
          go_simp
          with_reducible rfl
        rotate_left
        · simp only [Act.put, List.setIfInBounds_toArray, List.set_cons_zero, List.set_cons_succ, i64_w, i32_w]
          rfl
        refine pure_ (i := 11) (N := some 151) (v := ?_) (a' := ?_) #[true, true, true, true, false, true, false, true, false, false, false, true, false, false, false, false, false, false, false, false, false] rfl rfl (by kernel_rfl) (fun _ _ _ h => h) (Or.inl ⟨by rfl, ?_⟩) ?_ ?_
        rotate_left
        · intro w'
          go_simp
          with_reducible rfl
        rotate_left
        · simp only [Act.put, List.setIfInBounds_toArray, List.set_cons_zero, List.set_cons_succ, i64_w, i32_w]
          rfl
        refine pure_ (i := 13) (N := some 153) (v := ?_) (a' := ?_) #[true, true, true, true, false, true, false, true, false, false, false, true, false, true, false, false, false, false, false, false, false] rfl rfl (by kernel_rfl) (fun _ _ _ h => h) (Or.inl ⟨by rfl, ?_⟩) ?_ ?_
        rotate_left
        · intro w'
          go_simp
          with_reducible rfl
        rotate_left
        · simp only [Act.put, List.setIfInBounds_toArray, List.set_cons_zero, List.set_cons_succ, i64_w, i32_w]
          rfl
        refine take_ (i := 4) (N := some 144) (v := ?_) (a' := ?_) #[true, true, true, true, true, true, false, true, false, false, false, true, false, true, false, false, false, false, false, false, false] rfl rfl (by kernel_rfl) (fun _ _ _ h => h) (Or.inl ⟨by rfl, ?_⟩) hHeld ?_ ?_
        rotate_left
        · rintro w' ⟨s0, s1, s2, s3⟩
          go_simp
          with_reducible rfl
        rotate_left
        · simp only [Act.put, List.setIfInBounds_toArray, List.set_cons_zero, List.set_cons_succ, i64_w, i32_w]
          rfl
        refine take_ (i := 6) (N := some 146) (v := ?_) (a' := ?_) #[true, true, true, true, true, true, true, true, false, false, false, true, false, true, false, false, false, false, false, false, false] rfl rfl (by kernel_rfl) (fun _ _ _ h => h) (Or.inl ⟨by rfl, ?_⟩) hHeld ?_ ?_
        rotate_left
        · rintro w' ⟨s0, s1, s2, s3⟩
          go_simp
          with_reducible rfl
        rotate_left
        · simp only [Act.put, List.setIfInBounds_toArray, List.set_cons_zero, List.set_cons_succ, i64_w, i32_w]
          rfl
        refine pure_ (i := 8) (N := some 148) (v := ?_) (a' := ?_) #[true, true, true, true, true, true, true, true, true, false, false, true, false, true, false, false, false, false, false, false, false] rfl rfl (by kernel_rfl) (fun _ _ _ h => h) (Or.inl ⟨by rfl, ?_⟩) ?_ ?_
        rotate_left
        · intro w'
          go_simp
          with_reducible rfl
        rotate_left
        · simp only [Act.put, List.setIfInBounds_toArray, List.set_cons_zero, List.set_cons_succ, i64_w, i32_w]
          rfl
        refine pure_ (i := 9) (N := some 149) (v := ?_) (a' := ?_) #[true, true, true, true, true, true, true, true, true, true, false, true, false, true, false, false, false, false, false, false, false] rfl rfl (by kernel_rfl) (fun _ _ _ h => h) (Or.inl ⟨by rfl, ?_⟩) ?_ ?_
        rotate_left
        · intro w'
          go_simp
          with_reducible rfl
        rotate_left
        · simp only [Act.put, List.setIfInBounds_toArray, List.set_cons_zero, List.set_cons_succ, i64_w, i32_w]
          rfl
        refine take_ (i := 10) (N := some 150) (v := ?_) (a' := ?_) #[true, true, true, true, true, true, true, true, true, true, true, true, false, true, false, false, false, false, false, false, false] rfl rfl (by kernel_rfl) (fun _ _ _ h => h) (Or.inl ⟨by rfl, ?_⟩) hHeld ?_ ?_
        rotate_left
        · rintro w' ⟨s0, s1, s2, s3⟩
          go_simp
          with_reducible rfl
        rotate_left
        · simp only [Act.put, List.setIfInBounds_toArray, List.set_cons_zero, List.set_cons_succ, i64_w, i32_w]
          rfl
        refine take_ (i := 12) (N := some 152) (v := ?_) (a' := ?_) #[true, true, true, true, true, true, true, true, true, true, true, true, true, true, false, false, false, false, false, false, false] rfl rfl (by kernel_rfl) (fun _ _ _ h => h) (Or.inl ⟨by rfl, ?_⟩) hHeld ?_ ?_
        rotate_left
        · rintro w' ⟨s0, s1, s2, s3⟩
          go_simp
          with_reducible rfl
        rotate_left
        · simp only [Act.put, List.setIfInBounds_toArray, List.set_cons_zero, List.set_cons_succ, i64_w, i32_w]
          rfl
        refine pure_ (i := 14) (N := some 154) (v := ?_) (a' := ?_) #[true, true, true, true, true, true, true, true, true, true, true, true, true, true, true, false, false, false, false, false, false] rfl rfl (by kernel_rfl) (fun _ _ _ h => h) (Or.inl ⟨by rfl, ?_⟩) ?_ ?_
        rotate_left
        · intro w'
          go_simp
          with_reducible rfl
        rotate_left
        · simp only [Act.put, List.setIfInBounds_toArray, List.set_cons_zero, List.set_cons_succ, i64_w, i32_w]
          rfl
        refine pure_ (i := 15) (N := some 155) (v := ?_) (a' := ?_) #[true, true, true, true, true, true, true, true, true, true, true, true, true, true, true, true, false, false, false, false, false] rfl rfl (by kernel_rfl) (fun _ _ _ h => h) (Or.inl ⟨by rfl, ?_⟩) ?_ ?_
        rotate_left
        · intro w'
          go_simp
          with_reducible rfl
        rotate_left
        · simp only [Act.put, List.setIfInBounds_toArray, List.set_cons_zero, List.set_cons_succ, i64_w, i32_w]
          rfl
        refine take_ (i := 16) (N := some 156) (v := ?_) (a' := ?_) #[true, true, true, true, true, true, true, true, true, true, true, true, true, true, true, true, true, false, false, false, false] rfl rfl (by kernel_rfl) (fun _ _ _ h => h) (Or.inl ⟨by rfl, ?_⟩) hHeld ?_ ?_
        rotate_left
        · rintro w' ⟨s0, s1, s2, s3⟩
          go_simp
          with_reducible rfl
        rotate_left
        · simp only [Act.put, List.setIfInBounds_toArray, List.set_cons_zero, List.set_cons_succ, i64_w, i32_w]
          rfl
        refine one_ (i := 17) (N := some 157) #[true, true, true, true, true, true, true, true, true, true, true, true, true, true, true, true, true, true, false, false, false] rfl rfl (by kernel_rfl) (by decide) (fun K hK => ?_)
        refine goes_ Try.func22 (by kernel_rfl) rfl #[.int .i64 wi, .int .i64 wl, .int .i64 wh] (by rfl) rfl rfl (by simp only [List.map_toArray, List.map_cons, List.map_nil] <;> rfl) ?_
        refine (Clamp_calls _ _ _ _).mono ?_
        rintro e wn ⟨rfl, rfl⟩
        refine ⟨_, rfl, ?_⟩
        rw [hvi.out]
        clear hHeld
        refine hK.out _ _ ⟨(bl_cell hbw hew), (blk_cell (bl_block hbw hk_g1) 4 (by rfl)), (bl_cell hbw hw1), (bl_cell hbw hw2)⟩ (fun hHeld => ?_)
        clear hK K
        refine norm_ (a' := ?_) ?_ ?_
        rotate_left
        · show Act.put _ (some 157) _ = _
          simp only [Act.put, List.setIfInBounds_toArray, List.set_cons_zero, List.set_cons_succ, i64_w, i32_w]
          rfl
        refine one_ (i := 18) (N := some 158) #[true, true, true, true, true, true, true, true, true, true, true, true, true, true, true, true, true, true, true, false, false] rfl rfl (by kernel_rfl) (by decide) (fun K hK => ?_)
        refine value_ (w1 := wn.alloc (.cells #[.int .i64 vi] 3)) (v := .slice (some ⟨wn.heap.size, 0, none⟩) 1 1) (by rfl) rfl ?_ ?_
        · go_simp
          try rfl
        have hk_18 : (wn.alloc (.cells #[.int .i64 vi] 3)).heap[wn.heap.size]? = some (.cells #[.int .i64 vi] 3 (0, 0)) := blk_new wn _
        have hle_18 : V.heap.size ≤ wn.heap.size := hbw.size
        replace hbw := bl_alloc hbw (.cells #[.int .i64 vi] 3)
        replace ho3 := ho3.alloc (.cells #[.int .i64 vi] 3)
        replace hacc := hacc.below (bl_alloc (Below.refl _ _) (.cells #[.int .i64 vi] 3))
        replace hsB : B ≤ (wn.alloc (.cells #[.int .i64 vi] 3)).heap.size := by have h_ := (bl_alloc (Below.refl wn.heap.size wn) (.cells #[.int .i64 vi] 3)).size; omega
        generalize wn.heap.size = g18 at *
        generalize wn.alloc (.cells #[.int .i64 vi] 3) = wn at *
        clear hHeld
        refine hK.out _ _ ⟨(bl_cell hbw hew), (blk_cell (bl_block hbw hk_g1) 4 (by rfl)), (bl_cell hbw hw1), (bl_cell hbw hw2)⟩ (fun hHeld => ?_)
        clear hK K
        refine norm_ (a' := ?_) ?_ ?_
        rotate_left
        · show Act.put _ (some 158) _ = _
          simp only [Act.put, List.setIfInBounds_toArray, List.set_cons_zero, List.set_cons_succ, i64_w, i32_w]
          rfl
        refine one_ (i := 19) (N := some 159) #[true, true, true, true, true, true, true, true, true, true, true, true, true, true, true, true, true, true, true, true, false] rfl rfl (by kernel_rfl) (by decide) (fun K hK => ?_)
        obtain ⟨v2, w2, hrun, ho2, hg2⟩ := ho3.app1 (P := Try.prog) 23 Try.underlying23 infoI27 g18 vi hk_18 (by rw [hVl.out]; omega) hsB
        rw [← hvsi.out] at ho2
        refine value_ (w1 := w2) (v := v2) (by rfl) rfl (exec_app (.tmp 140) (.tmp 158) 23 (by rfl) (by rfl) (by rfl) hrun) ?_
        replace hbw := hbw.trans (Below.mono hg2 hVB)
        replace hacc := AccAt.keep hacc hg2 (fun a_ h_ => by cases h_; exact hgB)
        replace hsB : B ≤ w2.heap.size := Nat.le_trans hsB hg2.size
        clear ho3 hk_18 hle_18 hrun hg2
        generalize w2 = wn at *
        clear hHeld
        refine hK.out _ _ ⟨(bl_cell hbw hew), (blk_cell (bl_block hbw hk_g1) 4 (by rfl)), (bl_cell hbw hw1), (bl_cell hbw hw2)⟩ (fun hHeld => ?_)
        clear hK K
        refine norm_ (a' := ?_) ?_ ?_
        rotate_left
        · show Act.put _ (some 159) _ = _
          simp only [Act.put, List.setIfInBounds_toArray, List.set_cons_zero, List.set_cons_succ, i64_w, i32_w]
          rfl
        refine pure_ (i := 20) (N := some 18) (v := ?_) (a' := ?_) #[true, true, true, true, true, true, true, true, true, true, true, true, true, true, true, true, true, true, true, true, true] rfl rfl (by kernel_rfl) (fun _ _ _ h => h) (Or.inl ⟨by rfl, ?_⟩) ?_ ?_
        rotate_left
        · intro w'
          go_simp
          with_reducible rfl
        rotate_left
        · simp only [Act.put, List.setIfInBounds_toArray, List.set_cons_zero, List.set_cons_succ, i64_w, i32_w]
          rfl
        refine done_ (by kernel_rfl) ?_
        have hb64 : ((i : Int) + 1) ≤ 9223372036854775807 := by omega
        go_wp2
        go_roundw
        case rel => exact ⟨i + 1, by omega, by go_num, hbw, hsB, ho2.rot, _, hacc⟩
        case measure => simp [intOf]; omega
    · have hie : i = N := by omega
      subst hie
      have hd : decide ((i : Int) < (i : Int)) = false := decide_eq_false (by omega)
      obtain ⟨Ay, cy, rfl, hcy, hry⟩ := ho3.rd
      obtain ⟨Ag, cg, rfl, hcg, hrg⟩ := ho3.rot.rd
      obtain ⟨Av, cv, rfl, hcv, hrv⟩ := ho3.rot.rot.rd
      have hyl' := hidI (hyl.out i)
      have hvl' := hidI (hvl.out i)
      have hgl' := hidI (hgl.out i)
      rw [hyl'.out, hvl'.out, hgl'.out]
      have hyI := hyB.out i (fun j hj => (hgood.Wne (by have := hlE.out; omega)).2)
      have hvI := hvB.out i (fun j hj => (hgood.Wne (by have := hlE.out; omega)).1)
      obtain ⟨hN5, hl1, hl3, hl4, hl5, hl6, hl7, hl8, hl9⟩ := hlE.out
      have hig : InI (gs i) := hgi.out i
      have hin_ := hgood.2.2
      have hiy : InI (ys i) := hyI.inI hyl'.out hin_.2.2.2.2.1 (by omega)
      have hiv : InI (vs i) := hvI.inI hvl'.out hin_.2.2.2.1 (by omega)
      have hlw := hlaw.out (ys i) (vs i) (by simp) (by rw [hN5]; exact hyI) (by have := hyl'.out; omega) (by rw [hN5]; exact hvI) (by have := hvl'.out; omega)
      rw [hN5, ← hgs0.out] at hlw
      obtain ⟨ly, hly⟩ : ∃ z, ys i = z := ⟨_, rfl⟩
      obtain ⟨lv, hlv⟩ : ∃ z, vs i = z := ⟨_, rfl⟩
      obtain ⟨lg, hlg⟩ : ∃ z, gs i = z := ⟨_, rfl⟩
      rw [hly] at hry hyl' hyI hiy hlw
      rw [hlv] at hrv hvl' hvI hiv hlw
      rw [hlg] at hrg hgl' hig hlw
      clear hys hvs hgs hyl hvl hgl hgi hyB hvB hly hlv hlg hi ho3 hsB hacc hyg hlaw hs ho hx hw hpW hpI hcy hcg hcv
      have hBR := baseP_rng hgood lg
      have hBa := hidI (fun W (h : Below V.heap.size V W) (h2 : RdI W Ag lg) => Base_calls gk p lg Ag cg W (hkit.below h) (by omega) (by omega) hin_.2.2.2.2.2.2.1 hin_.2.2.2.2.2.2.2.1 hin_.2.2.2.2.2.2.2.2 h2 hig)
      have hNx := hidI (fun W (h : Below V.heap.size V W) (h1 : RdI W Av lv) (h2 : RdI W Ay ly) => Next_yes gk p (baseP p lg) lv ly Av Ay cv cy W hgood (hkit.below h) h1 h2 hiv hiy hBR.1 hBR.2 (by have := hyl'.out; omega) (by have := hvl'.out; omega))
      have hIn := hidI (fun W A (l : List Int) (c : Nat) (h : Below V.heap.size V W) (h2 : RdI W A l) => Inside_calls gk p l A c W (hkit.below h) (by omega) h2)
      have hInY := hidI (fun W h h2 => hIn.out W Ay ly cy h h2)
      simp only [hyl'.out, hvl'.out, hgl'.out] at hBa hNx hInY
      obtain ⟨bs, hbs⟩ : ∃ z, baseP p lg = z := ⟨_, rfl⟩
      rw [hbs] at hlw hBa hNx
      obtain ⟨nl, hnl⟩ : ∃ z, (nextP p bs lv ly).1 = z := ⟨_, rfl⟩
      obtain ⟨is_, his⟩ : ∃ z, (nextP p bs lv ly).2 = z := ⟨_, rfl⟩
      simp only [hnl, his] at hlw hNx
      obtain ⟨hw1, rfl, hw3⟩ := hlw
      rw [hw1] at hInY
      have hInN := hidI (fun W A (c : Nat) h h2 => hIn.out W A nl c h h2)
      rw [hw3] at hInN
      clear hIn hw1 hw3 hbs hnl his hBR hig hiy hiv hyI hvI hin_ hN5 hl1 hl3 hl4 hl5 hl6 hl7 hl8 hl9
      have y0 : w9.cell? ⟨gl, 0, none⟩ = some (.pointer (some ⟨gk, 0, none⟩)) := blk_cell (bl_block hbw hk_gl) 0 (by rfl)
      go_wp2_with fail
      refine (hInY.out _ hbw hry).mono ?_
      rintro e w10 ⟨rfl, hb10⟩
      replace hbw := bl_step hbw hb10
      replace hry := hry.below hb10
      replace hrg := hrg.below hb10
      replace hrv := hrv.below hb10
      clear hb10 hInY y0
      go_upto_region 20 with fail
      replace hry : RdI w10.drew Ay ly := hry
      replace hrg : RdI w10.drew Ag lg := hrg
      replace hrv : RdI w10.drew Av lv := hrv
      replace hbw := bl_drew hbw
      refine start_ (n := 18) (S := fun w' => w'.cell? ⟨gl, 0, none⟩ = some (.pointer (some ⟨gk, 0, none⟩))) (ds := []) #[false, false, false, false, false, false, false, false, false, false, false, false, false, false, false, false, false, false] (by kernel_rfl) rfl rfl ((blk_cell (bl_block hbw hk_gl) 0 (by rfl))) (fun hHeld => ?_)
      generalize w10.drew = wn at *
      refine pure_ (i := 0) (N := some 168) (v := ?_) (a' := ?_) #[true, false, false, false, false, false, false, false, false, false, false, false, false, false, false, false, false, false] rfl rfl (by kernel_rfl) (fun _ _ _ h => h) (Or.inl ⟨by rfl, ?_⟩) ?_ ?_
      rotate_left
      · intro w'
        go_simp
        with_reducible rfl
      rotate_left
      · simp only [Act.put, List.setIfInBounds_toArray, List.set_cons_zero, List.set_cons_succ, i64_w, i32_w]
        rfl
      refine pure_ (i := 1) (N := some 169) (v := ?_) (a' := ?_) #[true, true, false, false, false, false, false, false, false, false, false, false, false, false, false, false, false, false] rfl rfl (by kernel_rfl) (fun _ _ _ h => h) (Or.inl ⟨by rfl, ?_⟩) ?_ ?_
      rotate_left
      · intro w'
        go_simp
        with_reducible rfl
      rotate_left
      · simp only [Act.put, List.setIfInBounds_toArray, List.set_cons_zero, List.set_cons_succ, i64_w, i32_w]
        rfl
      refine pure_ (i := 2) (N := some 170) (v := ?_) (a' := ?_) #[true, true, true, false, false, false, false, false, false, false, false, false, false, false, false, false, false, false] rfl rfl (by kernel_rfl) (fun _ _ _ h => h) (Or.inl ⟨by rfl, ?_⟩) ?_ ?_
      rotate_left
      · intro w'
        go_simp
        with_reducible rfl
      rotate_left
      · simp only [Act.put, List.setIfInBounds_toArray, List.set_cons_zero, List.set_cons_succ, i64_w, i32_w]
        rfl
      refine pure_ (i := 4) (N := some 172) (v := ?_) (a' := ?_) #[true, true, true, false, true, false, false, false, false, false, false, false, false, false, false, false, false, false] rfl rfl (by kernel_rfl) (fun _ _ _ h => h) (Or.inl ⟨by rfl, ?_⟩) ?_ ?_
      rotate_left
      · intro w'
        go_simp
        with_reducible rfl
      rotate_left
      · simp only [Act.put, List.setIfInBounds_toArray, List.set_cons_zero, List.set_cons_succ, i64_w, i32_w]
        rfl
      refine pure_ (i := 5) (N := some 173) (v := ?_) (a' := ?_) #[true, true, true, false, true, true, false, false, false, false, false, false, false, false, false, false, false, false] rfl rfl (by kernel_rfl) (fun _ _ _ h => h) (Or.inl ⟨by rfl, ?_⟩) ?_ ?_
      rotate_left
      · intro w'
        go_simp
        with_reducible rfl
      rotate_left
      · simp only [Act.put, List.setIfInBounds_toArray, List.set_cons_zero, List.set_cons_succ, i64_w, i32_w]
        rfl
      refine pure_ (i := 6) (N := some 174) (v := ?_) (a' := ?_) #[true, true, true, false, true, true, true, false, false, false, false, false, false, false, false, false, false, false] rfl rfl (by kernel_rfl) (fun _ _ _ h => h) (Or.inl ⟨by rfl, ?_⟩) ?_ ?_
      rotate_left
      · intro w'
        go_simp
        with_reducible rfl
      rotate_left
      · simp only [Act.put, List.setIfInBounds_toArray, List.set_cons_zero, List.set_cons_succ, i64_w, i32_w]
        rfl
      refine pure_ (i := 8) (N := some 176) (v := ?_) (a' := ?_) #[true, true, true, false, true, true, true, false, true, false, false, false, false, false, false, false, false, false] rfl rfl (by kernel_rfl) (fun _ _ _ h => h) (Or.inl ⟨by rfl, ?_⟩) ?_ ?_
      rotate_left
      · intro w'
        go_simp
        with_reducible rfl
      rotate_left
      · simp only [Act.put, List.setIfInBounds_toArray, List.set_cons_zero, List.set_cons_succ, i64_w, i32_w]
        rfl
      refine pure_ (i := 10) (N := some 178) (v := ?_) (a' := ?_) #[true, true, true, false, true, true, true, false, true, false, true, false, false, false, false, false, false, false] rfl rfl (by kernel_rfl) (fun _ _ _ h => h) (Or.inl ⟨by rfl, ?_⟩) ?_ ?_
      rotate_left
      · intro w'
        go_simp
        with_reducible rfl
      rotate_left
      · simp only [Act.put, List.setIfInBounds_toArray, List.set_cons_zero, List.set_cons_succ, i64_w, i32_w]
        rfl
      refine pure_ (i := 11) (N := some 179) (v := ?_) (a' := ?_) #[true, true, true, false, true, true, true, false, true, false, true, true, false, false, false, false, false, false] rfl rfl (by kernel_rfl) (fun _ _ _ h => h) (Or.inl ⟨by rfl, ?_⟩) ?_ ?_
      rotate_left
      · intro w'
        go_simp
        with_reducible rfl
      rotate_left
      · simp only [Act.put, List.setIfInBounds_toArray, List.set_cons_zero, List.set_cons_succ, i64_w, i32_w]
        rfl
      refine take_ (i := 3) (N := some 171) (v := ?_) (a' := ?_) #[true, true, true, true, true, true, true, false, true, false, true, true, false, false, false, false, false, false] rfl rfl (by kernel_rfl) (fun _ _ _ h => h) (Or.inl ⟨by rfl, ?_⟩) hHeld ?_ ?_
      rotate_left
      · intro w' s0
        go_simp
        with_reducible rfl
      rotate_left
      · simp only [Act.put, List.setIfInBounds_toArray, List.set_cons_zero, List.set_cons_succ, i64_w, i32_w]
        rfl
      refine take_ (i := 7) (N := some 175) (v := ?_) (a' := ?_) #[true, true, true, true, true, true, true, true, true, false, true, true, false, false, false, false, false, false] rfl rfl (by kernel_rfl) (fun _ _ _ h => h) (Or.inl ⟨by rfl, ?_⟩) hHeld ?_ ?_
      rotate_left
      · intro w' s0
        go_simp
        with_reducible rfl
      rotate_left
      · simp only [Act.put, List.setIfInBounds_toArray, List.set_cons_zero, List.set_cons_succ, i64_w, i32_w]
        rfl
      refine one_ (i := 9) (N := some 177) #[true, true, true, true, true, true, true, true, true, true, true, true, false, false, false, false, false, false] rfl rfl (by kernel_rfl) (by decide) (fun K hK => ?_)
      refine goes_ Try.func24 (by kernel_rfl) rfl #[.pointer (some ⟨gk, 0, none⟩), .slice Ag i cg] (by rfl) rfl rfl (by simp only [List.map_toArray, List.map_cons, List.map_nil] <;> rfl) ?_
      refine (hBa.out _ hbw hrg).mono ?_
      rintro e wn ⟨rfl, hbn⟩
      refine ⟨_, rfl, ?_⟩
      replace hbw := bl_step hbw hbn
      replace hry := hry.below hbn
      replace hrv := hrv.below hbn
      clear hbn
      clear hHeld
      refine hK.out _ _ ((blk_cell (bl_block hbw hk_gl) 0 (by rfl))) (fun hHeld => ?_)
      clear hK K
      refine norm_ (a' := ?_) ?_ ?_
      rotate_left
      · show Act.put _ (some 177) _ = _
        simp only [Act.put, List.setIfInBounds_toArray, List.set_cons_zero, List.set_cons_succ, i64_w, i32_w]
        rfl
      refine one_ (i := 12) (N := some 180) #[true, true, true, true, true, true, true, true, true, true, true, true, true, false, false, false, false, false] rfl rfl (by kernel_rfl) (by decide) (fun K hK => ?_)
      refine goes_ Try.func25 (by kernel_rfl) rfl #[.pointer (some ⟨gk, 0, none⟩), .int .i64 bs, .slice Av i cv, .slice Ay i cy] (by rfl) rfl rfl (by simp only [List.map_toArray, List.map_cons, List.map_nil] <;> rfl) ?_
      refine (hNx.out _ hbw hrv hry).mono ?_
      rintro e wn' ⟨An, cn, rfl, hrn, hbn⟩
      refine ⟨_, rfl, ?_⟩
      replace hbw := bl_step hbw hbn
      clear hbn hry hrv hrg
      generalize wn' = wn at *
      clear hHeld
      refine hK.out _ _ ((blk_cell (bl_block hbw hk_gl) 0 (by rfl))) (fun hHeld => ?_)
      clear hK K
      refine norm_ (a' := ?_) ?_ ?_
      rotate_left
      · show Act.put _ (some 180) _ = _
        simp only [Act.put, List.setIfInBounds_toArray, List.set_cons_zero, List.set_cons_succ, i64_w, i32_w]
        rfl
      refine pure_ (i := 13) (N := some 167) (v := ?_) (a' := ?_) #[true, true, true, true, true, true, true, true, true, true, true, true, true, true, false, false, false, false] rfl rfl (by kernel_rfl) (fun _ _ _ h => h) (Or.inl ⟨by rfl, ?_⟩) ?_ ?_
      rotate_left
      · intro w'
        go_simp
        with_reducible rfl
      rotate_left
      · simp only [Act.put, List.setIfInBounds_toArray, List.set_cons_zero, List.set_cons_succ, i64_w, i32_w]
        rfl
      refine pure_ (i := 14) (N := some 181) (v := ?_) (a' := ?_) #[true, true, true, true, true, true, true, true, true, true, true, true, true, true, true, false, false, false] rfl rfl (by kernel_rfl) (fun _ _ _ h => h) (Or.inl ⟨by rfl, ?_⟩) ?_ ?_
      rotate_left
      · intro w'
        go_simp
        with_reducible rfl
      rotate_left
      · simp only [Act.put, List.setIfInBounds_toArray, List.set_cons_zero, List.set_cons_succ, i64_w, i32_w]
        rfl
      refine pure_ (i := 15) (N := some 182) (v := ?_) (a' := ?_) #[true, true, true, true, true, true, true, true, true, true, true, true, true, true, true, true, false, false] rfl rfl (by kernel_rfl) (fun _ _ _ h => h) (Or.inl ⟨by rfl, ?_⟩) ?_ ?_
      rotate_left
      · intro w'
        go_simp
        with_reducible rfl
      rotate_left
      · simp only [Act.put, List.setIfInBounds_toArray, List.set_cons_zero, List.set_cons_succ, i64_w, i32_w]
        rfl
      refine pure_ (i := 16) (N := some 22) (v := ?_) (a' := ?_) #[true, true, true, true, true, true, true, true, true, true, true, true, true, true, true, true, true, false] rfl rfl (by kernel_rfl) (fun _ _ _ h => h) (Or.inl ⟨by rfl, ?_⟩) ?_ ?_
      rotate_left
      · intro w'
        go_simp
        with_reducible rfl
      rotate_left
      · simp only [Act.put, List.setIfInBounds_toArray, List.set_cons_zero, List.set_cons_succ, i64_w, i32_w]
        rfl
      refine pure_ (i := 17) (N := some 23) (v := ?_) (a' := ?_) #[true, true, true, true, true, true, true, true, true, true, true, true, true, true, true, true, true, true] rfl rfl (by kernel_rfl) (fun _ _ _ h => h) (Or.inl ⟨by rfl, ?_⟩) ?_ ?_
      rotate_left
      · intro w'
        go_simp
        with_reducible rfl
      rotate_left
      · simp only [Act.put, List.setIfInBounds_toArray, List.set_cons_zero, List.set_cons_succ, i64_w, i32_w]
        rfl
      refine done_ (by kernel_rfl) ?_
      go_wp2_with fail
      refine (alive16_calls _).mono ?_
      rintro e w11 ⟨rfl, hb11⟩
      replace hbw := bl_step hbw hb11
      replace hrn := hrn.below hb11
      clear hb11
      have y0 : w11.cell? ⟨gl, 0, none⟩ = some (.pointer (some ⟨gk, 0, none⟩)) := blk_cell (bl_block hbw hk_gl) 0 (by rfl)
      go_wp2_with fail
      refine (hInN.out _ _ _ hbw hrn).mono ?_
      rintro e w12 ⟨rfl, hb12⟩
      replace hbw := bl_step hbw hb12
      subst hw0
      go_wp2
      go_ret
      exact ⟨rfl, bl_step hbw0 hbw⟩
end Go.Proofs.Ythdaidmjjcmccaa
