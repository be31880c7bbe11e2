/- Proved here: lemmas and contracts (what a function of the program computes) that the proofs of the laws of this seat lean on. Conditions: as each theorem states. -/
import Derived.Test.YthdaidmjjcmccaaPl37
import Derived.Test.YthdaidmjjcmccaaPl33
set_option linter.unusedVariables false
set_option linter.unusedSimpArgs false
namespace Go.Pk
open Go.RowKit Go.Pk.Rx
theorem all_range_succ (f : Nat → Bool) (i : Nat) : (List.range (i + 1)).all f = ((List.range i).all f && f i) := by rw [List.range_succ, List.all_append]; simp
theorem Le.inS {a b : Sp} (h : Le a b) : inS a b = true := by
  rw [in_iff]; unfold Le at h; omega
theorem newOk_yes {p : Pl} {ls : List Int} (hin : InP p) (hsi : InI ls) (h : newOk p ls = true) : GoodP p ∧ InI (slP p ls) ∧ slacksP p ls = true ∧ kitOk p = true := by
  unfold newOk at h
  rw [Bool.and_eq_true] at h
  exact ⟨kitOk_good h.1 hin, InI.of_slP hsi.getD, h.2, h.1⟩
end Go.Pk
namespace Go.Proofs.Ythdaidmjjcmccaa
open Go.RowKit Go.Pk Go.Proofs.YthdaidmjjcmccaaW.PrintLast
set_option maxHeartbeats 8000000 in
set_option maxRecDepth 100000 in
theorem PSplits_walk (q : PA) (p : Pl) (ls : List Int) (lb : List Sp) (lx : List Int) (as_ ab ax : Option Addr) (cs cb cx : Nat) (w : World) (hq : q.rd w p) (hin : InP p) (hs : RdI w as_ ls) (hsi : InI ls) (hb : RdS w ab lb) (hib : InS lb) (hx : RdI w ax lx) :
    Calls Try.prog 4 #[.agg (q.cells p).toArray, .slice as_ ls.length cs, .slice ab lb.length cb, .slice ax lx.length cx] w fun e w' => e = .returned (.bool true) ∧ Below w.heap.size w w' := by
  have hLt := hidI (fun W (h : q.rd W p) => Light_calls q p W h)
  have hNw := hidI (fun W (h : q.rd W p) (h2 : RdI W as_ ls) => New16_calls q p as_ ls cs W h hin h2)
  have hok := hidI (fun h => newOk_yes (p := p) (ls := ls) hin hsi h)
  obtain ⟨aA, cA, aB, cB, aW, cW, aI, cI, aS, cS, aG, cG⟩ := q
  unfold PA.cells at hLt hNw ⊢
  simp only [] at hLt hNw
  obtain ⟨ok1, hok1⟩ : ∃ z, newOk p ls = z := ⟨_, rfl⟩
  obtain ⟨lt1, hlt1⟩ : ∃ z, lightP p = z := ⟨_, rfl⟩
  rw [hok1] at hNw hok
  rw [hlt1] at hLt
  clear hok1 hlt1 hin
  replace hsi := hidI hsi
  go_enter Try.func4, Try.ntmps4
  go_upto_region 1 with fail
  have hk_g1 := blk_new w (.cells #[.slice aA p.A.length cA, .slice aB p.B.length cB, .int .i64 p.inp.lo, .int .i64 p.inp.hi, .slice aW p.W.length cW, .slice aI p.Inv.length cI, .slice aS p.Safe.length cS, .slice aG p.gain.length cG, .int .i64 p.bias] 28)
  have hbw0 := bl_alloc (Below.refl w.heap.size w) (.cells #[.slice aA p.A.length cA, .slice aB p.B.length cB, .int .i64 p.inp.lo, .int .i64 p.inp.hi, .slice aW p.W.length cW, .slice aI p.Inv.length cI, .slice aS p.Safe.length cS, .slice aG p.gain.length cG, .int .i64 p.bias] 28)
  generalize w.alloc (.cells #[.slice aA p.A.length cA, .slice aB p.B.length cB, .int .i64 p.inp.lo, .int .i64 p.inp.hi, .slice aW p.W.length cW, .slice aI p.Inv.length cI, .slice aS p.Safe.length cS, .slice aG p.gain.length cG, .int .i64 p.bias] 28) = W1 at *
  obtain ⟨w0, hw0⟩ : ∃ z : World, z = w := ⟨_, rfl⟩
  obtain ⟨g1, hg1⟩ : ∃ g, w.heap.size = g := ⟨_, rfl⟩
  rw [hg1] at hk_g1
  rw [hg1]
  clear hg1
  rw [← hw0] at hbw0 hq hs hb hx
  have y0 : W1.cell? ⟨g1, 0, none⟩ = some (.slice aA p.A.length cA) := blk_cell hk_g1 0 (by rfl)
  have y1 : W1.cell? ⟨g1, 1, none⟩ = some (.slice aB p.B.length cB) := blk_cell hk_g1 1 (by rfl)
  have y2 : W1.cell? ⟨g1, 2, none⟩ = some (.int .i64 p.inp.lo) := blk_cell hk_g1 2 (by rfl)
  have y3 : W1.cell? ⟨g1, 3, none⟩ = some (.int .i64 p.inp.hi) := blk_cell hk_g1 3 (by rfl)
  have y4 : W1.cell? ⟨g1, 4, none⟩ = some (.slice aW p.W.length cW) := blk_cell hk_g1 4 (by rfl)
  have y5 : W1.cell? ⟨g1, 5, none⟩ = some (.slice aI p.Inv.length cI) := blk_cell hk_g1 5 (by rfl)
  have y6 : W1.cell? ⟨g1, 6, none⟩ = some (.slice aS p.Safe.length cS) := blk_cell hk_g1 6 (by rfl)
  have y7 : W1.cell? ⟨g1, 7, none⟩ = some (.slice aG p.gain.length cG) := blk_cell hk_g1 7 (by rfl)
  have y8 : W1.cell? ⟨g1, 8, none⟩ = some (.int .i64 p.bias) := blk_cell hk_g1 8 (by rfl)
  go_wp2_with fail
  refine (hNw.out W1 (hq.below hbw0) (hs.below hbw0)).mono ?_
  rintro e V ⟨hb2, h1, h2⟩
  replace hbw0 := bl_step hbw0 hb2
  replace hk_g1 := bl_block hb2 hk_g1
  clear hb2 hNw y0 y1 y2 y3 y4 y5 y6 y7 y8
  replace hb := hb.below hbw0
  replace hx := hx.below hbw0
  have y0 : V.cell? ⟨g1, 0, none⟩ = some (.slice aA p.A.length cA) := blk_cell hk_g1 0 (by rfl)
  have y1 : V.cell? ⟨g1, 1, none⟩ = some (.slice aB p.B.length cB) := blk_cell hk_g1 1 (by rfl)
  have y2 : V.cell? ⟨g1, 2, none⟩ = some (.int .i64 p.inp.lo) := blk_cell hk_g1 2 (by rfl)
  have y3 : V.cell? ⟨g1, 3, none⟩ = some (.int .i64 p.inp.hi) := blk_cell hk_g1 3 (by rfl)
  have y4 : V.cell? ⟨g1, 4, none⟩ = some (.slice aW p.W.length cW) := blk_cell hk_g1 4 (by rfl)
  have y5 : V.cell? ⟨g1, 5, none⟩ = some (.slice aI p.Inv.length cI) := blk_cell hk_g1 5 (by rfl)
  have y6 : V.cell? ⟨g1, 6, none⟩ = some (.slice aS p.Safe.length cS) := blk_cell hk_g1 6 (by rfl)
  have y7 : V.cell? ⟨g1, 7, none⟩ = some (.slice aG p.gain.length cG) := blk_cell hk_g1 7 (by rfl)
  have y8 : V.cell? ⟨g1, 8, none⟩ = some (.int .i64 p.bias) := blk_cell hk_g1 8 (by rfl)
  cases ok1
  · obtain ⟨er, hne, rfl⟩ := h1 rfl
    have dE : (er == 0) = false := by simpa using hne
    have dE2 : (er != 0) = true := by simpa using hne
    clear h1 h2 hok hs hne
    go_wp2_with fail
    refine (hLt.out V (hq.below hbw0)).mono ?_
    rintro e w3 ⟨rfl, hbw⟩
    clear hLt hq hk_g1 y0 y1 y2 y3 y4 y5 y6 y7 y8
    cases lt1
    · skip
      have hbw := bl_step hbw0 hbw
      go_wp2_with fail
      refine (alive16_calls _).mono ?_
      rintro e wz ⟨rfl, hbz⟩
      replace hbw := bl_step hbw hbz
      subst hw0
      go_wp2
      go_ret
      exact ⟨rfl, hbw⟩
    · skip
      have hbw := bl_step hbw0 hbw
      go_wp2_with fail
      refine (alive16_calls _).mono ?_
      rintro e wz ⟨rfl, hbz⟩
      replace hbw := bl_step hbw hbz
      subst hw0
      go_wp2
      go_ret
      exact ⟨rfl, hbw⟩
  obtain ⟨gl, rfl, hlk, hgl⟩ := h2 rfl
  obtain ⟨hgood, hsl, hslk, -⟩ := hok.out (by simp)
  clear h1 h2 hok hs hgl
  go_wp2_with fail
  refine (hLt.out V (hq.below hbw0)).mono ?_
  rintro e w3 ⟨rfl, hbw⟩
  clear hLt hq y0 y1 y2 y3 y4 y5 y6 y7 y8 hk_g1
  cases lt1
  · skip
    have hbw := bl_step hbw0 hbw
    go_wp2_with fail
    refine (alive16_calls _).mono ?_
    rintro e wz ⟨rfl, hbz⟩
    replace hbw := bl_step hbw hbz
    subst hw0
    go_wp2
    go_ret
    exact ⟨rfl, hbw⟩
  have hlk0 := hidI hlk
  obtain ⟨gk, aS, cS, hk_gl, -, -, hkit⟩ := hlk
  obtain ⟨N, hN⟩ : ∃ N, Hid (p.B.length = N) := ⟨_, rfl⟩
  have hlens := hidI hgood.lens
  have hN3 : 1 ≤ N ∧ N ≤ 3 := by have := hlens.out; have := hN.out; omega
  have hDm := hidI (fun W (h : Below V.heap.size V W) => Dim_calls gk p W (hkit.below h))
  rw [hN.out] at hDm
  have y0 : w3.cell? ⟨gl, 0, none⟩ = some (.pointer (some ⟨gk, 0, none⟩)) := blk_cell (bl_block hbw hk_gl) 0 (by rfl)
  go_wp2_with fail
  refine (hDm.out _ hbw).mono ?_
  rintro e w4 ⟨rfl, hw4⟩
  subst hw4
  clear y0
  by_cases h1 : ((lb.length : Int) != (N : Int)) = true
  · skip
    have hbw := bl_step hbw0 hbw
    go_wp2_with fail
    refine (alive16_calls _).mono ?_
    rintro e wz ⟨rfl, hbz⟩
    replace hbw := bl_step hbw hbz
    subst hw0
    go_wp2
    go_ret
    exact ⟨rfl, hbw⟩
  have e1 : Hid (lb.length = N) := by unfold Hid; simp at h1; omega
  replace h1 : ((lb.length : Int) != (N : Int)) = false := by simpa using h1
  by_cases h2 : (lx.length : Int) < (lb.length : Int)
  · have d2 : decide ((lx.length : Int) < (lb.length : Int)) = true := decide_eq_true h2
    have hbw := bl_step hbw0 hbw
    go_wp2_with fail
    refine (alive16_calls _).mono ?_
    rintro e wz ⟨rfl, hbz⟩
    replace hbw := bl_step hbw hbz
    subst hw0
    go_wp2
    go_ret
    exact ⟨rfl, hbw⟩
  have e2 : Hid (N ≤ lx.length) := by have := e1.out; unfold Hid; omega
  have d2 : decide ((lx.length : Int) < (lb.length : Int)) = false := decide_eq_false h2
  have d2n : decide (lx.length < lb.length) = false := decide_eq_false (by omega)
  have hSp := hidI (fun W (h : Below V.heap.size V W) => Split_calls gl p (slP p ls) ab lb cb W (hlk0.out.below h) (hb.below h) hib (by have := e1.out; omega))
  have hH := hidI (fun W A (l : List Sp) (c : Nat) (h : Below V.heap.size V W) (hl : RdS W A l) (hil : InS l) (hsm : l.length ≤ 1000000) => Holds_calls gl p (slP p ls) A l c W hgood (hlk0.out.below h) hsl hl hil hsm)
  clear h2
  go_wp2_with fail
  refine (hSp.out _ hbw).mono ?_
  rintro e w5 ⟨Aa, ca, Ab, cb', rfl, hra, hrb, hb5, -, -⟩
  replace hbw := bl_step hbw hb5
  clear hb5 hSp h1 d2 d2n
  cases hsp : splitP lb with
  | none =>
    rw [show splitA lb = [] by unfold splitA; rw [hsp], show splitB lb = [] by unfold splitB; rw [hsp], show splitO lb = false by unfold splitO; rw [hsp]; rfl]
    simp only [List.length_nil]
    clear hra hrb hsp
    have hbw := bl_step hbw0 hbw
    go_wp2_with fail
    refine (alive16_calls _).mono ?_
    rintro e wz ⟨rfl, hbz⟩
    replace hbw := bl_step hbw hbz
    subst hw0
    go_wp2
    go_ret
    exact ⟨rfl, hbw⟩
  | some ab2 =>
    obtain ⟨la, lb2⟩ := ab2
    have ea : splitA lb = la := by unfold splitA; rw [hsp]
    have eb : splitB lb = lb2 := by unfold splitB; rw [hsp]
    rw [ea] at hra
    rw [eb] at hrb
    rw [ea, eb, show splitO lb = true by unfold splitO; rw [hsp]; rfl]
    clear ea eb
    have hlab := split_length hsp
    have hne := (split_some hsp).2.1
    have hia := split_in hsp hib
    have hNlb := e1.out
    have hys := hidI (fun n => clampsL_succ lx lb n)
    have hyB := clampsL_inB (x := lx) (b := lb) (n := N) (fun j hj => hne j (by omega))
    have hlaw := splits_law hgood (ls := ls) (slacks_iff.1 hslk).1 hsp (by rw [hNlb, hN.out]) (clampsL lx lb N) (by rw [hN.out]; exact hyB)
    rw [hN.out] at hlaw
    have hyg : Hid (∀ j, j < N → (clampsL lx lb N).getD j 0 = clampTo (lx.getD j 0) (lb.getD j ⟨0, 0⟩).lo (lb.getD j ⟨0, 0⟩).hi) := fun j hj => by unfold clampsL; rw [getD_map_range _ _ _ _ hj]
    obtain ⟨ly, hly⟩ : ∃ z, clampsL lx lb N = z := ⟨_, rfl⟩
    rw [hly] at hlaw hyg
    obtain ⟨fa, hfa⟩ : ∃ f : Nat → Bool, f = fun j => hasS (la.getD j ⟨0, 0⟩) (ly.getD j 0) := ⟨_, rfl⟩
    obtain ⟨fb, hfb⟩ : ∃ f : Nat → Bool, f = fun j => hasS (lb2.getD j ⟨0, 0⟩) (ly.getD j 0) := ⟨_, rfl⟩
    rw [← hfa, ← hfb] at hlaw
    obtain ⟨hla1, hla2, hla3, hla4⟩ := hlaw
    have hfa' : Hid (∀ j, fa j = hasS (la.getD j ⟨0, 0⟩) (ly.getD j 0)) := fun j => by rw [hfa]
    have hfb' : Hid (∀ j, fb j = hasS (lb2.getD j ⟨0, 0⟩) (ly.getD j 0)) := fun j => by rw [hfb]
    clear hfa hfb hly hyB hys hsp
    replace hla1 := hidI hla1
    replace hla2 := hidI hla2
    replace hla3 := hidI hla3
    have hla4 := hidI hla4
    replace hne := hidI hne
    have hll : Hid (la.length = N ∧ lb2.length = N ∧ lb.length = N) := ⟨by omega, by omega, hNlb⟩
    have hHb := hidI (fun W (h : Below w5.heap.size w5 W) => hH.out W ab lb cb (bl_step hbw h) ((hb.below hbw).below h) hib (by omega))
    have hHa1 := hidI (fun W (h : Below w5.heap.size w5 W) => hH.out W Aa la ca (bl_step hbw h) (hra.below h) hia.1 (by omega))
    have hHa2 := hidI (fun W (h : Below w5.heap.size w5 W) => hH.out W Ab lb2 cb' (bl_step hbw h) (hrb.below h) hia.2 (by omega))
    replace hb := hb.below hbw
    replace hx := hx.below hbw
    have hbw9 := bl_step hbw0 hbw
    clear hbw hbw0 hlab hNlb hH hlk0 hkit hk_gl hDm hlens hia hgood hsl hslk hsi
    have hbw0 := hbw9
    clear hbw9
    go_wp2
    go_loopw [14, 15, 16, 17] (fun x1 x2 x3 x wr => ∃ i : Nat, i ≤ N ∧ x = .int .i64 i ∧ x1 = .bool true ∧ x2 = .bool ((List.range i).all fa) ∧ x3 = .bool ((List.range i).all fb) ∧ Below w5.heap.size w5 wr) (fun _ _ _ x _ => (N - intOf x).toNat)
    case atStart => exact ⟨0, by omega, rfl, rfl, rfl, rfl, Below.refl _ _⟩
    case round =>
      obtain ⟨i, hi, rfl, rfl, rfl, rfl, hbw⟩ := hrel
      by_cases hlt : i < N
      · have hd : decide ((i : Int) < (lb.length : Int)) = true := decide_eq_true (by have := hll.out; omega)
        have il1 : i < lb.length := by have := hll.out; omega
        have il2 : i < la.length := by have := hll.out; omega
        have il3 : i < lb2.length := by have := hll.out; omega
        have il4 : i < lx.length := by have := e2.out; omega
        have hPa := hidI (all_range_succ fa i)
        have hPb := hidI (all_range_succ fb i)
        obtain ⟨ba, hba⟩ : ∃ z, (List.range i).all fa = z := ⟨_, rfl⟩
        obtain ⟨bb, hbb⟩ : ∃ z, (List.range i).all fb = z := ⟨_, rfl⟩
        rw [hba] at hPa ⊢
        rw [hbb] at hPb ⊢
        clear hba hbb
        obtain ⟨bq, oq, rfl, hq1, hq2⟩ := hb.at (k := i) (by have := hll.out; omega)
        obtain ⟨bA, oA, rfl, hA1, hA2⟩ := hra.at (k := i) (by have := hll.out; omega)
        obtain ⟨bB, oB, rfl, hB1, hB2⟩ := hrb.at (k := i) (by have := hll.out; omega)
        obtain ⟨bx, ox, rfl, hex⟩ := hx.at (i := i) (by have := e2.out; omega)
        have m1 := hla1.out i hlt
        have m3 := hla3.out i hlt
        have m4 := hfa'.out i
        have m5 := hfb'.out i
        have m6 := hyg.out i hlt
        obtain ⟨⟨bl, bh⟩, hz1⟩ : ∃ z, lb.getD i ⟨0, 0⟩ = z := ⟨_, rfl⟩
        obtain ⟨⟨al, ah⟩, hz2⟩ : ∃ z, la.getD i ⟨0, 0⟩ = z := ⟨_, rfl⟩
        obtain ⟨⟨dl, dh⟩, hz3⟩ : ∃ z, lb2.getD i ⟨0, 0⟩ = z := ⟨_, rfl⟩
        obtain ⟨xi, hz4⟩ : ∃ z, lx.getD i 0 = z := ⟨_, rfl⟩
        obtain ⟨yi, hz5⟩ : ∃ z, ly.getD i 0 = z := ⟨_, rfl⟩
        rw [hz1] at hq1 hq2 m1 m3 m6
        rw [hz2] at hA1 hA2 m3 m4
        rw [hz3] at hB1 hB2 m3 m5
        rw [hz4] at hex m6
        rw [hz5] at m1 m4 m5 m6
        simp only [] at hq1 hq2 hA1 hA2 hB1 hB2 m6
        clear hz1 hz2 hz3 hz4 hz5
        have i1 := Le.inS m3.1
        have i2 := Le.inS m3.2
        have hHs := hidI (fun W => refHas_calls bl bh yi W)
        have hHa := hidI (fun W => refHas_calls al ah yi W)
        have hHd := hidI (fun W => refHas_calls dl dh yi W)
        have hI1 := hidI (fun W => refIn_calls al ah bl bh W)
        have hI2 := hidI (fun W => refIn_calls dl dh bl bh W)
        rw [m1] at hHs
        rw [← m4] at hHa
        rw [← m5] at hHd
        rw [i1] at hI1
        rw [i2] at hI2
        replace m6 := hidI m6
        obtain ⟨ra, hra_⟩ : ∃ z, Hid (fa i = z) := ⟨_, rfl⟩
        obtain ⟨rb, hrb_⟩ : ∃ z, Hid (fb i = z) := ⟨_, rfl⟩
        rw [hra_.out] at hHa hPa
        rw [hrb_.out] at hHd hPb
        clear m1 m3 m4 m5 i1 i2
        go_upto_region 13 with fail
        replace hbw := bl_drew hbw
        refine start_ (n := 16) (S := fun w' => w'.cell? ⟨bx, ox + i, none⟩ = some (.int .i64 xi) ∧ w'.cell? ⟨bq, oq + i * 2, none⟩ = some (.int .i64 bl) ∧ w'.cell? ⟨bq, oq + i * 2 + 1, none⟩ = some (.int .i64 bh)) (ds := []) #[false, false, false, false, false, false, false, false, false, false, false, false, false, false, false, false] (by kernel_rfl) rfl rfl ⟨(bl_cell hbw hex), (bl_cell hbw hq1), (bl_cell hbw hq2)⟩ (fun hHeld => ?_)
        generalize wr.drew = wn at *
        refine pure_ (i := 0) (N := some 80) (v := ?_) (a' := ?_) #[true, false, false, false, false, false, false, false, false, false, false, false, false, false, false, false] rfl rfl (by kernel_rfl) (fun _ _ _ h => h) (Or.inl ⟨by rfl, ?_⟩) ?_ ?_
        rotate_left
        · intro w'
          go_simp
          with_reducible rfl
        rotate_left
        · simp only [Act.put, List.setIfInBounds_toArray, List.set_cons_zero, List.set_cons_succ, i64_w, i32_w]
          rfl
        refine pure_ (i := 1) (N := some 81) (v := ?_) (a' := ?_) #[true, true, false, false, false, false, false, false, false, false, false, false, false, false, false, false] rfl rfl (by kernel_rfl) (fun _ _ _ h => h) (Or.inl ⟨by rfl, ?_⟩) ?_ ?_
        rotate_left
        · intro w'
          go_simp
          with_reducible rfl
        rotate_left
        · simp only [Act.put, List.setIfInBounds_toArray, List.set_cons_zero, List.set_cons_succ, i64_w, i32_w]
          rfl
        refine pure_ (i := 2) (N := some 82) (v := ?_) (a' := ?_) #[true, true, true, false, false, false, false, false, false, false, false, false, false, false, false, false] rfl rfl (by kernel_rfl) (fun _ _ _ h => h) (Or.inl ⟨by rfl, ?_⟩) ?_ ?_
        rotate_left
        · intro w'
          go_simp
          with_reducible rfl
        rotate_left
        · simp only [Act.put, List.setIfInBounds_toArray, List.set_cons_zero, List.set_cons_succ, i64_w, i32_w]
          rfl
        refine pure_ (i := 4) (N := some 84) (v := ?_) (a' := ?_) #[true, true, true, false, true, false, false, false, false, false, false, false, false, false, false, false] rfl rfl (by kernel_rfl) (fun _ _ _ h => h) (Or.inl ⟨by rfl, ?_⟩) ?_ ?_
        rotate_left
        · intro w'
          go_simp
          with_reducible rfl
        rotate_left
        · simp only [Act.put, List.setIfInBounds_toArray, List.set_cons_zero, List.set_cons_succ, i64_w, i32_w]
          rfl
        refine pure_ (i := 5) (N := some 85) (v := ?_) (a' := ?_) #[true, true, true, false, true, true, false, false, false, false, false, false, false, false, false, false] rfl rfl (by kernel_rfl) (fun _ _ _ h => h) (Or.inl ⟨by rfl, ?_⟩) ?_ ?_
        rotate_left
        · intro w'
          go_simp
          with_reducible rfl
        rotate_left
        · simp only [Act.put, List.setIfInBounds_toArray, List.set_cons_zero, List.set_cons_succ, i64_w, i32_w]
          rfl
        refine pure_ (i := 6) (N := some 86) (v := ?_) (a' := ?_) #[true, true, true, false, true, true, true, false, false, false, false, false, false, false, false, false] rfl rfl (by kernel_rfl) (fun _ _ _ h => h) (Or.inl ⟨by rfl, ?_⟩) ?_ ?_
        rotate_left
        · intro w'
          go_simp
          with_reducible rfl
        rotate_left
        · simp only [Act.put, List.setIfInBounds_toArray, List.set_cons_zero, List.set_cons_succ, i64_w, i32_w]
          rfl
        refine pure_ (i := 7) (N := some 87) (v := ?_) (a' := ?_) #[true, true, true, false, true, true, true, true, false, false, false, false, false, false, false, false] rfl rfl (by kernel_rfl) (fun _ _ _ h => h) (Or.inl ⟨by rfl, ?_⟩) ?_ ?_
        rotate_left
        · intro w'
          go_simp
          with_reducible rfl
        rotate_left
        · simp only [Act.put, List.setIfInBounds_toArray, List.set_cons_zero, List.set_cons_succ, i64_w, i32_w]
          rfl
        refine pure_ (i := 9) (N := some 89) (v := ?_) (a' := ?_) #[true, true, true, false, true, true, true, true, false, true, false, false, false, false, false, false] rfl rfl (by kernel_rfl) (fun _ _ _ h => h) (Or.inl ⟨by rfl, ?_⟩) ?_ ?_
        rotate_left
        · intro w'
          go_simp
          with_reducible rfl
        rotate_left
        · simp only [Act.put, List.setIfInBounds_toArray, List.set_cons_zero, List.set_cons_succ, i64_w, i32_w]
          rfl
        refine pure_ (i := 10) (N := some 90) (v := ?_) (a' := ?_) #[true, true, true, false, true, true, true, true, false, true, true, false, false, false, false, false] rfl rfl (by kernel_rfl) (fun _ _ _ h => h) (Or.inl ⟨by rfl, ?_⟩) ?_ ?_
        rotate_left
        · intro w'
          go_simp
          with_reducible rfl
        rotate_left
        · simp only [Act.put, List.setIfInBounds_toArray, List.set_cons_zero, List.set_cons_succ, i64_w, i32_w]
          rfl
        refine pure_ (i := 11) (N := some 91) (v := ?_) (a' := ?_) #[true, true, true, false, true, true, true, true, false, true, true, true, false, false, false, false] rfl rfl (by kernel_rfl) (fun _ _ _ h => h) (Or.inl ⟨by rfl, ?_⟩) ?_ ?_
        rotate_left
        · intro w'
          go_simp
          with_reducible rfl
        rotate_left
        · simp only [Act.put, List.setIfInBounds_toArray, List.set_cons_zero, List.set_cons_succ, i64_w, i32_w]
          rfl
        refine pure_ (i := 12) (N := some 92) (v := ?_) (a' := ?_) #[true, true, true, false, true, true, true, true, false, true, true, true, true, false, false, false] rfl rfl (by kernel_rfl) (fun _ _ _ h => h) (Or.inl ⟨by rfl, ?_⟩) ?_ ?_
        rotate_left
        · intro w'
          go_simp
          with_reducible rfl
        rotate_left
        · simp only [Act.put, List.setIfInBounds_toArray, List.set_cons_zero, List.set_cons_succ, i64_w, i32_w]
          rfl
        refine take_ (i := 3) (N := some 83) (v := ?_) (a' := ?_) #[true, true, true, true, true, true, true, true, false, true, true, true, true, false, false, false] rfl rfl (by kernel_rfl) (fun _ _ _ h => h) (Or.inl ⟨by rfl, ?_⟩) hHeld ?_ ?_
        rotate_left
        · rintro w' ⟨s0, s1, s2⟩
          go_simp
          with_reducible rfl
        rotate_left
        · simp only [Act.put, List.setIfInBounds_toArray, List.set_cons_zero, List.set_cons_succ, i64_w, i32_w]
          rfl
        refine take_ (i := 8) (N := some 88) (v := ?_) (a' := ?_) #[true, true, true, true, true, true, true, true, true, true, true, true, true, false, false, false] rfl rfl (by kernel_rfl) (fun _ _ _ h => h) (Or.inl ⟨by rfl, ?_⟩) hHeld ?_ ?_
        rotate_left
        · rintro w' ⟨s0, s1, s2⟩
          go_simp
          with_reducible rfl
        rotate_left
        · simp only [Act.put, List.setIfInBounds_toArray, List.set_cons_zero, List.set_cons_succ, i64_w, i32_w]
          rfl
        refine take_ (i := 13) (N := some 93) (v := ?_) (a' := ?_) #[true, true, true, true, true, true, true, true, true, true, true, true, true, true, false, false] rfl rfl (by kernel_rfl) (fun _ _ _ h => h) (Or.inl ⟨by rfl, ?_⟩) hHeld ?_ ?_
        rotate_left
        · rintro w' ⟨s0, s1, s2⟩
          go_simp
          with_reducible rfl
        rotate_left
        · simp only [Act.put, List.setIfInBounds_toArray, List.set_cons_zero, List.set_cons_succ, i64_w, i32_w]
          rfl
        refine one_ (i := 14) (N := some 94) #[true, true, true, true, true, true, true, true, true, true, true, true, true, true, true, false] rfl rfl (by kernel_rfl) (by decide) (fun K hK => ?_)
        refine goes_ Try.func22 (by kernel_rfl) rfl #[.int .i64 xi, .int .i64 bl, .int .i64 bh] (by rfl) rfl rfl (by simp only [List.map_toArray, List.map_cons, List.map_nil] <;> rfl) ?_
        refine (Clamp_calls _ _ _ _).mono ?_
        rintro e wn ⟨rfl, rfl⟩
        refine ⟨_, rfl, ?_⟩
        rw [← m6.out]
        clear hHeld
        refine hK.out _ _ ⟨(bl_cell hbw hex), (bl_cell hbw hq1), (bl_cell hbw hq2)⟩ (fun hHeld => ?_)
        clear hK K
        refine norm_ (a' := ?_) ?_ ?_
        rotate_left
        · show Act.put _ (some 94) _ = _
          simp only [Act.put, List.setIfInBounds_toArray, List.set_cons_zero, List.set_cons_succ, i64_w, i32_w]
          rfl
        refine pure_ (i := 15) (N := some 18) (v := ?_) (a' := ?_) #[true, true, true, true, true, true, true, true, true, true, true, true, true, true, true, true] rfl rfl (by kernel_rfl) (fun _ _ _ h => h) (Or.inl ⟨by rfl, ?_⟩) ?_ ?_
        rotate_left
        · intro w'
          go_simp
          with_reducible rfl
        rotate_left
        · simp only [Act.put, List.setIfInBounds_toArray, List.set_cons_zero, List.set_cons_succ, i64_w, i32_w]
          rfl
        refine done_ (by kernel_rfl) ?_
        have k1 := bl_cell hbw hq1
        have k2 := bl_cell hbw hq2
        go_wp2_with fail
        refine (hHs.out _).mono ?_
        rintro e wh1 ⟨rfl, hbh⟩
        replace hbw := bl_step hbw hbh
        clear hbh k1 k2
        cases ba
        · skip
          cases bb
          · skip
            go_upto_region 17 with fail
            replace hbw := bl_drew hbw
            refine start_ (n := 22) (S := fun w' => w'.cell? ⟨bq, oq + i * 2, none⟩ = some (.int .i64 bl) ∧ w'.cell? ⟨bq, oq + i * 2 + 1, none⟩ = some (.int .i64 bh) ∧ w'.cell? ⟨bA, oA + i * 2, none⟩ = some (.int .i64 al) ∧ w'.cell? ⟨bA, oA + i * 2 + 1, none⟩ = some (.int .i64 ah) ∧ w'.cell? ⟨bB, oB + i * 2, none⟩ = some (.int .i64 dl) ∧ w'.cell? ⟨bB, oB + i * 2 + 1, none⟩ = some (.int .i64 dh)) (ds := []) #[false, false, false, false, false, false, false, false, false, false, false, false, false, false, false, false, false, false, false, false, false, false] (by kernel_rfl) rfl rfl ⟨(bl_cell hbw hq1), (bl_cell hbw hq2), (bl_cell hbw hA1), (bl_cell hbw hA2), (bl_cell hbw hB1), (bl_cell hbw hB2)⟩ (fun hHeld => ?_)
            generalize wh1.drew = wn at *
            refine pure_ (i := 0) (N := some 122) (v := ?_) (a' := ?_) #[true, false, false, false, false, false, false, false, false, false, false, false, false, false, false, false, false, false, false, false, false, false] rfl rfl (by kernel_rfl) (fun _ _ _ h => h) (Or.inl ⟨by rfl, ?_⟩) ?_ ?_
            rotate_left
            · intro w'
              go_simp
              with_reducible rfl
            rotate_left
            · simp only [Act.put, List.setIfInBounds_toArray, List.set_cons_zero, List.set_cons_succ, i64_w, i32_w]
              rfl
            refine pure_ (i := 1) (N := some 123) (v := ?_) (a' := ?_) #[true, true, false, false, false, false, false, false, false, false, false, false, false, false, false, false, false, false, false, false, false, false] rfl rfl (by kernel_rfl) (fun _ _ _ h => h) (Or.inl ⟨by rfl, ?_⟩) ?_ ?_
            rotate_left
            · intro w'
              go_simp
              with_reducible rfl
            rotate_left
            · simp only [Act.put, List.setIfInBounds_toArray, List.set_cons_zero, List.set_cons_succ, i64_w, i32_w]
              rfl
            refine pure_ (i := 2) (N := some 124) (v := ?_) (a' := ?_) #[true, true, true, false, false, false, false, false, false, false, false, false, false, false, false, false, false, false, false, false, false, false] rfl rfl (by kernel_rfl) (fun _ _ _ h => h) (Or.inl ⟨by rfl, ?_⟩) ?_ ?_
            rotate_left
            · intro w'
              go_simp
              with_reducible rfl
            rotate_left
            · simp only [Act.put, List.setIfInBounds_toArray, List.set_cons_zero, List.set_cons_succ, i64_w, i32_w]
              rfl
            refine pure_ (i := 4) (N := some 126) (v := ?_) (a' := ?_) #[true, true, true, false, true, false, false, false, false, false, false, false, false, false, false, false, false, false, false, false, false, false] rfl rfl (by kernel_rfl) (fun _ _ _ h => h) (Or.inl ⟨by rfl, ?_⟩) ?_ ?_
            rotate_left
            · intro w'
              go_simp
              with_reducible rfl
            rotate_left
            · simp only [Act.put, List.setIfInBounds_toArray, List.set_cons_zero, List.set_cons_succ, i64_w, i32_w]
              rfl
            refine pure_ (i := 5) (N := some 127) (v := ?_) (a' := ?_) #[true, true, true, false, true, true, false, false, false, false, false, false, false, false, false, false, false, false, false, false, false, false] rfl rfl (by kernel_rfl) (fun _ _ _ h => h) (Or.inl ⟨by rfl, ?_⟩) ?_ ?_
            rotate_left
            · intro w'
              go_simp
              with_reducible rfl
            rotate_left
            · simp only [Act.put, List.setIfInBounds_toArray, List.set_cons_zero, List.set_cons_succ, i64_w, i32_w]
              rfl
            refine pure_ (i := 6) (N := some 128) (v := ?_) (a' := ?_) #[true, true, true, false, true, true, true, false, false, false, false, false, false, false, false, false, false, false, false, false, false, false] rfl rfl (by kernel_rfl) (fun _ _ _ h => h) (Or.inl ⟨by rfl, ?_⟩) ?_ ?_
            rotate_left
            · intro w'
              go_simp
              with_reducible rfl
            rotate_left
            · simp only [Act.put, List.setIfInBounds_toArray, List.set_cons_zero, List.set_cons_succ, i64_w, i32_w]
              rfl
            refine take_ (i := 3) (N := some 125) (v := ?_) (a' := ?_) #[true, true, true, true, true, true, true, false, false, false, false, false, false, false, false, false, false, false, false, false, false, false] rfl rfl (by kernel_rfl) (fun _ _ _ h => h) (Or.inl ⟨by rfl, ?_⟩) hHeld ?_ ?_
            rotate_left
            · rintro w' ⟨s0, s1, s2, s3, s4, s5⟩
              go_simp
              with_reducible rfl
            rotate_left
            · simp only [Act.put, List.setIfInBounds_toArray, List.set_cons_zero, List.set_cons_succ, i64_w, i32_w]
              rfl
            refine take_ (i := 7) (N := some 129) (v := ?_) (a' := ?_) #[true, true, true, true, true, true, true, true, false, false, false, false, false, false, false, false, false, false, false, false, false, false] rfl rfl (by kernel_rfl) (fun _ _ _ h => h) (Or.inl ⟨by rfl, ?_⟩) hHeld ?_ ?_
            rotate_left
            · rintro w' ⟨s0, s1, s2, s3, s4, s5⟩
              go_simp
              with_reducible rfl
            rotate_left
            · simp only [Act.put, List.setIfInBounds_toArray, List.set_cons_zero, List.set_cons_succ, i64_w, i32_w]
              rfl
            refine one_ (i := 8) (N := some 130) #[true, true, true, true, true, true, true, true, true, false, false, false, false, false, false, false, false, false, false, false, false, false] rfl rfl (by kernel_rfl) (by decide) (fun K hK => ?_)
            refine goes_ Try.func29 (by kernel_rfl) rfl #[.agg #[.int .i64 al, .int .i64 ah], .agg #[.int .i64 bl, .int .i64 bh]] (by rfl) rfl rfl (by simp only [List.map_toArray, List.map_cons, List.map_nil] <;> rfl) ?_
            refine (hI1.out _).mono ?_
            rintro e wn ⟨rfl, hbn⟩
            refine ⟨_, rfl, ?_⟩
            replace hbw := bl_step hbw hbn
            clear hbn
            clear hHeld
            refine hK.out _ _ ⟨(bl_cell hbw hq1), (bl_cell hbw hq2), (bl_cell hbw hA1), (bl_cell hbw hA2), (bl_cell hbw hB1), (bl_cell hbw hB2)⟩ (fun hHeld => ?_)
            clear hK K
            refine norm_ (a' := ?_) ?_ ?_
            rotate_left
            · show Act.put _ (some 130) _ = _
              simp only [Act.put, List.setIfInBounds_toArray, List.set_cons_zero, List.set_cons_succ, i64_w, i32_w]
              rfl
            refine pure_ (i := 9) (N := some 131) (v := ?_) (a' := ?_) #[true, true, true, true, true, true, true, true, true, true, false, false, false, false, false, false, false, false, false, false, false, false] rfl rfl (by kernel_rfl) (fun _ _ _ h => h) (Or.inl ⟨by rfl, ?_⟩) ?_ ?_
            rotate_left
            · intro w'
              go_simp
              with_reducible rfl
            rotate_left
            · simp only [Act.put, List.setIfInBounds_toArray, List.set_cons_zero, List.set_cons_succ, i64_w, i32_w]
              rfl
            refine pure_ (i := 10) (N := some 132) (v := ?_) (a' := ?_) #[true, true, true, true, true, true, true, true, true, true, true, false, false, false, false, false, false, false, false, false, false, false] rfl rfl (by kernel_rfl) (fun _ _ _ h => h) (Or.inl ⟨by rfl, ?_⟩) ?_ ?_
            rotate_left
            · intro w'
              go_simp
              with_reducible rfl
            rotate_left
            · simp only [Act.put, List.setIfInBounds_toArray, List.set_cons_zero, List.set_cons_succ, i64_w, i32_w]
              rfl
            refine pure_ (i := 11) (N := some 133) (v := ?_) (a' := ?_) #[true, true, true, true, true, true, true, true, true, true, true, true, false, false, false, false, false, false, false, false, false, false] rfl rfl (by kernel_rfl) (fun _ _ _ h => h) (Or.inl ⟨by rfl, ?_⟩) ?_ ?_
            rotate_left
            · intro w'
              go_simp
              with_reducible rfl
            rotate_left
            · simp only [Act.put, List.setIfInBounds_toArray, List.set_cons_zero, List.set_cons_succ, i64_w, i32_w]
              rfl
            refine pure_ (i := 12) (N := some 134) (v := ?_) (a' := ?_) #[true, true, true, true, true, true, true, true, true, true, true, true, true, false, false, false, false, false, false, false, false, false] rfl rfl (by kernel_rfl) (fun _ _ _ h => h) (Or.inl ⟨by rfl, ?_⟩) ?_ ?_
            rotate_left
            · intro w'
              go_simp
              with_reducible rfl
            rotate_left
            · simp only [Act.put, List.setIfInBounds_toArray, List.set_cons_zero, List.set_cons_succ, i64_w, i32_w]
              rfl
            refine pure_ (i := 13) (N := some 135) (v := ?_) (a' := ?_) #[true, true, true, true, true, true, true, true, true, true, true, true, true, true, false, false, false, false, false, false, false, false] rfl rfl (by kernel_rfl) (fun _ _ _ h => h) (Or.inl ⟨by rfl, ?_⟩) ?_ ?_
            rotate_left
            · intro w'
              go_simp
              with_reducible rfl
            rotate_left
            · simp only [Act.put, List.setIfInBounds_toArray, List.set_cons_zero, List.set_cons_succ, i64_w, i32_w]
              rfl
            refine pure_ (i := 15) (N := some 137) (v := ?_) (a' := ?_) #[true, true, true, true, true, true, true, true, true, true, true, true, true, true, false, true, false, false, false, false, false, false] rfl rfl (by kernel_rfl) (fun _ _ _ h => h) (Or.inl ⟨by rfl, ?_⟩) ?_ ?_
            rotate_left
            · intro w'
              go_simp
              with_reducible rfl
            rotate_left
            · simp only [Act.put, List.setIfInBounds_toArray, List.set_cons_zero, List.set_cons_succ, i64_w, i32_w]
              rfl
            refine pure_ (i := 16) (N := some 138) (v := ?_) (a' := ?_) #[true, true, true, true, true, true, true, true, true, true, true, true, true, true, false, true, true, false, false, false, false, false] rfl rfl (by kernel_rfl) (fun _ _ _ h => h) (Or.inl ⟨by rfl, ?_⟩) ?_ ?_
            rotate_left
            · intro w'
              go_simp
              with_reducible rfl
            rotate_left
            · simp only [Act.put, List.setIfInBounds_toArray, List.set_cons_zero, List.set_cons_succ, i64_w, i32_w]
              rfl
            refine pure_ (i := 17) (N := some 139) (v := ?_) (a' := ?_) #[true, true, true, true, true, true, true, true, true, true, true, true, true, true, false, true, true, true, false, false, false, false] rfl rfl (by kernel_rfl) (fun _ _ _ h => h) (Or.inl ⟨by rfl, ?_⟩) ?_ ?_
            rotate_left
            · intro w'
              go_simp
              with_reducible rfl
            rotate_left
            · simp only [Act.put, List.setIfInBounds_toArray, List.set_cons_zero, List.set_cons_succ, i64_w, i32_w]
              rfl
            refine take_ (i := 14) (N := some 136) (v := ?_) (a' := ?_) #[true, true, true, true, true, true, true, true, true, true, true, true, true, true, true, true, true, true, false, false, false, false] rfl rfl (by kernel_rfl) (fun _ _ _ h => h) (Or.inl ⟨by rfl, ?_⟩) hHeld ?_ ?_
            rotate_left
            · rintro w' ⟨s0, s1, s2, s3, s4, s5⟩
              go_simp
              with_reducible rfl
            rotate_left
            · simp only [Act.put, List.setIfInBounds_toArray, List.set_cons_zero, List.set_cons_succ, i64_w, i32_w]
              rfl
            refine take_ (i := 18) (N := some 140) (v := ?_) (a' := ?_) #[true, true, true, true, true, true, true, true, true, true, true, true, true, true, true, true, true, true, true, false, false, false] rfl rfl (by kernel_rfl) (fun _ _ _ h => h) (Or.inl ⟨by rfl, ?_⟩) hHeld ?_ ?_
            rotate_left
            · rintro w' ⟨s0, s1, s2, s3, s4, s5⟩
              go_simp
              with_reducible rfl
            rotate_left
            · simp only [Act.put, List.setIfInBounds_toArray, List.set_cons_zero, List.set_cons_succ, i64_w, i32_w]
              rfl
            refine one_ (i := 19) (N := some 141) #[true, true, true, true, true, true, true, true, true, true, true, true, true, true, true, true, true, true, true, true, false, false] rfl rfl (by kernel_rfl) (by decide) (fun K hK => ?_)
            refine goes_ Try.func29 (by kernel_rfl) rfl #[.agg #[.int .i64 dl, .int .i64 dh], .agg #[.int .i64 bl, .int .i64 bh]] (by rfl) rfl rfl (by simp only [List.map_toArray, List.map_cons, List.map_nil] <;> rfl) ?_
            refine (hI2.out _).mono ?_
            rintro e wn ⟨rfl, hbn⟩
            refine ⟨_, rfl, ?_⟩
            replace hbw := bl_step hbw hbn
            clear hbn
            clear hHeld
            refine hK.out _ _ ⟨(bl_cell hbw hq1), (bl_cell hbw hq2), (bl_cell hbw hA1), (bl_cell hbw hA2), (bl_cell hbw hB1), (bl_cell hbw hB2)⟩ (fun hHeld => ?_)
            clear hK K
            refine norm_ (a' := ?_) ?_ ?_
            rotate_left
            · show Act.put _ (some 141) _ = _
              simp only [Act.put, List.setIfInBounds_toArray, List.set_cons_zero, List.set_cons_succ, i64_w, i32_w]
              rfl
            refine pure_ (i := 20) (N := some 142) (v := ?_) (a' := ?_) #[true, true, true, true, true, true, true, true, true, true, true, true, true, true, true, true, true, true, true, true, true, false] rfl rfl (by kernel_rfl) (fun _ _ _ h => h) (Or.inl ⟨by rfl, ?_⟩) ?_ ?_
            rotate_left
            · intro w'
              go_simp
              with_reducible rfl
            rotate_left
            · simp only [Act.put, List.setIfInBounds_toArray, List.set_cons_zero, List.set_cons_succ, i64_w, i32_w]
              rfl
            refine pure_ (i := 21) (N := some 143) (v := ?_) (a' := ?_) #[true, true, true, true, true, true, true, true, true, true, true, true, true, true, true, true, true, true, true, true, true, true] rfl rfl (by kernel_rfl) (fun _ _ _ h => h) (Or.inl ⟨by rfl, ?_⟩) ?_ ?_
            rotate_left
            · intro w'
              go_simp
              with_reducible rfl
            rotate_left
            · simp only [Act.put, List.setIfInBounds_toArray, List.set_cons_zero, List.set_cons_succ, i64_w, i32_w]
              rfl
            refine done_ (by kernel_rfl) ?_
            have hb64 : ((i : Int) + 1) ≤ 9223372036854775807 := by omega
            go_wp2
            go_roundw
            case rel => exact ⟨i + 1, by omega, by go_num, rfl, by rw [hPa.out]; simp, by rw [hPb.out]; simp, hbw⟩
            case measure => simp [intOf]; omega
          · skip
            have k1 := bl_cell hbw hB1
            have k2 := bl_cell hbw hB2
            go_wp2_with fail
            refine (hHd.out _).mono ?_
            rintro e wh2 ⟨rfl, hbh⟩
            replace hbw := bl_step hbw hbh
            clear hbh k1 k2
            go_upto_region 17 with fail
            replace hbw := bl_drew hbw
            refine start_ (n := 22) (S := fun w' => w'.cell? ⟨bq, oq + i * 2, none⟩ = some (.int .i64 bl) ∧ w'.cell? ⟨bq, oq + i * 2 + 1, none⟩ = some (.int .i64 bh) ∧ w'.cell? ⟨bA, oA + i * 2, none⟩ = some (.int .i64 al) ∧ w'.cell? ⟨bA, oA + i * 2 + 1, none⟩ = some (.int .i64 ah) ∧ w'.cell? ⟨bB, oB + i * 2, none⟩ = some (.int .i64 dl) ∧ w'.cell? ⟨bB, oB + i * 2 + 1, none⟩ = some (.int .i64 dh)) (ds := []) #[false, false, false, false, false, false, false, false, false, false, false, false, false, false, false, false, false, false, false, false, false, false] (by kernel_rfl) rfl rfl ⟨(bl_cell hbw hq1), (bl_cell hbw hq2), (bl_cell hbw hA1), (bl_cell hbw hA2), (bl_cell hbw hB1), (bl_cell hbw hB2)⟩ (fun hHeld => ?_)
            generalize wh2.drew = wn at *
            refine pure_ (i := 0) (N := some 122) (v := ?_) (a' := ?_) #[true, false, false, false, false, false, false, false, false, false, false, false, false, false, false, false, false, false, false, false, false, false] rfl rfl (by kernel_rfl) (fun _ _ _ h => h) (Or.inl ⟨by rfl, ?_⟩) ?_ ?_
            rotate_left
            · intro w'
              go_simp
              with_reducible rfl
            rotate_left
            · simp only [Act.put, List.setIfInBounds_toArray, List.set_cons_zero, List.set_cons_succ, i64_w, i32_w]
              rfl
            refine pure_ (i := 1) (N := some 123) (v := ?_) (a' := ?_) #[true, true, false, false, false, false, false, false, false, false, false, false, false, false, false, false, false, false, false, false, false, false] rfl rfl (by kernel_rfl) (fun _ _ _ h => h) (Or.inl ⟨by rfl, ?_⟩) ?_ ?_
            rotate_left
            · intro w'
              go_simp
              with_reducible rfl
            rotate_left
            · simp only [Act.put, List.setIfInBounds_toArray, List.set_cons_zero, List.set_cons_succ, i64_w, i32_w]
              rfl
            refine pure_ (i := 2) (N := some 124) (v := ?_) (a' := ?_) #[true, true, true, false, false, false, false, false, false, false, false, false, false, false, false, false, false, false, false, false, false, false] rfl rfl (by kernel_rfl) (fun _ _ _ h => h) (Or.inl ⟨by rfl, ?_⟩) ?_ ?_
            rotate_left
            · intro w'
              go_simp
              with_reducible rfl
            rotate_left
            · simp only [Act.put, List.setIfInBounds_toArray, List.set_cons_zero, List.set_cons_succ, i64_w, i32_w]
              rfl
            refine pure_ (i := 4) (N := some 126) (v := ?_) (a' := ?_) #[true, true, true, false, true, false, false, false, false, false, false, false, false, false, false, false, false, false, false, false, false, false] rfl rfl (by kernel_rfl) (fun _ _ _ h => h) (Or.inl ⟨by rfl, ?_⟩) ?_ ?_
            rotate_left
            · intro w'
              go_simp
              with_reducible rfl
            rotate_left
            · simp only [Act.put, List.setIfInBounds_toArray, List.set_cons_zero, List.set_cons_succ, i64_w, i32_w]
              rfl
            refine pure_ (i := 5) (N := some 127) (v := ?_) (a' := ?_) #[true, true, true, false, true, true, false, false, false, false, false, false, false, false, false, false, false, false, false, false, false, false] rfl rfl (by kernel_rfl) (fun _ _ _ h => h) (Or.inl ⟨by rfl, ?_⟩) ?_ ?_
            rotate_left
            · intro w'
              go_simp
              with_reducible rfl
            rotate_left
            · simp only [Act.put, List.setIfInBounds_toArray, List.set_cons_zero, List.set_cons_succ, i64_w, i32_w]
              rfl
            refine pure_ (i := 6) (N := some 128) (v := ?_) (a' := ?_) #[true, true, true, false, true, true, true, false, false, false, false, false, false, false, false, false, false, false, false, false, false, false] rfl rfl (by kernel_rfl) (fun _ _ _ h => h) (Or.inl ⟨by rfl, ?_⟩) ?_ ?_
            rotate_left
            · intro w'
              go_simp
              with_reducible rfl
            rotate_left
            · simp only [Act.put, List.setIfInBounds_toArray, List.set_cons_zero, List.set_cons_succ, i64_w, i32_w]
              rfl
            refine take_ (i := 3) (N := some 125) (v := ?_) (a' := ?_) #[true, true, true, true, true, true, true, false, false, false, false, false, false, false, false, false, false, false, false, false, false, false] rfl rfl (by kernel_rfl) (fun _ _ _ h => h) (Or.inl ⟨by rfl, ?_⟩) hHeld ?_ ?_
            rotate_left
            · rintro w' ⟨s0, s1, s2, s3, s4, s5⟩
              go_simp
              with_reducible rfl
            rotate_left
            · simp only [Act.put, List.setIfInBounds_toArray, List.set_cons_zero, List.set_cons_succ, i64_w, i32_w]
              rfl
            refine take_ (i := 7) (N := some 129) (v := ?_) (a' := ?_) #[true, true, true, true, true, true, true, true, false, false, false, false, false, false, false, false, false, false, false, false, false, false] rfl rfl (by kernel_rfl) (fun _ _ _ h => h) (Or.inl ⟨by rfl, ?_⟩) hHeld ?_ ?_
            rotate_left
            · rintro w' ⟨s0, s1, s2, s3, s4, s5⟩
              go_simp
              with_reducible rfl
            rotate_left
            · simp only [Act.put, List.setIfInBounds_toArray, List.set_cons_zero, List.set_cons_succ, i64_w, i32_w]
              rfl
            refine one_ (i := 8) (N := some 130) #[true, true, true, true, true, true, true, true, true, false, false, false, false, false, false, false, false, false, false, false, false, false] rfl rfl (by kernel_rfl) (by decide) (fun K hK => ?_)
            refine goes_ Try.func29 (by kernel_rfl) rfl #[.agg #[.int .i64 al, .int .i64 ah], .agg #[.int .i64 bl, .int .i64 bh]] (by rfl) rfl rfl (by simp only [List.map_toArray, List.map_cons, List.map_nil] <;> rfl) ?_
            refine (hI1.out _).mono ?_
            rintro e wn ⟨rfl, hbn⟩
            refine ⟨_, rfl, ?_⟩
            replace hbw := bl_step hbw hbn
            clear hbn
            clear hHeld
            refine hK.out _ _ ⟨(bl_cell hbw hq1), (bl_cell hbw hq2), (bl_cell hbw hA1), (bl_cell hbw hA2), (bl_cell hbw hB1), (bl_cell hbw hB2)⟩ (fun hHeld => ?_)
            clear hK K
            refine norm_ (a' := ?_) ?_ ?_
            rotate_left
            · show Act.put _ (some 130) _ = _
              simp only [Act.put, List.setIfInBounds_toArray, List.set_cons_zero, List.set_cons_succ, i64_w, i32_w]
              rfl
            refine pure_ (i := 9) (N := some 131) (v := ?_) (a' := ?_) #[true, true, true, true, true, true, true, true, true, true, false, false, false, false, false, false, false, false, false, false, false, false] rfl rfl (by kernel_rfl) (fun _ _ _ h => h) (Or.inl ⟨by rfl, ?_⟩) ?_ ?_
            rotate_left
            · intro w'
              go_simp
              with_reducible rfl
            rotate_left
            · simp only [Act.put, List.setIfInBounds_toArray, List.set_cons_zero, List.set_cons_succ, i64_w, i32_w]
              rfl
            refine pure_ (i := 10) (N := some 132) (v := ?_) (a' := ?_) #[true, true, true, true, true, true, true, true, true, true, true, false, false, false, false, false, false, false, false, false, false, false] rfl rfl (by kernel_rfl) (fun _ _ _ h => h) (Or.inl ⟨by rfl, ?_⟩) ?_ ?_
            rotate_left
            · intro w'
              go_simp
              with_reducible rfl
            rotate_left
            · simp only [Act.put, List.setIfInBounds_toArray, List.set_cons_zero, List.set_cons_succ, i64_w, i32_w]
              rfl
            refine pure_ (i := 11) (N := some 133) (v := ?_) (a' := ?_) #[true, true, true, true, true, true, true, true, true, true, true, true, false, false, false, false, false, false, false, false, false, false] rfl rfl (by kernel_rfl) (fun _ _ _ h => h) (Or.inl ⟨by rfl, ?_⟩) ?_ ?_
            rotate_left
            · intro w'
              go_simp
              with_reducible rfl
            rotate_left
            · simp only [Act.put, List.setIfInBounds_toArray, List.set_cons_zero, List.set_cons_succ, i64_w, i32_w]
              rfl
            refine pure_ (i := 12) (N := some 134) (v := ?_) (a' := ?_) #[true, true, true, true, true, true, true, true, true, true, true, true, true, false, false, false, false, false, false, false, false, false] rfl rfl (by kernel_rfl) (fun _ _ _ h => h) (Or.inl ⟨by rfl, ?_⟩) ?_ ?_
            rotate_left
            · intro w'
              go_simp
              with_reducible rfl
            rotate_left
            · simp only [Act.put, List.setIfInBounds_toArray, List.set_cons_zero, List.set_cons_succ, i64_w, i32_w]
              rfl
            refine pure_ (i := 13) (N := some 135) (v := ?_) (a' := ?_) #[true, true, true, true, true, true, true, true, true, true, true, true, true, true, false, false, false, false, false, false, false, false] rfl rfl (by kernel_rfl) (fun _ _ _ h => h) (Or.inl ⟨by rfl, ?_⟩) ?_ ?_
            rotate_left
            · intro w'
              go_simp
              with_reducible rfl
            rotate_left
            · simp only [Act.put, List.setIfInBounds_toArray, List.set_cons_zero, List.set_cons_succ, i64_w, i32_w]
              rfl
            refine pure_ (i := 15) (N := some 137) (v := ?_) (a' := ?_) #[true, true, true, true, true, true, true, true, true, true, true, true, true, true, false, true, false, false, false, false, false, false] rfl rfl (by kernel_rfl) (fun _ _ _ h => h) (Or.inl ⟨by rfl, ?_⟩) ?_ ?_
            rotate_left
            · intro w'
              go_simp
              with_reducible rfl
            rotate_left
            · simp only [Act.put, List.setIfInBounds_toArray, List.set_cons_zero, List.set_cons_succ, i64_w, i32_w]
              rfl
            refine pure_ (i := 16) (N := some 138) (v := ?_) (a' := ?_) #[true, true, true, true, true, true, true, true, true, true, true, true, true, true, false, true, true, false, false, false, false, false] rfl rfl (by kernel_rfl) (fun _ _ _ h => h) (Or.inl ⟨by rfl, ?_⟩) ?_ ?_
            rotate_left
            · intro w'
              go_simp
              with_reducible rfl
            rotate_left
            · simp only [Act.put, List.setIfInBounds_toArray, List.set_cons_zero, List.set_cons_succ, i64_w, i32_w]
              rfl
            refine pure_ (i := 17) (N := some 139) (v := ?_) (a' := ?_) #[true, true, true, true, true, true, true, true, true, true, true, true, true, true, false, true, true, true, false, false, false, false] rfl rfl (by kernel_rfl) (fun _ _ _ h => h) (Or.inl ⟨by rfl, ?_⟩) ?_ ?_
            rotate_left
            · intro w'
              go_simp
              with_reducible rfl
            rotate_left
            · simp only [Act.put, List.setIfInBounds_toArray, List.set_cons_zero, List.set_cons_succ, i64_w, i32_w]
              rfl
            refine take_ (i := 14) (N := some 136) (v := ?_) (a' := ?_) #[true, true, true, true, true, true, true, true, true, true, true, true, true, true, true, true, true, true, false, false, false, false] rfl rfl (by kernel_rfl) (fun _ _ _ h => h) (Or.inl ⟨by rfl, ?_⟩) hHeld ?_ ?_
            rotate_left
            · rintro w' ⟨s0, s1, s2, s3, s4, s5⟩
              go_simp
              with_reducible rfl
            rotate_left
            · simp only [Act.put, List.setIfInBounds_toArray, List.set_cons_zero, List.set_cons_succ, i64_w, i32_w]
              rfl
            refine take_ (i := 18) (N := some 140) (v := ?_) (a' := ?_) #[true, true, true, true, true, true, true, true, true, true, true, true, true, true, true, true, true, true, true, false, false, false] rfl rfl (by kernel_rfl) (fun _ _ _ h => h) (Or.inl ⟨by rfl, ?_⟩) hHeld ?_ ?_
            rotate_left
            · rintro w' ⟨s0, s1, s2, s3, s4, s5⟩
              go_simp
              with_reducible rfl
            rotate_left
            · simp only [Act.put, List.setIfInBounds_toArray, List.set_cons_zero, List.set_cons_succ, i64_w, i32_w]
              rfl
            refine one_ (i := 19) (N := some 141) #[true, true, true, true, true, true, true, true, true, true, true, true, true, true, true, true, true, true, true, true, false, false] rfl rfl (by kernel_rfl) (by decide) (fun K hK => ?_)
            refine goes_ Try.func29 (by kernel_rfl) rfl #[.agg #[.int .i64 dl, .int .i64 dh], .agg #[.int .i64 bl, .int .i64 bh]] (by rfl) rfl rfl (by simp only [List.map_toArray, List.map_cons, List.map_nil] <;> rfl) ?_
            refine (hI2.out _).mono ?_
            rintro e wn ⟨rfl, hbn⟩
            refine ⟨_, rfl, ?_⟩
            replace hbw := bl_step hbw hbn
            clear hbn
            clear hHeld
            refine hK.out _ _ ⟨(bl_cell hbw hq1), (bl_cell hbw hq2), (bl_cell hbw hA1), (bl_cell hbw hA2), (bl_cell hbw hB1), (bl_cell hbw hB2)⟩ (fun hHeld => ?_)
            clear hK K
            refine norm_ (a' := ?_) ?_ ?_
            rotate_left
            · show Act.put _ (some 141) _ = _
              simp only [Act.put, List.setIfInBounds_toArray, List.set_cons_zero, List.set_cons_succ, i64_w, i32_w]
              rfl
            refine pure_ (i := 20) (N := some 142) (v := ?_) (a' := ?_) #[true, true, true, true, true, true, true, true, true, true, true, true, true, true, true, true, true, true, true, true, true, false] rfl rfl (by kernel_rfl) (fun _ _ _ h => h) (Or.inl ⟨by rfl, ?_⟩) ?_ ?_
            rotate_left
            · intro w'
              go_simp
              with_reducible rfl
            rotate_left
            · simp only [Act.put, List.setIfInBounds_toArray, List.set_cons_zero, List.set_cons_succ, i64_w, i32_w]
              rfl
            refine pure_ (i := 21) (N := some 143) (v := ?_) (a' := ?_) #[true, true, true, true, true, true, true, true, true, true, true, true, true, true, true, true, true, true, true, true, true, true] rfl rfl (by kernel_rfl) (fun _ _ _ h => h) (Or.inl ⟨by rfl, ?_⟩) ?_ ?_
            rotate_left
            · intro w'
              go_simp
              with_reducible rfl
            rotate_left
            · simp only [Act.put, List.setIfInBounds_toArray, List.set_cons_zero, List.set_cons_succ, i64_w, i32_w]
              rfl
            refine done_ (by kernel_rfl) ?_
            have hb64 : ((i : Int) + 1) ≤ 9223372036854775807 := by omega
            go_wp2
            go_roundw
            case rel => exact ⟨i + 1, by omega, by go_num, rfl, by rw [hPa.out]; simp, by rw [hPb.out]; simp, hbw⟩
            case measure => simp [intOf]; omega
        · skip
          have k1 := bl_cell hbw hA1
          have k2 := bl_cell hbw hA2
          go_wp2_with fail
          refine (hHa.out _).mono ?_
          rintro e wh3 ⟨rfl, hbh⟩
          replace hbw := bl_step hbw hbh
          clear hbh k1 k2
          cases bb
          · skip
            go_upto_region 17 with fail
            replace hbw := bl_drew hbw
            refine start_ (n := 22) (S := fun w' => w'.cell? ⟨bq, oq + i * 2, none⟩ = some (.int .i64 bl) ∧ w'.cell? ⟨bq, oq + i * 2 + 1, none⟩ = some (.int .i64 bh) ∧ w'.cell? ⟨bA, oA + i * 2, none⟩ = some (.int .i64 al) ∧ w'.cell? ⟨bA, oA + i * 2 + 1, none⟩ = some (.int .i64 ah) ∧ w'.cell? ⟨bB, oB + i * 2, none⟩ = some (.int .i64 dl) ∧ w'.cell? ⟨bB, oB + i * 2 + 1, none⟩ = some (.int .i64 dh)) (ds := []) #[false, false, false, false, false, false, false, false, false, false, false, false, false, false, false, false, false, false, false, false, false, false] (by kernel_rfl) rfl rfl ⟨(bl_cell hbw hq1), (bl_cell hbw hq2), (bl_cell hbw hA1), (bl_cell hbw hA2), (bl_cell hbw hB1), (bl_cell hbw hB2)⟩ (fun hHeld => ?_)
            generalize wh3.drew = wn at *
            refine pure_ (i := 0) (N := some 122) (v := ?_) (a' := ?_) #[true, false, false, false, false, false, false, false, false, false, false, false, false, false, false, false, false, false, false, false, false, false] rfl rfl (by kernel_rfl) (fun _ _ _ h => h) (Or.inl ⟨by rfl, ?_⟩) ?_ ?_
            rotate_left
            · intro w'
              go_simp
              with_reducible rfl
            rotate_left
            · simp only [Act.put, List.setIfInBounds_toArray, List.set_cons_zero, List.set_cons_succ, i64_w, i32_w]
              rfl
            refine pure_ (i := 1) (N := some 123) (v := ?_) (a' := ?_) #[true, true, false, false, false, false, false, false, false, false, false, false, false, false, false, false, false, false, false, false, false, false] rfl rfl (by kernel_rfl) (fun _ _ _ h => h) (Or.inl ⟨by rfl, ?_⟩) ?_ ?_
            rotate_left
            · intro w'
              go_simp
              with_reducible rfl
            rotate_left
            · simp only [Act.put, List.setIfInBounds_toArray, List.set_cons_zero, List.set_cons_succ, i64_w, i32_w]
              rfl
            refine pure_ (i := 2) (N := some 124) (v := ?_) (a' := ?_) #[true, true, true, false, false, false, false, false, false, false, false, false, false, false, false, false, false, false, false, false, false, false] rfl rfl (by kernel_rfl) (fun _ _ _ h => h) (Or.inl ⟨by rfl, ?_⟩) ?_ ?_
            rotate_left
            · intro w'
              go_simp
              with_reducible rfl
            rotate_left
            · simp only [Act.put, List.setIfInBounds_toArray, List.set_cons_zero, List.set_cons_succ, i64_w, i32_w]
              rfl
            refine pure_ (i := 4) (N := some 126) (v := ?_) (a' := ?_) #[true, true, true, false, true, false, false, false, false, false, false, false, false, false, false, false, false, false, false, false, false, false] rfl rfl (by kernel_rfl) (fun _ _ _ h => h) (Or.inl ⟨by rfl, ?_⟩) ?_ ?_
            rotate_left
            · intro w'
              go_simp
              with_reducible rfl
            rotate_left
            · simp only [Act.put, List.setIfInBounds_toArray, List.set_cons_zero, List.set_cons_succ, i64_w, i32_w]
              rfl
            refine pure_ (i := 5) (N := some 127) (v := ?_) (a' := ?_) #[true, true, true, false, true, true, false, false, false, false, false, false, false, false, false, false, false, false, false, false, false, false] rfl rfl (by kernel_rfl) (fun _ _ _ h => h) (Or.inl ⟨by rfl, ?_⟩) ?_ ?_
            rotate_left
            · intro w'
              go_simp
              with_reducible rfl
            rotate_left
            · simp only [Act.put, List.setIfInBounds_toArray, List.set_cons_zero, List.set_cons_succ, i64_w, i32_w]
              rfl
            refine pure_ (i := 6) (N := some 128) (v := ?_) (a' := ?_) #[true, true, true, false, true, true, true, false, false, false, false, false, false, false, false, false, false, false, false, false, false, false] rfl rfl (by kernel_rfl) (fun _ _ _ h => h) (Or.inl ⟨by rfl, ?_⟩) ?_ ?_
            rotate_left
            · intro w'
              go_simp
              with_reducible rfl
            rotate_left
            · simp only [Act.put, List.setIfInBounds_toArray, List.set_cons_zero, List.set_cons_succ, i64_w, i32_w]
              rfl
            refine take_ (i := 3) (N := some 125) (v := ?_) (a' := ?_) #[true, true, true, true, true, true, true, false, false, false, false, false, false, false, false, false, false, false, false, false, false, false] rfl rfl (by kernel_rfl) (fun _ _ _ h => h) (Or.inl ⟨by rfl, ?_⟩) hHeld ?_ ?_
            rotate_left
            · rintro w' ⟨s0, s1, s2, s3, s4, s5⟩
              go_simp
              with_reducible rfl
            rotate_left
            · simp only [Act.put, List.setIfInBounds_toArray, List.set_cons_zero, List.set_cons_succ, i64_w, i32_w]
              rfl
            refine take_ (i := 7) (N := some 129) (v := ?_) (a' := ?_) #[true, true, true, true, true, true, true, true, false, false, false, false, false, false, false, false, false, false, false, false, false, false] rfl rfl (by kernel_rfl) (fun _ _ _ h => h) (Or.inl ⟨by rfl, ?_⟩) hHeld ?_ ?_
            rotate_left
            · rintro w' ⟨s0, s1, s2, s3, s4, s5⟩
              go_simp
              with_reducible rfl
            rotate_left
            · simp only [Act.put, List.setIfInBounds_toArray, List.set_cons_zero, List.set_cons_succ, i64_w, i32_w]
              rfl
            refine one_ (i := 8) (N := some 130) #[true, true, true, true, true, true, true, true, true, false, false, false, false, false, false, false, false, false, false, false, false, false] rfl rfl (by kernel_rfl) (by decide) (fun K hK => ?_)
            refine goes_ Try.func29 (by kernel_rfl) rfl #[.agg #[.int .i64 al, .int .i64 ah], .agg #[.int .i64 bl, .int .i64 bh]] (by rfl) rfl rfl (by simp only [List.map_toArray, List.map_cons, List.map_nil] <;> rfl) ?_
            refine (hI1.out _).mono ?_
            rintro e wn ⟨rfl, hbn⟩
            refine ⟨_, rfl, ?_⟩
            replace hbw := bl_step hbw hbn
            clear hbn
            clear hHeld
            refine hK.out _ _ ⟨(bl_cell hbw hq1), (bl_cell hbw hq2), (bl_cell hbw hA1), (bl_cell hbw hA2), (bl_cell hbw hB1), (bl_cell hbw hB2)⟩ (fun hHeld => ?_)
            clear hK K
            refine norm_ (a' := ?_) ?_ ?_
            rotate_left
            · show Act.put _ (some 130) _ = _
              simp only [Act.put, List.setIfInBounds_toArray, List.set_cons_zero, List.set_cons_succ, i64_w, i32_w]
              rfl
            refine pure_ (i := 9) (N := some 131) (v := ?_) (a' := ?_) #[true, true, true, true, true, true, true, true, true, true, false, false, false, false, false, false, false, false, false, false, false, false] rfl rfl (by kernel_rfl) (fun _ _ _ h => h) (Or.inl ⟨by rfl, ?_⟩) ?_ ?_
            rotate_left
            · intro w'
              go_simp
              with_reducible rfl
            rotate_left
            · simp only [Act.put, List.setIfInBounds_toArray, List.set_cons_zero, List.set_cons_succ, i64_w, i32_w]
              rfl
            refine pure_ (i := 10) (N := some 132) (v := ?_) (a' := ?_) #[true, true, true, true, true, true, true, true, true, true, true, false, false, false, false, false, false, false, false, false, false, false] rfl rfl (by kernel_rfl) (fun _ _ _ h => h) (Or.inl ⟨by rfl, ?_⟩) ?_ ?_
            rotate_left
            · intro w'
              go_simp
              with_reducible rfl
            rotate_left
            · simp only [Act.put, List.setIfInBounds_toArray, List.set_cons_zero, List.set_cons_succ, i64_w, i32_w]
              rfl
            refine pure_ (i := 11) (N := some 133) (v := ?_) (a' := ?_) #[true, true, true, true, true, true, true, true, true, true, true, true, false, false, false, false, false, false, false, false, false, false] rfl rfl (by kernel_rfl) (fun _ _ _ h => h) (Or.inl ⟨by rfl, ?_⟩) ?_ ?_
            rotate_left
            · intro w'
              go_simp
              with_reducible rfl
            rotate_left
            · simp only [Act.put, List.setIfInBounds_toArray, List.set_cons_zero, List.set_cons_succ, i64_w, i32_w]
              rfl
            refine pure_ (i := 12) (N := some 134) (v := ?_) (a' := ?_) #[true, true, true, true, true, true, true, true, true, true, true, true, true, false, false, false, false, false, false, false, false, false] rfl rfl (by kernel_rfl) (fun _ _ _ h => h) (Or.inl ⟨by rfl, ?_⟩) ?_ ?_
            rotate_left
            · intro w'
              go_simp
              with_reducible rfl
            rotate_left
            · simp only [Act.put, List.setIfInBounds_toArray, List.set_cons_zero, List.set_cons_succ, i64_w, i32_w]
              rfl
            refine pure_ (i := 13) (N := some 135) (v := ?_) (a' := ?_) #[true, true, true, true, true, true, true, true, true, true, true, true, true, true, false, false, false, false, false, false, false, false] rfl rfl (by kernel_rfl) (fun _ _ _ h => h) (Or.inl ⟨by rfl, ?_⟩) ?_ ?_
            rotate_left
            · intro w'
              go_simp
              with_reducible rfl
            rotate_left
            · simp only [Act.put, List.setIfInBounds_toArray, List.set_cons_zero, List.set_cons_succ, i64_w, i32_w]
              rfl
            refine pure_ (i := 15) (N := some 137) (v := ?_) (a' := ?_) #[true, true, true, true, true, true, true, true, true, true, true, true, true, true, false, true, false, false, false, false, false, false] rfl rfl (by kernel_rfl) (fun _ _ _ h => h) (Or.inl ⟨by rfl, ?_⟩) ?_ ?_
            rotate_left
            · intro w'
              go_simp
              with_reducible rfl
            rotate_left
            · simp only [Act.put, List.setIfInBounds_toArray, List.set_cons_zero, List.set_cons_succ, i64_w, i32_w]
              rfl
            refine pure_ (i := 16) (N := some 138) (v := ?_) (a' := ?_) #[true, true, true, true, true, true, true, true, true, true, true, true, true, true, false, true, true, false, false, false, false, false] rfl rfl (by kernel_rfl) (fun _ _ _ h => h) (Or.inl ⟨by rfl, ?_⟩) ?_ ?_
            rotate_left
            · intro w'
              go_simp
              with_reducible rfl
            rotate_left
            · simp only [Act.put, List.setIfInBounds_toArray, List.set_cons_zero, List.set_cons_succ, i64_w, i32_w]
              rfl
            refine pure_ (i := 17) (N := some 139) (v := ?_) (a' := ?_) #[true, true, true, true, true, true, true, true, true, true, true, true, true, true, false, true, true, true, false, false, false, false] rfl rfl (by kernel_rfl) (fun _ _ _ h => h) (Or.inl ⟨by rfl, ?_⟩) ?_ ?_
            rotate_left
            · intro w'
              go_simp
              with_reducible rfl
            rotate_left
            · simp only [Act.put, List.setIfInBounds_toArray, List.set_cons_zero, List.set_cons_succ, i64_w, i32_w]
              rfl
            refine take_ (i := 14) (N := some 136) (v := ?_) (a' := ?_) #[true, true, true, true, true, true, true, true, true, true, true, true, true, true, true, true, true, true, false, false, false, false] rfl rfl (by kernel_rfl) (fun _ _ _ h => h) (Or.inl ⟨by rfl, ?_⟩) hHeld ?_ ?_
            rotate_left
            · rintro w' ⟨s0, s1, s2, s3, s4, s5⟩
              go_simp
              with_reducible rfl
            rotate_left
            · simp only [Act.put, List.setIfInBounds_toArray, List.set_cons_zero, List.set_cons_succ, i64_w, i32_w]
              rfl
            refine take_ (i := 18) (N := some 140) (v := ?_) (a' := ?_) #[true, true, true, true, true, true, true, true, true, true, true, true, true, true, true, true, true, true, true, false, false, false] rfl rfl (by kernel_rfl) (fun _ _ _ h => h) (Or.inl ⟨by rfl, ?_⟩) hHeld ?_ ?_
            rotate_left
            · rintro w' ⟨s0, s1, s2, s3, s4, s5⟩
              go_simp
              with_reducible rfl
            rotate_left
            · simp only [Act.put, List.setIfInBounds_toArray, List.set_cons_zero, List.set_cons_succ, i64_w, i32_w]
              rfl
            refine one_ (i := 19) (N := some 141) #[true, true, true, true, true, true, true, true, true, true, true, true, true, true, true, true, true, true, true, true, false, false] rfl rfl (by kernel_rfl) (by decide) (fun K hK => ?_)
            refine goes_ Try.func29 (by kernel_rfl) rfl #[.agg #[.int .i64 dl, .int .i64 dh], .agg #[.int .i64 bl, .int .i64 bh]] (by rfl) rfl rfl (by simp only [List.map_toArray, List.map_cons, List.map_nil] <;> rfl) ?_
            refine (hI2.out _).mono ?_
            rintro e wn ⟨rfl, hbn⟩
            refine ⟨_, rfl, ?_⟩
            replace hbw := bl_step hbw hbn
            clear hbn
            clear hHeld
            refine hK.out _ _ ⟨(bl_cell hbw hq1), (bl_cell hbw hq2), (bl_cell hbw hA1), (bl_cell hbw hA2), (bl_cell hbw hB1), (bl_cell hbw hB2)⟩ (fun hHeld => ?_)
            clear hK K
            refine norm_ (a' := ?_) ?_ ?_
            rotate_left
            · show Act.put _ (some 141) _ = _
              simp only [Act.put, List.setIfInBounds_toArray, List.set_cons_zero, List.set_cons_succ, i64_w, i32_w]
              rfl
            refine pure_ (i := 20) (N := some 142) (v := ?_) (a' := ?_) #[true, true, true, true, true, true, true, true, true, true, true, true, true, true, true, true, true, true, true, true, true, false] rfl rfl (by kernel_rfl) (fun _ _ _ h => h) (Or.inl ⟨by rfl, ?_⟩) ?_ ?_
            rotate_left
            · intro w'
              go_simp
              with_reducible rfl
            rotate_left
            · simp only [Act.put, List.setIfInBounds_toArray, List.set_cons_zero, List.set_cons_succ, i64_w, i32_w]
              rfl
            refine pure_ (i := 21) (N := some 143) (v := ?_) (a' := ?_) #[true, true, true, true, true, true, true, true, true, true, true, true, true, true, true, true, true, true, true, true, true, true] rfl rfl (by kernel_rfl) (fun _ _ _ h => h) (Or.inl ⟨by rfl, ?_⟩) ?_ ?_
            rotate_left
            · intro w'
              go_simp
              with_reducible rfl
            rotate_left
            · simp only [Act.put, List.setIfInBounds_toArray, List.set_cons_zero, List.set_cons_succ, i64_w, i32_w]
              rfl
            refine done_ (by kernel_rfl) ?_
            have hb64 : ((i : Int) + 1) ≤ 9223372036854775807 := by omega
            go_wp2
            go_roundw
            case rel => exact ⟨i + 1, by omega, by go_num, rfl, by rw [hPa.out]; simp, by rw [hPb.out]; simp, hbw⟩
            case measure => simp [intOf]; omega
          · skip
            have k1 := bl_cell hbw hB1
            have k2 := bl_cell hbw hB2
            go_wp2_with fail
            refine (hHd.out _).mono ?_
            rintro e wh4 ⟨rfl, hbh⟩
            replace hbw := bl_step hbw hbh
            clear hbh k1 k2
            go_upto_region 17 with fail
            replace hbw := bl_drew hbw
            refine start_ (n := 22) (S := fun w' => w'.cell? ⟨bq, oq + i * 2, none⟩ = some (.int .i64 bl) ∧ w'.cell? ⟨bq, oq + i * 2 + 1, none⟩ = some (.int .i64 bh) ∧ w'.cell? ⟨bA, oA + i * 2, none⟩ = some (.int .i64 al) ∧ w'.cell? ⟨bA, oA + i * 2 + 1, none⟩ = some (.int .i64 ah) ∧ w'.cell? ⟨bB, oB + i * 2, none⟩ = some (.int .i64 dl) ∧ w'.cell? ⟨bB, oB + i * 2 + 1, none⟩ = some (.int .i64 dh)) (ds := []) #[false, false, false, false, false, false, false, false, false, false, false, false, false, false, false, false, false, false, false, false, false, false] (by kernel_rfl) rfl rfl ⟨(bl_cell hbw hq1), (bl_cell hbw hq2), (bl_cell hbw hA1), (bl_cell hbw hA2), (bl_cell hbw hB1), (bl_cell hbw hB2)⟩ (fun hHeld => ?_)
            generalize wh4.drew = wn at *
            refine pure_ (i := 0) (N := some 122) (v := ?_) (a' := ?_) #[true, false, false, false, false, false, false, false, false, false, false, false, false, false, false, false, false, false, false, false, false, false] rfl rfl (by kernel_rfl) (fun _ _ _ h => h) (Or.inl ⟨by rfl, ?_⟩) ?_ ?_
            rotate_left
            · intro w'
              go_simp
              with_reducible rfl
            rotate_left
            · simp only [Act.put, List.setIfInBounds_toArray, List.set_cons_zero, List.set_cons_succ, i64_w, i32_w]
              rfl
            refine pure_ (i := 1) (N := some 123) (v := ?_) (a' := ?_) #[true, true, false, false, false, false, false, false, false, false, false, false, false, false, false, false, false, false, false, false, false, false] rfl rfl (by kernel_rfl) (fun _ _ _ h => h) (Or.inl ⟨by rfl, ?_⟩) ?_ ?_
            rotate_left
            · intro w'
              go_simp
              with_reducible rfl
            rotate_left
            · simp only [Act.put, List.setIfInBounds_toArray, List.set_cons_zero, List.set_cons_succ, i64_w, i32_w]
              rfl
            refine pure_ (i := 2) (N := some 124) (v := ?_) (a' := ?_) #[true, true, true, false, false, false, false, false, false, false, false, false, false, false, false, false, false, false, false, false, false, false] rfl rfl (by kernel_rfl) (fun _ _ _ h => h) (Or.inl ⟨by rfl, ?_⟩) ?_ ?_
            rotate_left
            · intro w'
              go_simp
              with_reducible rfl
            rotate_left
            · simp only [Act.put, List.setIfInBounds_toArray, List.set_cons_zero, List.set_cons_succ, i64_w, i32_w]
              rfl
            refine pure_ (i := 4) (N := some 126) (v := ?_) (a' := ?_) #[true, true, true, false, true, false, false, false, false, false, false, false, false, false, false, false, false, false, false, false, false, false] rfl rfl (by kernel_rfl) (fun _ _ _ h => h) (Or.inl ⟨by rfl, ?_⟩) ?_ ?_
            rotate_left
            · intro w'
              go_simp
              with_reducible rfl
            rotate_left
            · simp only [Act.put, List.setIfInBounds_toArray, List.set_cons_zero, List.set_cons_succ, i64_w, i32_w]
              rfl
            refine pure_ (i := 5) (N := some 127) (v := ?_) (a' := ?_) #[true, true, true, false, true, true, false, false, false, false, false, false, false, false, false, false, false, false, false, false, false, false] rfl rfl (by kernel_rfl) (fun _ _ _ h => h) (Or.inl ⟨by rfl, ?_⟩) ?_ ?_
            rotate_left
            · intro w'
              go_simp
              with_reducible rfl
            rotate_left
            · simp only [Act.put, List.setIfInBounds_toArray, List.set_cons_zero, List.set_cons_succ, i64_w, i32_w]
              rfl
            refine pure_ (i := 6) (N := some 128) (v := ?_) (a' := ?_) #[true, true, true, false, true, true, true, false, false, false, false, false, false, false, false, false, false, false, false, false, false, false] rfl rfl (by kernel_rfl) (fun _ _ _ h => h) (Or.inl ⟨by rfl, ?_⟩) ?_ ?_
            rotate_left
            · intro w'
              go_simp
              with_reducible rfl
            rotate_left
            · simp only [Act.put, List.setIfInBounds_toArray, List.set_cons_zero, List.set_cons_succ, i64_w, i32_w]
              rfl
            refine take_ (i := 3) (N := some 125) (v := ?_) (a' := ?_) #[true, true, true, true, true, true, true, false, false, false, false, false, false, false, false, false, false, false, false, false, false, false] rfl rfl (by kernel_rfl) (fun _ _ _ h => h) (Or.inl ⟨by rfl, ?_⟩) hHeld ?_ ?_
            rotate_left
            · rintro w' ⟨s0, s1, s2, s3, s4, s5⟩
              go_simp
              with_reducible rfl
            rotate_left
            · simp only [Act.put, List.setIfInBounds_toArray, List.set_cons_zero, List.set_cons_succ, i64_w, i32_w]
              rfl
            refine take_ (i := 7) (N := some 129) (v := ?_) (a' := ?_) #[true, true, true, true, true, true, true, true, false, false, false, false, false, false, false, false, false, false, false, false, false, false] rfl rfl (by kernel_rfl) (fun _ _ _ h => h) (Or.inl ⟨by rfl, ?_⟩) hHeld ?_ ?_
            rotate_left
            · rintro w' ⟨s0, s1, s2, s3, s4, s5⟩
              go_simp
              with_reducible rfl
            rotate_left
            · simp only [Act.put, List.setIfInBounds_toArray, List.set_cons_zero, List.set_cons_succ, i64_w, i32_w]
              rfl
            refine one_ (i := 8) (N := some 130) #[true, true, true, true, true, true, true, true, true, false, false, false, false, false, false, false, false, false, false, false, false, false] rfl rfl (by kernel_rfl) (by decide) (fun K hK => ?_)
            refine goes_ Try.func29 (by kernel_rfl) rfl #[.agg #[.int .i64 al, .int .i64 ah], .agg #[.int .i64 bl, .int .i64 bh]] (by rfl) rfl rfl (by simp only [List.map_toArray, List.map_cons, List.map_nil] <;> rfl) ?_
            refine (hI1.out _).mono ?_
            rintro e wn ⟨rfl, hbn⟩
            refine ⟨_, rfl, ?_⟩
            replace hbw := bl_step hbw hbn
            clear hbn
            clear hHeld
            refine hK.out _ _ ⟨(bl_cell hbw hq1), (bl_cell hbw hq2), (bl_cell hbw hA1), (bl_cell hbw hA2), (bl_cell hbw hB1), (bl_cell hbw hB2)⟩ (fun hHeld => ?_)
            clear hK K
            refine norm_ (a' := ?_) ?_ ?_
            rotate_left
            · show Act.put _ (some 130) _ = _
              simp only [Act.put, List.setIfInBounds_toArray, List.set_cons_zero, List.set_cons_succ, i64_w, i32_w]
              rfl
            refine pure_ (i := 9) (N := some 131) (v := ?_) (a' := ?_) #[true, true, true, true, true, true, true, true, true, true, false, false, false, false, false, false, false, false, false, false, false, false] rfl rfl (by kernel_rfl) (fun _ _ _ h => h) (Or.inl ⟨by rfl, ?_⟩) ?_ ?_
            rotate_left
            · intro w'
              go_simp
              with_reducible rfl
            rotate_left
            · simp only [Act.put, List.setIfInBounds_toArray, List.set_cons_zero, List.set_cons_succ, i64_w, i32_w]
              rfl
            refine pure_ (i := 10) (N := some 132) (v := ?_) (a' := ?_) #[true, true, true, true, true, true, true, true, true, true, true, false, false, false, false, false, false, false, false, false, false, false] rfl rfl (by kernel_rfl) (fun _ _ _ h => h) (Or.inl ⟨by rfl, ?_⟩) ?_ ?_
            rotate_left
            · intro w'
              go_simp
              with_reducible rfl
            rotate_left
            · simp only [Act.put, List.setIfInBounds_toArray, List.set_cons_zero, List.set_cons_succ, i64_w, i32_w]
              rfl
            refine pure_ (i := 11) (N := some 133) (v := ?_) (a' := ?_) #[true, true, true, true, true, true, true, true, true, true, true, true, false, false, false, false, false, false, false, false, false, false] rfl rfl (by kernel_rfl) (fun _ _ _ h => h) (Or.inl ⟨by rfl, ?_⟩) ?_ ?_
            rotate_left
            · intro w'
              go_simp
              with_reducible rfl
            rotate_left
            · simp only [Act.put, List.setIfInBounds_toArray, List.set_cons_zero, List.set_cons_succ, i64_w, i32_w]
              rfl
            refine pure_ (i := 12) (N := some 134) (v := ?_) (a' := ?_) #[true, true, true, true, true, true, true, true, true, true, true, true, true, false, false, false, false, false, false, false, false, false] rfl rfl (by kernel_rfl) (fun _ _ _ h => h) (Or.inl ⟨by rfl, ?_⟩) ?_ ?_
            rotate_left
            · intro w'
              go_simp
              with_reducible rfl
            rotate_left
            · simp only [Act.put, List.setIfInBounds_toArray, List.set_cons_zero, List.set_cons_succ, i64_w, i32_w]
              rfl
            refine pure_ (i := 13) (N := some 135) (v := ?_) (a' := ?_) #[true, true, true, true, true, true, true, true, true, true, true, true, true, true, false, false, false, false, false, false, false, false] rfl rfl (by kernel_rfl) (fun _ _ _ h => h) (Or.inl ⟨by rfl, ?_⟩) ?_ ?_
            rotate_left
            · intro w'
              go_simp
              with_reducible rfl
            rotate_left
            · simp only [Act.put, List.setIfInBounds_toArray, List.set_cons_zero, List.set_cons_succ, i64_w, i32_w]
              rfl
            refine pure_ (i := 15) (N := some 137) (v := ?_) (a' := ?_) #[true, true, true, true, true, true, true, true, true, true, true, true, true, true, false, true, false, false, false, false, false, false] rfl rfl (by kernel_rfl) (fun _ _ _ h => h) (Or.inl ⟨by rfl, ?_⟩) ?_ ?_
            rotate_left
            · intro w'
              go_simp
              with_reducible rfl
            rotate_left
            · simp only [Act.put, List.setIfInBounds_toArray, List.set_cons_zero, List.set_cons_succ, i64_w, i32_w]
              rfl
            refine pure_ (i := 16) (N := some 138) (v := ?_) (a' := ?_) #[true, true, true, true, true, true, true, true, true, true, true, true, true, true, false, true, true, false, false, false, false, false] rfl rfl (by kernel_rfl) (fun _ _ _ h => h) (Or.inl ⟨by rfl, ?_⟩) ?_ ?_
            rotate_left
            · intro w'
              go_simp
              with_reducible rfl
            rotate_left
            · simp only [Act.put, List.setIfInBounds_toArray, List.set_cons_zero, List.set_cons_succ, i64_w, i32_w]
              rfl
            refine pure_ (i := 17) (N := some 139) (v := ?_) (a' := ?_) #[true, true, true, true, true, true, true, true, true, true, true, true, true, true, false, true, true, true, false, false, false, false] rfl rfl (by kernel_rfl) (fun _ _ _ h => h) (Or.inl ⟨by rfl, ?_⟩) ?_ ?_
            rotate_left
            · intro w'
              go_simp
              with_reducible rfl
            rotate_left
            · simp only [Act.put, List.setIfInBounds_toArray, List.set_cons_zero, List.set_cons_succ, i64_w, i32_w]
              rfl
            refine take_ (i := 14) (N := some 136) (v := ?_) (a' := ?_) #[true, true, true, true, true, true, true, true, true, true, true, true, true, true, true, true, true, true, false, false, false, false] rfl rfl (by kernel_rfl) (fun _ _ _ h => h) (Or.inl ⟨by rfl, ?_⟩) hHeld ?_ ?_
            rotate_left
            · rintro w' ⟨s0, s1, s2, s3, s4, s5⟩
              go_simp
              with_reducible rfl
            rotate_left
            · simp only [Act.put, List.setIfInBounds_toArray, List.set_cons_zero, List.set_cons_succ, i64_w, i32_w]
              rfl
            refine take_ (i := 18) (N := some 140) (v := ?_) (a' := ?_) #[true, true, true, true, true, true, true, true, true, true, true, true, true, true, true, true, true, true, true, false, false, false] rfl rfl (by kernel_rfl) (fun _ _ _ h => h) (Or.inl ⟨by rfl, ?_⟩) hHeld ?_ ?_
            rotate_left
            · rintro w' ⟨s0, s1, s2, s3, s4, s5⟩
              go_simp
              with_reducible rfl
            rotate_left
            · simp only [Act.put, List.setIfInBounds_toArray, List.set_cons_zero, List.set_cons_succ, i64_w, i32_w]
              rfl
            refine one_ (i := 19) (N := some 141) #[true, true, true, true, true, true, true, true, true, true, true, true, true, true, true, true, true, true, true, true, false, false] rfl rfl (by kernel_rfl) (by decide) (fun K hK => ?_)
            refine goes_ Try.func29 (by kernel_rfl) rfl #[.agg #[.int .i64 dl, .int .i64 dh], .agg #[.int .i64 bl, .int .i64 bh]] (by rfl) rfl rfl (by simp only [List.map_toArray, List.map_cons, List.map_nil] <;> rfl) ?_
            refine (hI2.out _).mono ?_
            rintro e wn ⟨rfl, hbn⟩
            refine ⟨_, rfl, ?_⟩
            replace hbw := bl_step hbw hbn
            clear hbn
            clear hHeld
            refine hK.out _ _ ⟨(bl_cell hbw hq1), (bl_cell hbw hq2), (bl_cell hbw hA1), (bl_cell hbw hA2), (bl_cell hbw hB1), (bl_cell hbw hB2)⟩ (fun hHeld => ?_)
            clear hK K
            refine norm_ (a' := ?_) ?_ ?_
            rotate_left
            · show Act.put _ (some 141) _ = _
              simp only [Act.put, List.setIfInBounds_toArray, List.set_cons_zero, List.set_cons_succ, i64_w, i32_w]
              rfl
            refine pure_ (i := 20) (N := some 142) (v := ?_) (a' := ?_) #[true, true, true, true, true, true, true, true, true, true, true, true, true, true, true, true, true, true, true, true, true, false] rfl rfl (by kernel_rfl) (fun _ _ _ h => h) (Or.inl ⟨by rfl, ?_⟩) ?_ ?_
            rotate_left
            · intro w'
              go_simp
              with_reducible rfl
            rotate_left
            · simp only [Act.put, List.setIfInBounds_toArray, List.set_cons_zero, List.set_cons_succ, i64_w, i32_w]
              rfl
            refine pure_ (i := 21) (N := some 143) (v := ?_) (a' := ?_) #[true, true, true, true, true, true, true, true, true, true, true, true, true, true, true, true, true, true, true, true, true, true] rfl rfl (by kernel_rfl) (fun _ _ _ h => h) (Or.inl ⟨by rfl, ?_⟩) ?_ ?_
            rotate_left
            · intro w'
              go_simp
              with_reducible rfl
            rotate_left
            · simp only [Act.put, List.setIfInBounds_toArray, List.set_cons_zero, List.set_cons_succ, i64_w, i32_w]
              rfl
            refine done_ (by kernel_rfl) ?_
            have hb64 : ((i : Int) + 1) ≤ 9223372036854775807 := by omega
            go_wp2
            go_roundw
            case rel => exact ⟨i + 1, by omega, by go_num, rfl, by rw [hPa.out]; simp, by rw [hPb.out]; simp, hbw⟩
            case measure => simp [intOf]; omega
      · have hie : i = N := by omega
        subst hie
        have hd : decide ((i : Int) < (lb.length : Int)) = false := decide_eq_false (by have := hll.out; omega)
        have hd2 : decide (i < lb.length) = false := decide_eq_false (by have := hll.out; omega)
        have hd3 : ¬ i < lb.length := by have := hll.out; omega
        obtain ⟨ba, hba⟩ : ∃ z, (List.range i).all fa = z := ⟨_, rfl⟩
        obtain ⟨bb, hbb⟩ : ∃ z, (List.range i).all fb = z := ⟨_, rfl⟩
        have m2 := hla2.out
        rw [hba, hbb] at m2
        rw [hba, hbb]
        obtain ⟨h0, hh0⟩ : ∃ z, holdsP p (slP p ls) lb = z := ⟨_, rfl⟩
        obtain ⟨h1, hh1⟩ : ∃ z, holdsP p (slP p ls) la = z := ⟨_, rfl⟩
        obtain ⟨h2, hh2⟩ : ∃ z, holdsP p (slP p ls) lb2 = z := ⟨_, rfl⟩
        rw [hh0, hh1, hh2] at hla4
        rw [hh0] at hHb
        rw [hh1] at hHa1
        rw [hh2] at hHa2
        clear hba hbb hh0 hh1 hh2 hla1 hla2 hla3 hfa' hfb' hyg hne hi hlt
        go_wp2_with fail
        refine (alive16_calls _).mono ?_
        rintro e w7 ⟨rfl, hb7⟩
        replace hbw := bl_step hbw hb7
        clear hb7
        cases ba <;> cases bb
        any_goals (exfalso; revert m2; decide)
        all_goals
          clear m2
          go_wp2_with fail
          refine (hHb.out _ hbw).mono ?_
          rintro e w8 ⟨rfl, hb8⟩
          replace hbw := bl_step hbw hb8
          clear hb8 hHb
          cases h0
          · subst hw0
            go_wp2
            go_ret
            exact ⟨rfl, bl_step hbw0 hbw⟩
          · obtain ⟨rfl, rfl⟩ := hla4.out rfl
            go_wp2_with fail
            refine (hHa1.out _ hbw).mono ?_
            rintro e w9 ⟨rfl, hb9⟩
            replace hbw := bl_step hbw hb9
            clear hb9 hHa1
            go_wp2_with fail
            refine (hHa2.out _ hbw).mono ?_
            rintro e w10 ⟨rfl, hb10⟩
            replace hbw := bl_step hbw hb10
            clear hb10 hHa2
            subst hw0
            go_wp2
            go_ret
            exact ⟨rfl, bl_step hbw0 hbw⟩
end Go.Proofs.Ythdaidmjjcmccaa
