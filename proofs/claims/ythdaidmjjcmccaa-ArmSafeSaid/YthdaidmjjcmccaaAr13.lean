/- Proved here: lemmas and contracts (what a function of the program computes) that the proofs of the laws of this seat lean on. Conditions: as each theorem states. -/
import Derived.Test.YthdaidmjjcmccaaAr12
import Derived.Test.YthdaidmjjcmccaaAr7
import Derived.Test.YthdaidmjjcmccaaLin
import Derived.Test.YthdaidmjjcmccaaAr10
import Derived.Test.YthdaidmjjcmccaaOwn3
import Derived.Test.YthdaidmjjcmccaaSpan
import Derived.Test.YthdaidmjjcmccaaPl10
set_option linter.unusedVariables false
set_option linter.unusedSimpArgs false
namespace Go.Pk
open Go.RowKit Go.Pk.Rx
theorem NewArmPost.either {W w' : World} {bad : Prop} {rr : Int} {p : Pl} {ls : List Int} {hold : Int} {TL TK TA : Nat} {e : Ending} (h : NewArmPost W w' (newOk p ls) bad rr p (slP p ls) hold TL TK TA e) :
    (∃ er : Int, er ≠ 0 ∧ e = .returned (.tuple #[.pointer none, .int .i64 er]) ∧ Below W.heap.size W w') ∨
    (newOk p ls = true ∧ rr = 0 ∧ ∃ w1 gl ga aS cS, e = .returned (.tuple #[.pointer (some ⟨ga, 0, none⟩), .int .i64 0]) ∧ Below W.heap.size W w1 ∧ Below w1.heap.size w1 w' ∧ ArmX w1 ga gl aS p (slP p ls) TL TK ∧ w'.heap[ga]? = some (.cells (armV gl hold ⟨0, 0, 0, 0⟩ aS p.B.length cS) TA (0, 0))) := by
  unfold NewArmPost at h
  obtain ⟨h1, h2, h3, h4, h5⟩ := h
  cases ho : newOk p ls
  · obtain ⟨er, h6, h7⟩ := h2 ho
    exact Or.inl ⟨er, h6, h7, h1⟩
  · by_cases hb : bad
    · exact Or.inl ⟨1, by omega, h3 ho hb, h1⟩
    · by_cases hr : rr = 0
      · obtain ⟨w1, gl, ga, aS, cS, k1, k2, k3, -, k5, k6⟩ := h5 ho hb hr
        exact Or.inr ⟨rfl, hr, w1, gl, ga, aS, cS, k1, k2, k3, k5, k6⟩
      · exact Or.inl ⟨60, by omega, h4 ho hb hr, h1⟩
theorem AccAt.kx {X : Nat → Prop} {w w1 : World} {g : Nat} {o : Bool} (h : AccAt w (some ⟨g, 0, none⟩) o) (hk : KeepX X w w1) (hn : ¬ X g) : AccAt w1 (some ⟨g, 0, none⟩) o := by
  obtain ⟨h1, h2⟩ := h
  cases hx : w.heap[g]? with
  | none => simp [World.cell?, hx] at h1
  | some q =>
    have h3 := hk g q hn hx
    refine ⟨?_, ?_⟩
    · simp only [World.cell?, hx, h3] at h1 ⊢; exact h1
    · simp only [World.frozen?, hx, h3] at h2 ⊢; exact h2
theorem RdI.kx {X : Nat → Prop} {w w1 : World} (h : KeepX X w w1) {A : Option Addr} {l : List Int} (hA : ∀ a : Addr, A = some a → ¬ X a.block) (hr : RdI w A l) : RdI w1 A l :=
  ⟨hr.1, fun i u hu => by
    obtain ⟨b, off, e, hc⟩ := hr.2 i u hu
    exact ⟨b, off, e, KeepX.cell (a := ⟨b, off + i, none⟩) h (hA ⟨b, off, none⟩ e) hc⟩⟩
theorem RdI.lt {w : World} {A : Option Addr} {l : List Int} (h : RdI w A l) (hl : 1 ≤ l.length) : ∀ ad : Addr, A = some ad → ad.block < w.heap.size := fun ad e => by
  obtain ⟨b_, o_, e_, hc_⟩ := h.at (i := 0) (by omega)
  rw [e] at e_
  injection e_ with e_
  have h2 := World.block_lt_of_cell? w _ hc_
  subst e_
  exact h2
theorem decCmd_rng {p : Pl} (hg : GoodP p) (s : List Int) (hold : Int) (a : ASt) (b : ByteArray) (x : List Int) : -9223372036854775808 ≤ decCmd p s hold a b x ∧ decCmd p s hold a b x ≤ 9223372036854775807 := by
  unfold decCmd
  split
  · exact cmdU_rng b
  · exact baseP_rng hg x
theorem decSrc_or (p : Pl) (s : List Int) (hold : Int) (a : ASt) (b : ByteArray) (x : List Int) : decSrc p s hold a b x = 0 ∨ decSrc p s hold a b x = 1 := by
  unfold decSrc
  split
  · exact Or.inl rfl
  · exact Or.inr rfl
end Go.Pk
namespace Go.Proofs.Ythdaidmjjcmccaa
open Go.RowKit Go.Pk Go.Proofs.YthdaidmjjcmccaaW.PrintLast
set_option maxHeartbeats 8000000 in
set_option maxRecDepth 100000 in
theorem ASafe_walk (q : PA) (p : Pl) (ls : List Int) (hold : Int) (l : List OpR) (lx lo lw : List Int) (as_ al ax ao aw : Option Addr) (cs cl cx co cw : Nat) (w : World) (hq : q.rd w p) (hin : InP p) (hs : RdI w as_ ls) (hsi : InI ls) (hl : RdO w al l) (hx : RdI w ax lx) (ho : RdI w ao lo) (hw : RdI w aw lw) :
    Calls Try.prog 11 #[.agg (q.cells p).toArray, .int .i64 hold, .slice as_ ls.length cs, .slice al l.length cl, .slice ax lx.length cx, .slice ao lo.length co, .slice aw lw.length cw] w fun e w' => e = .returned (.bool true) ∧ Below w.heap.size w w' := by
  have hpW0 := hidI (fun W (h : q.rd W p) => h.W)
  have hpI0 := hidI (fun W (h : q.rd W p) => h.I)
  have hLt := hidI (fun W (h : q.rd W p) => Light_calls q p W h)
  have hNw := hidI (fun W (h : q.rd W p) (h2 : RdI W as_ ls) => (NewArm_calls q p hold as_ ls cs W h hin h2 hsi).mono fun e w' h => h.either)
  have hok := hidI (fun h => newOk_yes (p := p) (ls := ls) hin hsi h)
  obtain ⟨aA, cA, aB, cB, aW, cW, aI, cI, aS, cS, aG, cG⟩ := q
  unfold PA.cells at hLt hNw ⊢
  simp only [] at hLt hNw hpW0 hpI0
  obtain ⟨lt1, hlt1⟩ : ∃ z, lightP p = z := ⟨_, rfl⟩
  rw [hlt1] at hLt
  clear hlt1 hin
  replace hsi := hidI hsi
  go_enter Try.func11, Try.ntmps11
  go_upto_region 1 with fail
  have hk_g1 := blk_new w (.cells #[.slice aA p.A.length cA, .slice aB p.B.length cB, .int .i64 p.inp.lo, .int .i64 p.inp.hi, .slice aW p.W.length cW, .slice aI p.Inv.length cI, .slice aS p.Safe.length cS, .slice aG p.gain.length cG, .int .i64 p.bias] 28)
  have hbw0 := bl_alloc (Below.refl w.heap.size w) (.cells #[.slice aA p.A.length cA, .slice aB p.B.length cB, .int .i64 p.inp.lo, .int .i64 p.inp.hi, .slice aW p.W.length cW, .slice aI p.Inv.length cI, .slice aS p.Safe.length cS, .slice aG p.gain.length cG, .int .i64 p.bias] 28)
  generalize w.alloc (.cells #[.slice aA p.A.length cA, .slice aB p.B.length cB, .int .i64 p.inp.lo, .int .i64 p.inp.hi, .slice aW p.W.length cW, .slice aI p.Inv.length cI, .slice aS p.Safe.length cS, .slice aG p.gain.length cG, .int .i64 p.bias] 28) = W1 at *
  obtain ⟨w0, hw0⟩ : ∃ z : World, z = w := ⟨_, rfl⟩
  obtain ⟨g1, hg1⟩ : ∃ g, w.heap.size = g := ⟨_, rfl⟩
  rw [hg1] at hk_g1
  rw [hg1]
  clear hg1
  rw [← hw0] at hbw0 hq hs ho hx hw hl
  have y0 : W1.cell? ⟨g1, 0, none⟩ = some (.slice aA p.A.length cA) := blk_cell hk_g1 0 (by rfl)
  have y1 : W1.cell? ⟨g1, 1, none⟩ = some (.slice aB p.B.length cB) := blk_cell hk_g1 1 (by rfl)
  have y2 : W1.cell? ⟨g1, 2, none⟩ = some (.int .i64 p.inp.lo) := blk_cell hk_g1 2 (by rfl)
  have y3 : W1.cell? ⟨g1, 3, none⟩ = some (.int .i64 p.inp.hi) := blk_cell hk_g1 3 (by rfl)
  have y4 : W1.cell? ⟨g1, 4, none⟩ = some (.slice aW p.W.length cW) := blk_cell hk_g1 4 (by rfl)
  have y5 : W1.cell? ⟨g1, 5, none⟩ = some (.slice aI p.Inv.length cI) := blk_cell hk_g1 5 (by rfl)
  have y6 : W1.cell? ⟨g1, 6, none⟩ = some (.slice aS p.Safe.length cS) := blk_cell hk_g1 6 (by rfl)
  have y7 : W1.cell? ⟨g1, 7, none⟩ = some (.slice aG p.gain.length cG) := blk_cell hk_g1 7 (by rfl)
  have y8 : W1.cell? ⟨g1, 8, none⟩ = some (.int .i64 p.bias) := blk_cell hk_g1 8 (by rfl)
  go_wp2_with fail
  refine (hNw.out W1 (hq.below hbw0) (hs.below hbw0)).mono ?_
  intro e V0 hpost
  clear hNw y0 y1 y2 y3 y4 y5 y6 y7 y8
  rcases hpost with ⟨er, hne, rfl, hb2⟩ | ⟨hok1, hrr, V, gl, ga, aSl, cSl, rfl, hbV, hbw2, hX, hk_ga⟩
  · have dE : (er == 0) = false := by simpa using hne
    have dE2 : (er != 0) = true := by simpa using hne
    have hbw := bl_step hbw0 hb2
    replace hk_g1 := bl_block hb2 hk_g1
    clear hok hs hne hb2 hbw0
    have y0 : V0.cell? ⟨g1, 0, none⟩ = some (.slice aA p.A.length cA) := blk_cell hk_g1 0 (by rfl)
    have y1 : V0.cell? ⟨g1, 1, none⟩ = some (.slice aB p.B.length cB) := blk_cell hk_g1 1 (by rfl)
    have y2 : V0.cell? ⟨g1, 2, none⟩ = some (.int .i64 p.inp.lo) := blk_cell hk_g1 2 (by rfl)
    have y3 : V0.cell? ⟨g1, 3, none⟩ = some (.int .i64 p.inp.hi) := blk_cell hk_g1 3 (by rfl)
    have y4 : V0.cell? ⟨g1, 4, none⟩ = some (.slice aW p.W.length cW) := blk_cell hk_g1 4 (by rfl)
    have y5 : V0.cell? ⟨g1, 5, none⟩ = some (.slice aI p.Inv.length cI) := blk_cell hk_g1 5 (by rfl)
    have y6 : V0.cell? ⟨g1, 6, none⟩ = some (.slice aS p.Safe.length cS) := blk_cell hk_g1 6 (by rfl)
    have y7 : V0.cell? ⟨g1, 7, none⟩ = some (.slice aG p.gain.length cG) := blk_cell hk_g1 7 (by rfl)
    have y8 : V0.cell? ⟨g1, 8, none⟩ = some (.int .i64 p.bias) := blk_cell hk_g1 8 (by rfl)
    go_wp2_with fail
    refine (hLt.out V0 (hq.below hbw)).mono ?_
    rintro e w3 ⟨rfl, hbl⟩
    replace hbw := bl_step hbw hbl
    clear hLt hq hk_g1 hbl y0 y1 y2 y3 y4 y5 y6 y7 y8
    cases lt1
    · skip
      go_wp2_with fail
      refine (alive20_calls _).mono ?_
      rintro e wz ⟨rfl, hbz⟩
      replace hbw := bl_step hbw hbz
      subst hw0
      go_wp2
      go_ret
      exact ⟨rfl, hbw⟩
    · skip
      go_wp2_with fail
      refine (alive20_calls _).mono ?_
      rintro e wz ⟨rfl, hbz⟩
      replace hbw := bl_step hbw hbz
      subst hw0
      go_wp2
      go_ret
      exact ⟨rfl, hbw⟩
  obtain ⟨hgood, hsl, hslk, -⟩ := hok.out hok1
  replace hbw0 := bl_step hbw0 hbV
  replace hk_g1 := bl_block hbV hk_g1
  have hk_g1' := bl_block hbw2 hk_g1
  have hbwA := bl_step hbw0 hbw2
  replace ho := ho.below hbw0
  replace hx := hx.below hbw0
  replace hw := hw.below hbw0
  replace hs := hs.below hbw0
  replace hl := hl.below hbw0
  clear hok hok1
  have y0 : V0.cell? ⟨g1, 0, none⟩ = some (.slice aA p.A.length cA) := blk_cell hk_g1' 0 (by rfl)
  have y1 : V0.cell? ⟨g1, 1, none⟩ = some (.slice aB p.B.length cB) := blk_cell hk_g1' 1 (by rfl)
  have y2 : V0.cell? ⟨g1, 2, none⟩ = some (.int .i64 p.inp.lo) := blk_cell hk_g1' 2 (by rfl)
  have y3 : V0.cell? ⟨g1, 3, none⟩ = some (.int .i64 p.inp.hi) := blk_cell hk_g1' 3 (by rfl)
  have y4 : V0.cell? ⟨g1, 4, none⟩ = some (.slice aW p.W.length cW) := blk_cell hk_g1' 4 (by rfl)
  have y5 : V0.cell? ⟨g1, 5, none⟩ = some (.slice aI p.Inv.length cI) := blk_cell hk_g1' 5 (by rfl)
  have y6 : V0.cell? ⟨g1, 6, none⟩ = some (.slice aS p.Safe.length cS) := blk_cell hk_g1' 6 (by rfl)
  have y7 : V0.cell? ⟨g1, 7, none⟩ = some (.slice aG p.gain.length cG) := blk_cell hk_g1' 7 (by rfl)
  have y8 : V0.cell? ⟨g1, 8, none⟩ = some (.int .i64 p.bias) := blk_cell hk_g1' 8 (by rfl)
  go_wp2_with fail
  refine (hLt.out V0 (hq.below hbwA)).mono ?_
  rintro e w3 ⟨rfl, hb3⟩
  have hbw := bl_step hbw2 hb3
  replace hk_ga := bl_block hb3 hk_ga
  have hpW := hpW0.out V (hq.below hbw0)
  have hpI := hpI0.out V (hq.below hbw0)
  clear hLt hq y0 y1 y2 y3 y4 y5 y6 y7 y8 hpW0 hpI0 hk_g1' hbwA hb3 hbw2
  cases lt1
  · skip
    have hbw := bl_step hbw0 hbw
    go_wp2_with fail
    refine (alive20_calls _).mono ?_
    rintro e wz ⟨rfl, hbz⟩
    replace hbw := bl_step hbw hbz
    subst hw0
    go_wp2
    go_ret
    exact ⟨rfl, hbw⟩
  have hLi := hidI (fun W (h : Below V.heap.size V W) => Light20_calls al l cl W (hl.below h))
  obtain ⟨lt2, hlt2⟩ : ∃ z, lightO l = z := ⟨_, rfl⟩
  rw [hlt2] at hLi
  go_wp2_with fail
  refine (hLi.out _ hbw).mono ?_
  rintro e w4 ⟨rfl, hw4⟩
  subst hw4
  cases lt2
  · skip
    have hbw := bl_step hbw0 hbw
    go_wp2_with fail
    refine (alive20_calls _).mono ?_
    rintro e wz ⟨rfl, hbz⟩
    replace hbw := bl_step hbw hbz
    subst hw0
    go_wp2
    go_ret
    exact ⟨rfl, hbw⟩
  have hl200 := lightO_yes hlt2
  clear hlt2 hLi
  obtain ⟨gk, hgk, hkit⟩ := hX.lk.ptr
  obtain ⟨N, hN⟩ : ∃ N, Hid (p.B.length = N) := ⟨_, rfl⟩
  have hlens := hidI hgood.lens
  have hN3 : 1 ≤ N ∧ N ≤ 3 := by have := hlens.out; have := hN.out; omega
  have hDm := hidI (fun W (h : Below V.heap.size V W) => Dim_calls gk p W (hkit.below h))
  rw [hN.out] at hDm
  have hvn := hidI hk_ga
  unfold armV at hk_ga
  have ya0 : w4.cell? ⟨ga, 0, none⟩ = some (.pointer (some ⟨gl, 0, none⟩)) := blk_cell hk_ga 0 (by rfl)
  have yl0 : w4.cell? ⟨gl, 0, none⟩ = some (.pointer (some ⟨gk, 0, none⟩)) := bl_cell hbw hgk
  replace hk_ga := hvn.out
  clear hvn
  go_wp2_with fail
  refine (hDm.out _ hbw).mono ?_
  rintro e w5 ⟨rfl, hw_⟩
  subst hw_
  by_cases hx1 : (lx.length : Int) < (N : Int)
  · have d2 : decide ((lx.length : Int) < (N : Int)) = true := decide_eq_true hx1
    clear ya0 yl0
    have hbw := bl_step hbw0 hbw
    go_wp2_with fail
    refine (alive20_calls _).mono ?_
    rintro e wz ⟨rfl, hbz⟩
    replace hbw := bl_step hbw hbz
    subst hw0
    go_wp2
    go_ret
    exact ⟨rfl, hbw⟩
  have elx : N ≤ lx.length := by omega
  have dlx : decide ((lx.length : Int) < (N : Int)) = false := decide_eq_false hx1
  have nlx : decide (lx.length < N) = false := decide_eq_false (by omega)
  clear hx1
  by_cases ho1 : lo.length = 0
  · have d2 : ((lo.length : Int) == 0) = true := by simp [ho1]
    clear ya0 yl0
    have hbw := bl_step hbw0 hbw
    go_wp2_with fail
    refine (alive20_calls _).mono ?_
    rintro e wz ⟨rfl, hbz⟩
    replace hbw := bl_step hbw hbz
    subst hw0
    go_wp2
    go_ret
    exact ⟨rfl, hbw⟩
  have dlo : ((lo.length : Int) == 0) = false := by simpa using ho1
  have nlo : (lo.length == 0) = false := by simpa using ho1
  by_cases hw1 : lw.length = 0
  · have d2 : ((lw.length : Int) == 0) = true := by simp [hw1]
    clear ya0 yl0
    have hbw := bl_step hbw0 hbw
    go_wp2_with fail
    refine (alive20_calls _).mono ?_
    rintro e wz ⟨rfl, hbz⟩
    replace hbw := bl_step hbw hbz
    subst hw0
    go_wp2
    go_ret
    exact ⟨rfl, hbw⟩
  have dlw : ((lw.length : Int) == 0) = false := by simpa using hw1
  have nlw : (lw.length == 0) = false := by simpa using hw1
  clear ya0 yl0
  have hga := blk_lt hk_ga
  obtain ⟨B, hB⟩ : ∃ B, B = w5.heap.size := ⟨_, rfl⟩
  have hgB : ga < B := by omega
  have hsB : B ≤ w5.heap.size := by omega
  have hVB : V.heap.size ≤ B := by have := hbw.size; omega
  clear hB hga
  have hlE := hidI (And.intro hN.out hlens.out)
  have hsk := hidI (slacks_iff.1 hslk)
  have hys := hidI (fun n => clampsL_succ lx p.Inv n)
  have hyl := hidI (fun n => clampsL_length lx p.Inv n)
  have hyB := hidI (fun n h => clampsL_inB (x := lx) (b := p.Inv) (n := n) h)
  have ho3 : Own3 w5 B 3 (.slice none 0 0) (.slice none 0 0) (.slice none 0 0) (clampsL lx p.Inv 0) [] [] := Own3.nil _ _ _
  obtain ⟨ys, hys0⟩ : ∃ f : Nat → List Int, f = clampsL lx p.Inv := ⟨_, rfl⟩
  rw [← hys0] at hys hyl hyB ho3
  clear hys0
  unfold armV at hk_ga
  simp only [] at hk_ga
  go_wp2
  go_loopw [17, 18] (fun yv x wr => ∃ i : Nat, i ≤ N ∧ x = .int .i64 i ∧ Below V.heap.size V wr ∧ B ≤ wr.heap.size ∧ wr.heap[ga]? = some (.cells #[.pointer (some ⟨gl, 0, none⟩), .int .i64 hold, .int .i64 0, .int .i64 0, .int .i64 0, .int .i64 0, .slice aSl p.B.length cSl] 78 (0, 0)) ∧ Own3 wr B 3 yv (.slice none 0 0) (.slice none 0 0) (ys i) [] []) (fun _ x _ => (N - intOf x).toNat)
  case atStart => exact ⟨0, by omega, rfl, hbw, hsB, hk_ga, ho3⟩
  case round =>
    clear hbw hsB hk_ga ho3
    obtain ⟨i, hi, rfl, hbw, hsB, hk_ga, ho3⟩ := hrel
    have ya0 : wr.cell? ⟨ga, 0, none⟩ = some (.pointer (some ⟨gl, 0, none⟩)) := blk_cell hk_ga 0 (by rfl)
    have yl0 : wr.cell? ⟨gl, 0, none⟩ = some (.pointer (some ⟨gk, 0, none⟩)) := bl_cell hbw hgk
    go_wp2_with fail
    refine (hDm.out _ hbw).mono ?_
    rintro e w9 ⟨rfl, hw9⟩
    subst hw9
    clear ya0 yl0
    by_cases hlt : i < N
    · have hd : decide ((i : Int) < (N : Int)) = true := decide_eq_true (by omega)
      have il1 : i < lx.length := by omega
      have il5 : i < p.Inv.length := by have := hlE.out; omega
      have hysi := hidI (hys.out i)
      have hYl := hidI (hyl.out i)
      obtain ⟨ib, iob, hbI, hi1, hi2⟩ := hpI.at (k := i) (by have := hlE.out; omega)
      subst hbI
      obtain ⟨bx, ox, rfl, hex⟩ := hx.at (i := i) (by omega)
      obtain ⟨xi, hz1⟩ : ∃ z, lx.getD i 0 = z := ⟨_, rfl⟩
      obtain ⟨⟨nl, nh⟩, hz4⟩ : ∃ z, p.Inv.getD i ⟨0, 0⟩ = z := ⟨_, rfl⟩
      rw [hz1] at hex hysi
      rw [hz4] at hi1 hi2 hysi
      simp only [] at hi1 hi2 hysi
      clear hz1 hz4
      obtain ⟨ni, hni⟩ : ∃ z, Hid (clampTo xi nl nh = z) := ⟨_, rfl⟩
      rw [hni.out] at hysi
      go_upto_region 10 with fail
      replace ho3 := ho3.drew
      replace hsB : B ≤ w9.drew.heap.size := hsB
      replace hk_ga := blk_drew hk_ga
      replace hbw := bl_drew hbw
      refine start_ (n := 21) (S := fun w' => w'.cell? ⟨bx, ox + i, none⟩ = some (.int .i64 xi) ∧ w'.cell? ⟨g1, 5, none⟩ = some (.slice (some ⟨ib, iob, none⟩) p.Inv.length cI) ∧ w'.cell? ⟨ib, iob + i * 2, none⟩ = some (.int .i64 nl) ∧ w'.cell? ⟨ib, iob + i * 2 + 1, none⟩ = some (.int .i64 nh)) (ds := []) #[false, false, false, false, false, false, false, false, false, false, false, false, false, false, false, false, false, false, false, false, false] (by kernel_rfl) rfl rfl ⟨(bl_cell hbw hex), (blk_cell (bl_block hbw hk_g1) 5 (by rfl)), (bl_cell hbw hi1), (bl_cell hbw hi2)⟩ (fun hHeld => ?_)
      generalize w9.drew = wn at *
      refine pure_ (i := 0) (N := some 89) (v := ?_) (a' := ?_) #[true, false, false, false, false, false, false, false, false, false, false, false, false, false, false, false, false, false, false, false, false] rfl rfl (by kernel_rfl) (fun _ _ _ h => h) (Or.inl ⟨by rfl, ?_⟩) ?_ ?_
      rotate_left
      · intro w'
        go_simp
        with_reducible rfl
      rotate_left
      · simp only [Act.put, List.setIfInBounds_toArray, List.set_cons_zero, List.set_cons_succ, i64_w, i32_w]
        rfl
      refine pure_ (i := 1) (N := some 90) (v := ?_) (a' := ?_) #[true, true, false, false, false, false, false, false, false, false, false, false, false, false, false, false, false, false, false, false, false] rfl rfl (by kernel_rfl) (fun _ _ _ h => h) (Or.inl ⟨by rfl, ?_⟩) ?_ ?_
      rotate_left
      · intro w'
        go_simp
        with_reducible rfl
      rotate_left
      · simp only [Act.put, List.setIfInBounds_toArray, List.set_cons_zero, List.set_cons_succ, i64_w, i32_w]
        rfl
      refine pure_ (i := 2) (N := some 91) (v := ?_) (a' := ?_) #[true, true, true, false, false, false, false, false, false, false, false, false, false, false, false, false, false, false, false, false, false] rfl rfl (by kernel_rfl) (fun _ _ _ h => h) (Or.inl ⟨by rfl, ?_⟩) ?_ ?_
      rotate_left
      · intro w'
        go_simp
        with_reducible rfl
      rotate_left
      · simp only [Act.put, List.setIfInBounds_toArray, List.set_cons_zero, List.set_cons_succ, i64_w, i32_w]
        rfl
      refine pure_ (i := 3) (N := some 92) (v := ?_) (a' := ?_) #[true, true, true, true, false, false, false, false, false, false, false, false, false, false, false, false, false, false, false, false, false] rfl rfl (by kernel_rfl) (fun _ _ _ h => h) (Or.inl ⟨by rfl, ?_⟩) ?_ ?_
      rotate_left
      · intro w'
        go_simp
        with_reducible rfl
      rotate_left
      · simp only [Act.put, List.setIfInBounds_toArray, List.set_cons_zero, List.set_cons_succ, i64_w, i32_w]
        rfl
      refine pure_ (i := 5) (N := some 94) (v := ?_) (a' := ?_) #[true, true, true, true, false, true, false, false, false, false, false, false, false, false, false, false, false, false, false, false, false] rfl rfl (by kernel_rfl) (fun _ _ _ h => h) (Or.inl ⟨by rfl, ?_⟩) ?_ ?_
      rotate_left
      · intro w'
        go_simp
        with_reducible rfl
      rotate_left
      · simp only [Act.put, List.setIfInBounds_toArray, List.set_cons_zero, List.set_cons_succ, i64_w, i32_w]
        rfl
      refine pure_ (i := 7) (N := some 96) (v := ?_) (a' := ?_) #[true, true, true, true, false, true, false, true, false, false, false, false, false, false, false, false, false, false, false, false, false] rfl rfl (by kernel_rfl) (fun _ _ _ h => h) (Or.inl ⟨by rfl, ?_⟩) ?_ ?_
      rotate_left
      · intro w'
        go_simp
        with_reducible rfl
      rotate_left
      · simp only [Act.put, List.setIfInBounds_toArray, List.set_cons_zero, List.set_cons_succ, i64_w, i32_w]
        rfl
      refine pure_ (i := 11) (N := some 100) (v := ?_) (a' := ?_) #[true, true, true, true, false, true, false, true, false, false, false, true, false, false, false, false, false, false, false, false, false] rfl rfl (by kernel_rfl) (fun _ _ _ h => h) (Or.inl ⟨by rfl, ?_⟩) ?_ ?_
      rotate_left
      · intro w'
        go_simp
        with_reducible rfl
      rotate_left
      · simp only [Act.put, List.setIfInBounds_toArray, List.set_cons_zero, List.set_cons_succ, i64_w, i32_w]
        rfl
      refine pure_ (i := 13) (N := some 102) (v := ?_) (a' := ?_) #[true, true, true, true, false, true, false, true, false, false, false, true, false, true, false, false, false, false, false, false, false] rfl rfl (by kernel_rfl) (fun _ _ _ h => h) (Or.inl ⟨by rfl, ?_⟩) ?_ ?_
      rotate_left
      · intro w'
        go_simp
        with_reducible rfl
      rotate_left
      · simp only [Act.put, List.setIfInBounds_toArray, List.set_cons_zero, List.set_cons_succ, i64_w, i32_w]
        rfl
      refine take_ (i := 4) (N := some 93) (v := ?_) (a' := ?_) #[true, true, true, true, true, true, false, true, false, false, false, true, false, true, false, false, false, false, false, false, false] rfl rfl (by kernel_rfl) (fun _ _ _ h => h) (Or.inl ⟨by rfl, ?_⟩) hHeld ?_ ?_
      rotate_left
      · rintro w' ⟨s0, s1, s2, s3⟩
        go_simp
        with_reducible rfl
      rotate_left
      · simp only [Act.put, List.setIfInBounds_toArray, List.set_cons_zero, List.set_cons_succ, i64_w, i32_w]
        rfl
      refine take_ (i := 6) (N := some 95) (v := ?_) (a' := ?_) #[true, true, true, true, true, true, true, true, false, false, false, true, false, true, false, false, false, false, false, false, false] rfl rfl (by kernel_rfl) (fun _ _ _ h => h) (Or.inl ⟨by rfl, ?_⟩) hHeld ?_ ?_
      rotate_left
      · rintro w' ⟨s0, s1, s2, s3⟩
        go_simp
        with_reducible rfl
      rotate_left
      · simp only [Act.put, List.setIfInBounds_toArray, List.set_cons_zero, List.set_cons_succ, i64_w, i32_w]
        rfl
      refine pure_ (i := 8) (N := some 97) (v := ?_) (a' := ?_) #[true, true, true, true, true, true, true, true, true, false, false, true, false, true, false, false, false, false, false, false, false] rfl rfl (by kernel_rfl) (fun _ _ _ h => h) (Or.inl ⟨by rfl, ?_⟩) ?_ ?_
      rotate_left
      · intro w'
        go_simp
        with_reducible rfl
      rotate_left
      · simp only [Act.put, List.setIfInBounds_toArray, List.set_cons_zero, List.set_cons_succ, i64_w, i32_w]
        rfl
      refine pure_ (i := 9) (N := some 98) (v := ?_) (a' := ?_) #[true, true, true, true, true, true, true, true, true, true, false, true, false, true, false, false, false, false, false, false, false] rfl rfl (by kernel_rfl) (fun _ _ _ h => h) (Or.inl ⟨by rfl, ?_⟩) ?_ ?_
      rotate_left
      · intro w'
        go_simp
        with_reducible rfl
      rotate_left
      · simp only [Act.put, List.setIfInBounds_toArray, List.set_cons_zero, List.set_cons_succ, i64_w, i32_w]
        rfl
      refine take_ (i := 10) (N := some 99) (v := ?_) (a' := ?_) #[true, true, true, true, true, true, true, true, true, true, true, true, false, true, false, false, false, false, false, false, false] rfl rfl (by kernel_rfl) (fun _ _ _ h => h) (Or.inl ⟨by rfl, ?_⟩) hHeld ?_ ?_
      rotate_left
      · rintro w' ⟨s0, s1, s2, s3⟩
        go_simp
        with_reducible rfl
      rotate_left
      · simp only [Act.put, List.setIfInBounds_toArray, List.set_cons_zero, List.set_cons_succ, i64_w, i32_w]
        rfl
      refine take_ (i := 12) (N := some 101) (v := ?_) (a' := ?_) #[true, true, true, true, true, true, true, true, true, true, true, true, true, true, false, false, false, false, false, false, false] rfl rfl (by kernel_rfl) (fun _ _ _ h => h) (Or.inl ⟨by rfl, ?_⟩) hHeld ?_ ?_
      rotate_left
      · rintro w' ⟨s0, s1, s2, s3⟩
        go_simp
        with_reducible rfl
      rotate_left
      · simp only [Act.put, List.setIfInBounds_toArray, List.set_cons_zero, List.set_cons_succ, i64_w, i32_w]
        rfl
      refine pure_ (i := 14) (N := some 103) (v := ?_) (a' := ?_) #[true, true, true, true, true, true, true, true, true, true, true, true, true, true, true, false, false, false, false, false, false] rfl rfl (by kernel_rfl) (fun _ _ _ h => h) (Or.inl ⟨by rfl, ?_⟩) ?_ ?_
      rotate_left
      · intro w'
        go_simp
        with_reducible rfl
      rotate_left
      · simp only [Act.put, List.setIfInBounds_toArray, List.set_cons_zero, List.set_cons_succ, i64_w, i32_w]
        rfl
      refine pure_ (i := 15) (N := some 104) (v := ?_) (a' := ?_) #[true, true, true, true, true, true, true, true, true, true, true, true, true, true, true, true, false, false, false, false, false] rfl rfl (by kernel_rfl) (fun _ _ _ h => h) (Or.inl ⟨by rfl, ?_⟩) ?_ ?_
      rotate_left
      · intro w'
        go_simp
        with_reducible rfl
      rotate_left
      · simp only [Act.put, List.setIfInBounds_toArray, List.set_cons_zero, List.set_cons_succ, i64_w, i32_w]
        rfl
      refine take_ (i := 16) (N := some 105) (v := ?_) (a' := ?_) #[true, true, true, true, true, true, true, true, true, true, true, true, true, true, true, true, true, false, false, false, false] rfl rfl (by kernel_rfl) (fun _ _ _ h => h) (Or.inl ⟨by rfl, ?_⟩) hHeld ?_ ?_
      rotate_left
      · rintro w' ⟨s0, s1, s2, s3⟩
        go_simp
        with_reducible rfl
      rotate_left
      · simp only [Act.put, List.setIfInBounds_toArray, List.set_cons_zero, List.set_cons_succ, i64_w, i32_w]
        rfl
      refine one_ (i := 17) (N := some 106) #[true, true, true, true, true, true, true, true, true, true, true, true, true, true, true, true, true, true, false, false, false] rfl rfl (by kernel_rfl) (by decide) (fun K hK => ?_)
      refine goes_ Try.func22 (by kernel_rfl) rfl #[.int .i64 xi, .int .i64 nl, .int .i64 nh] (by rfl) rfl rfl (by simp only [List.map_toArray, List.map_cons, List.map_nil] <;> rfl) ?_
      refine (Clamp_calls _ _ _ _).mono ?_
      rintro e wn ⟨rfl, rfl⟩
      refine ⟨_, rfl, ?_⟩
      rw [hni.out]
      clear hHeld
      refine hK.out _ _ ⟨(bl_cell hbw hex), (blk_cell (bl_block hbw hk_g1) 5 (by rfl)), (bl_cell hbw hi1), (bl_cell hbw hi2)⟩ (fun hHeld => ?_)
      clear hK K
      refine norm_ (a' := ?_) ?_ ?_
      rotate_left
      · show Act.put _ (some 106) _ = _
        simp only [Act.put, List.setIfInBounds_toArray, List.set_cons_zero, List.set_cons_succ, i64_w, i32_w]
        rfl
      refine one_ (i := 18) (N := some 107) #[true, true, true, true, true, true, true, true, true, true, true, true, true, true, true, true, true, true, true, false, false] rfl rfl (by kernel_rfl) (by decide) (fun K hK => ?_)
      refine value_ (w1 := wn.alloc (.cells #[.int .i64 ni] 3)) (v := .slice (some ⟨wn.heap.size, 0, none⟩) 1 1) (by rfl) rfl ?_ ?_
      · go_simp
        try rfl
      have hk_18 : (wn.alloc (.cells #[.int .i64 ni] 3)).heap[wn.heap.size]? = some (.cells #[.int .i64 ni] 3 (0, 0)) := blk_new wn _
      have hle_18 : V.heap.size ≤ wn.heap.size := hbw.size
      replace hbw := bl_alloc hbw (.cells #[.int .i64 ni] 3)
      replace ho3 := ho3.alloc (.cells #[.int .i64 ni] 3)
      replace hk_ga := bl_block (bl_alloc (Below.refl _ _) (.cells #[.int .i64 ni] 3)) hk_ga
      replace hsB : B ≤ (wn.alloc (.cells #[.int .i64 ni] 3)).heap.size := by have h_ := (bl_alloc (Below.refl wn.heap.size wn) (.cells #[.int .i64 ni] 3)).size; omega
      generalize wn.heap.size = g18 at *
      generalize wn.alloc (.cells #[.int .i64 ni] 3) = wn at *
      clear hHeld
      refine hK.out _ _ ⟨(bl_cell hbw hex), (blk_cell (bl_block hbw hk_g1) 5 (by rfl)), (bl_cell hbw hi1), (bl_cell hbw hi2)⟩ (fun hHeld => ?_)
      clear hK K
      refine norm_ (a' := ?_) ?_ ?_
      rotate_left
      · show Act.put _ (some 107) _ = _
        simp only [Act.put, List.setIfInBounds_toArray, List.set_cons_zero, List.set_cons_succ, i64_w, i32_w]
        rfl
      refine one_ (i := 19) (N := some 108) #[true, true, true, true, true, true, true, true, true, true, true, true, true, true, true, true, true, true, true, true, false] rfl rfl (by kernel_rfl) (by decide) (fun K hK => ?_)
      obtain ⟨v2, w2, hrun, ho2, hg2⟩ := ho3.app1 (P := Try.prog) 23 Try.underlying23 infoI27 g18 ni hk_18 (by rw [hYl.out]; omega) hsB
      rw [← hysi.out] at ho2
      refine value_ (w1 := w2) (v := v2) (by rfl) rfl (exec_app (.tmp 89) (.tmp 107) 23 (by rfl) (by rfl) (by rfl) hrun) ?_
      replace hbw := hbw.trans (Below.mono hg2 hVB)
      replace hk_ga := (hg2.block ga hgB).trans hk_ga
      replace hsB : B ≤ w2.heap.size := Nat.le_trans hsB hg2.size
      clear ho3 hk_18 hle_18 hrun hg2
      generalize w2 = wn at *
      clear hHeld
      refine hK.out _ _ ⟨(bl_cell hbw hex), (blk_cell (bl_block hbw hk_g1) 5 (by rfl)), (bl_cell hbw hi1), (bl_cell hbw hi2)⟩ (fun hHeld => ?_)
      clear hK K
      refine norm_ (a' := ?_) ?_ ?_
      rotate_left
      · show Act.put _ (some 108) _ = _
        simp only [Act.put, List.setIfInBounds_toArray, List.set_cons_zero, List.set_cons_succ, i64_w, i32_w]
        rfl
      refine pure_ (i := 20) (N := some 17) (v := ?_) (a' := ?_) #[true, true, true, true, true, true, true, true, true, true, true, true, true, true, true, true, true, true, true, true, true] rfl rfl (by kernel_rfl) (fun _ _ _ h => h) (Or.inl ⟨by rfl, ?_⟩) ?_ ?_
      rotate_left
      · intro w'
        go_simp
        with_reducible rfl
      rotate_left
      · simp only [Act.put, List.setIfInBounds_toArray, List.set_cons_zero, List.set_cons_succ, i64_w, i32_w]
        rfl
      refine done_ (by kernel_rfl) ?_
      have hb64 : ((i : Int) + 1) ≤ 9223372036854775807 := by omega
      go_wp2
      go_roundw
      case rel => exact ⟨i + 1, by omega, by go_num, hbw, hsB, hk_ga, ho2⟩
      case measure => simp [intOf]; omega
    · have hie : i = N := by omega
      subst hie
      have hd : decide ((i : Int) < (i : Int)) = false := decide_eq_false (by omega)
      obtain ⟨Ay, cy, rfl, hcy, hry, hn1, hfy⟩ := own_rdC ho3.o1
      go_wp2
      have hka := blk_new w9 (.cells #[.bool false] 65)
      have hbA := bl_alloc (Below.refl w9.heap.size w9) (.cells #[.bool false] 65)
      replace hk_ga := bl_block hbA hk_ga
      have hat : RdI w9 Ay (ys i) := ⟨hn1, hry⟩
      have hyl' := hyl.out i
      have hyI := hyB.out i (fun j hj => (hgood.Wne (by have := hlE.out; omega)).2)
      have hAp : ∀ ad : Addr, Ay = some ad → ad.block ≠ ga ∧ ad.block ≠ w9.heap.size := fun ad h => by
        obtain ⟨b_, o_, e_, hc_⟩ := hat.at (i := 0) (by omega)
        have h1 := hfy ad h
        rw [h] at e_
        injection e_ with e_
        have h2 := World.block_lt_of_cell? w9 _ hc_
        subst e_
        simp only [] at h1 h2 ⊢
        omega
      replace hat := hat.below hbA
      replace hbw := bl_step hbw hbA
      have hVc : V.heap.size ≤ w9.heap.size := by omega
      have hgc : ga < w9.heap.size := by omega
      clear hbA ho3 hcy hry hn1 hfy hsB
      generalize w9.alloc (.cells #[.bool false] 65) = wA at *
      generalize w9.heap.size = gc at *
      have hacc := AccAt.blk hka
      rw [hyl']
      clear hka
      obtain ⟨at0, hat0⟩ : ∃ z, ys i = z := ⟨_, rfl⟩
      rw [hat0] at hat hyI hyl'
      clear hat0 hys hyl hyB hi hlt hd hx hpI hVB hgB ho1 hw1
      have hla : V.heap.size ≤ (⟨gc, 0, none⟩ : Addr).block := hVc
      have hk_g : wA.heap[ga]? = some (.cells (armV gl hold ⟨0, 0, 0, 0⟩ aSl i cSl) 78 (0, 0)) := by rw [← hN.out]; exact hk_ga
      clear hk_ga
      have hlp : 1 ≤ lo.length := by
        have : lo.length ≠ 0 := fun h => by rw [h] at nlo; cases nlo
        omega
      have hwp : 1 ≤ lw.length := by
        have : lw.length ≠ 0 := fun h => by rw [h] at nlw; cases nlw
        omega
      obtain ⟨NN, hNN⟩ : ∃ z, z = i := ⟨_, rfl⟩
      subst hNN
      go_loopw [17, 20] (fun x17 x20 wr => ∃ (k : Nat) (a : ASt) (A : Option Addr) (c : Nat) (at_ : List Int), k ≤ l.length ∧ x20 = .int .i64 k ∧ x17 = .slice A NN c ∧ a.ok ∧ Below V.heap.size V wr ∧ wr.heap[ga]? = some (.cells (armV gl hold a aSl NN cSl) 78 (0, 0)) ∧ (∃ o, AccAt wr (some ⟨gc, 0, none⟩) o) ∧ RdI wr A at_ ∧ at_.length = NN ∧ InB NN p.Inv at_ ∧ ∀ ad : Addr, A = some ad → ad.block ≠ ga ∧ ad.block ≠ gc) (fun _ x20 _ => (l.length - intOf x20).toNat)
      case atStart => exact ⟨0, ⟨0, 0, 0, 0⟩, Ay, cy, at0, by omega, rfl, rfl, ⟨Or.inl rfl, by decide, by decide, by decide, by decide, by decide, by decide⟩, hbw, hk_g, ⟨_, hacc⟩, hat, hyl', hyI, hAp⟩
      case round =>
        clear hbw hk_g hacc hat hyl' hyI hAp at0
        obtain ⟨k, a, A, cA_, at_, hk, rfl, rfl, hao, hbw, hk_g, ⟨oacc, hacc⟩, hat, hatl, hatI, hAp⟩ := hrel
        by_cases hkl : k < l.length ∧ k < 40
        · obtain ⟨hk1, hk40⟩ := hkl
          have hd1 : decide ((k : Int) < (l.length : Int)) = true := decide_eq_true (by omega)
          have hd2 : decide ((k : Int) < 40) = true := decide_eq_true (by omega)
          have nd1 : decide (k < l.length) = true := decide_eq_true (by omega)
          have nd2 : decide (k < 40) = true := decide_eq_true (by omega)
          obtain ⟨U, hU⟩ : ∃ z : World, z = wr := ⟨_, rfl⟩
          subst hU
          obtain ⟨B, hB⟩ : ∃ B, B = U.heap.size := ⟨_, rfl⟩
          have hgaB : ga < B := by have := blk_lt hk_g; omega
          have hgcB : gc < B := by have := AccAt.lt hacc; omega
          have hVB : V.heap.size ≤ B := by omega
          have hsB : B ≤ U.heap.size := by omega
          have hAB : ∀ ad : Addr, A = some ad → ad.block ≠ gc ∧ ad.block < B := fun ad h => by
            obtain ⟨b_, o_, e_, hc_⟩ := hat.at (i := 0) (by omega)
            have h1 := (hAp ad h).2
            rw [h] at e_
            injection e_ with e_
            have h2 := World.block_lt_of_cell? U _ hc_
            subst e_
            simp only [] at h1 h2 ⊢
            omega
          clear hB
          have hkp : Kp gc B U U := Kp.refl _ _ _
          have hgs := hidI (fun n => guessL_succ at_ (turnL lo k NN) ls n)
          have hgl := hidI (fun n => guessL_length at_ (turnL lo k NN) ls n)
          have hvs := hidI (fun n => clampsL_succ (turnL lw k NN) p.W n)
          have hvl := hidI (fun n => clampsL_length (turnL lw k NN) p.W n)
          have hto := hidI (fun j (h : j < NN) => turnL_at lo k h)
          have htw := hidI (fun j (h : j < NN) => turnL_at lw k h)
          have ho3 : Own3 U B 3 (.slice none 0 0) (.slice none 0 0) (.slice none 0 0) (guessL at_ (turnL lo k NN) ls 0) (clampsL (turnL lw k NN) p.W 0) [] := Own3.nil _ _ _
          obtain ⟨gs, hgs0⟩ : ∃ f : Nat → List Int, Hid (f = guessL at_ (turnL lo k NN) ls) := ⟨_, rfl⟩
          obtain ⟨vs, hvs0⟩ : ∃ f : Nat → List Int, Hid (f = clampsL (turnL lw k NN) p.W) := ⟨_, rfl⟩
          rw [← hgs0.out] at hgs hgl ho3
          rw [← hvs0.out] at hvs hvl ho3
          go_wp2
          go_loopw [21, 22, 23] (fun gv vv x wi => ∃ i : Nat, i ≤ NN ∧ x = .int .i64 i ∧ Below V.heap.size V wi ∧ B ≤ wi.heap.size ∧ Own3 wi B 3 gv vv (.slice none 0 0) (gs i) (vs i) [] ∧ (∃ o, AccAt wi (some ⟨gc, 0, none⟩) o) ∧ Kp gc B U wi) (fun _ _ x _ => (NN - intOf x).toNat)
          case atStart => exact ⟨0, by omega, rfl, hbw, hsB, ho3, ⟨_, hacc⟩, hkp⟩
          case round =>
            clear hbw hsB ho3 hacc hkp
            obtain ⟨i, hi, rfl, hbw, hsB, ho3, ⟨oa, hacc⟩, hkp⟩ := hrel
            have hk_gw := hkp ga _ (by simp only []; omega) hk_g
            unfold armV at hk_gw
            have ya0 : wr.cell? ⟨ga, 0, none⟩ = some (.pointer (some ⟨gl, 0, none⟩)) := blk_cell hk_gw 0 (by rfl)
            have yl0 : wr.cell? ⟨gl, 0, none⟩ = some (.pointer (some ⟨gk, 0, none⟩)) := bl_cell hbw hgk
            clear hk_gw
            go_wp2_with fail
            refine (hDm.out _ hbw).mono ?_
            rintro e w9 ⟨rfl, hw9⟩
            subst hw9
            clear ya0 yl0
            by_cases hlt : i < NN
            · have hd : decide ((i : Int) < (NN : Int)) = true := decide_eq_true (by omega)
              have il4 : i < p.W.length := by have := hlE.out; omega
              have il5 : i < at_.length := by omega
              obtain ⟨j1, hj1⟩ : ∃ z, z = (k + i) % lo.length := ⟨_, rfl⟩
              obtain ⟨j2, hj2⟩ : ∃ z, z = (k + i) % lw.length := ⟨_, rfl⟩
              have jl1 : j1 < lo.length := by rw [hj1]; exact Nat.mod_lt _ (by omega)
              have jl2 : j2 < lw.length := by rw [hj2]; exact Nat.mod_lt _ (by omega)
              have hr1 : ((k : Int) + (i : Int)).tmod (lo.length : Int) = (j1 : Int) := by rw [hj1]; rfl
              have lne : ¬ lo = [] := fun h => by rw [h] at hlp; simp at hlp
              have hr2 : ((k : Int) + (i : Int)).tmod (lw.length : Int) = (j2 : Int) := by rw [hj2]; rfl
              have wne : ¬ lw = [] := fun h => by rw [h] at hwp; simp at hwp
              have hgsi := hidI (hgs.out i)
              have hvsi := hidI (hvs.out i)
              have hGl := hidI (hgl.out i)
              have hVl := hidI (hvl.out i)
              rw [hto.out i hlt, ← hj1] at hgsi
              rw [htw.out i hlt, ← hj2] at hvsi
              obtain ⟨ba, oa_, rfl, hea⟩ := hat.at (i := i) (by omega)
              obtain ⟨wb_, owb, hbW, hw1, hw2⟩ := hpW.at (k := i) (by have := hlE.out; omega)
              subst hbW
              obtain ⟨bo, oo, rfl, heo⟩ := ho.at (i := j1) (by omega)
              obtain ⟨bw, ow, rfl, hew⟩ := hw.at (i := j2) (by omega)
              have hba := hAB _ rfl
              simp only [] at hba
              obtain ⟨ni, hz1⟩ : ∃ z, at_.getD i 0 = z := ⟨_, rfl⟩
              obtain ⟨oi, hz2⟩ : ∃ z, lo.getD j1 0 = z := ⟨_, rfl⟩
              obtain ⟨wi, hz3⟩ : ∃ z, lw.getD j2 0 = z := ⟨_, rfl⟩
              obtain ⟨⟨wl, wh⟩, hz5⟩ : ∃ z, p.W.getD i ⟨0, 0⟩ = z := ⟨_, rfl⟩
              rw [hz1] at hea hgsi
              rw [hz2] at heo hgsi
              rw [hz3] at hew hvsi
              rw [hz5] at hw1 hw2 hvsi
              simp only [] at hw1 hw2 hvsi
              have hniB : -9223372036854775808 ≤ ni ∧ ni ≤ 9223372036854775807 := by
                have h1 := hatI i hlt
                have h2 := (hgood.2.2.2.2.2.2.1).one i
                unfold InSp at h2
                rw [hz1] at h1
                omega
              clear hz1 hz2 hz3 hz5 hj1 hj2
              have hcx := hidI (fun W (h : Kp gc B U W) => KeepX.cell (a := ⟨ba, oa_ + i, none⟩) h (by simp only []; omega) hea)
              obtain ⟨vi, hvi⟩ : ∃ z, Hid (clampTo wi wl wh = z) := ⟨_, rfl⟩
              rw [hvi.out] at hvsi
              obtain ⟨s, hsv⟩ : ∃ z, ls.getD i 0 = z := ⟨_, rfl⟩
              have hs0 : 0 ≤ s := by rw [← hsv]; exact hsk.out.2 i
              have hs1 : s ≤ 9223372036854775807 := by rw [← hsv]; exact (hsi.out.getD i).2
              rw [hsv] at hgsi
              obtain ⟨ci, hci⟩ : ∃ z, Hid (clampTo oi (-s) s = z) := ⟨_, rfl⟩
              have hciB : -9223372036854775808 ≤ ci ∧ ci ≤ 9223372036854775807 := by have := clampTo_in (x := oi) (lo := -s) (hi := s) (by omega); rw [hci.out] at this; omega
              have hneg : IntKind.i64.wrap (-s) = -s := IntWalk.i64_in _ (by omega)
              have hki : IntKind.i64.wrap ((k : Int) + (i : Int)) = (k : Int) + (i : Int) := IntWalk.i64_in _ (by omega)
              have hki2 : wrap64 ((k : Int) + (i : Int)) = (k : Int) + (i : Int) := IntWalk.wrap64_in _ (by omega)
              unfold guessAt at hgsi
              rw [hci.out] at hgsi
              have hAdd := hidI (fun W g o (hA : AccAt W (some ⟨gc, 0, none⟩) o) (hk : W.heap[g]? = some (.cells #[.int .i64 ni, .int .i64 ci] 3 (0, 0))) => Add_calls (some ⟨gc, 0, none⟩) (some ⟨g, 0, none⟩) [ni, ci] 2 o W hA (RdI.of_blk (l := [ni, ci]) hk (by simp)) (by intro x hx; simp at hx; rcases hx with rfl | rfl <;> omega))
              obtain ⟨gi, hgi_⟩ : ∃ z, clampI (sumI [ni, ci]) = z := ⟨_, rfl⟩
              obtain ⟨ov, hov⟩ : ∃ z, ovI (sumI [ni, ci]) = z := ⟨_, rfl⟩
              rw [hgi_] at hgsi hAdd
              rw [hov] at hAdd
              clear hgi_ hov hea
              by_cases hil : i < ls.length
              · have hd3 : decide ((i : Int) < (ls.length : Int)) = true := decide_eq_true (by omega)
                have nd3 : decide (i < ls.length) = true := decide_eq_true (by omega)
                obtain ⟨bs, os, rfl, hes⟩ := hs.at (i := i) hil
                rw [hsv] at hes
                have ks := bl_cell hbw hes
                replace hsv := hidI hsv
                go_upto_region 22 with fail
                replace ho3 := ho3.drew
                replace hacc := AccAt.below hacc (bl_drew (Below.refl _ _))
                replace hkp := hkp.ext (bl_drew (Below.refl _ _))
                replace hsB : B ≤ w9.drew.heap.size := hsB
                replace hbw := bl_drew hbw
                refine start_ (n := 24) (S := fun w' => w'.cell? ⟨ba, oa_ + i, none⟩ = some (.int .i64 ni) ∧ w'.cell? ⟨bo, oo + j1, none⟩ = some (.int .i64 oi)) (ds := []) #[false, false, false, false, false, false, false, false, false, false, false, false, false, false, false, false, false, false, false, false, false, false, false, false] (by kernel_rfl) rfl rfl ⟨(hcx.out _ hkp), (bl_cell hbw heo)⟩ (fun hHeld => ?_)
                generalize w9.drew = wn at *
                refine pure_ (i := 0) (N := some 141) (v := ?_) (a' := ?_) #[true, false, false, false, false, false, false, false, false, false, false, false, false, false, false, false, false, false, false, false, false, false, false, false] rfl rfl (by kernel_rfl) (fun _ _ _ h => h) (Or.inl ⟨by rfl, ?_⟩) ?_ ?_
                rotate_left
                · intro w'
                  go_simp
                  with_reducible rfl
                rotate_left
                · simp only [Act.put, List.setIfInBounds_toArray, List.set_cons_zero, List.set_cons_succ, i64_w, i32_w]
                  rfl
                refine pure_ (i := 1) (N := some 142) (v := ?_) (a' := ?_) #[true, true, false, false, false, false, false, false, false, false, false, false, false, false, false, false, false, false, false, false, false, false, false, false] rfl rfl (by kernel_rfl) (fun _ _ _ h => h) (Or.inl ⟨by rfl, ?_⟩) ?_ ?_
                rotate_left
                · intro w'
                  go_simp
                  with_reducible rfl
                rotate_left
                · simp only [Act.put, List.setIfInBounds_toArray, List.set_cons_zero, List.set_cons_succ, i64_w, i32_w]
                  rfl
                refine pure_ (i := 2) (N := some 143) (v := ?_) (a' := ?_) #[true, true, true, false, false, false, false, false, false, false, false, false, false, false, false, false, false, false, false, false, false, false, false, false] rfl rfl (by kernel_rfl) (fun _ _ _ h => h) (Or.inl ⟨by rfl, ?_⟩) ?_ ?_
                rotate_left
                · intro w'
                  go_simp
                  with_reducible rfl
                rotate_left
                · simp only [Act.put, List.setIfInBounds_toArray, List.set_cons_zero, List.set_cons_succ, i64_w, i32_w]
                  rfl
                refine pure_ (i := 3) (N := some 144) (v := ?_) (a' := ?_) #[true, true, true, true, false, false, false, false, false, false, false, false, false, false, false, false, false, false, false, false, false, false, false, false] rfl rfl (by kernel_rfl) (fun _ _ _ h => h) (Or.inl ⟨by rfl, ?_⟩) ?_ ?_
                rotate_left
                · intro w'
                  go_simp
                  with_reducible rfl
                rotate_left
                · simp only [Act.put, List.setIfInBounds_toArray, List.set_cons_zero, List.set_cons_succ, i64_w, i32_w]
                  rfl
                refine pure_ (i := 4) (N := some 145) (v := ?_) (a' := ?_) #[true, true, true, true, true, false, false, false, false, false, false, false, false, false, false, false, false, false, false, false, false, false, false, false] rfl rfl (by kernel_rfl) (fun _ _ _ h => h) (Or.inl ⟨by rfl, ?_⟩) ?_ ?_
                rotate_left
                · intro w'
                  go_simp
                  with_reducible rfl
                rotate_left
                · simp only [Act.put, List.setIfInBounds_toArray, List.set_cons_zero, List.set_cons_succ, i64_w, i32_w]
                  rfl
                refine pure_ (i := 6) (N := some 147) (v := ?_) (a' := ?_) #[true, true, true, true, true, false, true, false, false, false, false, false, false, false, false, false, false, false, false, false, false, false, false, false] rfl rfl (by kernel_rfl) (fun _ _ _ h => h) (Or.inl ⟨by rfl, ?_⟩) ?_ ?_
                rotate_left
                · intro w'
                  go_simp
                  with_reducible rfl
                rotate_left
                · simp only [Act.put, List.setIfInBounds_toArray, List.set_cons_zero, List.set_cons_succ, i64_w, i32_w]
                  rfl
                refine pure_ (i := 7) (N := some 148) (v := ?_) (a' := ?_) #[true, true, true, true, true, false, true, true, false, false, false, false, false, false, false, false, false, false, false, false, false, false, false, false] rfl rfl (by kernel_rfl) (fun _ _ _ h => h) (Or.inl ⟨by rfl, ?_⟩) ?_ ?_
                rotate_left
                · intro w'
                  go_simp
                  with_reducible rfl
                rotate_left
                · simp only [Act.put, List.setIfInBounds_toArray, List.set_cons_zero, List.set_cons_succ, i64_w, i32_w]
                  rfl
                refine pure_ (i := 8) (N := some 149) (v := ?_) (a' := ?_) #[true, true, true, true, true, false, true, true, true, false, false, false, false, false, false, false, false, false, false, false, false, false, false, false] rfl rfl (by kernel_rfl) (fun _ _ _ h => h) (Or.inl ⟨by rfl, ?_⟩) ?_ ?_
                rotate_left
                · intro w'
                  go_simp
                  with_reducible rfl
                rotate_left
                · simp only [Act.put, List.setIfInBounds_toArray, List.set_cons_zero, List.set_cons_succ, i64_w, i32_w]
                  rfl
                refine pure_ (i := 9) (N := some 150) (v := ?_) (a' := ?_) #[true, true, true, true, true, false, true, true, true, true, false, false, false, false, false, false, false, false, false, false, false, false, false, false] rfl rfl (by kernel_rfl) (fun _ _ _ h => h) (Or.inl ⟨by rfl, ?_⟩) ?_ ?_
                rotate_left
                · intro w'
                  go_simp
                  with_reducible rfl
                rotate_left
                · simp only [Act.put, List.setIfInBounds_toArray, List.set_cons_zero, List.set_cons_succ, i64_w, i32_w]
                  rfl
                refine pure_ (i := 10) (N := some 151) (v := ?_) (a' := ?_) #[true, true, true, true, true, false, true, true, true, true, true, false, false, false, false, false, false, false, false, false, false, false, false, false] rfl rfl (by kernel_rfl) (fun _ _ _ h => h) (Or.inl ⟨by rfl, ?_⟩) ?_ ?_
                rotate_left
                · intro w'
                  go_simp
                  with_reducible rfl
                rotate_left
                · simp only [Act.put, List.setIfInBounds_toArray, List.set_cons_zero, List.set_cons_succ, i64_w, i32_w]
                  rfl
                refine pure_ (i := 11) (N := some 152) (v := ?_) (a' := ?_) #[true, true, true, true, true, false, true, true, true, true, true, true, false, false, false, false, false, false, false, false, false, false, false, false] rfl rfl (by kernel_rfl) (fun _ _ _ h => h) (Or.inl ⟨by rfl, ?_⟩) ?_ ?_
                rotate_left
                · intro w'
                  go_simp
                  with_reducible rfl
                rotate_left
                · simp only [Act.put, List.setIfInBounds_toArray, List.set_cons_zero, List.set_cons_succ, i64_w, i32_w]
                  rfl
                refine pure_ (i := 12) (N := some 153) (v := ?_) (a' := ?_) #[true, true, true, true, true, false, true, true, true, true, true, true, true, false, false, false, false, false, false, false, false, false, false, false] rfl rfl (by kernel_rfl) (fun _ _ _ h => h) (Or.inl ⟨by rfl, ?_⟩) ?_ ?_
                rotate_left
                · intro w'
                  go_simp
                  with_reducible rfl
                rotate_left
                · simp only [Act.put, List.setIfInBounds_toArray, List.set_cons_zero, List.set_cons_succ, i64_w, i32_w]
                  rfl
                refine pure_ (i := 13) (N := some 154) (v := ?_) (a' := ?_) #[true, true, true, true, true, false, true, true, true, true, true, true, true, true, false, false, false, false, false, false, false, false, false, false] rfl rfl (by kernel_rfl) (fun _ _ _ h => h) (Or.inl ⟨by rfl, ?_⟩) ?_ ?_
                rotate_left
                · intro w'
                  go_simp
                  with_reducible rfl
                rotate_left
                · simp only [Act.put, List.setIfInBounds_toArray, List.set_cons_zero, List.set_cons_succ, i64_w, i32_w]
                  rfl
                refine pure_ (i := 15) (N := some 156) (v := ?_) (a' := ?_) #[true, true, true, true, true, false, true, true, true, true, true, true, true, true, false, true, false, false, false, false, false, false, false, false] rfl rfl (by kernel_rfl) (fun _ _ _ h => h) (Or.inl ⟨by rfl, ?_⟩) ?_ ?_
                rotate_left
                · intro w'
                  go_simp
                  with_reducible rfl
                rotate_left
                · simp only [Act.put, List.setIfInBounds_toArray, List.set_cons_zero, List.set_cons_succ, i64_w, i32_w]
                  rfl
                refine pure_ (i := 16) (N := some 157) (v := ?_) (a' := ?_) #[true, true, true, true, true, false, true, true, true, true, true, true, true, true, false, true, true, false, false, false, false, false, false, false] rfl rfl (by kernel_rfl) (fun _ _ _ h => h) (Or.inl ⟨by rfl, ?_⟩) ?_ ?_
                rotate_left
                · intro w'
                  go_simp
                  with_reducible rfl
                rotate_left
                · simp only [Act.put, List.setIfInBounds_toArray, List.set_cons_zero, List.set_cons_succ, i64_w, i32_w]
                  rfl
                refine pure_ (i := 17) (N := some 158) (v := ?_) (a' := ?_) #[true, true, true, true, true, false, true, true, true, true, true, true, true, true, false, true, true, true, false, false, false, false, false, false] rfl rfl (by kernel_rfl) (fun _ _ _ h => h) (Or.inl ⟨by rfl, ?_⟩) ?_ ?_
                rotate_left
                · intro w'
                  go_simp
                  with_reducible rfl
                rotate_left
                · simp only [Act.put, List.setIfInBounds_toArray, List.set_cons_zero, List.set_cons_succ, i64_w, i32_w]
                  rfl
                refine take_ (i := 5) (N := some 146) (v := ?_) (a' := ?_) #[true, true, true, true, true, true, true, true, true, true, true, true, true, true, false, true, true, true, false, false, false, false, false, false] rfl rfl (by kernel_rfl) (fun _ _ _ h => h) (Or.inl ⟨by rfl, ?_⟩) hHeld ?_ ?_
                rotate_left
                · rintro w' ⟨s0, s1⟩
                  go_simp
                  with_reducible rfl
                rotate_left
                · simp only [Act.put, List.setIfInBounds_toArray, List.set_cons_zero, List.set_cons_succ, i64_w, i32_w]
                  rfl
                refine take_ (i := 14) (N := some 155) (v := ?_) (a' := ?_) #[true, true, true, true, true, true, true, true, true, true, true, true, true, true, true, true, true, true, false, false, false, false, false, false] rfl rfl (by kernel_rfl) (fun _ _ _ h => h) (Or.inl ⟨by rfl, ?_⟩) hHeld ?_ ?_
                rotate_left
                · rintro w' ⟨s0, s1⟩
                  go_simp
                  with_reducible rfl
                rotate_left
                · simp only [Act.put, List.setIfInBounds_toArray, List.set_cons_zero, List.set_cons_succ, i64_w, i32_w]
                  rfl
                refine one_ (i := 18) (N := some 159) #[true, true, true, true, true, true, true, true, true, true, true, true, true, true, true, true, true, true, true, false, false, false, false, false] rfl rfl (by kernel_rfl) (by decide) (fun K hK => ?_)
                refine goes_ Try.func22 (by kernel_rfl) rfl #[.int .i64 oi, .int .i64 (-s), .int .i64 s] (by rfl) rfl rfl (by simp only [List.map_toArray, List.map_cons, List.map_nil] <;> rfl) ?_
                refine (Clamp_calls _ _ _ _).mono ?_
                rintro e wn ⟨rfl, rfl⟩
                refine ⟨_, rfl, ?_⟩
                first | rw [hci.out] | (have h_ := hci.out; simp only [Int.neg_zero] at h_; rw [h_]; clear h_)
                clear hHeld
                refine hK.out _ _ ⟨(hcx.out _ hkp), (bl_cell hbw heo)⟩ (fun hHeld => ?_)
                clear hK K
                refine norm_ (a' := ?_) ?_ ?_
                rotate_left
                · show Act.put _ (some 159) _ = _
                  simp only [Act.put, List.setIfInBounds_toArray, List.set_cons_zero, List.set_cons_succ, i64_w, i32_w]
                  rfl
                refine one_ (i := 19) (N := some 160) #[true, true, true, true, true, true, true, true, true, true, true, true, true, true, true, true, true, true, true, true, false, false, false, false] rfl rfl (by kernel_rfl) (by decide) (fun K hK => ?_)
                refine value_ (w1 := wn.alloc (.cells #[.int .i64 ni, .int .i64 ci] 3)) (v := .slice (some ⟨wn.heap.size, 0, none⟩) 2 2) (by rfl) rfl ?_ ?_
                · go_simp
                  try rfl
                have hk_19 : (wn.alloc (.cells #[.int .i64 ni, .int .i64 ci] 3)).heap[wn.heap.size]? = some (.cells #[.int .i64 ni, .int .i64 ci] 3 (0, 0)) := blk_new wn _
                have hle_19 : V.heap.size ≤ wn.heap.size := hbw.size
                replace hbw := bl_alloc hbw (.cells #[.int .i64 ni, .int .i64 ci] 3)
                have hne_19 : gc ≠ wn.heap.size := by omega
                replace ho3 := ho3.alloc (.cells #[.int .i64 ni, .int .i64 ci] 3)
                replace hacc := hacc.below (bl_alloc (Below.refl _ _) (.cells #[.int .i64 ni, .int .i64 ci] 3))
                replace hkp := hkp.ext (bl_alloc (Below.refl _ _) (.cells #[.int .i64 ni, .int .i64 ci] 3))
                replace hsB : B ≤ (wn.alloc (.cells #[.int .i64 ni, .int .i64 ci] 3)).heap.size := by have h_ := (bl_alloc (Below.refl wn.heap.size wn) (.cells #[.int .i64 ni, .int .i64 ci] 3)).size; omega
                generalize wn.heap.size = g19 at *
                generalize wn.alloc (.cells #[.int .i64 ni, .int .i64 ci] 3) = wn at *
                clear hHeld
                refine hK.out _ _ ⟨(hcx.out _ hkp), (bl_cell hbw heo)⟩ (fun hHeld => ?_)
                clear hK K
                refine norm_ (a' := ?_) ?_ ?_
                rotate_left
                · show Act.put _ (some 160) _ = _
                  simp only [Act.put, List.setIfInBounds_toArray, List.set_cons_zero, List.set_cons_succ, i64_w, i32_w]
                  rfl
                refine one_ (i := 20) (N := some 161) #[true, true, true, true, true, true, true, true, true, true, true, true, true, true, true, true, true, true, true, true, true, false, false, false] rfl rfl (by kernel_rfl) (by decide) (fun K hK => ?_)
                refine goes_ Try.func34 (by kernel_rfl) rfl #[.pointer (some ⟨gc, 0, none⟩), .slice (some ⟨g19, 0, none⟩) 2 2] (by rfl) rfl rfl (by simp only [List.map_toArray, List.map_cons, List.map_nil] <;> rfl) ?_
                refine (hAdd.out _ g19 _ hacc hk_19).mono ?_
                rintro e wn' ⟨rfl, hbc⟩
                refine ⟨_, rfl, ?_⟩
                replace ho3 := ho3.acc hbc (fun k hk => PNe.of (by simp only []; omega))
                replace hkp := hkp.acc hbc
                replace hsB : B ≤ wn'.heap.size := by have h_ := hbc.size; rw [orCell_size] at h_; omega
                replace hbw := bl_own hbw hla hbc
                replace hk_19 := blk_acc hbc hk_19 (PNe.of hne_19)
                have hacc2 := AccAt.or hacc hbc
                clear hacc hbc
                obtain ⟨o4, hacc⟩ : ∃ o, AccAt wn' (some ⟨gc, 0, none⟩) o := ⟨_, hacc2⟩
                clear hacc2
                generalize wn' = wn at *
                clear hHeld
                refine hK.out _ _ ⟨(hcx.out _ hkp), (bl_cell hbw heo)⟩ (fun hHeld => ?_)
                clear hK K
                refine norm_ (a' := ?_) ?_ ?_
                rotate_left
                · show Act.put _ (some 161) _ = _
                  simp only [Act.put, List.setIfInBounds_toArray, List.set_cons_zero, List.set_cons_succ, i64_w, i32_w]
                  rfl
                refine one_ (i := 21) (N := some 162) #[true, true, true, true, true, true, true, true, true, true, true, true, true, true, true, true, true, true, true, true, true, true, false, false] rfl rfl (by kernel_rfl) (by decide) (fun K hK => ?_)
                refine value_ (w1 := wn.alloc (.cells #[.int .i64 gi] 3)) (v := .slice (some ⟨wn.heap.size, 0, none⟩) 1 1) (by rfl) rfl ?_ ?_
                · go_simp
                  try rfl
                have hk_21 : (wn.alloc (.cells #[.int .i64 gi] 3)).heap[wn.heap.size]? = some (.cells #[.int .i64 gi] 3 (0, 0)) := blk_new wn _
                have hle_21 : V.heap.size ≤ wn.heap.size := hbw.size
                replace hk_19 := blk_alloc hk_19 (.cells #[.int .i64 gi] 3)
                replace hbw := bl_alloc hbw (.cells #[.int .i64 gi] 3)
                replace ho3 := ho3.alloc (.cells #[.int .i64 gi] 3)
                replace hacc := hacc.below (bl_alloc (Below.refl _ _) (.cells #[.int .i64 gi] 3))
                replace hkp := hkp.ext (bl_alloc (Below.refl _ _) (.cells #[.int .i64 gi] 3))
                replace hsB : B ≤ (wn.alloc (.cells #[.int .i64 gi] 3)).heap.size := by have h_ := (bl_alloc (Below.refl wn.heap.size wn) (.cells #[.int .i64 gi] 3)).size; omega
                generalize wn.heap.size = g21 at *
                generalize wn.alloc (.cells #[.int .i64 gi] 3) = wn at *
                clear hHeld
                refine hK.out _ _ ⟨(hcx.out _ hkp), (bl_cell hbw heo)⟩ (fun hHeld => ?_)
                clear hK K
                refine norm_ (a' := ?_) ?_ ?_
                rotate_left
                · show Act.put _ (some 162) _ = _
                  simp only [Act.put, List.setIfInBounds_toArray, List.set_cons_zero, List.set_cons_succ, i64_w, i32_w]
                  rfl
                refine one_ (i := 22) (N := some 163) #[true, true, true, true, true, true, true, true, true, true, true, true, true, true, true, true, true, true, true, true, true, true, true, false] rfl rfl (by kernel_rfl) (by decide) (fun K hK => ?_)
                obtain ⟨v2, w2, hrun, ho2, hg2⟩ := ho3.app1 (P := Try.prog) 23 Try.underlying23 infoI27 g21 gi hk_21 (by rw [hGl.out]; omega) hsB
                rw [← hgsi.out] at ho2
                refine value_ (w1 := w2) (v := v2) (by rfl) rfl (exec_app (.tmp 141) (.tmp 162) 23 (by rfl) (by rfl) (by rfl) hrun) ?_
                replace hbw := hbw.trans (Below.mono hg2 hVB)
                replace hacc := AccAt.keep hacc hg2 (fun a_ h_ => by cases h_; exact hgcB)
                replace hkp := hkp.low hg2
                replace hsB : B ≤ w2.heap.size := Nat.le_trans hsB hg2.size
                clear ho3 hk_21 hle_21 hrun hg2
                generalize w2 = wn at *
                clear hHeld
                refine hK.out _ _ ⟨(hcx.out _ hkp), (bl_cell hbw heo)⟩ (fun hHeld => ?_)
                clear hK K
                refine norm_ (a' := ?_) ?_ ?_
                rotate_left
                · show Act.put _ (some 163) _ = _
                  simp only [Act.put, List.setIfInBounds_toArray, List.set_cons_zero, List.set_cons_succ, i64_w, i32_w]
                  rfl
                refine pure_ (i := 23) (N := some 21) (v := ?_) (a' := ?_) #[true, true, true, true, true, true, true, true, true, true, true, true, true, true, true, true, true, true, true, true, true, true, true, true] rfl rfl (by kernel_rfl) (fun _ _ _ h => h) (Or.inl ⟨by rfl, ?_⟩) ?_ ?_
                rotate_left
                · intro w'
                  go_simp
                  with_reducible rfl
                rotate_left
                · simp only [Act.put, List.setIfInBounds_toArray, List.set_cons_zero, List.set_cons_succ, i64_w, i32_w]
                  rfl
                refine done_ (by kernel_rfl) ?_
                replace ho3 := ho2.rot.drew
                clear ho2
                go_upto_region 23 with fail
                replace hacc := AccAt.below hacc (bl_drew (Below.refl _ _))
                replace hkp := hkp.ext (bl_drew (Below.refl _ _))
                replace hsB : B ≤ wn.drew.heap.size := hsB
                replace hbw := bl_drew hbw
                refine start_ (n := 26) (S := fun w' => w'.cell? ⟨bw, ow + j2, none⟩ = some (.int .i64 wi) ∧ w'.cell? ⟨g1, 4, none⟩ = some (.slice (some ⟨wb_, owb, none⟩) p.W.length cW) ∧ w'.cell? ⟨wb_, owb + i * 2, none⟩ = some (.int .i64 wl) ∧ w'.cell? ⟨wb_, owb + i * 2 + 1, none⟩ = some (.int .i64 wh)) (ds := []) #[false, false, false, false, false, false, false, false, false, false, false, false, false, false, false, false, false, false, false, false, false, false, false, false, false, false] (by kernel_rfl) rfl rfl ⟨(bl_cell hbw hew), (blk_cell (bl_block hbw hk_g1) 4 (by rfl)), (bl_cell hbw hw1), (bl_cell hbw hw2)⟩ (fun hHeld => ?_)
                generalize wn.drew = wn at *
                refine pure_ (i := 0) (N := some 164) (v := ?_) (a' := ?_) #[true, false, false, false, false, false, false, false, false, false, false, false, false, false, false, false, false, false, false, false, false, false, false, false, false, false] rfl rfl (by kernel_rfl) (fun _ _ _ h => h) (Or.inl ⟨by rfl, ?_⟩) ?_ ?_
                rotate_left
                · intro w'
                  go_simp
                  with_reducible rfl
                rotate_left
                · simp only [Act.put, List.setIfInBounds_toArray, List.set_cons_zero, List.set_cons_succ, i64_w, i32_w]
                  rfl
                refine pure_ (i := 1) (N := some 165) (v := ?_) (a' := ?_) #[true, true, false, false, false, false, false, false, false, false, false, false, false, false, false, false, false, false, false, false, false, false, false, false, false, false] rfl rfl (by kernel_rfl) (fun _ _ _ h => h) (Or.inl ⟨by rfl, ?_⟩) ?_ ?_
                rotate_left
                · intro w'
                  go_simp
                  with_reducible rfl
                rotate_left
                · simp only [Act.put, List.setIfInBounds_toArray, List.set_cons_zero, List.set_cons_succ, i64_w, i32_w]
                  rfl
                refine pure_ (i := 2) (N := some 166) (v := ?_) (a' := ?_) #[true, true, true, false, false, false, false, false, false, false, false, false, false, false, false, false, false, false, false, false, false, false, false, false, false, false] rfl rfl (by kernel_rfl) (fun _ _ _ h => h) (Or.inl ⟨by rfl, ?_⟩) ?_ ?_
                rotate_left
                · intro w'
                  go_simp
                  with_reducible rfl
                rotate_left
                · simp only [Act.put, List.setIfInBounds_toArray, List.set_cons_zero, List.set_cons_succ, i64_w, i32_w]
                  rfl
                refine pure_ (i := 3) (N := some 167) (v := ?_) (a' := ?_) #[true, true, true, true, false, false, false, false, false, false, false, false, false, false, false, false, false, false, false, false, false, false, false, false, false, false] rfl rfl (by kernel_rfl) (fun _ _ _ h => h) (Or.inl ⟨by rfl, ?_⟩) ?_ ?_
                rotate_left
                · intro w'
                  go_simp
                  with_reducible rfl
                rotate_left
                · simp only [Act.put, List.setIfInBounds_toArray, List.set_cons_zero, List.set_cons_succ, i64_w, i32_w]
                  rfl
                refine pure_ (i := 4) (N := some 168) (v := ?_) (a' := ?_) #[true, true, true, true, true, false, false, false, false, false, false, false, false, false, false, false, false, false, false, false, false, false, false, false, false, false] rfl rfl (by kernel_rfl) (fun _ _ _ h => h) (Or.inl ⟨by rfl, ?_⟩) ?_ ?_
                rotate_left
                · intro w'
                  go_simp
                  with_reducible rfl
                rotate_left
                · simp only [Act.put, List.setIfInBounds_toArray, List.set_cons_zero, List.set_cons_succ, i64_w, i32_w]
                  rfl
                refine pure_ (i := 5) (N := some 169) (v := ?_) (a' := ?_) #[true, true, true, true, true, true, false, false, false, false, false, false, false, false, false, false, false, false, false, false, false, false, false, false, false, false] rfl rfl (by kernel_rfl) (fun _ _ _ h => h) (Or.inl ⟨by rfl, ?_⟩) ?_ ?_
                rotate_left
                · intro w'
                  go_simp
                  with_reducible rfl
                rotate_left
                · simp only [Act.put, List.setIfInBounds_toArray, List.set_cons_zero, List.set_cons_succ, i64_w, i32_w]
                  rfl
                refine pure_ (i := 6) (N := some 170) (v := ?_) (a' := ?_) #[true, true, true, true, true, true, true, false, false, false, false, false, false, false, false, false, false, false, false, false, false, false, false, false, false, false] rfl rfl (by kernel_rfl) (fun _ _ _ h => h) (Or.inl ⟨by rfl, ?_⟩) ?_ ?_
                rotate_left
                · intro w'
                  go_simp
                  with_reducible rfl
                rotate_left
                · simp only [Act.put, List.setIfInBounds_toArray, List.set_cons_zero, List.set_cons_succ, i64_w, i32_w]
                  rfl
                refine pure_ (i := 7) (N := some 171) (v := ?_) (a' := ?_) #[true, true, true, true, true, true, true, true, false, false, false, false, false, false, false, false, false, false, false, false, false, false, false, false, false, false] rfl rfl (by kernel_rfl) (fun _ _ _ h => h) (Or.inl ⟨by rfl, ?_⟩) ?_ ?_
                rotate_left
                · intro w'
                  go_simp
                  with_reducible rfl
                rotate_left
                · simp only [Act.put, List.setIfInBounds_toArray, List.set_cons_zero, List.set_cons_succ, i64_w, i32_w]
                  rfl
                refine pure_ (i := 8) (N := some 172) (v := ?_) (a' := ?_) #[true, true, true, true, true, true, true, true, true, false, false, false, false, false, false, false, false, false, false, false, false, false, false, false, false, false] rfl rfl (by kernel_rfl) (fun _ _ _ h => h) (Or.inl ⟨by rfl, ?_⟩) ?_ ?_
                rotate_left
                · intro w'
                  go_simp
                  with_reducible rfl
                rotate_left
                · simp only [Act.put, List.setIfInBounds_toArray, List.set_cons_zero, List.set_cons_succ, i64_w, i32_w]
                  rfl
                refine pure_ (i := 10) (N := some 174) (v := ?_) (a' := ?_) #[true, true, true, true, true, true, true, true, true, false, true, false, false, false, false, false, false, false, false, false, false, false, false, false, false, false] rfl rfl (by kernel_rfl) (fun _ _ _ h => h) (Or.inl ⟨by rfl, ?_⟩) ?_ ?_
                rotate_left
                · intro w'
                  go_simp
                  with_reducible rfl
                rotate_left
                · simp only [Act.put, List.setIfInBounds_toArray, List.set_cons_zero, List.set_cons_succ, i64_w, i32_w]
                  rfl
                refine pure_ (i := 12) (N := some 176) (v := ?_) (a' := ?_) #[true, true, true, true, true, true, true, true, true, false, true, false, true, false, false, false, false, false, false, false, false, false, false, false, false, false] rfl rfl (by kernel_rfl) (fun _ _ _ h => h) (Or.inl ⟨by rfl, ?_⟩) ?_ ?_
                rotate_left
                · intro w'
                  go_simp
                  with_reducible rfl
                rotate_left
                · simp only [Act.put, List.setIfInBounds_toArray, List.set_cons_zero, List.set_cons_succ, i64_w, i32_w]
                  rfl
                refine pure_ (i := 16) (N := some 180) (v := ?_) (a' := ?_) #[true, true, true, true, true, true, true, true, true, false, true, false, true, false, false, false, true, false, false, false, false, false, false, false, false, false] rfl rfl (by kernel_rfl) (fun _ _ _ h => h) (Or.inl ⟨by rfl, ?_⟩) ?_ ?_
                rotate_left
                · intro w'
                  go_simp
                  with_reducible rfl
                rotate_left
                · simp only [Act.put, List.setIfInBounds_toArray, List.set_cons_zero, List.set_cons_succ, i64_w, i32_w]
                  rfl
                refine pure_ (i := 18) (N := some 182) (v := ?_) (a' := ?_) #[true, true, true, true, true, true, true, true, true, false, true, false, true, false, false, false, true, false, true, false, false, false, false, false, false, false] rfl rfl (by kernel_rfl) (fun _ _ _ h => h) (Or.inl ⟨by rfl, ?_⟩) ?_ ?_
                rotate_left
                · intro w'
                  go_simp
                  with_reducible rfl
                rotate_left
                · simp only [Act.put, List.setIfInBounds_toArray, List.set_cons_zero, List.set_cons_succ, i64_w, i32_w]
                  rfl
                refine take_ (i := 9) (N := some 173) (v := ?_) (a' := ?_) #[true, true, true, true, true, true, true, true, true, true, true, false, true, false, false, false, true, false, true, false, false, false, false, false, false, false] rfl rfl (by kernel_rfl) (fun _ _ _ h => h) (Or.inl ⟨by rfl, ?_⟩) hHeld ?_ ?_
                rotate_left
                · rintro w' ⟨s0, s1, s2, s3⟩
                  go_simp
                  with_reducible rfl
                rotate_left
                · simp only [Act.put, List.setIfInBounds_toArray, List.set_cons_zero, List.set_cons_succ, i64_w, i32_w]
                  rfl
                refine take_ (i := 11) (N := some 175) (v := ?_) (a' := ?_) #[true, true, true, true, true, true, true, true, true, true, true, true, true, false, false, false, true, false, true, false, false, false, false, false, false, false] rfl rfl (by kernel_rfl) (fun _ _ _ h => h) (Or.inl ⟨by rfl, ?_⟩) hHeld ?_ ?_
                rotate_left
                · rintro w' ⟨s0, s1, s2, s3⟩
                  go_simp
                  with_reducible rfl
                rotate_left
                · simp only [Act.put, List.setIfInBounds_toArray, List.set_cons_zero, List.set_cons_succ, i64_w, i32_w]
                  rfl
                refine pure_ (i := 13) (N := some 177) (v := ?_) (a' := ?_) #[true, true, true, true, true, true, true, true, true, true, true, true, true, true, false, false, true, false, true, false, false, false, false, false, false, false] rfl rfl (by kernel_rfl) (fun _ _ _ h => h) (Or.inl ⟨by rfl, ?_⟩) ?_ ?_
                rotate_left
                · intro w'
                  go_simp
                  with_reducible rfl
                rotate_left
                · simp only [Act.put, List.setIfInBounds_toArray, List.set_cons_zero, List.set_cons_succ, i64_w, i32_w]
                  rfl
                refine pure_ (i := 14) (N := some 178) (v := ?_) (a' := ?_) #[true, true, true, true, true, true, true, true, true, true, true, true, true, true, true, false, true, false, true, false, false, false, false, false, false, false] rfl rfl (by kernel_rfl) (fun _ _ _ h => h) (Or.inl ⟨by rfl, ?_⟩) ?_ ?_
                rotate_left
                · intro w'
                  go_simp
                  with_reducible rfl
                rotate_left
                · simp only [Act.put, List.setIfInBounds_toArray, List.set_cons_zero, List.set_cons_succ, i64_w, i32_w]
                  rfl
                refine take_ (i := 15) (N := some 179) (v := ?_) (a' := ?_) #[true, true, true, true, true, true, true, true, true, true, true, true, true, true, true, true, true, false, true, false, false, false, false, false, false, false] rfl rfl (by kernel_rfl) (fun _ _ _ h => h) (Or.inl ⟨by rfl, ?_⟩) hHeld ?_ ?_
                rotate_left
                · rintro w' ⟨s0, s1, s2, s3⟩
                  go_simp
                  with_reducible rfl
                rotate_left
                · simp only [Act.put, List.setIfInBounds_toArray, List.set_cons_zero, List.set_cons_succ, i64_w, i32_w]
                  rfl
                refine take_ (i := 17) (N := some 181) (v := ?_) (a' := ?_) #[true, true, true, true, true, true, true, true, true, true, true, true, true, true, true, true, true, true, true, false, false, false, false, false, false, false] rfl rfl (by kernel_rfl) (fun _ _ _ h => h) (Or.inl ⟨by rfl, ?_⟩) hHeld ?_ ?_
                rotate_left
                · rintro w' ⟨s0, s1, s2, s3⟩
                  go_simp
                  with_reducible rfl
                rotate_left
                · simp only [Act.put, List.setIfInBounds_toArray, List.set_cons_zero, List.set_cons_succ, i64_w, i32_w]
                  rfl
                refine pure_ (i := 19) (N := some 183) (v := ?_) (a' := ?_) #[true, true, true, true, true, true, true, true, true, true, true, true, true, true, true, true, true, true, true, true, false, false, false, false, false, false] rfl rfl (by kernel_rfl) (fun _ _ _ h => h) (Or.inl ⟨by rfl, ?_⟩) ?_ ?_
                rotate_left
                · intro w'
                  go_simp
                  with_reducible rfl
                rotate_left
                · simp only [Act.put, List.setIfInBounds_toArray, List.set_cons_zero, List.set_cons_succ, i64_w, i32_w]
                  rfl
                refine pure_ (i := 20) (N := some 184) (v := ?_) (a' := ?_) #[true, true, true, true, true, true, true, true, true, true, true, true, true, true, true, true, true, true, true, true, true, false, false, false, false, false] rfl rfl (by kernel_rfl) (fun _ _ _ h => h) (Or.inl ⟨by rfl, ?_⟩) ?_ ?_
                rotate_left
                · intro w'
                  go_simp
                  with_reducible rfl
                rotate_left
                · simp only [Act.put, List.setIfInBounds_toArray, List.set_cons_zero, List.set_cons_succ, i64_w, i32_w]
                  rfl
                refine take_ (i := 21) (N := some 185) (v := ?_) (a' := ?_) #[true, true, true, true, true, true, true, true, true, true, true, true, true, true, true, true, true, true, true, true, true, true, false, false, false, false] rfl rfl (by kernel_rfl) (fun _ _ _ h => h) (Or.inl ⟨by rfl, ?_⟩) hHeld ?_ ?_
                rotate_left
                · rintro w' ⟨s0, s1, s2, s3⟩
                  go_simp
                  with_reducible rfl
                rotate_left
                · simp only [Act.put, List.setIfInBounds_toArray, List.set_cons_zero, List.set_cons_succ, i64_w, i32_w]
                  rfl
                refine one_ (i := 22) (N := some 186) #[true, true, true, true, true, true, true, true, true, true, true, true, true, true, true, true, true, true, true, true, true, true, true, false, false, false] rfl rfl (by kernel_rfl) (by decide) (fun K hK => ?_)
                refine goes_ Try.func22 (by kernel_rfl) rfl #[.int .i64 wi, .int .i64 wl, .int .i64 wh] (by rfl) rfl rfl (by simp only [List.map_toArray, List.map_cons, List.map_nil] <;> rfl) ?_
                refine (Clamp_calls _ _ _ _).mono ?_
                rintro e wn ⟨rfl, rfl⟩
                refine ⟨_, rfl, ?_⟩
                rw [hvi.out]
                clear hHeld
                refine hK.out _ _ ⟨(bl_cell hbw hew), (blk_cell (bl_block hbw hk_g1) 4 (by rfl)), (bl_cell hbw hw1), (bl_cell hbw hw2)⟩ (fun hHeld => ?_)
                clear hK K
                refine norm_ (a' := ?_) ?_ ?_
                rotate_left
                · show Act.put _ (some 186) _ = _
                  simp only [Act.put, List.setIfInBounds_toArray, List.set_cons_zero, List.set_cons_succ, i64_w, i32_w]
                  rfl
                refine one_ (i := 23) (N := some 187) #[true, true, true, true, true, true, true, true, true, true, true, true, true, true, true, true, true, true, true, true, true, true, true, true, false, false] rfl rfl (by kernel_rfl) (by decide) (fun K hK => ?_)
                refine value_ (w1 := wn.alloc (.cells #[.int .i64 vi] 3)) (v := .slice (some ⟨wn.heap.size, 0, none⟩) 1 1) (by rfl) rfl ?_ ?_
                · go_simp
                  try rfl
                have hk_23 : (wn.alloc (.cells #[.int .i64 vi] 3)).heap[wn.heap.size]? = some (.cells #[.int .i64 vi] 3 (0, 0)) := blk_new wn _
                have hle_23 : V.heap.size ≤ wn.heap.size := hbw.size
                replace hbw := bl_alloc hbw (.cells #[.int .i64 vi] 3)
                replace ho3 := ho3.alloc (.cells #[.int .i64 vi] 3)
                replace hacc := hacc.below (bl_alloc (Below.refl _ _) (.cells #[.int .i64 vi] 3))
                replace hkp := hkp.ext (bl_alloc (Below.refl _ _) (.cells #[.int .i64 vi] 3))
                replace hsB : B ≤ (wn.alloc (.cells #[.int .i64 vi] 3)).heap.size := by have h_ := (bl_alloc (Below.refl wn.heap.size wn) (.cells #[.int .i64 vi] 3)).size; omega
                generalize wn.heap.size = g23 at *
                generalize wn.alloc (.cells #[.int .i64 vi] 3) = wn at *
                clear hHeld
                refine hK.out _ _ ⟨(bl_cell hbw hew), (blk_cell (bl_block hbw hk_g1) 4 (by rfl)), (bl_cell hbw hw1), (bl_cell hbw hw2)⟩ (fun hHeld => ?_)
                clear hK K
                refine norm_ (a' := ?_) ?_ ?_
                rotate_left
                · show Act.put _ (some 187) _ = _
                  simp only [Act.put, List.setIfInBounds_toArray, List.set_cons_zero, List.set_cons_succ, i64_w, i32_w]
                  rfl
                refine one_ (i := 24) (N := some 188) #[true, true, true, true, true, true, true, true, true, true, true, true, true, true, true, true, true, true, true, true, true, true, true, true, true, false] rfl rfl (by kernel_rfl) (by decide) (fun K hK => ?_)
                obtain ⟨v2, w2, hrun, ho2, hg2⟩ := ho3.app1 (P := Try.prog) 23 Try.underlying23 infoI27 g23 vi hk_23 (by rw [hVl.out]; omega) hsB
                rw [← hvsi.out] at ho2
                refine value_ (w1 := w2) (v := v2) (by rfl) rfl (exec_app (.tmp 164) (.tmp 187) 23 (by rfl) (by rfl) (by rfl) hrun) ?_
                replace hbw := hbw.trans (Below.mono hg2 hVB)
                replace hacc := AccAt.keep hacc hg2 (fun a_ h_ => by cases h_; exact hgcB)
                replace hkp := hkp.low hg2
                replace hsB : B ≤ w2.heap.size := Nat.le_trans hsB hg2.size
                clear ho3 hk_23 hle_23 hrun hg2
                generalize w2 = wn at *
                clear hHeld
                refine hK.out _ _ ⟨(bl_cell hbw hew), (blk_cell (bl_block hbw hk_g1) 4 (by rfl)), (bl_cell hbw hw1), (bl_cell hbw hw2)⟩ (fun hHeld => ?_)
                clear hK K
                refine norm_ (a' := ?_) ?_ ?_
                rotate_left
                · show Act.put _ (some 188) _ = _
                  simp only [Act.put, List.setIfInBounds_toArray, List.set_cons_zero, List.set_cons_succ, i64_w, i32_w]
                  rfl
                refine pure_ (i := 25) (N := some 22) (v := ?_) (a' := ?_) #[true, true, true, true, true, true, true, true, true, true, true, true, true, true, true, true, true, true, true, true, true, true, true, true, true, true] rfl rfl (by kernel_rfl) (fun _ _ _ h => h) (Or.inl ⟨by rfl, ?_⟩) ?_ ?_
                rotate_left
                · intro w'
                  go_simp
                  with_reducible rfl
                rotate_left
                · simp only [Act.put, List.setIfInBounds_toArray, List.set_cons_zero, List.set_cons_succ, i64_w, i32_w]
                  rfl
                refine done_ (by kernel_rfl) ?_
                have hb64 : ((i : Int) + 1) ≤ 9223372036854775807 := by omega
                go_wp2
                go_roundw
                case rel => exact ⟨i + 1, by omega, by go_num, hbw, hsB, ho2.rot.rot, ⟨_, hacc⟩, hkp⟩
                case measure => simp [intOf]; omega
              · have hd3 : decide ((i : Int) < (ls.length : Int)) = false := decide_eq_false (by omega)
                have nd3 : decide (i < ls.length) = false := decide_eq_false (by omega)
                have hsz : s = 0 := by rw [← hsv, List.getD_eq_getElem?_getD, List.getElem?_eq_none (by omega)]; rfl
                replace hsv := hidI hsv
                subst hsz
                clear hneg
                have hw00 : wrap64 0 = 0 := IntWalk.wrap64_in _ (by omega)
                have hw01 : IntKind.i64.wrap 0 = 0 := IntWalk.i64_in _ (by omega)
                go_upto_region 22 with fail
                replace ho3 := ho3.drew
                replace hacc := AccAt.below hacc (bl_drew (Below.refl _ _))
                replace hkp := hkp.ext (bl_drew (Below.refl _ _))
                replace hsB : B ≤ w9.drew.heap.size := hsB
                replace hbw := bl_drew hbw
                refine start_ (n := 24) (S := fun w' => w'.cell? ⟨ba, oa_ + i, none⟩ = some (.int .i64 ni) ∧ w'.cell? ⟨bo, oo + j1, none⟩ = some (.int .i64 oi)) (ds := []) #[false, false, false, false, false, false, false, false, false, false, false, false, false, false, false, false, false, false, false, false, false, false, false, false] (by kernel_rfl) rfl rfl ⟨(hcx.out _ hkp), (bl_cell hbw heo)⟩ (fun hHeld => ?_)
                generalize w9.drew = wn at *
                refine pure_ (i := 0) (N := some 141) (v := ?_) (a' := ?_) #[true, false, false, false, false, false, false, false, false, false, false, false, false, false, false, false, false, false, false, false, false, false, false, false] rfl rfl (by kernel_rfl) (fun _ _ _ h => h) (Or.inl ⟨by rfl, ?_⟩) ?_ ?_
                rotate_left
                · intro w'
                  go_simp
                  with_reducible rfl
                rotate_left
                · simp only [Act.put, List.setIfInBounds_toArray, List.set_cons_zero, List.set_cons_succ, i64_w, i32_w]
                  rfl
                refine pure_ (i := 1) (N := some 142) (v := ?_) (a' := ?_) #[true, true, false, false, false, false, false, false, false, false, false, false, false, false, false, false, false, false, false, false, false, false, false, false] rfl rfl (by kernel_rfl) (fun _ _ _ h => h) (Or.inl ⟨by rfl, ?_⟩) ?_ ?_
                rotate_left
                · intro w'
                  go_simp
                  with_reducible rfl
                rotate_left
                · simp only [Act.put, List.setIfInBounds_toArray, List.set_cons_zero, List.set_cons_succ, i64_w, i32_w]
                  rfl
                refine pure_ (i := 2) (N := some 143) (v := ?_) (a' := ?_) #[true, true, true, false, false, false, false, false, false, false, false, false, false, false, false, false, false, false, false, false, false, false, false, false] rfl rfl (by kernel_rfl) (fun _ _ _ h => h) (Or.inl ⟨by rfl, ?_⟩) ?_ ?_
                rotate_left
                · intro w'
                  go_simp
                  with_reducible rfl
                rotate_left
                · simp only [Act.put, List.setIfInBounds_toArray, List.set_cons_zero, List.set_cons_succ, i64_w, i32_w]
                  rfl
                refine pure_ (i := 3) (N := some 144) (v := ?_) (a' := ?_) #[true, true, true, true, false, false, false, false, false, false, false, false, false, false, false, false, false, false, false, false, false, false, false, false] rfl rfl (by kernel_rfl) (fun _ _ _ h => h) (Or.inl ⟨by rfl, ?_⟩) ?_ ?_
                rotate_left
                · intro w'
                  go_simp
                  with_reducible rfl
                rotate_left
                · simp only [Act.put, List.setIfInBounds_toArray, List.set_cons_zero, List.set_cons_succ, i64_w, i32_w]
                  rfl
                refine pure_ (i := 4) (N := some 145) (v := ?_) (a' := ?_) #[true, true, true, true, true, false, false, false, false, false, false, false, false, false, false, false, false, false, false, false, false, false, false, false] rfl rfl (by kernel_rfl) (fun _ _ _ h => h) (Or.inl ⟨by rfl, ?_⟩) ?_ ?_
                rotate_left
                · intro w'
                  go_simp
                  with_reducible rfl
                rotate_left
                · simp only [Act.put, List.setIfInBounds_toArray, List.set_cons_zero, List.set_cons_succ, i64_w, i32_w]
                  rfl
                refine pure_ (i := 6) (N := some 147) (v := ?_) (a' := ?_) #[true, true, true, true, true, false, true, false, false, false, false, false, false, false, false, false, false, false, false, false, false, false, false, false] rfl rfl (by kernel_rfl) (fun _ _ _ h => h) (Or.inl ⟨by rfl, ?_⟩) ?_ ?_
                rotate_left
                · intro w'
                  go_simp
                  with_reducible rfl
                rotate_left
                · simp only [Act.put, List.setIfInBounds_toArray, List.set_cons_zero, List.set_cons_succ, i64_w, i32_w]
                  rfl
                refine pure_ (i := 7) (N := some 148) (v := ?_) (a' := ?_) #[true, true, true, true, true, false, true, true, false, false, false, false, false, false, false, false, false, false, false, false, false, false, false, false] rfl rfl (by kernel_rfl) (fun _ _ _ h => h) (Or.inl ⟨by rfl, ?_⟩) ?_ ?_
                rotate_left
                · intro w'
                  go_simp
                  with_reducible rfl
                rotate_left
                · simp only [Act.put, List.setIfInBounds_toArray, List.set_cons_zero, List.set_cons_succ, i64_w, i32_w]
                  rfl
                refine pure_ (i := 8) (N := some 149) (v := ?_) (a' := ?_) #[true, true, true, true, true, false, true, true, true, false, false, false, false, false, false, false, false, false, false, false, false, false, false, false] rfl rfl (by kernel_rfl) (fun _ _ _ h => h) (Or.inl ⟨by rfl, ?_⟩) ?_ ?_
                rotate_left
                · intro w'
                  go_simp
                  with_reducible rfl
                rotate_left
                · simp only [Act.put, List.setIfInBounds_toArray, List.set_cons_zero, List.set_cons_succ, i64_w, i32_w]
                  rfl
                refine pure_ (i := 9) (N := some 150) (v := ?_) (a' := ?_) #[true, true, true, true, true, false, true, true, true, true, false, false, false, false, false, false, false, false, false, false, false, false, false, false] rfl rfl (by kernel_rfl) (fun _ _ _ h => h) (Or.inl ⟨by rfl, ?_⟩) ?_ ?_
                rotate_left
                · intro w'
                  go_simp
                  with_reducible rfl
                rotate_left
                · simp only [Act.put, List.setIfInBounds_toArray, List.set_cons_zero, List.set_cons_succ, i64_w, i32_w]
                  rfl
                refine pure_ (i := 10) (N := some 151) (v := ?_) (a' := ?_) #[true, true, true, true, true, false, true, true, true, true, true, false, false, false, false, false, false, false, false, false, false, false, false, false] rfl rfl (by kernel_rfl) (fun _ _ _ h => h) (Or.inl ⟨by rfl, ?_⟩) ?_ ?_
                rotate_left
                · intro w'
                  go_simp
                  with_reducible rfl
                rotate_left
                · simp only [Act.put, List.setIfInBounds_toArray, List.set_cons_zero, List.set_cons_succ, i64_w, i32_w]
                  rfl
                refine pure_ (i := 11) (N := some 152) (v := ?_) (a' := ?_) #[true, true, true, true, true, false, true, true, true, true, true, true, false, false, false, false, false, false, false, false, false, false, false, false] rfl rfl (by kernel_rfl) (fun _ _ _ h => h) (Or.inl ⟨by rfl, ?_⟩) ?_ ?_
                rotate_left
                · intro w'
                  go_simp
                  with_reducible rfl
                rotate_left
                · simp only [Act.put, List.setIfInBounds_toArray, List.set_cons_zero, List.set_cons_succ, i64_w, i32_w]
                  rfl
                refine pure_ (i := 12) (N := some 153) (v := ?_) (a' := ?_) #[true, true, true, true, true, false, true, true, true, true, true, true, true, false, false, false, false, false, false, false, false, false, false, false] rfl rfl (by kernel_rfl) (fun _ _ _ h => h) (Or.inl ⟨by rfl, ?_⟩) ?_ ?_
                rotate_left
                · intro w'
                  go_simp
                  with_reducible rfl
                rotate_left
                · simp only [Act.put, List.setIfInBounds_toArray, List.set_cons_zero, List.set_cons_succ, i64_w, i32_w]
                  rfl
                refine pure_ (i := 13) (N := some 154) (v := ?_) (a' := ?_) #[true, true, true, true, true, false, true, true, true, true, true, true, true, true, false, false, false, false, false, false, false, false, false, false] rfl rfl (by kernel_rfl) (fun _ _ _ h => h) (Or.inl ⟨by rfl, ?_⟩) ?_ ?_
                rotate_left
                · intro w'
                  go_simp
                  with_reducible rfl
                rotate_left
                · simp only [Act.put, List.setIfInBounds_toArray, List.set_cons_zero, List.set_cons_succ, i64_w, i32_w]
                  rfl
                refine pure_ (i := 15) (N := some 156) (v := ?_) (a' := ?_) #[true, true, true, true, true, false, true, true, true, true, true, true, true, true, false, true, false, false, false, false, false, false, false, false] rfl rfl (by kernel_rfl) (fun _ _ _ h => h) (Or.inl ⟨by rfl, ?_⟩) ?_ ?_
                rotate_left
                · intro w'
                  go_simp
                  with_reducible rfl
                rotate_left
                · simp only [Act.put, List.setIfInBounds_toArray, List.set_cons_zero, List.set_cons_succ, i64_w, i32_w]
                  rfl
                refine pure_ (i := 16) (N := some 157) (v := ?_) (a' := ?_) #[true, true, true, true, true, false, true, true, true, true, true, true, true, true, false, true, true, false, false, false, false, false, false, false] rfl rfl (by kernel_rfl) (fun _ _ _ h => h) (Or.inl ⟨by rfl, ?_⟩) ?_ ?_
                rotate_left
                · intro w'
                  go_simp
                  with_reducible rfl
                rotate_left
                · simp only [Act.put, List.setIfInBounds_toArray, List.set_cons_zero, List.set_cons_succ, i64_w, i32_w]
                  rfl
                refine pure_ (i := 17) (N := some 158) (v := ?_) (a' := ?_) #[true, true, true, true, true, false, true, true, true, true, true, true, true, true, false, true, true, true, false, false, false, false, false, false] rfl rfl (by kernel_rfl) (fun _ _ _ h => h) (Or.inl ⟨by rfl, ?_⟩) ?_ ?_
                rotate_left
                · intro w'
                  go_simp
                  with_reducible rfl
                rotate_left
                · simp only [Act.put, List.setIfInBounds_toArray, List.set_cons_zero, List.set_cons_succ, i64_w, i32_w]
                  rfl
                refine take_ (i := 5) (N := some 146) (v := ?_) (a' := ?_) #[true, true, true, true, true, true, true, true, true, true, true, true, true, true, false, true, true, true, false, false, false, false, false, false] rfl rfl (by kernel_rfl) (fun _ _ _ h => h) (Or.inl ⟨by rfl, ?_⟩) hHeld ?_ ?_
                rotate_left
                · rintro w' ⟨s0, s1⟩
                  go_simp
                  with_reducible rfl
                rotate_left
                · simp only [Act.put, List.setIfInBounds_toArray, List.set_cons_zero, List.set_cons_succ, i64_w, i32_w]
                  rfl
                refine take_ (i := 14) (N := some 155) (v := ?_) (a' := ?_) #[true, true, true, true, true, true, true, true, true, true, true, true, true, true, true, true, true, true, false, false, false, false, false, false] rfl rfl (by kernel_rfl) (fun _ _ _ h => h) (Or.inl ⟨by rfl, ?_⟩) hHeld ?_ ?_
                rotate_left
                · rintro w' ⟨s0, s1⟩
                  go_simp
                  with_reducible rfl
                rotate_left
                · simp only [Act.put, List.setIfInBounds_toArray, List.set_cons_zero, List.set_cons_succ, i64_w, i32_w]
                  rfl
                refine one_ (i := 18) (N := some 159) #[true, true, true, true, true, true, true, true, true, true, true, true, true, true, true, true, true, true, true, false, false, false, false, false] rfl rfl (by kernel_rfl) (by decide) (fun K hK => ?_)
                refine goes_ Try.func22 (by kernel_rfl) rfl #[.int .i64 oi, .int .i64 0, .int .i64 0] (by rfl) rfl rfl (by simp only [List.map_toArray, List.map_cons, List.map_nil] <;> rfl) ?_
                refine (Clamp_calls _ _ _ _).mono ?_
                rintro e wn ⟨rfl, rfl⟩
                refine ⟨_, rfl, ?_⟩
                first | rw [hci.out] | (have h_ := hci.out; simp only [Int.neg_zero] at h_; rw [h_]; clear h_)
                clear hHeld
                refine hK.out _ _ ⟨(hcx.out _ hkp), (bl_cell hbw heo)⟩ (fun hHeld => ?_)
                clear hK K
                refine norm_ (a' := ?_) ?_ ?_
                rotate_left
                · show Act.put _ (some 159) _ = _
                  simp only [Act.put, List.setIfInBounds_toArray, List.set_cons_zero, List.set_cons_succ, i64_w, i32_w]
                  rfl
                refine one_ (i := 19) (N := some 160) #[true, true, true, true, true, true, true, true, true, true, true, true, true, true, true, true, true, true, true, true, false, false, false, false] rfl rfl (by kernel_rfl) (by decide) (fun K hK => ?_)
                refine value_ (w1 := wn.alloc (.cells #[.int .i64 ni, .int .i64 ci] 3)) (v := .slice (some ⟨wn.heap.size, 0, none⟩) 2 2) (by rfl) rfl ?_ ?_
                · go_simp
                  try rfl
                have hk_19 : (wn.alloc (.cells #[.int .i64 ni, .int .i64 ci] 3)).heap[wn.heap.size]? = some (.cells #[.int .i64 ni, .int .i64 ci] 3 (0, 0)) := blk_new wn _
                have hle_19 : V.heap.size ≤ wn.heap.size := hbw.size
                replace hbw := bl_alloc hbw (.cells #[.int .i64 ni, .int .i64 ci] 3)
                have hne_19 : gc ≠ wn.heap.size := by omega
                replace ho3 := ho3.alloc (.cells #[.int .i64 ni, .int .i64 ci] 3)
                replace hacc := hacc.below (bl_alloc (Below.refl _ _) (.cells #[.int .i64 ni, .int .i64 ci] 3))
                replace hkp := hkp.ext (bl_alloc (Below.refl _ _) (.cells #[.int .i64 ni, .int .i64 ci] 3))
                replace hsB : B ≤ (wn.alloc (.cells #[.int .i64 ni, .int .i64 ci] 3)).heap.size := by have h_ := (bl_alloc (Below.refl wn.heap.size wn) (.cells #[.int .i64 ni, .int .i64 ci] 3)).size; omega
                generalize wn.heap.size = g19 at *
                generalize wn.alloc (.cells #[.int .i64 ni, .int .i64 ci] 3) = wn at *
                clear hHeld
                refine hK.out _ _ ⟨(hcx.out _ hkp), (bl_cell hbw heo)⟩ (fun hHeld => ?_)
                clear hK K
                refine norm_ (a' := ?_) ?_ ?_
                rotate_left
                · show Act.put _ (some 160) _ = _
                  simp only [Act.put, List.setIfInBounds_toArray, List.set_cons_zero, List.set_cons_succ, i64_w, i32_w]
                  rfl
                refine one_ (i := 20) (N := some 161) #[true, true, true, true, true, true, true, true, true, true, true, true, true, true, true, true, true, true, true, true, true, false, false, false] rfl rfl (by kernel_rfl) (by decide) (fun K hK => ?_)
                refine goes_ Try.func34 (by kernel_rfl) rfl #[.pointer (some ⟨gc, 0, none⟩), .slice (some ⟨g19, 0, none⟩) 2 2] (by rfl) rfl rfl (by simp only [List.map_toArray, List.map_cons, List.map_nil] <;> rfl) ?_
                refine (hAdd.out _ g19 _ hacc hk_19).mono ?_
                rintro e wn' ⟨rfl, hbc⟩
                refine ⟨_, rfl, ?_⟩
                replace ho3 := ho3.acc hbc (fun k hk => PNe.of (by simp only []; omega))
                replace hkp := hkp.acc hbc
                replace hsB : B ≤ wn'.heap.size := by have h_ := hbc.size; rw [orCell_size] at h_; omega
                replace hbw := bl_own hbw hla hbc
                replace hk_19 := blk_acc hbc hk_19 (PNe.of hne_19)
                have hacc2 := AccAt.or hacc hbc
                clear hacc hbc
                obtain ⟨o4, hacc⟩ : ∃ o, AccAt wn' (some ⟨gc, 0, none⟩) o := ⟨_, hacc2⟩
                clear hacc2
                generalize wn' = wn at *
                clear hHeld
                refine hK.out _ _ ⟨(hcx.out _ hkp), (bl_cell hbw heo)⟩ (fun hHeld => ?_)
                clear hK K
                refine norm_ (a' := ?_) ?_ ?_
                rotate_left
                · show Act.put _ (some 161) _ = _
                  simp only [Act.put, List.setIfInBounds_toArray, List.set_cons_zero, List.set_cons_succ, i64_w, i32_w]
                  rfl
                refine one_ (i := 21) (N := some 162) #[true, true, true, true, true, true, true, true, true, true, true, true, true, true, true, true, true, true, true, true, true, true, false, false] rfl rfl (by kernel_rfl) (by decide) (fun K hK => ?_)
                refine value_ (w1 := wn.alloc (.cells #[.int .i64 gi] 3)) (v := .slice (some ⟨wn.heap.size, 0, none⟩) 1 1) (by rfl) rfl ?_ ?_
                · go_simp
                  try rfl
                have hk_21 : (wn.alloc (.cells #[.int .i64 gi] 3)).heap[wn.heap.size]? = some (.cells #[.int .i64 gi] 3 (0, 0)) := blk_new wn _
                have hle_21 : V.heap.size ≤ wn.heap.size := hbw.size
                replace hk_19 := blk_alloc hk_19 (.cells #[.int .i64 gi] 3)
                replace hbw := bl_alloc hbw (.cells #[.int .i64 gi] 3)
                replace ho3 := ho3.alloc (.cells #[.int .i64 gi] 3)
                replace hacc := hacc.below (bl_alloc (Below.refl _ _) (.cells #[.int .i64 gi] 3))
                replace hkp := hkp.ext (bl_alloc (Below.refl _ _) (.cells #[.int .i64 gi] 3))
                replace hsB : B ≤ (wn.alloc (.cells #[.int .i64 gi] 3)).heap.size := by have h_ := (bl_alloc (Below.refl wn.heap.size wn) (.cells #[.int .i64 gi] 3)).size; omega
                generalize wn.heap.size = g21 at *
                generalize wn.alloc (.cells #[.int .i64 gi] 3) = wn at *
                clear hHeld
                refine hK.out _ _ ⟨(hcx.out _ hkp), (bl_cell hbw heo)⟩ (fun hHeld => ?_)
                clear hK K
                refine norm_ (a' := ?_) ?_ ?_
                rotate_left
                · show Act.put _ (some 162) _ = _
                  simp only [Act.put, List.setIfInBounds_toArray, List.set_cons_zero, List.set_cons_succ, i64_w, i32_w]
                  rfl
                refine one_ (i := 22) (N := some 163) #[true, true, true, true, true, true, true, true, true, true, true, true, true, true, true, true, true, true, true, true, true, true, true, false] rfl rfl (by kernel_rfl) (by decide) (fun K hK => ?_)
                obtain ⟨v2, w2, hrun, ho2, hg2⟩ := ho3.app1 (P := Try.prog) 23 Try.underlying23 infoI27 g21 gi hk_21 (by rw [hGl.out]; omega) hsB
                rw [← hgsi.out] at ho2
                refine value_ (w1 := w2) (v := v2) (by rfl) rfl (exec_app (.tmp 141) (.tmp 162) 23 (by rfl) (by rfl) (by rfl) hrun) ?_
                replace hbw := hbw.trans (Below.mono hg2 hVB)
                replace hacc := AccAt.keep hacc hg2 (fun a_ h_ => by cases h_; exact hgcB)
                replace hkp := hkp.low hg2
                replace hsB : B ≤ w2.heap.size := Nat.le_trans hsB hg2.size
                clear ho3 hk_21 hle_21 hrun hg2
                generalize w2 = wn at *
                clear hHeld
                refine hK.out _ _ ⟨(hcx.out _ hkp), (bl_cell hbw heo)⟩ (fun hHeld => ?_)
                clear hK K
                refine norm_ (a' := ?_) ?_ ?_
                rotate_left
                · show Act.put _ (some 163) _ = _
                  simp only [Act.put, List.setIfInBounds_toArray, List.set_cons_zero, List.set_cons_succ, i64_w, i32_w]
                  rfl
                refine pure_ (i := 23) (N := some 21) (v := ?_) (a' := ?_) #[true, true, true, true, true, true, true, true, true, true, true, true, true, true, true, true, true, true, true, true, true, true, true, true] rfl rfl (by kernel_rfl) (fun _ _ _ h => h) (Or.inl ⟨by rfl, ?_⟩) ?_ ?_
                rotate_left
                · intro w'
                  go_simp
                  with_reducible rfl
                rotate_left
                · simp only [Act.put, List.setIfInBounds_toArray, List.set_cons_zero, List.set_cons_succ, i64_w, i32_w]
                  rfl
                refine done_ (by kernel_rfl) ?_
                replace ho3 := ho2.rot.drew
                clear ho2
                go_upto_region 23 with fail
                replace hacc := AccAt.below hacc (bl_drew (Below.refl _ _))
                replace hkp := hkp.ext (bl_drew (Below.refl _ _))
                replace hsB : B ≤ wn.drew.heap.size := hsB
                replace hbw := bl_drew hbw
                refine start_ (n := 26) (S := fun w' => w'.cell? ⟨bw, ow + j2, none⟩ = some (.int .i64 wi) ∧ w'.cell? ⟨g1, 4, none⟩ = some (.slice (some ⟨wb_, owb, none⟩) p.W.length cW) ∧ w'.cell? ⟨wb_, owb + i * 2, none⟩ = some (.int .i64 wl) ∧ w'.cell? ⟨wb_, owb + i * 2 + 1, none⟩ = some (.int .i64 wh)) (ds := []) #[false, false, false, false, false, false, false, false, false, false, false, false, false, false, false, false, false, false, false, false, false, false, false, false, false, false] (by kernel_rfl) rfl rfl ⟨(bl_cell hbw hew), (blk_cell (bl_block hbw hk_g1) 4 (by rfl)), (bl_cell hbw hw1), (bl_cell hbw hw2)⟩ (fun hHeld => ?_)
                generalize wn.drew = wn at *
                refine pure_ (i := 0) (N := some 164) (v := ?_) (a' := ?_) #[true, false, false, false, false, false, false, false, false, false, false, false, false, false, false, false, false, false, false, false, false, false, false, false, false, false] rfl rfl (by kernel_rfl) (fun _ _ _ h => h) (Or.inl ⟨by rfl, ?_⟩) ?_ ?_
                rotate_left
                · intro w'
                  go_simp
                  with_reducible rfl
                rotate_left
                · simp only [Act.put, List.setIfInBounds_toArray, List.set_cons_zero, List.set_cons_succ, i64_w, i32_w]
                  rfl
                refine pure_ (i := 1) (N := some 165) (v := ?_) (a' := ?_) #[true, true, false, false, false, false, false, false, false, false, false, false, false, false, false, false, false, false, false, false, false, false, false, false, false, false] rfl rfl (by kernel_rfl) (fun _ _ _ h => h) (Or.inl ⟨by rfl, ?_⟩) ?_ ?_
                rotate_left
                · intro w'
                  go_simp
                  with_reducible rfl
                rotate_left
                · simp only [Act.put, List.setIfInBounds_toArray, List.set_cons_zero, List.set_cons_succ, i64_w, i32_w]
                  rfl
                refine pure_ (i := 2) (N := some 166) (v := ?_) (a' := ?_) #[true, true, true, false, false, false, false, false, false, false, false, false, false, false, false, false, false, false, false, false, false, false, false, false, false, false] rfl rfl (by kernel_rfl) (fun _ _ _ h => h) (Or.inl ⟨by rfl, ?_⟩) ?_ ?_
                rotate_left
                · intro w'
                  go_simp
                  with_reducible rfl
                rotate_left
                · simp only [Act.put, List.setIfInBounds_toArray, List.set_cons_zero, List.set_cons_succ, i64_w, i32_w]
                  rfl
                refine pure_ (i := 3) (N := some 167) (v := ?_) (a' := ?_) #[true, true, true, true, false, false, false, false, false, false, false, false, false, false, false, false, false, false, false, false, false, false, false, false, false, false] rfl rfl (by kernel_rfl) (fun _ _ _ h => h) (Or.inl ⟨by rfl, ?_⟩) ?_ ?_
                rotate_left
                · intro w'
                  go_simp
                  with_reducible rfl
                rotate_left
                · simp only [Act.put, List.setIfInBounds_toArray, List.set_cons_zero, List.set_cons_succ, i64_w, i32_w]
                  rfl
                refine pure_ (i := 4) (N := some 168) (v := ?_) (a' := ?_) #[true, true, true, true, true, false, false, false, false, false, false, false, false, false, false, false, false, false, false, false, false, false, false, false, false, false] rfl rfl (by kernel_rfl) (fun _ _ _ h => h) (Or.inl ⟨by rfl, ?_⟩) ?_ ?_
                rotate_left
                · intro w'
                  go_simp
                  with_reducible rfl
                rotate_left
                · simp only [Act.put, List.setIfInBounds_toArray, List.set_cons_zero, List.set_cons_succ, i64_w, i32_w]
                  rfl
                refine pure_ (i := 5) (N := some 169) (v := ?_) (a' := ?_) #[true, true, true, true, true, true, false, false, false, false, false, false, false, false, false, false, false, false, false, false, false, false, false, false, false, false] rfl rfl (by kernel_rfl) (fun _ _ _ h => h) (Or.inl ⟨by rfl, ?_⟩) ?_ ?_
                rotate_left
                · intro w'
                  go_simp
                  with_reducible rfl
                rotate_left
                · simp only [Act.put, List.setIfInBounds_toArray, List.set_cons_zero, List.set_cons_succ, i64_w, i32_w]
                  rfl
                refine pure_ (i := 6) (N := some 170) (v := ?_) (a' := ?_) #[true, true, true, true, true, true, true, false, false, false, false, false, false, false, false, false, false, false, false, false, false, false, false, false, false, false] rfl rfl (by kernel_rfl) (fun _ _ _ h => h) (Or.inl ⟨by rfl, ?_⟩) ?_ ?_
                rotate_left
                · intro w'
                  go_simp
                  with_reducible rfl
                rotate_left
                · simp only [Act.put, List.setIfInBounds_toArray, List.set_cons_zero, List.set_cons_succ, i64_w, i32_w]
                  rfl
                refine pure_ (i := 7) (N := some 171) (v := ?_) (a' := ?_) #[true, true, true, true, true, true, true, true, false, false, false, false, false, false, false, false, false, false, false, false, false, false, false, false, false, false] rfl rfl (by kernel_rfl) (fun _ _ _ h => h) (Or.inl ⟨by rfl, ?_⟩) ?_ ?_
                rotate_left
                · intro w'
                  go_simp
                  with_reducible rfl
                rotate_left
                · simp only [Act.put, List.setIfInBounds_toArray, List.set_cons_zero, List.set_cons_succ, i64_w, i32_w]
                  rfl
                refine pure_ (i := 8) (N := some 172) (v := ?_) (a' := ?_) #[true, true, true, true, true, true, true, true, true, false, false, false, false, false, false, false, false, false, false, false, false, false, false, false, false, false] rfl rfl (by kernel_rfl) (fun _ _ _ h => h) (Or.inl ⟨by rfl, ?_⟩) ?_ ?_
                rotate_left
                · intro w'
                  go_simp
                  with_reducible rfl
                rotate_left
                · simp only [Act.put, List.setIfInBounds_toArray, List.set_cons_zero, List.set_cons_succ, i64_w, i32_w]
                  rfl
                refine pure_ (i := 10) (N := some 174) (v := ?_) (a' := ?_) #[true, true, true, true, true, true, true, true, true, false, true, false, false, false, false, false, false, false, false, false, false, false, false, false, false, false] rfl rfl (by kernel_rfl) (fun _ _ _ h => h) (Or.inl ⟨by rfl, ?_⟩) ?_ ?_
                rotate_left
                · intro w'
                  go_simp
                  with_reducible rfl
                rotate_left
                · simp only [Act.put, List.setIfInBounds_toArray, List.set_cons_zero, List.set_cons_succ, i64_w, i32_w]
                  rfl
                refine pure_ (i := 12) (N := some 176) (v := ?_) (a' := ?_) #[true, true, true, true, true, true, true, true, true, false, true, false, true, false, false, false, false, false, false, false, false, false, false, false, false, false] rfl rfl (by kernel_rfl) (fun _ _ _ h => h) (Or.inl ⟨by rfl, ?_⟩) ?_ ?_
                rotate_left
                · intro w'
                  go_simp
                  with_reducible rfl
                rotate_left
                · simp only [Act.put, List.setIfInBounds_toArray, List.set_cons_zero, List.set_cons_succ, i64_w, i32_w]
                  rfl
                refine pure_ (i := 16) (N := some 180) (v := ?_) (a' := ?_) #[true, true, true, true, true, true, true, true, true, false, true, false, true, false, false, false, true, false, false, false, false, false, false, false, false, false] rfl rfl (by kernel_rfl) (fun _ _ _ h => h) (Or.inl ⟨by rfl, ?_⟩) ?_ ?_
                rotate_left
                · intro w'
                  go_simp
                  with_reducible rfl
                rotate_left
                · simp only [Act.put, List.setIfInBounds_toArray, List.set_cons_zero, List.set_cons_succ, i64_w, i32_w]
                  rfl
                refine pure_ (i := 18) (N := some 182) (v := ?_) (a' := ?_) #[true, true, true, true, true, true, true, true, true, false, true, false, true, false, false, false, true, false, true, false, false, false, false, false, false, false] rfl rfl (by kernel_rfl) (fun _ _ _ h => h) (Or.inl ⟨by rfl, ?_⟩) ?_ ?_
                rotate_left
                · intro w'
                  go_simp
                  with_reducible rfl
                rotate_left
                · simp only [Act.put, List.setIfInBounds_toArray, List.set_cons_zero, List.set_cons_succ, i64_w, i32_w]
                  rfl
                refine take_ (i := 9) (N := some 173) (v := ?_) (a' := ?_) #[true, true, true, true, true, true, true, true, true, true, true, false, true, false, false, false, true, false, true, false, false, false, false, false, false, false] rfl rfl (by kernel_rfl) (fun _ _ _ h => h) (Or.inl ⟨by rfl, ?_⟩) hHeld ?_ ?_
                rotate_left
                · rintro w' ⟨s0, s1, s2, s3⟩
                  go_simp
                  with_reducible rfl
                rotate_left
                · simp only [Act.put, List.setIfInBounds_toArray, List.set_cons_zero, List.set_cons_succ, i64_w, i32_w]
                  rfl
                refine take_ (i := 11) (N := some 175) (v := ?_) (a' := ?_) #[true, true, true, true, true, true, true, true, true, true, true, true, true, false, false, false, true, false, true, false, false, false, false, false, false, false] rfl rfl (by kernel_rfl) (fun _ _ _ h => h) (Or.inl ⟨by rfl, ?_⟩) hHeld ?_ ?_
                rotate_left
                · rintro w' ⟨s0, s1, s2, s3⟩
                  go_simp
                  with_reducible rfl
                rotate_left
                · simp only [Act.put, List.setIfInBounds_toArray, List.set_cons_zero, List.set_cons_succ, i64_w, i32_w]
                  rfl
                refine pure_ (i := 13) (N := some 177) (v := ?_) (a' := ?_) #[true, true, true, true, true, true, true, true, true, true, true, true, true, true, false, false, true, false, true, false, false, false, false, false, false, false] rfl rfl (by kernel_rfl) (fun _ _ _ h => h) (Or.inl ⟨by rfl, ?_⟩) ?_ ?_
                rotate_left
                · intro w'
                  go_simp
                  with_reducible rfl
                rotate_left
                · simp only [Act.put, List.setIfInBounds_toArray, List.set_cons_zero, List.set_cons_succ, i64_w, i32_w]
                  rfl
                refine pure_ (i := 14) (N := some 178) (v := ?_) (a' := ?_) #[true, true, true, true, true, true, true, true, true, true, true, true, true, true, true, false, true, false, true, false, false, false, false, false, false, false] rfl rfl (by kernel_rfl) (fun _ _ _ h => h) (Or.inl ⟨by rfl, ?_⟩) ?_ ?_
                rotate_left
                · intro w'
                  go_simp
                  with_reducible rfl
                rotate_left
                · simp only [Act.put, List.setIfInBounds_toArray, List.set_cons_zero, List.set_cons_succ, i64_w, i32_w]
                  rfl
                refine take_ (i := 15) (N := some 179) (v := ?_) (a' := ?_) #[true, true, true, true, true, true, true, true, true, true, true, true, true, true, true, true, true, false, true, false, false, false, false, false, false, false] rfl rfl (by kernel_rfl) (fun _ _ _ h => h) (Or.inl ⟨by rfl, ?_⟩) hHeld ?_ ?_
                rotate_left
                · rintro w' ⟨s0, s1, s2, s3⟩
                  go_simp
                  with_reducible rfl
                rotate_left
                · simp only [Act.put, List.setIfInBounds_toArray, List.set_cons_zero, List.set_cons_succ, i64_w, i32_w]
                  rfl
                refine take_ (i := 17) (N := some 181) (v := ?_) (a' := ?_) #[true, true, true, true, true, true, true, true, true, true, true, true, true, true, true, true, true, true, true, false, false, false, false, false, false, false] rfl rfl (by kernel_rfl) (fun _ _ _ h => h) (Or.inl ⟨by rfl, ?_⟩) hHeld ?_ ?_
                rotate_left
                · rintro w' ⟨s0, s1, s2, s3⟩
                  go_simp
                  with_reducible rfl
                rotate_left
                · simp only [Act.put, List.setIfInBounds_toArray, List.set_cons_zero, List.set_cons_succ, i64_w, i32_w]
                  rfl
                refine pure_ (i := 19) (N := some 183) (v := ?_) (a' := ?_) #[true, true, true, true, true, true, true, true, true, true, true, true, true, true, true, true, true, true, true, true, false, false, false, false, false, false] rfl rfl (by kernel_rfl) (fun _ _ _ h => h) (Or.inl ⟨by rfl, ?_⟩) ?_ ?_
                rotate_left
                · intro w'
                  go_simp
                  with_reducible rfl
                rotate_left
                · simp only [Act.put, List.setIfInBounds_toArray, List.set_cons_zero, List.set_cons_succ, i64_w, i32_w]
                  rfl
                refine pure_ (i := 20) (N := some 184) (v := ?_) (a' := ?_) #[true, true, true, true, true, true, true, true, true, true, true, true, true, true, true, true, true, true, true, true, true, false, false, false, false, false] rfl rfl (by kernel_rfl) (fun _ _ _ h => h) (Or.inl ⟨by rfl, ?_⟩) ?_ ?_
                rotate_left
                · intro w'
                  go_simp
                  with_reducible rfl
                rotate_left
                · simp only [Act.put, List.setIfInBounds_toArray, List.set_cons_zero, List.set_cons_succ, i64_w, i32_w]
                  rfl
                refine take_ (i := 21) (N := some 185) (v := ?_) (a' := ?_) #[true, true, true, true, true, true, true, true, true, true, true, true, true, true, true, true, true, true, true, true, true, true, false, false, false, false] rfl rfl (by kernel_rfl) (fun _ _ _ h => h) (Or.inl ⟨by rfl, ?_⟩) hHeld ?_ ?_
                rotate_left
                · rintro w' ⟨s0, s1, s2, s3⟩
                  go_simp
                  with_reducible rfl
                rotate_left
                · simp only [Act.put, List.setIfInBounds_toArray, List.set_cons_zero, List.set_cons_succ, i64_w, i32_w]
                  rfl
                refine one_ (i := 22) (N := some 186) #[true, true, true, true, true, true, true, true, true, true, true, true, true, true, true, true, true, true, true, true, true, true, true, false, false, false] rfl rfl (by kernel_rfl) (by decide) (fun K hK => ?_)
                refine goes_ Try.func22 (by kernel_rfl) rfl #[.int .i64 wi, .int .i64 wl, .int .i64 wh] (by rfl) rfl rfl (by simp only [List.map_toArray, List.map_cons, List.map_nil] <;> rfl) ?_
                refine (Clamp_calls _ _ _ _).mono ?_
                rintro e wn ⟨rfl, rfl⟩
                refine ⟨_, rfl, ?_⟩
                rw [hvi.out]
                clear hHeld
                refine hK.out _ _ ⟨(bl_cell hbw hew), (blk_cell (bl_block hbw hk_g1) 4 (by rfl)), (bl_cell hbw hw1), (bl_cell hbw hw2)⟩ (fun hHeld => ?_)
                clear hK K
                refine norm_ (a' := ?_) ?_ ?_
                rotate_left
                · show Act.put _ (some 186) _ = _
                  simp only [Act.put, List.setIfInBounds_toArray, List.set_cons_zero, List.set_cons_succ, i64_w, i32_w]
                  rfl
                refine one_ (i := 23) (N := some 187) #[true, true, true, true, true, true, true, true, true, true, true, true, true, true, true, true, true, true, true, true, true, true, true, true, false, false] rfl rfl (by kernel_rfl) (by decide) (fun K hK => ?_)
                refine value_ (w1 := wn.alloc (.cells #[.int .i64 vi] 3)) (v := .slice (some ⟨wn.heap.size, 0, none⟩) 1 1) (by rfl) rfl ?_ ?_
                · go_simp
                  try rfl
                have hk_23 : (wn.alloc (.cells #[.int .i64 vi] 3)).heap[wn.heap.size]? = some (.cells #[.int .i64 vi] 3 (0, 0)) := blk_new wn _
                have hle_23 : V.heap.size ≤ wn.heap.size := hbw.size
                replace hbw := bl_alloc hbw (.cells #[.int .i64 vi] 3)
                replace ho3 := ho3.alloc (.cells #[.int .i64 vi] 3)
                replace hacc := hacc.below (bl_alloc (Below.refl _ _) (.cells #[.int .i64 vi] 3))
                replace hkp := hkp.ext (bl_alloc (Below.refl _ _) (.cells #[.int .i64 vi] 3))
                replace hsB : B ≤ (wn.alloc (.cells #[.int .i64 vi] 3)).heap.size := by have h_ := (bl_alloc (Below.refl wn.heap.size wn) (.cells #[.int .i64 vi] 3)).size; omega
                generalize wn.heap.size = g23 at *
                generalize wn.alloc (.cells #[.int .i64 vi] 3) = wn at *
                clear hHeld
                refine hK.out _ _ ⟨(bl_cell hbw hew), (blk_cell (bl_block hbw hk_g1) 4 (by rfl)), (bl_cell hbw hw1), (bl_cell hbw hw2)⟩ (fun hHeld => ?_)
                clear hK K
                refine norm_ (a' := ?_) ?_ ?_
                rotate_left
                · show Act.put _ (some 187) _ = _
                  simp only [Act.put, List.setIfInBounds_toArray, List.set_cons_zero, List.set_cons_succ, i64_w, i32_w]
                  rfl
                refine one_ (i := 24) (N := some 188) #[true, true, true, true, true, true, true, true, true, true, true, true, true, true, true, true, true, true, true, true, true, true, true, true, true, false] rfl rfl (by kernel_rfl) (by decide) (fun K hK => ?_)
                obtain ⟨v2, w2, hrun, ho2, hg2⟩ := ho3.app1 (P := Try.prog) 23 Try.underlying23 infoI27 g23 vi hk_23 (by rw [hVl.out]; omega) hsB
                rw [← hvsi.out] at ho2
                refine value_ (w1 := w2) (v := v2) (by rfl) rfl (exec_app (.tmp 164) (.tmp 187) 23 (by rfl) (by rfl) (by rfl) hrun) ?_
                replace hbw := hbw.trans (Below.mono hg2 hVB)
                replace hacc := AccAt.keep hacc hg2 (fun a_ h_ => by cases h_; exact hgcB)
                replace hkp := hkp.low hg2
                replace hsB : B ≤ w2.heap.size := Nat.le_trans hsB hg2.size
                clear ho3 hk_23 hle_23 hrun hg2
                generalize w2 = wn at *
                clear hHeld
                refine hK.out _ _ ⟨(bl_cell hbw hew), (blk_cell (bl_block hbw hk_g1) 4 (by rfl)), (bl_cell hbw hw1), (bl_cell hbw hw2)⟩ (fun hHeld => ?_)
                clear hK K
                refine norm_ (a' := ?_) ?_ ?_
                rotate_left
                · show Act.put _ (some 188) _ = _
                  simp only [Act.put, List.setIfInBounds_toArray, List.set_cons_zero, List.set_cons_succ, i64_w, i32_w]
                  rfl
                refine pure_ (i := 25) (N := some 22) (v := ?_) (a' := ?_) #[true, true, true, true, true, true, true, true, true, true, true, true, true, true, true, true, true, true, true, true, true, true, true, true, true, true] rfl rfl (by kernel_rfl) (fun _ _ _ h => h) (Or.inl ⟨by rfl, ?_⟩) ?_ ?_
                rotate_left
                · intro w'
                  go_simp
                  with_reducible rfl
                rotate_left
                · simp only [Act.put, List.setIfInBounds_toArray, List.set_cons_zero, List.set_cons_succ, i64_w, i32_w]
                  rfl
                refine done_ (by kernel_rfl) ?_
                have hb64 : ((i : Int) + 1) ≤ 9223372036854775807 := by omega
                go_wp2
                go_roundw
                case rel => exact ⟨i + 1, by omega, by go_num, hbw, hsB, ho2.rot.rot, ⟨_, hacc⟩, hkp⟩
                case measure => simp [intOf]; omega
            · have hie : i = NN := by omega
              subst hie
              have hd : decide ((i : Int) < (i : Int)) = false := decide_eq_false (by omega)
              have hgl' := hgl.out i
              have hvl' := hvl.out i
              obtain ⟨Ag, cg, rfl, hcg, hrg0, hng1, -⟩ := own_rdC ho3.o1
              obtain ⟨Av, cv, rfl, hcv, hrv0, hnv1, hfv⟩ := own_rdC ho3.o2
              have hrg : RdI w9 Ag (gs i) := ⟨hng1, hrg0⟩
              have hrv : RdI w9 Av (vs i) := ⟨hnv1, hrv0⟩
              have hra := hkp.rd hAB hat
              have hk_gw := hkp ga _ (by simp only []; omega) hk_g
              have hig : InI (gs i) := by rw [hgs0.out]; exact guessL_inI _ _ _ _
              have hvI : InB i p.W (vs i) := by rw [hvs0.out]; exact clampsL_inB (fun j hj => (hgood.Wne (by have := hlE.out; omega)).1)
              have hlens2 := hlE.out
              have hiv : InI (vs i) := hvI.inI hvl' hgood.2.2.2.2.2.1 (by omega)
              have hia : InI at_ := hatI.inI hatl hgood.2.2.2.2.2.2.1 (by omega)
              have hlaw := hidI (fun u h => arm_safe_law (u := u) hgood hslk hrr (x := at_) (v := vs i) (off := turnL lo k i) (by rw [hlens2.1]; exact hatI) (by rw [hlens2.1]; exact hatl) (by rw [hlens2.1]; exact hvI) (by rw [hlens2.1]; exact hvl') h)
              rw [hlens2.1, ← hgs0.out] at hlaw
              have hAva : ∀ ad : Addr, Av = some ad → ad.block ≠ ga := fun ad h => by have := hfv ad h; omega
              have hAaa : ∀ ad : Addr, A = some ad → ad.block ≠ ga := fun ad h => (hAp ad h).1
              have hNx := hidI (fun u W (iu0 : -9223372036854775808 ≤ u) (iu1 : u ≤ 9223372036854775807) (h : Below V.heap.size V W) (h1 : RdI W Av (vs i)) (h2 : RdI W A at_) => Next_fr gk p u (vs i) at_ Av A cv cA_ W hgood (hkit.below h) h1 h2 hiv hia iu0 iu1 (by omega) (by omega))
              rw [hvl', hatl] at hNx
              have hFo := hidI (fun why W (h : Below V.heap.size V W) hk (hx : RdI W Ag (gs i)) => aForce_calls V ga gl hold a aSl p (slP p ls) i cSl why (gs i) Ag cg W hX hao h hk hx hig)
              have hDe := hidI (fun b W (h : Below V.heap.size V W) hk (hx : RdI W Ag (gs i)) (hbm : b.size ≤ 9223372036854775807) => aDecide_calls V ga gl hold a aSl p (slP p ls) cSl b (gs i) Ag cg W hX hao h hk hx hig hbm)
              rw [hX.sl, hlens2.1] at hDe
              rw [hgl'] at hFo hDe
              rw [hgl', hvl']
              obtain ⟨lg, hlg⟩ : ∃ z, gs i = z := ⟨_, rfl⟩
              obtain ⟨lv, hlv⟩ : ∃ z, vs i = z := ⟨_, rfl⟩
              rw [hlg] at hrg hlaw hFo hDe
              rw [hlv] at hrv hlaw hNx hvl'
              clear hgs hgl hvs hvl hto htw hgs0 hvs0 hlg hlv hig hvI hiv hia hfv hcg hcv hng1 hnv1 hrg0 hrv0 ho3 hgl' hi hlt
              obtain ⟨hop, bb, off, rfl, hopat⟩ := hl.2 k hk1
              obtain ⟨o, hoo⟩ : ∃ z, l.getD k opNo = z := ⟨_, rfl⟩
              rw [hoo] at hop hopat
              obtain ⟨B_, cc, h0, h1, h2, -, -⟩ := hopat
              obtain ⟨kd, hkd⟩ : ∃ z, o.kind = z := ⟨_, rfl⟩
              rw [hkd] at h0
              have hbm : o.b.size ≤ 9223372036854775807 := hop.b1
              obtain ⟨wy, hwy⟩ : ∃ z, o.why = z := ⟨_, rfl⟩
              rw [hwy] at h1
              obtain ⟨bt, hbt⟩ : ∃ z, o.b = z := ⟨_, rfl⟩
              rw [hbt] at h2 hbm
              clear hkd hwy hbt hoo hop
              have hvlt := RdI.lt hrv (by omega)
              have halt := RdI.lt hra (by omega)
              have hclt := AccAt.lt hacc
              have hglt := blk_lt hk_gw
              have hbr := baseP_rng hgood lg
              have hdr := decCmd_rng hgood (slP p ls) hold a bt lg
              have hdo := decCmd_or p (slP p ls) hold a bt lg
              have hds := decSrc_or p (slP p ls) hold a bt lg
              obtain ⟨bc, hbc⟩ : ∃ z, baseP p lg = z := ⟨_, rfl⟩
              obtain ⟨dc, hdc⟩ : ∃ z, decCmd p (slP p ls) hold a bt lg = z := ⟨_, rfl⟩
              obtain ⟨ds, hdse⟩ : ∃ z, decSrc p (slP p ls) hold a bt lg = z := ⟨_, rfl⟩
              obtain ⟨dw, hdw⟩ : ∃ z, decWhy p (slP p ls) hold a bt lg = z := ⟨_, rfl⟩
              obtain ⟨fw, hfw⟩ : ∃ z, forceWhy p wy lg = z := ⟨_, rfl⟩
              have hFo2 := hidI (fun W h hk hx => hFo.out wy W h hk hx)
              have hDe2 := hidI (fun W h hk hx => hDe.out bt W h hk hx hbm)
              rw [hbc] at hbr hdo hFo2 hlaw
              rw [hdc] at hdr hdo hDe2
              rw [hdse] at hds hDe2
              rw [hdw] at hDe2
              rw [hfw] at hFo2
              have hlwB := hlaw.out bc (Or.inl rfl)
              have hlwD := hlaw.out dc hdo
              have hIn := hidI (fun W A (l : List Int) (c : Nat) (h : Below V.heap.size V W) (h2 : RdI W A l) => Inside_calls gk p l A c W (hkit.below h) (by omega) h2)
              clear hlens2
              clear hFo hDe hlaw hbc hdc hdse hdw hfw hdo
              have ke0 := bl_cell hbw h0
              go_upto_region 25 with fail
              have hk_gr := blk_new w9 (.cells #[.int .i64 0, .int .i64 0, .int .i64 0] 73)
              have hbA := bl_alloc (Below.refl w9.heap.size w9) (.cells #[.int .i64 0, .int .i64 0, .int .i64 0] 73)
              replace hbw := bl_step hbw hbA
              replace hk_gw := bl_block hbA hk_gw
              replace hrg := hrg.below hbA
              replace hrv := hrv.below hbA
              replace hra := hra.below hbA
              replace hacc := hacc.below hbA
              generalize w9.alloc (.cells #[.int .i64 0, .int .i64 0, .int .i64 0] 73) = wa at *
              obtain ⟨gr, hgr⟩ : ∃ g, w9.heap.size = g := ⟨_, rfl⟩
              rw [hgr] at hk_gr hvlt halt hclt hglt
              rw [hgr]
              have hng : gr ≠ ga := by omega
              have hVg : V.heap.size ≤ gr := by omega
              clear hgr hbA ke0
              have ke0 := bl_cell hbw h0
              have ke1 := bl_cell hbw h1
              have ke2 := bl_cell hbw h2
              have il : k < l.length := hk1
              have hb64 : ((k : Int) + 1) ≤ 9223372036854775807 := by omega
              by_cases hk2 : kd = 2
              · subst hk2
                clear hDe2
                go_wp2_with fail
                refine (hFo2.out wa hbw hk_gw hrg).mono ?_
                intro e wc hc
                obtain ⟨rfl, hA, hk2⟩ := hc
                clear ke0 ke1 ke2
                replace hbw := hA.b
                replace hk_gr := hA.k _ _ hng hk_gr
                have hKx : KeepX (fun k => k = ga ∨ k = gr) wa wc := fun k_ o_ hn_ ho_ => hA.k k_ o_ (fun e_ => hn_ (Or.inl e_)) ho_
                clear hA hk_gw
                have hk_gw := hk2
                clear hk2
                have y0 : wc.cell? ⟨gr, 0, none⟩ = some (.int .i64 0) := blk_cell hk_gr 0 (by rfl)
                have y1 : wc.cell? ⟨gr, 1, none⟩ = some (.int .i64 0) := blk_cell hk_gr 1 (by rfl)
                have y2 : wc.cell? ⟨gr, 2, none⟩ = some (.int .i64 0) := blk_cell hk_gr 2 (by rfl)
                have z0 := blkf hk_gr 0
                have z1 := blkf hk_gr 1
                have z2 := blkf hk_gr 2
                go_upto_region 28 with fail
                clear y0 y1 y2 z0 z1 z2
                replace hKx := ((hKx.set (p := ⟨gr, 0, none⟩) (Or.inr rfl) (.int .i64 bc)).set (p := ⟨gr, 1, none⟩) (Or.inr rfl) (.int .i64 1)).set (p := ⟨gr, 2, none⟩) (Or.inr rfl) (.int .i64 fw)
                have hk_g2 := blk_set (blk_set (blk_set hk_gr 0 (.int .i64 bc)) 1 (.int .i64 1)) 2 (.int .i64 fw)
                replace hk_gw := blk_far (blk_far (blk_far hk_gw (a := ⟨gr, 0, none⟩) hng (.int .i64 bc)) (a := ⟨gr, 1, none⟩) hng (.int .i64 1)) (a := ⟨gr, 2, none⟩) hng (.int .i64 fw)
                replace hbw := bl_set (bl_set (bl_set hbw (p := ⟨gr, 0, none⟩) hVg (.int .i64 bc)) (p := ⟨gr, 1, none⟩) hVg (.int .i64 1)) (p := ⟨gr, 2, none⟩) hVg (.int .i64 fw)
                have hk_gr' : (((wc.setCell ⟨gr, 0, none⟩ (.int .i64 bc)).setCell ⟨gr, 1, none⟩ (.int .i64 1)).setCell ⟨gr, 2, none⟩ (.int .i64 fw)).heap[gr]? = some (.cells #[.int .i64 bc, .int .i64 1, .int .i64 fw] 73 (0, 0)) := by simpa using hk_g2
                clear hk_gr hk_g2
                have hk_gr := hk_gr'
                clear hk_gr'
                generalize ((wc.setCell ⟨gr, 0, none⟩ (.int .i64 bc)).setCell ⟨gr, 1, none⟩ (.int .i64 1)).setCell ⟨gr, 2, none⟩ (.int .i64 fw) = wd at *
                replace hrv := RdI.kx hKx (fun ad h_ hx_ => by have e1 := hAva ad h_; have e2 := hvlt ad h_; omega) hrv
                replace hra := RdI.kx hKx (fun ad h_ hx_ => by have e1 := hAaa ad h_; have e2 := halt ad h_; omega) hra
                replace hacc := AccAt.kx hacc hKx (fun hx_ => by omega)
                clear hKx hrg
                obtain ⟨n1, n2, n3, n4⟩ := hlwB
                have hNx2 := hidI (fun W h h1 h2 => hNx.out bc W hbr.1 hbr.2 h h1 h2)
                obtain ⟨nl, hnl⟩ : ∃ z, (nextP p bc lv at_).1 = z := ⟨_, rfl⟩
                rw [n1, hnl] at hNx2
                rw [hnl] at n2 n3 n4
                rw [n3] at hNx2
                have hInN := hidI (fun W A (c : Nat) h h2 => hIn.out W A nl c h h2)
                rw [n2, n3] at hInN
                clear hnl n1 n2
                replace hk_gw := blk_drew hk_gw
                replace hk_gr := blk_drew hk_gr
                replace hrv : RdI wd.drew Av lv := hrv
                replace hra : RdI wd.drew A at_ := hra
                replace hacc := AccAt.below hacc (bl_drew (Below.refl _ _))
                unfold armV at hk_gw
                replace hbw := bl_drew hbw
                refine start_ (n := 17) (S := fun w' => w'.cell? ⟨ga, 0, none⟩ = some (.pointer (some ⟨gl, 0, none⟩)) ∧ w'.cell? ⟨gl, 0, none⟩ = some (.pointer (some ⟨gk, 0, none⟩)) ∧ w'.cell? ⟨gr, 0, none⟩ = some (.int .i64 bc)) (ds := []) #[false, false, false, false, false, false, false, false, false, false, false, false, false, false, false, false, false] (by kernel_rfl) rfl rfl ⟨(blk_cell hk_gw 0 (by rfl)), (bl_cell hbw hgk), (blk_cell hk_gr 0 (by rfl))⟩ (fun hHeld => ?_)
                generalize wd.drew = wn at *
                refine pure_ (i := 0) (N := some 212) (v := ?_) (a' := ?_) #[true, false, false, false, false, false, false, false, false, false, false, false, false, false, false, false, false] rfl rfl (by kernel_rfl) (fun _ _ _ h => h) (Or.inl ⟨by rfl, ?_⟩) ?_ ?_
                rotate_left
                · intro w'
                  go_simp
                  with_reducible rfl
                rotate_left
                · simp only [Act.put, List.setIfInBounds_toArray, List.set_cons_zero, List.set_cons_succ, i64_w, i32_w]
                  rfl
                refine pure_ (i := 1) (N := some 213) (v := ?_) (a' := ?_) #[true, true, false, false, false, false, false, false, false, false, false, false, false, false, false, false, false] rfl rfl (by kernel_rfl) (fun _ _ _ h => h) (Or.inl ⟨by rfl, ?_⟩) ?_ ?_
                rotate_left
                · intro w'
                  go_simp
                  with_reducible rfl
                rotate_left
                · simp only [Act.put, List.setIfInBounds_toArray, List.set_cons_zero, List.set_cons_succ, i64_w, i32_w]
                  rfl
                refine pure_ (i := 2) (N := some 214) (v := ?_) (a' := ?_) #[true, true, true, false, false, false, false, false, false, false, false, false, false, false, false, false, false] rfl rfl (by kernel_rfl) (fun _ _ _ h => h) (Or.inl ⟨by rfl, ?_⟩) ?_ ?_
                rotate_left
                · intro w'
                  go_simp
                  with_reducible rfl
                rotate_left
                · simp only [Act.put, List.setIfInBounds_toArray, List.set_cons_zero, List.set_cons_succ, i64_w, i32_w]
                  rfl
                refine pure_ (i := 7) (N := some 219) (v := ?_) (a' := ?_) #[true, true, true, false, false, false, false, true, false, false, false, false, false, false, false, false, false] rfl rfl (by kernel_rfl) (fun _ _ _ h => h) (Or.inl ⟨by rfl, ?_⟩) ?_ ?_
                rotate_left
                · intro w'
                  go_simp
                  with_reducible rfl
                rotate_left
                · simp only [Act.put, List.setIfInBounds_toArray, List.set_cons_zero, List.set_cons_succ, i64_w, i32_w]
                  rfl
                refine pure_ (i := 9) (N := some 221) (v := ?_) (a' := ?_) #[true, true, true, false, false, false, false, true, false, true, false, false, false, false, false, false, false] rfl rfl (by kernel_rfl) (fun _ _ _ h => h) (Or.inl ⟨by rfl, ?_⟩) ?_ ?_
                rotate_left
                · intro w'
                  go_simp
                  with_reducible rfl
                rotate_left
                · simp only [Act.put, List.setIfInBounds_toArray, List.set_cons_zero, List.set_cons_succ, i64_w, i32_w]
                  rfl
                refine pure_ (i := 10) (N := some 222) (v := ?_) (a' := ?_) #[true, true, true, false, false, false, false, true, false, true, true, false, false, false, false, false, false] rfl rfl (by kernel_rfl) (fun _ _ _ h => h) (Or.inl ⟨by rfl, ?_⟩) ?_ ?_
                rotate_left
                · intro w'
                  go_simp
                  with_reducible rfl
                rotate_left
                · simp only [Act.put, List.setIfInBounds_toArray, List.set_cons_zero, List.set_cons_succ, i64_w, i32_w]
                  rfl
                refine take_ (i := 3) (N := some 215) (v := ?_) (a' := ?_) #[true, true, true, true, false, false, false, true, false, true, true, false, false, false, false, false, false] rfl rfl (by kernel_rfl) (fun _ _ _ h => h) (Or.inl ⟨by rfl, ?_⟩) hHeld ?_ ?_
                rotate_left
                · rintro w' ⟨s0, s1, s2⟩
                  go_simp
                  with_reducible rfl
                rotate_left
                · simp only [Act.put, List.setIfInBounds_toArray, List.set_cons_zero, List.set_cons_succ, i64_w, i32_w]
                  rfl
                refine pure_ (i := 4) (N := some 216) (v := ?_) (a' := ?_) #[true, true, true, true, true, false, false, true, false, true, true, false, false, false, false, false, false] rfl rfl (by kernel_rfl) (fun _ _ _ h => h) (Or.inl ⟨by rfl, ?_⟩) ?_ ?_
                rotate_left
                · intro w'
                  go_simp
                  with_reducible rfl
                rotate_left
                · simp only [Act.put, List.setIfInBounds_toArray, List.set_cons_zero, List.set_cons_succ, i64_w, i32_w]
                  rfl
                refine pure_ (i := 5) (N := some 217) (v := ?_) (a' := ?_) #[true, true, true, true, true, true, false, true, false, true, true, false, false, false, false, false, false] rfl rfl (by kernel_rfl) (fun _ _ _ h => h) (Or.inl ⟨by rfl, ?_⟩) ?_ ?_
                rotate_left
                · intro w'
                  go_simp
                  with_reducible rfl
                rotate_left
                · simp only [Act.put, List.setIfInBounds_toArray, List.set_cons_zero, List.set_cons_succ, i64_w, i32_w]
                  rfl
                refine take_ (i := 6) (N := some 218) (v := ?_) (a' := ?_) #[true, true, true, true, true, true, true, true, false, true, true, false, false, false, false, false, false] rfl rfl (by kernel_rfl) (fun _ _ _ h => h) (Or.inl ⟨by rfl, ?_⟩) hHeld ?_ ?_
                rotate_left
                · rintro w' ⟨s0, s1, s2⟩
                  go_simp
                  with_reducible rfl
                rotate_left
                · simp only [Act.put, List.setIfInBounds_toArray, List.set_cons_zero, List.set_cons_succ, i64_w, i32_w]
                  rfl
                refine take_ (i := 8) (N := some 220) (v := ?_) (a' := ?_) #[true, true, true, true, true, true, true, true, true, true, true, false, false, false, false, false, false] rfl rfl (by kernel_rfl) (fun _ _ _ h => h) (Or.inl ⟨by rfl, ?_⟩) hHeld ?_ ?_
                rotate_left
                · rintro w' ⟨s0, s1, s2⟩
                  go_simp
                  with_reducible rfl
                rotate_left
                · simp only [Act.put, List.setIfInBounds_toArray, List.set_cons_zero, List.set_cons_succ, i64_w, i32_w]
                  rfl
                refine one_ (i := 11) (N := some 223) #[true, true, true, true, true, true, true, true, true, true, true, true, false, false, false, false, false] rfl rfl (by kernel_rfl) (by decide) (fun K hK => ?_)
                refine goes_ Try.func25 (by kernel_rfl) rfl #[.pointer (some ⟨gk, 0, none⟩), .int .i64 bc, .slice Av i cv, .slice A i cA_] (by rfl) rfl rfl (by simp only [List.map_toArray, List.map_cons, List.map_nil] <;> rfl) ?_
                refine (hNx2.out _ hbw hrv hra).mono ?_
                rintro e wn' ⟨An, cn, rfl, hrn, hbn, hfn⟩
                refine ⟨_, rfl, ?_⟩
                have hf1 := blk_lt hk_gw
                have hf2 := AccAt.lt hacc
                have hAn : ∀ ad : Addr, An = some ad → ad.block ≠ ga ∧ ad.block ≠ gc := fun ad h_ => by have := hfn ad h_; omega
                replace hbw := bl_step hbw hbn
                replace hk_gw := bl_block hbn hk_gw
                replace hk_gr := bl_block hbn hk_gr
                replace hacc := hacc.below hbn
                clear hbn hra hrv hfn hf1 hf2
                generalize wn' = wn at *
                clear hHeld
                refine hK.out _ _ ⟨(blk_cell hk_gw 0 (by rfl)), (bl_cell hbw hgk), (blk_cell hk_gr 0 (by rfl))⟩ (fun hHeld => ?_)
                clear hK K
                refine norm_ (a' := ?_) ?_ ?_
                rotate_left
                · show Act.put _ (some 223) _ = _
                  simp only [Act.put, List.setIfInBounds_toArray, List.set_cons_zero, List.set_cons_succ, i64_w, i32_w]
                  rfl
                refine pure_ (i := 12) (N := some 211) (v := ?_) (a' := ?_) #[true, true, true, true, true, true, true, true, true, true, true, true, true, false, false, false, false] rfl rfl (by kernel_rfl) (fun _ _ _ h => h) (Or.inl ⟨by rfl, ?_⟩) ?_ ?_
                rotate_left
                · intro w'
                  go_simp
                  with_reducible rfl
                rotate_left
                · simp only [Act.put, List.setIfInBounds_toArray, List.set_cons_zero, List.set_cons_succ, i64_w, i32_w]
                  rfl
                refine pure_ (i := 13) (N := some 224) (v := ?_) (a' := ?_) #[true, true, true, true, true, true, true, true, true, true, true, true, true, true, false, false, false] rfl rfl (by kernel_rfl) (fun _ _ _ h => h) (Or.inl ⟨by rfl, ?_⟩) ?_ ?_
                rotate_left
                · intro w'
                  go_simp
                  with_reducible rfl
                rotate_left
                · simp only [Act.put, List.setIfInBounds_toArray, List.set_cons_zero, List.set_cons_succ, i64_w, i32_w]
                  rfl
                refine pure_ (i := 14) (N := some 225) (v := ?_) (a' := ?_) #[true, true, true, true, true, true, true, true, true, true, true, true, true, true, true, false, false] rfl rfl (by kernel_rfl) (fun _ _ _ h => h) (Or.inl ⟨by rfl, ?_⟩) ?_ ?_
                rotate_left
                · intro w'
                  go_simp
                  with_reducible rfl
                rotate_left
                · simp only [Act.put, List.setIfInBounds_toArray, List.set_cons_zero, List.set_cons_succ, i64_w, i32_w]
                  rfl
                refine pure_ (i := 15) (N := some 26) (v := ?_) (a' := ?_) #[true, true, true, true, true, true, true, true, true, true, true, true, true, true, true, true, false] rfl rfl (by kernel_rfl) (fun _ _ _ h => h) (Or.inl ⟨by rfl, ?_⟩) ?_ ?_
                rotate_left
                · intro w'
                  go_simp
                  with_reducible rfl
                rotate_left
                · simp only [Act.put, List.setIfInBounds_toArray, List.set_cons_zero, List.set_cons_succ, i64_w, i32_w]
                  rfl
                refine pure_ (i := 16) (N := some 27) (v := ?_) (a' := ?_) #[true, true, true, true, true, true, true, true, true, true, true, true, true, true, true, true, true] rfl rfl (by kernel_rfl) (fun _ _ _ h => h) (Or.inl ⟨by rfl, ?_⟩) ?_ ?_
                rotate_left
                · intro w'
                  go_simp
                  with_reducible rfl
                rotate_left
                · simp only [Act.put, List.setIfInBounds_toArray, List.set_cons_zero, List.set_cons_succ, i64_w, i32_w]
                  rfl
                refine done_ (by kernel_rfl) ?_
                have ya0 : wn.cell? ⟨ga, 0, none⟩ = some (.pointer (some ⟨gl, 0, none⟩)) := blk_cell hk_gw 0 (by rfl)
                have yl0 : wn.cell? ⟨gl, 0, none⟩ = some (.pointer (some ⟨gk, 0, none⟩)) := bl_cell hbw hgk
                go_wp2_with fail
                refine (hInN.out _ _ _ hbw hrn).mono ?_
                rintro e wz ⟨rfl, hbz⟩
                replace hbw := bl_step hbw hbz
                replace hk_gw := bl_block hbz hk_gw
                replace hrn := hrn.below hbz
                replace hacc := hacc.below hbz
                clear hbz ya0 yl0
                go_wp2
                go_roundw
                case rel => exact ⟨k + 1, a.chosen 1, An, cn, nl, by omega, by go_num, rfl, ASt.chosen_ok hao (Or.inr rfl), hbw, hk_gw, ⟨_, hacc⟩, hrn, n3, n4, hAn⟩
                case measure => simp [intOf]; omega
              · have dk : (kd == 2) = false := by simpa using hk2
                replace hk2 := hidI hk2
                clear hFo2
                go_wp2_with fail
                refine (hDe2.out wa hbw hk_gw hrg).mono ?_
                intro e wc hc
                obtain ⟨rfl, hA, hk2⟩ := hc
                clear ke0 ke1 ke2
                replace hbw := hA.b
                replace hk_gr := hA.k _ _ hng hk_gr
                have hKx : KeepX (fun k => k = ga ∨ k = gr) wa wc := fun k_ o_ hn_ ho_ => hA.k k_ o_ (fun e_ => hn_ (Or.inl e_)) ho_
                clear hA hk_gw
                have hk_gw := hk2
                clear hk2
                have y0 : wc.cell? ⟨gr, 0, none⟩ = some (.int .i64 0) := blk_cell hk_gr 0 (by rfl)
                have y1 : wc.cell? ⟨gr, 1, none⟩ = some (.int .i64 0) := blk_cell hk_gr 1 (by rfl)
                have y2 : wc.cell? ⟨gr, 2, none⟩ = some (.int .i64 0) := blk_cell hk_gr 2 (by rfl)
                have z0 := blkf hk_gr 0
                have z1 := blkf hk_gr 1
                have z2 := blkf hk_gr 2
                go_upto_region 28 with fail
                clear y0 y1 y2 z0 z1 z2
                replace hKx := ((hKx.set (p := ⟨gr, 0, none⟩) (Or.inr rfl) (.int .i64 dc)).set (p := ⟨gr, 1, none⟩) (Or.inr rfl) (.int .i64 ds)).set (p := ⟨gr, 2, none⟩) (Or.inr rfl) (.int .i64 dw)
                have hk_g2 := blk_set (blk_set (blk_set hk_gr 0 (.int .i64 dc)) 1 (.int .i64 ds)) 2 (.int .i64 dw)
                replace hk_gw := blk_far (blk_far (blk_far hk_gw (a := ⟨gr, 0, none⟩) hng (.int .i64 dc)) (a := ⟨gr, 1, none⟩) hng (.int .i64 ds)) (a := ⟨gr, 2, none⟩) hng (.int .i64 dw)
                replace hbw := bl_set (bl_set (bl_set hbw (p := ⟨gr, 0, none⟩) hVg (.int .i64 dc)) (p := ⟨gr, 1, none⟩) hVg (.int .i64 ds)) (p := ⟨gr, 2, none⟩) hVg (.int .i64 dw)
                have hk_gr' : (((wc.setCell ⟨gr, 0, none⟩ (.int .i64 dc)).setCell ⟨gr, 1, none⟩ (.int .i64 ds)).setCell ⟨gr, 2, none⟩ (.int .i64 dw)).heap[gr]? = some (.cells #[.int .i64 dc, .int .i64 ds, .int .i64 dw] 73 (0, 0)) := by simpa using hk_g2
                clear hk_gr hk_g2
                have hk_gr := hk_gr'
                clear hk_gr'
                generalize ((wc.setCell ⟨gr, 0, none⟩ (.int .i64 dc)).setCell ⟨gr, 1, none⟩ (.int .i64 ds)).setCell ⟨gr, 2, none⟩ (.int .i64 dw) = wd at *
                replace hrv := RdI.kx hKx (fun ad h_ hx_ => by have e1 := hAva ad h_; have e2 := hvlt ad h_; omega) hrv
                replace hra := RdI.kx hKx (fun ad h_ hx_ => by have e1 := hAaa ad h_; have e2 := halt ad h_; omega) hra
                replace hacc := AccAt.kx hacc hKx (fun hx_ => by omega)
                clear hKx hrg
                obtain ⟨n1, n2, n3, n4⟩ := hlwD
                have hNx2 := hidI (fun W h h1 h2 => hNx.out dc W hdr.1 hdr.2 h h1 h2)
                obtain ⟨nl, hnl⟩ : ∃ z, (nextP p dc lv at_).1 = z := ⟨_, rfl⟩
                rw [n1, hnl] at hNx2
                rw [hnl] at n2 n3 n4
                rw [n3] at hNx2
                have hInN := hidI (fun W A (c : Nat) h h2 => hIn.out W A nl c h h2)
                rw [n2, n3] at hInN
                clear hnl n1 n2
                replace hk_gw := blk_drew hk_gw
                replace hk_gr := blk_drew hk_gr
                replace hrv : RdI wd.drew Av lv := hrv
                replace hra : RdI wd.drew A at_ := hra
                replace hacc := AccAt.below hacc (bl_drew (Below.refl _ _))
                unfold armV at hk_gw
                replace hbw := bl_drew hbw
                refine start_ (n := 17) (S := fun w' => w'.cell? ⟨ga, 0, none⟩ = some (.pointer (some ⟨gl, 0, none⟩)) ∧ w'.cell? ⟨gl, 0, none⟩ = some (.pointer (some ⟨gk, 0, none⟩)) ∧ w'.cell? ⟨gr, 0, none⟩ = some (.int .i64 dc)) (ds := []) #[false, false, false, false, false, false, false, false, false, false, false, false, false, false, false, false, false] (by kernel_rfl) rfl rfl ⟨(blk_cell hk_gw 0 (by rfl)), (bl_cell hbw hgk), (blk_cell hk_gr 0 (by rfl))⟩ (fun hHeld => ?_)
                generalize wd.drew = wn at *
                refine pure_ (i := 0) (N := some 212) (v := ?_) (a' := ?_) #[true, false, false, false, false, false, false, false, false, false, false, false, false, false, false, false, false] rfl rfl (by kernel_rfl) (fun _ _ _ h => h) (Or.inl ⟨by rfl, ?_⟩) ?_ ?_
                rotate_left
                · intro w'
                  go_simp
                  with_reducible rfl
                rotate_left
                · simp only [Act.put, List.setIfInBounds_toArray, List.set_cons_zero, List.set_cons_succ, i64_w, i32_w]
                  rfl
                refine pure_ (i := 1) (N := some 213) (v := ?_) (a' := ?_) #[true, true, false, false, false, false, false, false, false, false, false, false, false, false, false, false, false] rfl rfl (by kernel_rfl) (fun _ _ _ h => h) (Or.inl ⟨by rfl, ?_⟩) ?_ ?_
                rotate_left
                · intro w'
                  go_simp
                  with_reducible rfl
                rotate_left
                · simp only [Act.put, List.setIfInBounds_toArray, List.set_cons_zero, List.set_cons_succ, i64_w, i32_w]
                  rfl
                refine pure_ (i := 2) (N := some 214) (v := ?_) (a' := ?_) #[true, true, true, false, false, false, false, false, false, false, false, false, false, false, false, false, false] rfl rfl (by kernel_rfl) (fun _ _ _ h => h) (Or.inl ⟨by rfl, ?_⟩) ?_ ?_
                rotate_left
                · intro w'
                  go_simp
                  with_reducible rfl
                rotate_left
                · simp only [Act.put, List.setIfInBounds_toArray, List.set_cons_zero, List.set_cons_succ, i64_w, i32_w]
                  rfl
                refine pure_ (i := 7) (N := some 219) (v := ?_) (a' := ?_) #[true, true, true, false, false, false, false, true, false, false, false, false, false, false, false, false, false] rfl rfl (by kernel_rfl) (fun _ _ _ h => h) (Or.inl ⟨by rfl, ?_⟩) ?_ ?_
                rotate_left
                · intro w'
                  go_simp
                  with_reducible rfl
                rotate_left
                · simp only [Act.put, List.setIfInBounds_toArray, List.set_cons_zero, List.set_cons_succ, i64_w, i32_w]
                  rfl
                refine pure_ (i := 9) (N := some 221) (v := ?_) (a' := ?_) #[true, true, true, false, false, false, false, true, false, true, false, false, false, false, false, false, false] rfl rfl (by kernel_rfl) (fun _ _ _ h => h) (Or.inl ⟨by rfl, ?_⟩) ?_ ?_
                rotate_left
                · intro w'
                  go_simp
                  with_reducible rfl
                rotate_left
                · simp only [Act.put, List.setIfInBounds_toArray, List.set_cons_zero, List.set_cons_succ, i64_w, i32_w]
                  rfl
                refine pure_ (i := 10) (N := some 222) (v := ?_) (a' := ?_) #[true, true, true, false, false, false, false, true, false, true, true, false, false, false, false, false, false] rfl rfl (by kernel_rfl) (fun _ _ _ h => h) (Or.inl ⟨by rfl, ?_⟩) ?_ ?_
                rotate_left
                · intro w'
                  go_simp
                  with_reducible rfl
                rotate_left
                · simp only [Act.put, List.setIfInBounds_toArray, List.set_cons_zero, List.set_cons_succ, i64_w, i32_w]
                  rfl
                refine take_ (i := 3) (N := some 215) (v := ?_) (a' := ?_) #[true, true, true, true, false, false, false, true, false, true, true, false, false, false, false, false, false] rfl rfl (by kernel_rfl) (fun _ _ _ h => h) (Or.inl ⟨by rfl, ?_⟩) hHeld ?_ ?_
                rotate_left
                · rintro w' ⟨s0, s1, s2⟩
                  go_simp
                  with_reducible rfl
                rotate_left
                · simp only [Act.put, List.setIfInBounds_toArray, List.set_cons_zero, List.set_cons_succ, i64_w, i32_w]
                  rfl
                refine pure_ (i := 4) (N := some 216) (v := ?_) (a' := ?_) #[true, true, true, true, true, false, false, true, false, true, true, false, false, false, false, false, false] rfl rfl (by kernel_rfl) (fun _ _ _ h => h) (Or.inl ⟨by rfl, ?_⟩) ?_ ?_
                rotate_left
                · intro w'
                  go_simp
                  with_reducible rfl
                rotate_left
                · simp only [Act.put, List.setIfInBounds_toArray, List.set_cons_zero, List.set_cons_succ, i64_w, i32_w]
                  rfl
                refine pure_ (i := 5) (N := some 217) (v := ?_) (a' := ?_) #[true, true, true, true, true, true, false, true, false, true, true, false, false, false, false, false, false] rfl rfl (by kernel_rfl) (fun _ _ _ h => h) (Or.inl ⟨by rfl, ?_⟩) ?_ ?_
                rotate_left
                · intro w'
                  go_simp
                  with_reducible rfl
                rotate_left
                · simp only [Act.put, List.setIfInBounds_toArray, List.set_cons_zero, List.set_cons_succ, i64_w, i32_w]
                  rfl
                refine take_ (i := 6) (N := some 218) (v := ?_) (a' := ?_) #[true, true, true, true, true, true, true, true, false, true, true, false, false, false, false, false, false] rfl rfl (by kernel_rfl) (fun _ _ _ h => h) (Or.inl ⟨by rfl, ?_⟩) hHeld ?_ ?_
                rotate_left
                · rintro w' ⟨s0, s1, s2⟩
                  go_simp
                  with_reducible rfl
                rotate_left
                · simp only [Act.put, List.setIfInBounds_toArray, List.set_cons_zero, List.set_cons_succ, i64_w, i32_w]
                  rfl
                refine take_ (i := 8) (N := some 220) (v := ?_) (a' := ?_) #[true, true, true, true, true, true, true, true, true, true, true, false, false, false, false, false, false] rfl rfl (by kernel_rfl) (fun _ _ _ h => h) (Or.inl ⟨by rfl, ?_⟩) hHeld ?_ ?_
                rotate_left
                · rintro w' ⟨s0, s1, s2⟩
                  go_simp
                  with_reducible rfl
                rotate_left
                · simp only [Act.put, List.setIfInBounds_toArray, List.set_cons_zero, List.set_cons_succ, i64_w, i32_w]
                  rfl
                refine one_ (i := 11) (N := some 223) #[true, true, true, true, true, true, true, true, true, true, true, true, false, false, false, false, false] rfl rfl (by kernel_rfl) (by decide) (fun K hK => ?_)
                refine goes_ Try.func25 (by kernel_rfl) rfl #[.pointer (some ⟨gk, 0, none⟩), .int .i64 dc, .slice Av i cv, .slice A i cA_] (by rfl) rfl rfl (by simp only [List.map_toArray, List.map_cons, List.map_nil] <;> rfl) ?_
                refine (hNx2.out _ hbw hrv hra).mono ?_
                rintro e wn' ⟨An, cn, rfl, hrn, hbn, hfn⟩
                refine ⟨_, rfl, ?_⟩
                have hf1 := blk_lt hk_gw
                have hf2 := AccAt.lt hacc
                have hAn : ∀ ad : Addr, An = some ad → ad.block ≠ ga ∧ ad.block ≠ gc := fun ad h_ => by have := hfn ad h_; omega
                replace hbw := bl_step hbw hbn
                replace hk_gw := bl_block hbn hk_gw
                replace hk_gr := bl_block hbn hk_gr
                replace hacc := hacc.below hbn
                clear hbn hra hrv hfn hf1 hf2
                generalize wn' = wn at *
                clear hHeld
                refine hK.out _ _ ⟨(blk_cell hk_gw 0 (by rfl)), (bl_cell hbw hgk), (blk_cell hk_gr 0 (by rfl))⟩ (fun hHeld => ?_)
                clear hK K
                refine norm_ (a' := ?_) ?_ ?_
                rotate_left
                · show Act.put _ (some 223) _ = _
                  simp only [Act.put, List.setIfInBounds_toArray, List.set_cons_zero, List.set_cons_succ, i64_w, i32_w]
                  rfl
                refine pure_ (i := 12) (N := some 211) (v := ?_) (a' := ?_) #[true, true, true, true, true, true, true, true, true, true, true, true, true, false, false, false, false] rfl rfl (by kernel_rfl) (fun _ _ _ h => h) (Or.inl ⟨by rfl, ?_⟩) ?_ ?_
                rotate_left
                · intro w'
                  go_simp
                  with_reducible rfl
                rotate_left
                · simp only [Act.put, List.setIfInBounds_toArray, List.set_cons_zero, List.set_cons_succ, i64_w, i32_w]
                  rfl
                refine pure_ (i := 13) (N := some 224) (v := ?_) (a' := ?_) #[true, true, true, true, true, true, true, true, true, true, true, true, true, true, false, false, false] rfl rfl (by kernel_rfl) (fun _ _ _ h => h) (Or.inl ⟨by rfl, ?_⟩) ?_ ?_
                rotate_left
                · intro w'
                  go_simp
                  with_reducible rfl
                rotate_left
                · simp only [Act.put, List.setIfInBounds_toArray, List.set_cons_zero, List.set_cons_succ, i64_w, i32_w]
                  rfl
                refine pure_ (i := 14) (N := some 225) (v := ?_) (a' := ?_) #[true, true, true, true, true, true, true, true, true, true, true, true, true, true, true, false, false] rfl rfl (by kernel_rfl) (fun _ _ _ h => h) (Or.inl ⟨by rfl, ?_⟩) ?_ ?_
                rotate_left
                · intro w'
                  go_simp
                  with_reducible rfl
                rotate_left
                · simp only [Act.put, List.setIfInBounds_toArray, List.set_cons_zero, List.set_cons_succ, i64_w, i32_w]
                  rfl
                refine pure_ (i := 15) (N := some 26) (v := ?_) (a' := ?_) #[true, true, true, true, true, true, true, true, true, true, true, true, true, true, true, true, false] rfl rfl (by kernel_rfl) (fun _ _ _ h => h) (Or.inl ⟨by rfl, ?_⟩) ?_ ?_
                rotate_left
                · intro w'
                  go_simp
                  with_reducible rfl
                rotate_left
                · simp only [Act.put, List.setIfInBounds_toArray, List.set_cons_zero, List.set_cons_succ, i64_w, i32_w]
                  rfl
                refine pure_ (i := 16) (N := some 27) (v := ?_) (a' := ?_) #[true, true, true, true, true, true, true, true, true, true, true, true, true, true, true, true, true] rfl rfl (by kernel_rfl) (fun _ _ _ h => h) (Or.inl ⟨by rfl, ?_⟩) ?_ ?_
                rotate_left
                · intro w'
                  go_simp
                  with_reducible rfl
                rotate_left
                · simp only [Act.put, List.setIfInBounds_toArray, List.set_cons_zero, List.set_cons_succ, i64_w, i32_w]
                  rfl
                refine done_ (by kernel_rfl) ?_
                have ya0 : wn.cell? ⟨ga, 0, none⟩ = some (.pointer (some ⟨gl, 0, none⟩)) := blk_cell hk_gw 0 (by rfl)
                have yl0 : wn.cell? ⟨gl, 0, none⟩ = some (.pointer (some ⟨gk, 0, none⟩)) := bl_cell hbw hgk
                go_wp2_with fail
                refine (hInN.out _ _ _ hbw hrn).mono ?_
                rintro e wz ⟨rfl, hbz⟩
                replace hbw := bl_step hbw hbz
                replace hk_gw := bl_block hbz hk_gw
                replace hrn := hrn.below hbz
                replace hacc := hacc.below hbz
                clear hbz ya0 yl0
                go_wp2
                go_roundw
                case rel => exact ⟨k + 1, a.chosen ds, An, cn, nl, by omega, by go_num, rfl, ASt.chosen_ok hao hds, hbw, hk_gw, ⟨_, hacc⟩, hrn, n3, n4, hAn⟩
                case measure => simp [intOf]; omega
        · by_cases h1 : k < l.length
          · have hdz : decide ((k : Int) < (l.length : Int)) = true := decide_eq_true (by omega)
            have ndz : decide (k < l.length) = true := decide_eq_true (by omega)
            have hdz2 : decide ((k : Int) < 40) = false := decide_eq_false (by omega)
            have ndz2 : decide (k < 40) = false := decide_eq_false (by omega)
            have hbw := bl_step hbw0 hbw
            go_wp2_with fail
            refine (alive20_calls _).mono ?_
            rintro e wz ⟨rfl, hbz⟩
            replace hbw := bl_step hbw hbz
            subst hw0
            go_wp2
            go_ret
            exact ⟨rfl, hbw⟩
          · have hdz : decide ((k : Int) < (l.length : Int)) = false := decide_eq_false (by omega)
            have ndz : decide (k < l.length) = false := decide_eq_false (by omega)
            have hbw := bl_step hbw0 hbw
            go_wp2_with fail
            refine (alive20_calls _).mono ?_
            rintro e wz ⟨rfl, hbz⟩
            replace hbw := bl_step hbw hbz
            subst hw0
            go_wp2
            go_ret
            exact ⟨rfl, hbw⟩
end Go.Proofs.Ythdaidmjjcmccaa
