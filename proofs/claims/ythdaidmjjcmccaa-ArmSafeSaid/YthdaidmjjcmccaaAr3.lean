/- Proved here: lemmas and contracts (what a function of the program computes) that the proofs of the laws of this seat lean on. Conditions: as each theorem states. -/
import Derived.Test.YthdaidmjjcmccaaAr2
set_option linter.unusedVariables false
set_option linter.unusedSimpArgs false
namespace Go.Pk
open Go.RowKit Go.Pk.Rx
/-! An arm as plain data. -/
structure ASt where
  src : Int
  since : Int
  c0 : Int
  c1 : Int
def mn31 (z : Int) : Int := if 2147483647 < z then 2147483647 else z
def ASt.chosen (a : ASt) (k : Int) : ASt := ⟨k, mn31 ((if k = a.src then a.since else 0) + 1), if k = 0 then mn31 (a.c0 + 1) else a.c0, if k = 0 then a.c1 else mn31 (a.c1 + 1)⟩
structure ASt.ok (a : ASt) : Prop where
  s : a.src = 0 ∨ a.src = 1
  t0 : 0 ≤ a.since
  t1 : a.since ≤ 2147483647
  u0 : 0 ≤ a.c0
  u1 : a.c0 ≤ 2147483647
  v0 : 0 ≤ a.c1
  v1 : a.c1 ≤ 2147483647
theorem ASt.chosen_ok {a : ASt} (h : a.ok) {k : Int} (hk : k = 0 ∨ k = 1) : (a.chosen k).ok := by
  obtain ⟨h1, h2, h3, h4, h5, h6, h7⟩ := h
  unfold ASt.chosen mn31
  constructor <;> simp only [] <;> (repeat' split) <;> omega
/-- What lies in an arm's block. -/
def armV (gl : Nat) (hold : Int) (a : ASt) (aS : Option Addr) (n cS : Nat) : Array Value := #[.pointer (some ⟨gl, 0, none⟩), .int .i64 hold, .int .i64 a.src, .int .i64 a.since, .int .i64 a.c0, .int .i64 a.c1, .slice aS n cS]
/-- All that an arm leans on, in a world that is older than it. -/
structure ArmX (w0 : World) (ga gl : Nat) (aS : Option Addr) (p : Pl) (s : List Int) (TL TK : Nat) : Prop where
  hg : w0.heap.size ≤ ga
  lk : LkAt w0 gl TL TK p s
  rs : RdI w0 aS s
  good : GoodP p
  si : InI s
  sl : s.length = p.B.length
  sk : slacksP p s = true
/-- What comes of making an arm. -/
def NewArmPost (W w' : World) (ok1 : Bool) (bad : Prop) (rr : Int) (p : Pl) (s : List Int) (hold : Int) (TL TK TA : Nat) (e : Ending) : Prop :=
  Below W.heap.size W w' ∧ (ok1 = false → ∃ er : Int, er ≠ 0 ∧ e = .returned (.tuple #[.pointer none, .int .i64 er])) ∧ (ok1 = true → bad → e = .returned (.tuple #[.pointer none, .int .i64 1])) ∧
      (ok1 = true → ¬ bad → rr ≠ 0 → e = .returned (.tuple #[.pointer none, .int .i64 60])) ∧
      (ok1 = true → ¬ bad → rr = 0 → ∃ w1 gl ga aS cS, e = .returned (.tuple #[.pointer (some ⟨ga, 0, none⟩), .int .i64 0]) ∧ Below W.heap.size W w1 ∧ Below w1.heap.size w1 w' ∧ W.heap.size ≤ ga ∧ ArmX w1 ga gl aS p s TL TK ∧ w'.heap[ga]? = some (.cells (armV gl hold ⟨0, 0, 0, 0⟩ aS p.B.length cS) TA (0, 0)))
theorem slP_slacks {p : Pl} {l : List Int} (h : slacksP p l = true) : slacksP p (slP p l) = true := by
  have := slacks_iff.1 h
  exact slacks_iff.2 ⟨by rw [slP_length this.1]; omega, fun j => by rw [slP_getD]; exact this.2 j⟩
end Go.Pk
namespace Go.Proofs.Ythdaidmjjcmccaa
open Go.RowKit Go.Pk Go.Proofs.YthdaidmjjcmccaaW.PrintLast
set_option maxHeartbeats 4000000 in
set_option maxRecDepth 100000 in
theorem aNone_arm (ga gl gk : Nat) (w : World) (y0 : w.cell? ⟨ga, 0, none⟩ = some (.pointer (some ⟨gl, 0, none⟩))) (y1 : w.cell? ⟨gl, 0, none⟩ = some (.pointer (some ⟨gk, 0, none⟩))) : Calls Try.prog 85 #[.pointer (some ⟨ga, 0, none⟩)] w fun e w' => e = .returned (.bool false) ∧ w' = w := by
  go_enter Try.func85, Try.ntmps85
  go_wp2
  go_ret
  exact ⟨rfl, rfl⟩
set_option maxHeartbeats 4000000 in
set_option maxRecDepth 100000 in
theorem lSlack_calls (gl : Nat) (p : Pl) (s : List Int) (w : World) (h : LkAt w gl 51 116 p s) (hs : s.length ≤ 1000000) :
    Calls Try.prog 84 #[.pointer (some ⟨gl, 0, none⟩)] w fun e w' => ∃ A c, e = .returned (.slice A s.length c) ∧ s.length ≤ c ∧ RdI w' A s ∧ Below w.heap.size w w' := by
  have hn := hidI (none_look gl p s w h)
  obtain ⟨g, aS, cS, hk, hr, -, -⟩ := h
  have hC := hidI (CloneI_own aS s cS w hr hs)
  have y1 : w.cell? ⟨gl, 1, none⟩ = some (.slice aS s.length cS) := blk_cell hk 1 (by rfl)
  clear hk hr hs
  go_enter Try.func84, Try.ntmps84
  go_wp2_with fail
  refine hn.out.mono ?_
  rintro e w1 ⟨rfl, hw1⟩
  subst hw1
  go_wp2_with fail
  refine hC.out.mono ?_
  rintro e w2 ⟨v, rfl, ho, hb2⟩
  obtain ⟨A, c, rfl, hc, hrd, hn2, -⟩ := own_rdC ho
  clear ho y1
  go_wp2
  go_ret
  exact ⟨A, c, rfl, hc, ⟨hn2, hrd⟩, hb2⟩
set_option maxHeartbeats 8000000 in
set_option maxRecDepth 100000 in
theorem prField0_ (a0 a1 a2 : Value) (w : World) : (Instr.field 58 (.agg #[a0, a1, a2]) 0).run Try.prog w = .ok a0 w := by kernel_rfl
set_option maxHeartbeats 8000000 in
set_option maxRecDepth 100000 in
theorem NewArm_calls (q : PA) (p : Pl) (hold : Int) (as_ : Option Addr) (ls : List Int) (cs : Nat) (w : World) (hq : q.rd w p) (hin : InP p) (hs : RdI w as_ ls) (hsi : InI ls) :
    Calls Try.prog 35 #[.agg (q.cells p).toArray, .int .i64 hold, .slice as_ ls.length cs] w fun e w' => NewArmPost w w' (newOk p ls) (hold < 0 ∨ 1000 < hold) (prRes (boxG (holdsP p (slP p ls)) (depthN 6) p.Inv)) p (slP p ls) hold 51 116 78 e := by
  have hNw := hidI (New16_calls q p as_ ls cs)
  have hok := hidI (fun h => newOk_yes (p := p) (ls := ls) hin hsi h)
  have hin2 := hidI hin
  have hq2 := hidI hq
  have hs2 := hidI hs
  have hlb : Hid (newOk p ls = true → p.B.length ≤ 3) := fun h => (hok.out h).1.lens.2.1
  obtain ⟨aA, cA, aB, cB, aW, cW, aI, cI, aS, cS, aG, cG⟩ := q
  unfold PA.cells at hNw ⊢
  simp only [] at hNw hq2
  obtain ⟨ok1, hok1⟩ : ∃ z, newOk p ls = z := ⟨_, rfl⟩
  rw [hok1] at hok hlb ⊢
  have hNw2 := hidI (fun W (h : Below w.heap.size w W) => hNw.out W (hq2.out.below h) hin2.out (hs2.out.below h))
  rw [hok1] at hNw2
  clear hok1 hNw hin hq hs hq2 hs2 hin2
  obtain ⟨rr, hrr⟩ : ∃ z, Hid (prRes (boxG (holdsP p (slP p ls)) (depthN 6) p.Inv) = z) := ⟨_, rfl⟩
  rw [hrr.out]
  obtain ⟨bad, hbad⟩ : ∃ z : Prop, Hid ((hold < 0 ∨ 1000 < hold) ↔ z) := ⟨_, Iff.rfl⟩
  rw [propext hbad.out]
  go_enter Try.func35, Try.ntmps35
  go_upto_region 1 with fail
  have hk_g1 := blk_new w (.cells #[.slice aA p.A.length cA, .slice aB p.B.length cB, .int .i64 p.inp.lo, .int .i64 p.inp.hi, .slice aW p.W.length cW, .slice aI p.Inv.length cI, .slice aS p.Safe.length cS, .slice aG p.gain.length cG, .int .i64 p.bias] 28)
  have hbw := bl_alloc (Below.refl w.heap.size w) (.cells #[.slice aA p.A.length cA, .slice aB p.B.length cB, .int .i64 p.inp.lo, .int .i64 p.inp.hi, .slice aW p.W.length cW, .slice aI p.Inv.length cI, .slice aS p.Safe.length cS, .slice aG p.gain.length cG, .int .i64 p.bias] 28)
  generalize w.alloc (.cells #[.slice aA p.A.length cA, .slice aB p.B.length cB, .int .i64 p.inp.lo, .int .i64 p.inp.hi, .slice aW p.W.length cW, .slice aI p.Inv.length cI, .slice aS p.Safe.length cS, .slice aG p.gain.length cG, .int .i64 p.bias] 28) = W1 at *
  obtain ⟨w0, hw0⟩ : ∃ z : World, z = w := ⟨_, rfl⟩
  rw [← hw0] at hbw hNw2
  obtain ⟨g1, hg1⟩ : ∃ g, w.heap.size = g := ⟨_, rfl⟩
  rw [hg1] at hk_g1
  rw [hg1]
  clear hg1
  have y0 : W1.cell? ⟨g1, 0, none⟩ = some (.slice aA p.A.length cA) := blk_cell hk_g1 0 (by rfl)
  have y1 : W1.cell? ⟨g1, 1, none⟩ = some (.slice aB p.B.length cB) := blk_cell hk_g1 1 (by rfl)
  have y2 : W1.cell? ⟨g1, 2, none⟩ = some (.int .i64 p.inp.lo) := blk_cell hk_g1 2 (by rfl)
  have y3 : W1.cell? ⟨g1, 3, none⟩ = some (.int .i64 p.inp.hi) := blk_cell hk_g1 3 (by rfl)
  have y4 : W1.cell? ⟨g1, 4, none⟩ = some (.slice aW p.W.length cW) := blk_cell hk_g1 4 (by rfl)
  have y5 : W1.cell? ⟨g1, 5, none⟩ = some (.slice aI p.Inv.length cI) := blk_cell hk_g1 5 (by rfl)
  have y6 : W1.cell? ⟨g1, 6, none⟩ = some (.slice aS p.Safe.length cS) := blk_cell hk_g1 6 (by rfl)
  have y7 : W1.cell? ⟨g1, 7, none⟩ = some (.slice aG p.gain.length cG) := blk_cell hk_g1 7 (by rfl)
  have y8 : W1.cell? ⟨g1, 8, none⟩ = some (.int .i64 p.bias) := blk_cell hk_g1 8 (by rfl)
  go_wp2_with fail
  refine (hNw2.out W1 hbw).mono ?_
  clear hNw2
  rintro e w2 ⟨hb2, h1, h2⟩
  replace hbw := bl_step hbw hb2
  clear hb2 y0 y1 y2 y3 y4 y5 y6 y7 y8 hk_g1
  cases ok1
  · obtain ⟨er, hne, rfl⟩ := h1 (by simp)
    have dE : (er == 0) = false := by simpa using hne
    have dE2 : (er != 0) = true := by simpa using hne
    have hne2 := hidI hne
    clear h1 h2 hok hne hlb
    subst hw0
    go_wp2
    go_ret2
    unfold NewArmPost
    exact ⟨hbw, fun _ => ⟨er, hne2.out, rfl⟩, fun h => (by cases h), fun h => (by cases h), fun h => (by cases h)⟩
  obtain ⟨gl, rfl, hlk, hgl⟩ := h2 (by simp)
  obtain ⟨hgood, hsl, hslk, -⟩ := hok.out (by simp)
  replace hlb := hidI (hlb.out (by simp))
  clear h1 h2 hok hgl
  by_cases hb1 : hold < 0
  · have hb2 : bad := hbad.out.1 (Or.inl hb1)
    subst hw0
    go_wp2
    go_ret2
    unfold NewArmPost
    exact ⟨hbw, fun h => (by cases h), fun _ _ => rfl, fun _ h => absurd hb2 h, fun _ h => absurd hb2 h⟩
  by_cases hb3 : 1000 < hold
  · have hb2 : bad := hbad.out.1 (Or.inr hb3)
    subst hw0
    go_wp2
    go_ret2
    unfold NewArmPost
    exact ⟨hbw, fun h => (by cases h), fun _ _ => rfl, fun _ h => absurd hb2 h, fun _ h => absurd hb2 h⟩
  have hb2 : Hid (¬ bad) := fun h => by have := hbad.out.2 h; omega
  have hP1 := hidI (fun W (h : LkAt W gl 51 116 p (slP p ls)) => Prove_calls gl p (slP p ls) 6 W hgood h hsl (by omega) (by omega))
  have hS1 := hidI (fun W (h : LkAt W gl 51 116 p (slP p ls)) => lSlack_calls gl p (slP p ls) W h (by rw [slP_length (slacks_iff.1 hslk).1]; have := hlb.out; omega))
  have hsll := hidI (slP_length (slacks_iff.1 hslk).1)
  have hsks := hidI (slP_slacks hslk)
  obtain ⟨z1, hz1⟩ : ∃ z, boxG (holdsP p (slP p ls)) (depthN 6) p.Inv = z := ⟨_, rfl⟩
  rw [hz1] at hP1 hrr
  clear hz1
  obtain ⟨n1, hn1⟩ : ∃ z, z1.1 = z := ⟨_, rfl⟩
  obtain ⟨L1, hL1⟩ : ∃ z, prAt z1 = z := ⟨_, rfl⟩
  rw [hrr.out, hn1, hL1] at hP1
  clear hn1 hL1 hslk
  rw [hsll.out] at hS1
  go_wp2_with fail
  refine (hP1.out _ hlk).mono ?_
  rintro e w3 ⟨A1, c1, rfl, hc1, hr1, hb3'⟩
  replace hbw := bl_step hbw hb3'
  replace hlk := hlk.below hb3'
  have hfd := prField0_ (.int .i64 rr) (.int .i64 n1) (.slice A1 L1.length c1) w3
  clear hb3' hP1 hc1 hr1
  by_cases hz : rr = 0
  rotate_left
  · have dz : (rr != 0) = true := by simpa using hz
    have dz2 : (rr == 0) = false := by simpa using hz
    have hz2 := hidI hz
    clear hz
    subst hw0
    go_wp2
    go_ret2
    unfold NewArmPost
    exact ⟨hbw, fun h => (by cases h), fun _ h => absurd h hb2.out, fun _ _ _ => rfl, fun _ _ h => absurd h hz2.out⟩
  subst hz
  go_wp2_with fail
  refine (hS1.out _ hlk).mono ?_
  rintro e w4 ⟨A4, c4, rfl, hc4, hr4, hb4⟩
  replace hbw := bl_step hbw hb4
  replace hlk := hlk.below hb4
  clear hb4 hS1 hfd hc4
  have hX : Hid (ArmX w4 w4.heap.size gl A4 p (slP p ls) 51 116) := ⟨Nat.le_refl _, hlk, hr4, hgood, hsl, hsll.out, hsks.out⟩
  have hga := hbw.size
  clear hlk hr4 hgood hsl
  subst hw0
  go_wp2
  go_ret2
  unfold NewArmPost
  exact ⟨bl_alloc hbw _, fun h => (by cases h), fun _ h => absurd h hb2.out, fun _ _ h => absurd rfl h, fun _ _ _ => ⟨w4, gl, w4.heap.size, A4, c4, rfl, hbw, bl_alloc (Below.refl _ _) _, hga, hX.out, blk_new _ _⟩⟩
end Go.Proofs.Ythdaidmjjcmccaa
