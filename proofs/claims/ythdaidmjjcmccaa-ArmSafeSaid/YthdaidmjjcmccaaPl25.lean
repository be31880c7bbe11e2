/- Proved here: lemmas and contracts (what a function of the program computes) that the proofs of the laws of this seat lean on. Conditions: as each theorem states. -/
import Derived.Test.YthdaidmjjcmccaaPl20
import Derived.Lib.AppendZerosOnto
set_option linter.unusedVariables false
set_option linter.unusedSimpArgs false
namespace Go.Pk
open Go.RowKit
def BoxOut (W : World) (gp T q : Nat) (r0 : Int) (A0 : Option Addr) (n0 c0 : Nat) : Nat × Option (Int × List Int) → Prop
  | (n, none) => W.heap[gp]? = some (.cells #[.int .i64 r0, .int .i64 ((q + n : Nat) : Int), .slice A0 n0 c0] T (0, 0))
  | (n, some (x, L)) => ∃ A' c', W.heap[gp]? = some (.cells #[.int .i64 x, .int .i64 ((q + n : Nat) : Int), .slice A' L.length c'] T (0, 0)) ∧ L.length ≤ c' ∧ RdI W A' L ∧ ∀ a, A' = some a → gp < a.block
theorem BoxOut.move {W : World} {gp T q q' n m : Nat} {r0 : Int} {A0 : Option Addr} {n0 c0 : Nat} {r : Option (Int × List Int)} (h : BoxOut W gp T q' r0 A0 n0 c0 (m, r)) (e : q + n = q' + m) : BoxOut W gp T q r0 A0 n0 c0 (n, r) := by
  cases r with
  | none => unfold BoxOut at h ⊢; simp only [] at h ⊢; rw [e]; exact h
  | some x => obtain ⟨x, L⟩ := x; unfold BoxOut at h ⊢; simp only [] at h ⊢; rw [e]; exact h
theorem boxG_yes {H : List Sp → Bool} {l : List Sp} (h : H l = true) (d : Nat) : boxG H d l = (1, none) := by
  cases d <;> unfold boxG <;> rw [if_pos h]
theorem boxG_ref {H : List Sp → Bool} {l : List Sp} (h : H l = false) (hs : splitP l = none) (d : Nat) : boxG H d l = (1, some (1, cornerP l)) := by
  cases d <;> unfold boxG <;> rw [if_neg (by rw [h]; simp), hs]
theorem boxG_zero {H : List Sp → Bool} {l a b : List Sp} (h : H l = false) (hs : splitP l = some (a, b)) : boxG H 0 l = (1, some (2, cornerP l)) := by
  unfold boxG; rw [if_neg (by rw [h]; simp), hs]
theorem boxG_succ1 {H : List Sp → Bool} {l a b : List Sp} (h : H l = false) (hs : splitP l = some (a, b)) {d n : Nat} {r : Int × List Int} (ha : boxG H d a = (n, some r)) : boxG H (d + 1) l = (1 + n, some r) := by
  rw [boxG.eq_def]; simp only []; rw [if_neg (by rw [h]; simp), hs]; simp only []; rw [ha]
theorem boxG_succ2 {H : List Sp → Bool} {l a b : List Sp} (h : H l = false) (hs : splitP l = some (a, b)) {d n : Nat} (ha : boxG H d a = (n, none)) : boxG H (d + 1) l = (1 + n + (boxG H d b).1, (boxG H d b).2) := by
  rw [boxG.eq_def]; simp only []; rw [if_neg (by rw [h]; simp), hs]; simp only []; rw [ha]
theorem split_length {l a b : List Sp} (h : splitP l = some (a, b)) : a.length = l.length ∧ b.length = l.length := by
  obtain ⟨-, -, k, -, -, rfl, rfl⟩ := split_some h
  simp
end Go.Pk
namespace Go.Proofs.Ythdaidmjjcmccaa
open Go.RowKit Go.Pk Go.Proofs.YthdaidmjjcmccaaW.PrintLast
set_option maxHeartbeats 8000000 in
set_option maxRecDepth 100000 in
theorem box_calls (gl gp : Nat) (p : Pl) (s : List Int) (w0 : World) (hg : GoodP p) (hk : LkAt w0 gl 51 116 p s) (his : InI s) (hgp : w0.heap.size ≤ gp) (d : Nat) : ∀ (l : List Sp) (A : Option Addr) (c q : Nat) (r0 : Int) (A0 : Option Addr) (n0 c0 : Nat) (w : World), d ≤ 12 → q + 2 ^ (d + 1) ≤ 4000 → Below w0.heap.size w0 w → RdS w A l → (∀ a, A = some a → a.block ≠ gp) → InS l → l.length ≤ 1000000 → w.heap[gp]? = some (.cells #[.int .i64 r0, .int .i64 q, .slice A0 n0 c0] 58 (0, 0)) →
    Calls Try.prog 78 #[.pointer (some ⟨gl, 0, none⟩), .pointer (some ⟨gp, 0, none⟩), .int .i64 d, .slice A l.length c] w fun e w' => e = .returned (.bool (boxG (holdsP p s) d l).2.isNone) ∧ Below w0.heap.size w0 w' ∧ KeepX (· = gp) w w' ∧ BoxOut w' gp 58 q r0 A0 n0 c0 (boxG (holdsP p s) d l) := by
  have hHd := hidI (fun W (A : Option Addr) (l : List Sp) (c : Nat) (h1 : Below w0.heap.size w0 W) (h2 : RdS W A l) (h3 : InS l) (h4 : l.length ≤ 1000000) => Holds_calls gl p s A l c W hg (hk.below h1) his h2 h3 h4)
  have hSp := hidI (fun W (A : Option Addr) (l : List Sp) (c : Nat) (h1 : Below w0.heap.size w0 W) (h2 : RdS W A l) (h3 : InS l) (h4 : l.length ≤ 1000000) => Split_calls gl p s A l c W (hk.below h1) h2 h3 h4)
  clear hk his hg
  induction d with
  | zero =>
    skip
    intro l A c q r0 A0 n0 c0 w hd12 hq hbw hl hne hil hsm hkb
    have hHl := hidI (fun W (h1 : Below w0.heap.size w0 W) (h2 : RdS W A l) => hHd.out W A l c h1 h2 hil hsm)
    have hSl := hidI (fun W (h1 : Below w0.heap.size w0 W) (h2 : RdS W A l) => hSp.out W A l c h1 h2 hil hsm)
    have hCo := hidI (fun W (h2 : RdS W A l) => Corner_calls A l c W h2 hsm)
    have hoff : Hid (Off (· = gp) A l.length) := hidI (fun _ a ha => hne a ha)
    have hgw := blk_lt hkb
    obtain ⟨H, hH⟩ : ∃ z, z = holdsP p s := ⟨_, rfl⟩
    rw [← hH] at hHl ⊢
    obtain ⟨hb, hhb⟩ : ∃ z, H l = z := ⟨_, rfl⟩
    rw [hhb] at hHl
    have y1 : w.cell? ⟨gp, 1, none⟩ = some (.int .i64 q) := blk_cell hkb 1 (by rfl)
    have z1 := blkf hkb 1
    have hq4 : Hid (q + 2 ^ (0 + 1) ≤ 4000) := hq
    have hq1 : (q : Int) + 1 < 4000 := by have := Nat.one_le_two_pow (n := 0); rw [Nat.pow_succ] at hq; omega
    clear hq
    have k1 := blk_set hkb 1 (.int .i64 ((q : Int) + 1))
    have k2 := (KeepX.refl (· = gp) w).set (p := ⟨gp, 1, none⟩) rfl (.int .i64 ((q : Int) + 1))
    have k3 := bl_set hbw (p := ⟨gp, 1, none⟩) hgp (.int .i64 ((q : Int) + 1))
    have k4 : w.heap.size ≤ (w.setCell ⟨gp, 1, none⟩ (.int .i64 ((q : Int) + 1))).heap.size := by rw [setCell_size]; exact Nat.le_refl _
    clear hkb hbw
    have hkb : (w.setCell ⟨gp, 1, none⟩ (.int .i64 ((q : Int) + 1))).heap[gp]? = some (.cells #[.int .i64 r0, .int .i64 ((q : Int) + 1), .slice A0 n0 c0] 58 (0, 0)) := by simpa using k1
    clear k1
    have hD0 : (((0 : Nat) : Int)) = 0 := rfl
    rw [hD0]
    clear hD0
    clear hHd hSp
    replace hhb := hidI hhb
    go_enter Try.func78, Try.ntmps78
    go_wp2_with fail
    obtain ⟨W, hW⟩ : ∃ z, z = w.setCell ⟨gp, 1, none⟩ (.int .i64 ((q : Int) + 1)) := ⟨_, rfl⟩
    rw [← hW] at k2 k3 k4 hkb ⊢
    clear hW y1 z1
    have hbw := k3
    have hX := k2
    have hszw := k4
    clear k2 k3 k4
    refine (hHl.out _ hbw (hl.keepX hX hoff.out)).mono ?_
    rintro e w1 ⟨rfl, hb1⟩
    have hb1s := hb1.size
    replace hszw := Nat.le_trans hszw hb1s
    replace hbw := bl_step hbw hb1
    replace hX := hX.ext hb1
    replace hkb := bl_block hb1 hkb
    clear hb1 hHl hb1s W
    cases hb
    rotate_left
    · have hG := hidI (boxG_yes hhb.out 0)
      clear hhb hSl hCo
      go_wp2
      go_ret
      exact ⟨by rw [hG.out]; rfl, hbw, hX, by rw [hG.out]; exact (by simpa [BoxOut] using hkb)⟩
    · go_wp2_with fail
      refine (hSl.out _ hbw (hl.keepX hX hoff.out)).mono ?_
      rintro e w2 ⟨A1, c1, A2, c2, rfl, hr1, hr2, hb2, hfa1, hfa2⟩
      have hA1 := hidI (fun (a : Addr) (ha : A1 = some a) => Nat.le_trans hszw (hfa1 a ha))
      have hA2 := hidI (fun (a : Addr) (ha : A2 = some a) => Nat.le_trans hszw (hfa2 a ha))
      clear hfa1 hfa2
      have hb2s := hb2.size
      replace hszw := Nat.le_trans hszw hb2s
      replace hbw := bl_step hbw hb2
      replace hX := hX.ext hb2
      replace hkb := bl_block hb2 hkb
      clear hb2 hb2s hSl w1
      cases hsp : splitP l with
      | none =>
        have e3 : splitO l = false := by unfold splitO; rw [hsp]; rfl
        rw [e3]
        have hG := hidI (boxG_ref hhb.out hsp 0)
        clear e3 hsp hr1 hr2
        go_wp2_with fail
        refine (hCo.out _ (hl.keepX hX hoff.out)).mono ?_
        rintro e w5 ⟨A5, c5, rfl, hc5, hr5, hb5, hfr5⟩
        replace hbw := bl_step hbw hb5
        replace hX := hX.ext hb5
        replace hkb := bl_block hb5 hkb
        have hf5 := hidI (fun (a : Addr) (ha : A5 = some a) => (by have h1 := hfr5 a ha; have h2 := hszw; omega : gp < a.block))
        clear hfr5
        have z0 := blkf hkb 0
        have z2 := blkf hkb 2
        have y0 : w5.cell? ⟨gp, 0, none⟩ = some (.int .i64 r0) := blk_cell hkb 0 (by rfl)
        have y2 : w5.cell? ⟨gp, 2, none⟩ = some (.slice A0 n0 c0) := blk_cell hkb 2 (by rfl)
        have k1 := blk_set (blk_set hkb 0 (.int .i64 1)) 2 (.slice A5 (cornerP l).length c5)
        have k2 := ((KeepX.refl (· = gp) w5).set (p := ⟨gp, 0, none⟩) rfl (.int .i64 1)).set (p := ⟨gp, 2, none⟩) rfl (.slice A5 (cornerP l).length c5)
        have k3 := bl_set (bl_set hbw (p := ⟨gp, 0, none⟩) hgp (.int .i64 1)) (p := ⟨gp, 2, none⟩) hgp (.slice A5 (cornerP l).length c5)
        go_wp2
        go_ret
        exact ⟨by rw [hG.out]; rfl, k3, hX.trans k2, by rw [hG.out]; exact ⟨A5, c5, by simpa using k1, hc5, hr5.keepX k2 (fun _ a ha e => by have h1 := hf5.out a ha; have h2 : a.block = gp := e; omega), hf5.out⟩⟩
      | some qq =>
        obtain ⟨a, b⟩ := qq
        have e3 : splitO l = true := by unfold splitO; rw [hsp]; rfl
        have e1 : splitA l = a := by unfold splitA; rw [hsp]
        have e2 : splitB l = b := by unfold splitB; rw [hsp]
        rw [e1] at hr1
        rw [e2] at hr2
        rw [e1, e2, e3]
        clear e1 e2 e3
        have hG := hidI (boxG_zero hhb.out hsp)
        clear hsp hr1 hr2
        go_wp2_with fail
        refine (hCo.out _ (hl.keepX hX hoff.out)).mono ?_
        rintro e w5 ⟨A5, c5, rfl, hc5, hr5, hb5, hfr5⟩
        replace hbw := bl_step hbw hb5
        replace hX := hX.ext hb5
        replace hkb := bl_block hb5 hkb
        have hf5 := hidI (fun (a : Addr) (ha : A5 = some a) => (by have h1 := hfr5 a ha; have h2 := hszw; omega : gp < a.block))
        clear hfr5
        have z0 := blkf hkb 0
        have z2 := blkf hkb 2
        have y0 : w5.cell? ⟨gp, 0, none⟩ = some (.int .i64 r0) := blk_cell hkb 0 (by rfl)
        have y2 : w5.cell? ⟨gp, 2, none⟩ = some (.slice A0 n0 c0) := blk_cell hkb 2 (by rfl)
        have k1 := blk_set (blk_set hkb 0 (.int .i64 2)) 2 (.slice A5 (cornerP l).length c5)
        have k2 := ((KeepX.refl (· = gp) w5).set (p := ⟨gp, 0, none⟩) rfl (.int .i64 2)).set (p := ⟨gp, 2, none⟩) rfl (.slice A5 (cornerP l).length c5)
        have k3 := bl_set (bl_set hbw (p := ⟨gp, 0, none⟩) hgp (.int .i64 2)) (p := ⟨gp, 2, none⟩) hgp (.slice A5 (cornerP l).length c5)
        go_wp2
        go_ret
        exact ⟨by rw [hG.out]; rfl, k3, hX.trans k2, by rw [hG.out]; exact ⟨A5, c5, by simpa using k1, hc5, hr5.keepX k2 (fun _ a ha e => by have h1 := hf5.out a ha; have h2 : a.block = gp := e; omega), hf5.out⟩⟩
  | succ d ih =>
    skip
    intro l A c q r0 A0 n0 c0 w hd12 hq hbw hl hne hil hsm hkb
    have hHl := hidI (fun W (h1 : Below w0.heap.size w0 W) (h2 : RdS W A l) => hHd.out W A l c h1 h2 hil hsm)
    have hSl := hidI (fun W (h1 : Below w0.heap.size w0 W) (h2 : RdS W A l) => hSp.out W A l c h1 h2 hil hsm)
    have hCo := hidI (fun W (h2 : RdS W A l) => Corner_calls A l c W h2 hsm)
    have hoff : Hid (Off (· = gp) A l.length) := hidI (fun _ a ha => hne a ha)
    have hgw := blk_lt hkb
    obtain ⟨H, hH⟩ : ∃ z, z = holdsP p s := ⟨_, rfl⟩
    rw [← hH] at hHl ⊢
    obtain ⟨hb, hhb⟩ : ∃ z, H l = z := ⟨_, rfl⟩
    rw [hhb] at hHl
    have y1 : w.cell? ⟨gp, 1, none⟩ = some (.int .i64 q) := blk_cell hkb 1 (by rfl)
    have z1 := blkf hkb 1
    have hq4 : Hid (q + 2 ^ ((d + 1) + 1) ≤ 4000) := hq
    have hq1 : (q : Int) + 1 < 4000 := by have := Nat.one_le_two_pow (n := (d + 1)); rw [Nat.pow_succ] at hq; omega
    clear hq
    have k1 := blk_set hkb 1 (.int .i64 ((q : Int) + 1))
    have k2 := (KeepX.refl (· = gp) w).set (p := ⟨gp, 1, none⟩) rfl (.int .i64 ((q : Int) + 1))
    have k3 := bl_set hbw (p := ⟨gp, 1, none⟩) hgp (.int .i64 ((q : Int) + 1))
    have k4 : w.heap.size ≤ (w.setCell ⟨gp, 1, none⟩ (.int .i64 ((q : Int) + 1))).heap.size := by rw [setCell_size]; exact Nat.le_refl _
    clear hkb hbw
    have hkb : (w.setCell ⟨gp, 1, none⟩ (.int .i64 ((q : Int) + 1))).heap[gp]? = some (.cells #[.int .i64 r0, .int .i64 ((q : Int) + 1), .slice A0 n0 c0] 58 (0, 0)) := by simpa using k1
    clear k1
    obtain ⟨D, hD⟩ : ∃ z : Int, z = ((d + 1 : Nat) : Int) := ⟨_, rfl⟩
    rw [← hD]
    have dD : (D == 0) = false := by simp; omega
    have hD1 : D - 1 = (d : Int) := by omega
    have hD0 : 1 ≤ D := by omega
    have hDm : D ≤ 12 := by omega
    replace hD := hidI hD
    replace hD1 := hidI hD1
    clear hHd hSp
    replace hhb := hidI hhb
    go_enter Try.func78, Try.ntmps78
    go_wp2_with fail
    obtain ⟨W, hW⟩ : ∃ z, z = w.setCell ⟨gp, 1, none⟩ (.int .i64 ((q : Int) + 1)) := ⟨_, rfl⟩
    rw [← hW] at k2 k3 k4 hkb ⊢
    clear hW y1 z1
    have hbw := k3
    have hX := k2
    have hszw := k4
    clear k2 k3 k4
    refine (hHl.out _ hbw (hl.keepX hX hoff.out)).mono ?_
    rintro e w1 ⟨rfl, hb1⟩
    have hb1s := hb1.size
    replace hszw := Nat.le_trans hszw hb1s
    replace hbw := bl_step hbw hb1
    replace hX := hX.ext hb1
    replace hkb := bl_block hb1 hkb
    clear hb1 hHl hb1s W
    cases hb
    rotate_left
    · have hG := hidI (boxG_yes hhb.out (d + 1))
      clear hhb hSl hCo
      go_wp2
      go_ret
      exact ⟨by rw [hG.out]; rfl, hbw, hX, by rw [hG.out]; exact (by simpa [BoxOut] using hkb)⟩
    · go_wp2_with fail
      refine (hSl.out _ hbw (hl.keepX hX hoff.out)).mono ?_
      rintro e w2 ⟨A1, c1, A2, c2, rfl, hr1, hr2, hb2, hfa1, hfa2⟩
      have hA1 := hidI (fun (a : Addr) (ha : A1 = some a) => Nat.le_trans hszw (hfa1 a ha))
      have hA2 := hidI (fun (a : Addr) (ha : A2 = some a) => Nat.le_trans hszw (hfa2 a ha))
      clear hfa1 hfa2
      have hb2s := hb2.size
      replace hszw := Nat.le_trans hszw hb2s
      replace hbw := bl_step hbw hb2
      replace hX := hX.ext hb2
      replace hkb := bl_block hb2 hkb
      clear hb2 hb2s hSl w1
      cases hsp : splitP l with
      | none =>
        have e3 : splitO l = false := by unfold splitO; rw [hsp]; rfl
        rw [e3]
        have hG := hidI (boxG_ref hhb.out hsp (d + 1))
        clear e3 hsp hr1 hr2
        go_wp2_with fail
        refine (hCo.out _ (hl.keepX hX hoff.out)).mono ?_
        rintro e w5 ⟨A5, c5, rfl, hc5, hr5, hb5, hfr5⟩
        replace hbw := bl_step hbw hb5
        replace hX := hX.ext hb5
        replace hkb := bl_block hb5 hkb
        have hf5 := hidI (fun (a : Addr) (ha : A5 = some a) => (by have h1 := hfr5 a ha; have h2 := hszw; omega : gp < a.block))
        clear hfr5
        have z0 := blkf hkb 0
        have z2 := blkf hkb 2
        have y0 : w5.cell? ⟨gp, 0, none⟩ = some (.int .i64 r0) := blk_cell hkb 0 (by rfl)
        have y2 : w5.cell? ⟨gp, 2, none⟩ = some (.slice A0 n0 c0) := blk_cell hkb 2 (by rfl)
        have k1 := blk_set (blk_set hkb 0 (.int .i64 1)) 2 (.slice A5 (cornerP l).length c5)
        have k2 := ((KeepX.refl (· = gp) w5).set (p := ⟨gp, 0, none⟩) rfl (.int .i64 1)).set (p := ⟨gp, 2, none⟩) rfl (.slice A5 (cornerP l).length c5)
        have k3 := bl_set (bl_set hbw (p := ⟨gp, 0, none⟩) hgp (.int .i64 1)) (p := ⟨gp, 2, none⟩) hgp (.slice A5 (cornerP l).length c5)
        go_wp2
        go_ret
        exact ⟨by rw [hG.out]; rfl, k3, hX.trans k2, by rw [hG.out]; exact ⟨A5, c5, by simpa using k1, hc5, hr5.keepX k2 (fun _ a ha e => by have h1 := hf5.out a ha; have h2 : a.block = gp := e; omega), hf5.out⟩⟩
      | some qq =>
        obtain ⟨a, b⟩ := qq
        have e3 : splitO l = true := by unfold splitO; rw [hsp]; rfl
        have e1 : splitA l = a := by unfold splitA; rw [hsp]
        have e2 : splitB l = b := by unfold splitB; rw [hsp]
        rw [e1] at hr1
        rw [e2] at hr2
        rw [e1, e2, e3]
        clear e1 e2 e3
        have hab := split_in hsp hil
        have hll := hidI (split_length hsp)
        obtain ⟨Q, hQ⟩ : ∃ Q : Nat, Hid (q + 1 = Q) := ⟨_, rfl⟩
        have hC1 : ((q : Int) + 1 : Int) = (Q : Int) := by have := hQ.out; omega
        rw [hC1] at hkb
        have h4000 : decide (4000 ≤ (Q : Int)) = false := decide_eq_false (by omega)
        clear hC1
        have y1 : w2.cell? ⟨gp, 1, none⟩ = some (.int .i64 (Q : Int)) := blk_cell hkb 1 (by rfl)
        rw [← hH] at ih
        have hih := hidI ih
        clear ih
        have hp2 : Hid (q + 1 + (2 ^ (d + 1) + 2 ^ (d + 1)) ≤ 4000 + 1) := by have := hq4.out; unfold Hid; rw [Nat.pow_succ 2 (d + 1)] at this; omega
        have hoff2 : Hid (Off (· = gp) A2 b.length) := hidI (fun _ aa ha (e : aa.block = gp) => by have := hA2.out aa ha; omega)
        have g1 : d ≤ 12 := by clear hp2 hoff2 hih hkb; omega
        have g2 : Q + 2 ^ (d + 1) ≤ 4000 := by
          have h1 := hp2.out
          have h2 := hQ.out
          have h3 := Nat.one_le_two_pow (n := d + 1)
          generalize 2 ^ (d + 1) = z at *
          omega
        have g3 : ∀ aa, A1 = some aa → aa.block ≠ gp := fun aa ha (e : aa.block = gp) => by have := hA1.out aa ha; omega
        have g4 : a.length ≤ 1000000 := by have := hll.out; omega
        have g5 : Hid (b.length ≤ 1000000) := by have := hll.out; unfold Hid; omega
        have hc := hidI (hih.out a A1 c1 Q r0 A0 n0 c0 w2 g1 g2 hbw hr1 g3 hab.1 g4 hkb)
        clear g1 g2 g3 g4
        go_wp2_with fail
        rw [hD1.out]
        refine hc.out.mono ?_
        rintro e w3 ⟨he, hbw3, hX3, hout3⟩
        have hn1 := (boxG_pos H d a).2
        clear hc hkb hbw y1 h4000 dD hl hCo hne hil hr1 hA1
        cases hga : boxG H d a with
        | mk n1 rr =>
          rw [hga] at he hout3 hn1
          simp only [] at hn1
          replace hn1 := hidI hn1
          cases rr with
          | some xL =>
            obtain ⟨x, L⟩ := xL
            have hG := hidI (boxG_succ1 hhb.out hsp hga)
            clear hsp hga hih
            replace he : e = .returned (.bool false) := he
            subst he
            replace hout3 := hidI hout3
            go_wp2
            go_ret
            refine ⟨by rw [hG.out]; rfl, hbw3, hX.trans hX3, ?_⟩
            rw [hG.out]
            exact hout3.out.move (by have := hQ.out; omega)
          | none =>
            have hG := hidI (boxG_succ2 hhb.out hsp hga)
            clear hsp hga
            replace he : e = .returned (.bool true) := he
            subst he
            replace hr2 := hr2.keepX hX3 hoff2.out
            go_wp2_with fail
            rw [hD1.out]
            refine (hih.out b A2 c2 (Q + n1) r0 A0 n0 c0 w3 (by omega) (by have := hp2.out; have := hQ.out; have := hn1.out; omega) hbw3 hr2 (fun aa ha (e : aa.block = gp) => by have := hA2.out aa ha; omega) hab.2 g5.out hout3).mono ?_
            rintro e w4 ⟨rfl, hbw4, hX4, hout4⟩
            clear hih hA2 hoff2 hr2 hout3
            obtain ⟨⟨n2, r2⟩, hg2⟩ : ∃ z, boxG H d b = z := ⟨_, rfl⟩
            rw [hg2] at hout4 ⊢
            replace hg2 := hidI hg2
            replace hout4 := hidI hout4
            obtain ⟨b2, hb2⟩ : ∃ z, Hid (r2.isNone = z) := ⟨_, rfl⟩
            have hb3 : ((n2, r2) : Nat × Option (Int × List Int)).2.isNone = b2 := hb2.out
            rw [hb3]
            clear hb3
            go_wp2
            go_ret
            refine ⟨?_, hbw4, (hX.trans hX3).trans hX4, ?_⟩
            · rw [hG.out, hg2.out]; exact congrArg (fun z => Ending.returned (Value.bool z)) hb2.out.symm
            · rw [hG.out, hg2.out]
              exact hout4.out.move (by have := hQ.out; omega)
end Go.Proofs.Ythdaidmjjcmccaa
set_option linter.unusedVariables false
set_option linter.unusedSimpArgs false
namespace Go.Pk
open Go.RowKit
def depthN (d : Int) : Nat := (min (max d 0) 12).toNat
def prRes (z : Nat × Option (Int × List Int)) : Int := match z.2 with | none => 0 | some r => r.1
def prAt (z : Nat × Option (Int × List Int)) : List Int := match z.2 with | none => [] | some r => r.2
theorem BoxOut.flat {W : World} {gp T : Nat} {z : Nat × Option (Int × List Int)} (h : BoxOut W gp T 0 0 none 0 0 z) : ∃ A' c', W.heap[gp]? = some (.cells #[.int .i64 (prRes z), .int .i64 z.1, .slice A' (prAt z).length c'] T (0, 0)) ∧ (prAt z).length ≤ c' ∧ RdI W A' (prAt z) ∧ ∀ a, A' = some a → gp < a.block := by
  obtain ⟨n, r⟩ := z
  cases r with
  | none => exact ⟨none, 0, by unfold BoxOut at h; simpa [prRes, prAt] using h, by simp [prAt], ⟨by simp [prAt], by simp only [prAt]; exact RdC.nil _ _⟩, fun a h => by cases h⟩
  | some x => obtain ⟨x, L⟩ := x; unfold BoxOut at h; simp only [] at h; obtain ⟨A', c', h1, h2, h3, h4⟩ := h; exact ⟨A', c', by simpa [prRes, prAt] using h1, h2, h3, h4⟩
end Go.Pk
namespace Go.Proofs.Ythdaidmjjcmccaa
open Go.RowKit Go.Pk Go.Proofs.YthdaidmjjcmccaaW.PrintLast
set_option maxHeartbeats 8000000 in
set_option maxRecDepth 100000 in
theorem Prove_calls (gl : Nat) (p : Pl) (s : List Int) (d : Int) (w : World) (hg : GoodP p) (hk : LkAt w gl 51 116 p s) (his : InI s) (hd : d ≤ 10) (hd0 : -9223372036854775808 ≤ d) :
    Calls Try.prog 31 #[.pointer (some ⟨gl, 0, none⟩), .int .i64 d] w fun e w' => ∃ A' c', e = .returned (.agg #[.int .i64 (prRes (boxG (holdsP p s) (depthN d) p.Inv)), .int .i64 ((boxG (holdsP p s) (depthN d) p.Inv).1 : Nat), .slice A' (prAt (boxG (holdsP p s) (depthN d) p.Inv)).length c']) ∧ (prAt (boxG (holdsP p s) (depthN d) p.Inv)).length ≤ c' ∧ RdI w' A' (prAt (boxG (holdsP p s) (depthN d) p.Inv)) ∧ Below w.heap.size w w' := by
  have hNo := hidI (fun W (h : Below w.heap.size w W) => none_look gl p s W (hk.below h))
  have hBx := hidI (fun gp (h : w.heap.size ≤ gp) => box_calls gl gp p s w hg hk his h)
  have hiI : Hid (InS p.Inv ∧ p.Inv.length ≤ 1000000) := ⟨hg.2.2.2.2.2.2.1, by have := hg.lens; omega⟩
  obtain ⟨N, hN⟩ : ∃ z, depthN d = z := ⟨_, rfl⟩
  rw [hN]
  have hN10 : Hid (N ≤ 10 ∧ 2 ^ (N + 1) ≤ 4000) := by
    have h2 : N ≤ 10 := by rw [← hN]; unfold depthN; omega
    refine ⟨h2, ?_⟩
    have h3 : 2 ^ (N + 1) ≤ 2 ^ 11 := Nat.pow_le_pow_right (by omega) (by omega)
    exact Nat.le_trans h3 (by decide)
  have hBy := hidI (fun gp W (A : Option Addr) (c : Nat) (hgp : w.heap.size ≤ gp) (h1 : Below w.heap.size w W) (h2 : RdS W A p.Inv) (h3 : ∀ a, A = some a → a.block ≠ gp) (h4 : W.heap[gp]? = some (.cells #[.int .i64 0, .int .i64 0, .slice none 0 0] 58 (0, 0))) => hBx.out gp hgp N p.Inv A c 0 0 none 0 0 W (by have := hN10.out.1; omega) (by have := hN10.out.2; omega) h1 h2 h3 hiI.out.1 hiI.out.2 h4 |>.mono fun e w' ⟨e1, e2, e3, e4⟩ => (⟨_, e1, e2, e3, e4.flat⟩ : ∃ bz : Bool, e = Ending.returned (.bool bz) ∧ Below w.heap.size w w' ∧ KeepX (· = gp) W w' ∧ ∃ (A' : Option Addr) (c' : Nat), w'.heap[gp]? = some (Obj.cells #[.int .i64 (prRes (boxG (holdsP p s) N p.Inv)), .int .i64 ((boxG (holdsP p s) N p.Inv).1 : Nat), .slice A' (prAt (boxG (holdsP p s) N p.Inv)).length c'] 58 (0, 0)) ∧ (prAt (boxG (holdsP p s) N p.Inv)).length ≤ c' ∧ RdI w' A' (prAt (boxG (holdsP p s) N p.Inv)) ∧ ∀ a, A' = some a → gp < a.block))
  obtain ⟨z, hz⟩ : ∃ z, boxG (holdsP p s) N p.Inv = z := ⟨_, rfl⟩
  rw [hz] at hBy ⊢
  clear hz hBx
  obtain ⟨R0, hR0⟩ : ∃ q, prRes z = q := ⟨_, rfl⟩
  obtain ⟨L0, hL0⟩ : ∃ q, prAt z = q := ⟨_, rfl⟩
  obtain ⟨n0, hn0⟩ : ∃ q, z.1 = q := ⟨_, rfl⟩
  rw [hR0, hL0, hn0] at hBy ⊢
  clear hR0 hL0 hn0
  obtain ⟨g, aS, cS, hkl, hs, hscap, hkit⟩ := hk
  have hC := hidI (fun W (h : Below w.heap.size w W) => Copy_calls g p W hg (hkit.below h))
  have hbd : Hid (d ≤ 10 ∧ -9223372036854775808 ≤ d) := ⟨hd, hd0⟩
  clear hg hs hkit hd hd0
  go_enter Try.func31, Try.ntmps31
  go_upto_region 1 with fail
  have hk2 := blk_new w (.cells #[.int .i64 0, .int .i64 0, .slice none 0 0] 58)
  have hbw := bl_alloc (Below.refl w.heap.size w) (.cells #[.int .i64 0, .int .i64 0, .slice none 0 0] 58)
  have hw2 : Hid (w.heap.size ≤ w.heap.size) := Nat.le_refl _
  generalize w.alloc (.cells #[.int .i64 0, .int .i64 0, .slice none 0 0] 58) = W1 at *
  obtain ⟨g2, hg2⟩ : ∃ z, w.heap.size = z := ⟨_, rfl⟩
  have hw2' : w.heap.size ≤ g2 := by omega
  rw [hg2] at hk2
  rw [hg2]
  clear hg2 hw2
  go_wp2_with fail
  refine (hNo.out _ hbw).mono ?_
  rintro e w1 ⟨rfl, hw1⟩
  subst hw1
  go_upto_region 4 with fail
  have hlt2 := blk_lt hk2
  replace hk2 := blk_alloc hk2 (.cells #[.int .i64 0, .int .i64 0, .slice none 0 0] 58)
  have hkp := blk_new w1 (.cells #[.int .i64 0, .int .i64 0, .slice none 0 0] 58)
  replace hbw := bl_alloc hbw (.cells #[.int .i64 0, .int .i64 0, .slice none 0 0] 58)
  generalize w1.alloc (.cells #[.int .i64 0, .int .i64 0, .slice none 0 0] 58) = W2 at *
  generalize w1.heap.size = gp at *
  have hgp : w.heap.size ≤ gp := by omega
  have n2p : g2 ≠ gp := by omega
  have y3 : W2.cell? ⟨gl, 0, none⟩ = some (.pointer (some ⟨g, 0, none⟩)) := blk_cell (bl_block hbw hkl) 0 (by rfl)
  replace hBy := hidI (fun W A c => hBy.out gp W A c hgp)
  by_cases h0 : 0 ≤ d
  · have hx : (N : Int) = d := by rw [← hN]; unfold depthN; have := hbd.out; omega
    rw [hx] at hBy
    have h12 : ¬ 12 < d := by have := hbd.out; omega
    replace hN := hidI hN
    replace hx := hidI hx
    skip
    go_wp2_with fail
    refine (hC.out _ hbw).mono ?_
    clear hC
    rintro e w3 ⟨⟨aA', cA', aB', cB', aW', cW', aI', cI', aS', cS', aG', cG'⟩, rfl, hI, kI, hb3, hfI⟩
    unfold PA.cells
    simp only [] at hI hfI kI ⊢
    have hg3 := blk_lt hkp
    replace hbw := bl_step hbw hb3
    replace hk2 := bl_block hb3 hk2
    replace hkp := bl_block hb3 hkp
    have hfd := plField4 (.slice aA' p.A.length cA') (.slice aB' p.B.length cB') (.int .i64 p.inp.lo) (.int .i64 p.inp.hi) (.slice aW' p.W.length cW') (.slice aI' p.Inv.length cI') (.slice aS' p.Safe.length cS') (.slice aG' p.gain.length cG') (.int .i64 p.bias) w3
    replace hfI := hidI (fun a (h : aI' = some a) (e : a.block = gp) => (by have := hfI a h; omega : False))
    clear hb3 y3 hg3 W2
    go_wp2_with fail
    refine (hBy.out w3 aI' cI' hbw hI hfI.out hkp).mono ?_
    clear hBy
    rintro e w4 ⟨bz, rfl, hbw4, hX4, A', c', hk5, hc5, hr5, hf5⟩
    replace hk2 := hX4 g2 _ n2p hk2
    replace hf5 := hidI hf5
    clear hX4 hkp hI hfI kI hbw hfd
    have y0 : w4.cell? ⟨g2, 0, none⟩ = some (.int .i64 0) := blk_cell hk2 0 (by rfl)
    have y1 : w4.cell? ⟨g2, 1, none⟩ = some (.int .i64 0) := blk_cell hk2 1 (by rfl)
    have y2 : w4.cell? ⟨g2, 2, none⟩ = some (.slice none 0 0) := blk_cell hk2 2 (by rfl)
    have z0 := blkf hk2 0
    have z1 := blkf hk2 1
    have z2 := blkf hk2 2
    have u0 : w4.cell? ⟨gp, 0, none⟩ = some (.int .i64 R0) := blk_cell hk5 0 (by rfl)
    have u1 : w4.cell? ⟨gp, 1, none⟩ = some (.int .i64 n0) := blk_cell hk5 1 (by rfl)
    have u2 : w4.cell? ⟨gp, 2, none⟩ = some (.slice A' L0.length c') := blk_cell hk5 2 (by rfl)
    go_wp2
    refine bodyPost_ret (results_cell_row rfl _ _ g2 58 #[.int .i64 R0, .int .i64 n0, .slice A' L0.length c'] (0, 0) _ rfl (blk_set (blk_set (blk_set hk2 0 (.int .i64 R0)) 1 (.int .i64 n0)) 2 (.slice A' L0.length c')) Try.underlying58 rfl (by kernel_rfl)) rfl ?_
    have hX := (((KeepX.refl (· = g2) w4).set (p := ⟨g2, 0, none⟩) rfl (.int .i64 R0)).set (p := ⟨g2, 1, none⟩) rfl (.int .i64 n0)).set (p := ⟨g2, 2, none⟩) rfl (.slice A' L0.length c')
    exact ⟨A', c', rfl, hc5, hr5.keepX hX (fun _ a ha e => by have h1 := hf5.out a ha; have h2 : a.block = g2 := e; omega), bl_set (bl_set (bl_set hbw4 (p := ⟨g2, 0, none⟩) hw2' _) (p := ⟨g2, 1, none⟩) hw2' _) (p := ⟨g2, 2, none⟩) hw2' _⟩
  · have hx : (N : Int) = 0 := by rw [← hN]; unfold depthN; omega
    rw [hx] at hBy
    replace hN := hidI hN
    replace hx := hidI hx
    skip
    go_wp2_with fail
    refine (hC.out _ hbw).mono ?_
    clear hC
    rintro e w3 ⟨⟨aA', cA', aB', cB', aW', cW', aI', cI', aS', cS', aG', cG'⟩, rfl, hI, kI, hb3, hfI⟩
    unfold PA.cells
    simp only [] at hI hfI kI ⊢
    have hg3 := blk_lt hkp
    replace hbw := bl_step hbw hb3
    replace hk2 := bl_block hb3 hk2
    replace hkp := bl_block hb3 hkp
    have hfd := plField4 (.slice aA' p.A.length cA') (.slice aB' p.B.length cB') (.int .i64 p.inp.lo) (.int .i64 p.inp.hi) (.slice aW' p.W.length cW') (.slice aI' p.Inv.length cI') (.slice aS' p.Safe.length cS') (.slice aG' p.gain.length cG') (.int .i64 p.bias) w3
    replace hfI := hidI (fun a (h : aI' = some a) (e : a.block = gp) => (by have := hfI a h; omega : False))
    clear hb3 y3 hg3 W2
    go_wp2_with fail
    refine (hBy.out w3 aI' cI' hbw hI hfI.out hkp).mono ?_
    clear hBy
    rintro e w4 ⟨bz, rfl, hbw4, hX4, A', c', hk5, hc5, hr5, hf5⟩
    replace hk2 := hX4 g2 _ n2p hk2
    replace hf5 := hidI hf5
    clear hX4 hkp hI hfI kI hbw hfd
    have y0 : w4.cell? ⟨g2, 0, none⟩ = some (.int .i64 0) := blk_cell hk2 0 (by rfl)
    have y1 : w4.cell? ⟨g2, 1, none⟩ = some (.int .i64 0) := blk_cell hk2 1 (by rfl)
    have y2 : w4.cell? ⟨g2, 2, none⟩ = some (.slice none 0 0) := blk_cell hk2 2 (by rfl)
    have z0 := blkf hk2 0
    have z1 := blkf hk2 1
    have z2 := blkf hk2 2
    have u0 : w4.cell? ⟨gp, 0, none⟩ = some (.int .i64 R0) := blk_cell hk5 0 (by rfl)
    have u1 : w4.cell? ⟨gp, 1, none⟩ = some (.int .i64 n0) := blk_cell hk5 1 (by rfl)
    have u2 : w4.cell? ⟨gp, 2, none⟩ = some (.slice A' L0.length c') := blk_cell hk5 2 (by rfl)
    go_wp2
    refine bodyPost_ret (results_cell_row rfl _ _ g2 58 #[.int .i64 R0, .int .i64 n0, .slice A' L0.length c'] (0, 0) _ rfl (blk_set (blk_set (blk_set hk2 0 (.int .i64 R0)) 1 (.int .i64 n0)) 2 (.slice A' L0.length c')) Try.underlying58 rfl (by kernel_rfl)) rfl ?_
    have hX := (((KeepX.refl (· = g2) w4).set (p := ⟨g2, 0, none⟩) rfl (.int .i64 R0)).set (p := ⟨g2, 1, none⟩) rfl (.int .i64 n0)).set (p := ⟨g2, 2, none⟩) rfl (.slice A' L0.length c')
    exact ⟨A', c', rfl, hc5, hr5.keepX hX (fun _ a ha e => by have h1 := hf5.out a ha; have h2 : a.block = g2 := e; omega), bl_set (bl_set (bl_set hbw4 (p := ⟨g2, 0, none⟩) hw2' _) (p := ⟨g2, 1, none⟩) hw2' _) (p := ⟨g2, 2, none⟩) hw2' _⟩
end Go.Proofs.Ythdaidmjjcmccaa
set_option linter.unusedVariables false
set_option linter.unusedSimpArgs false
namespace Go.Pk
open Go.RowKit
theorem zeroCells_int (k : Nat) : Builtin.zeroCells #[.int .i64 0] k = (List.replicate k (Value.int .i64 0)).toArray := by
  apply Array.ext
  · simp [Builtin.zeroCells]
  · intro i h1 h2
    simp [Builtin.zeroCells, Nat.mod_one]
section
variable {P : Program}
/-- An append of as many zeros as a number says (append of make). -/
theorem run_appZeros (w : World) (base : Nat) (t tn rt e : TypeId) (bytes : Nat) (kn : IntKind) (ht : P.underlying t = some (.slice e)) (htn : P.underlying tn = some (.int kn)) (hinfo : (P.info? e).map (fun i => (i.zero, i.size, i.bytes)) = some (some (.int .i64 0), 1, bytes))
    (v : Value) (n : Nat) (xs : List Value) (hown : w.ownsRow base e 1 v n xs) (k : Nat) (hb : (n + k) * bytes ≤ 140737488355328) (h63 : n + k ≤ 9223372036854775807) (hbase : base ≤ w.heap.size) :
    ∃ v1 w1, (Builtin.append_ #[t, tn] rt #[v, .int .i64 (k : Int)]).run P w = .ok v1 w1 ∧ w1.ownsRow base e 1 v1 (n + k) (xs ++ List.replicate k (.int .i64 0)) ∧ w.grownBy w1 v.ownBlock ∧ (v1.ownBlock = v.ownBlock ∨ v1.ownBlock = some w.heap.size) := by
  obtain ⟨i, hi, hzz⟩ := Option.map_eq_some_iff.1 hinfo
  simp only [Prod.mk.injEq] at hzz
  obtain ⟨hz, hsize, hby⟩ := hzz
  subst hby
  have hlen : (xs ++ List.replicate k (Value.int .i64 0)).length = (n + k) * 1 := by rw [List.length_append, hown.1, List.length_replicate]; omega
  have hzc : (Value.int .i64 0).cells = #[Value.int .i64 0] := rfl
  have grown : ∀ (old : Nat), old < n + k → ∀ (row : Option Nat),
      (w.drew.alloc (.cells (xs.toArray ++ Builtin.zeroCells (Value.int .i64 0).cells k ++ Builtin.zeroCells (Value.int .i64 0).cells (grownCap w (n + k) old e - (n + k))) e)).ownsRow base e 1
        (.slice (some ⟨w.heap.size, 0, none⟩) (n + k) (grownCap w (n + k) old e)) (n + k) (xs ++ List.replicate k (.int .i64 0)) ∧
      w.grownBy (w.drew.alloc (.cells (xs.toArray ++ Builtin.zeroCells (Value.int .i64 0).cells k ++ Builtin.zeroCells (Value.int .i64 0).cells (grownCap w (n + k) old e - (n + k))) e)) row := by
    intro old ho row
    have hge := grownCap_ge w (n + k) old e
    have hcm : grownCap w (n + k) old e ≤ maxLen := grownCap_le_maxLen w (n + k) old e (by simp only [maxLen]; omega)
    refine ⟨⟨hlen, .inr ⟨w.heap.size, _, _, rfl, hbase, heap_alloc_new w.drew _, hge, hcm, ?_, ?_⟩⟩, ⟨rfl, rfl, rfl, by simp, fun k hk _ => heap_alloc_old w.drew _ hk⟩⟩
    · simp only [Array.size_append, List.size_toArray, size_zeroCells, hown.1, hzc]
      simp
      omega
    · rw [hzc, zeroCells_int k]
      simp only [Array.toList_append]
      rw [← hlen]
      exact List.take_left
  rcases hown.2 with ⟨rfl, rfl⟩ | ⟨g, cap, cur, rfl, hbg, hg, hnc, hcm, hcs, htake⟩
  · have hx : xs = [] := List.eq_nil_of_length_eq_zero (by simpa using hown.1)
    subst hx
    by_cases hm : k = 0
    · subst hm
      refine ⟨.slice none 0 0, w, ?_, World.ownsRow_nil w base e 1, ⟨rfl, rfl, rfl, Nat.le_refl _, fun _ _ _ => rfl⟩, Or.inl rfl⟩
      simp [Builtin.append_, run_underlying ht, run_underlying htn, sizeOf, typeInfo, hi, asInt, asIntOf, IntKind.wrap_i64]
    · have hr := Lib.run_append_nil_zeros (P := P) w t tn rt e i _ .i64 kn ht htn hi hz k (by omega) (by omega) (by omega) (by simp only [Nat.zero_add] at hb; omega)
      have hgr := grown 0 (by omega) (Value.ownBlock (.slice none 0 0))
      simp only [Nat.zero_add, List.nil_append, Array.empty_append] at hgr ⊢
      exact ⟨_, _, hr, hgr.1, hgr.2, Or.inr rfl⟩
  · by_cases hroom : n + k ≤ cap
    · have hst := run_storeCells_at P g n e (List.replicate k (Value.int .i64 0)) 0 cur w hg (by simp; omega) (by intro u hu; obtain ⟨-, rfl⟩ := List.mem_replicate.1 hu; rfl)
      simp only [Nat.add_zero] at hst
      refine ⟨.slice (some ⟨g, 0, none⟩) (n + k) cap, w.setRow g (cur.toList.take n ++ List.replicate k (Value.int .i64 0) ++ cur.toList.drop (n + (List.replicate k (Value.int .i64 0)).length)).toArray, ?_, ⟨hlen, .inr ⟨g, cap, _, rfl, hbg, setRow_heap w g cur _ e _ hg, hroom, hcm, ?_, ?_⟩⟩, ⟨rfl, rfl, rfl, by simp, fun k _ hk => setRow_other w g k _ (fun e => hk (by simp [Value.ownBlock, e]))⟩, Or.inl rfl⟩
      · have hw : IntKind.i64.wrap (k : Int) = k := by rw [IntKind.wrap_i64]; omega
        have hneg : ¬ ((k : Int) < 0) := by omega
        have h48i : ¬ (281474976710656 < (k : Int) * (i.bytes : Int)) := by
          rw [← Int.natCast_mul]
          have h1 : k * i.bytes ≤ (n + k) * i.bytes := Nat.mul_le_mul_right _ (by omega)
          omega
        by_cases hm : k = 0
        · subst hm
          have hw0 : IntKind.i64.wrap 0 = 0 := by rw [IntKind.wrap_i64]; rfl
          simp [storeCells] at hst
          simp [Builtin.append_, run_underlying ht, run_underlying htn, sizeOf, typeInfo, hi, asInt, asIntOf, hw0, hnc, storeCells]
          exact hst
        · have hzr := zeroCells_int k
          simp [Builtin.append_, run_underlying ht, run_underlying htn, sizeOf, typeInfo, zeroValue, hi, hz, hzc, hzr, asInt, asIntOf, hw, hneg, h48i, hm, hsize, hroom, Addr.add_lit, hst]
      · simp only [List.size_toArray, List.length_append, List.length_take, List.length_drop, Array.length_toList, List.length_replicate]
        omega
      · simp only [Nat.mul_one] at htake
        rw [htake, ← hlen]
        exact List.take_left
    · have holds : ∀ j u, xs[j]? = some u → w.cell? ((⟨g, 0, none⟩ : Addr).add j) = some u := hown.cells (g := g) rfl
      have hold := run_firstCells_some (P := P) w.drew i.size n ⟨g, 0, none⟩ n cap xs (by rw [hsize]; exact hown.1) (by simpa using holds)
      have hr := Lib.run_append_grow_zeros (P := P) w t tn rt e i _ .i64 kn ht htn hi hz (some ⟨g, 0, none⟩) n cap xs hold k (by omega) (by omega) (by omega) (by omega) (by
        have h1 : k * i.bytes ≤ (n + k) * i.bytes := Nat.mul_le_mul_right _ (by omega)
        omega) (growslice_fits (by omega) hb)
      have hgr := grown cap (by omega) (Value.ownBlock (.slice (some ⟨g, 0, none⟩) n cap))
      exact ⟨_, _, hr, hgr.1, hgr.2, Or.inr rfl⟩
end
end Go.Pk
namespace Go.Proofs.Ythdaidmjjcmccaa
end Go.Proofs.Ythdaidmjjcmccaa
set_option linter.unusedVariables false
set_option linter.unusedSimpArgs false
namespace Go.Pk
open Go.RowKit
def kitOk (p : Pl) : Bool := longP p && !wrongP p
def newOk (p : Pl) (l : List Int) : Bool := kitOk p && slacksP p l
def slP (p : Pl) (l : List Int) : List Int := l ++ List.replicate (p.B.length - l.length) 0
theorem kitOk_good {p : Pl} (h : kitOk p = true) (hin : InP p) : GoodP p := by
  unfold kitOk at h
  simp only [Bool.and_eq_true, Bool.not_eq_true'] at h
  exact ⟨h.1, h.2, hin⟩
theorem encI_slP (p : Pl) (l : List Int) : encI (slP p l) = encI l ++ List.replicate (p.B.length - l.length) (.int .i64 0) := by
  unfold slP encI
  simp
end Go.Pk
namespace Go.Proofs.Ythdaidmjjcmccaa
open Go.RowKit Go.Pk Go.Proofs.YthdaidmjjcmccaaW.PrintLast
theorem New15_calls (q : PA) (p : Pl) (w : World) (hq : q.rd w p) (hin : InP p) : Calls Try.prog 15 #[.agg (q.cells p).toArray] w fun e w' => Below w.heap.size w w' ∧ (kitOk p = false → ∃ er : Int, er ≠ 0 ∧ e = .returned (.tuple #[.pointer none, .int .i64 er])) ∧ (kitOk p = true → ∃ g, e = .returned (.tuple #[.pointer (some ⟨g, 0, none⟩), .int .i64 0]) ∧ KitAt w' g 116 p ∧ w.heap.size ≤ g) := by
  cases hl : longP p with
  | false =>
    refine (New_long q p w hq hl).mono ?_
    rintro e w' ⟨h1, h2⟩
    exact ⟨h2, fun _ => ⟨1, by decide, h1⟩, fun h => by unfold kitOk at h; rw [hl] at h; cases h⟩
  | true =>
    refine (New_some q p w hq hin hl).mono ?_
    rintro e w' ⟨h1, h2, h3⟩
    unfold kitOk
    rw [hl]
    cases hw : wrongP p with
    | true => exact ⟨h1, fun _ => ⟨42, by decide, h2 hw⟩, fun h => by cases h⟩
    | false => exact ⟨h1, fun h => (by cases h), fun _ => h3 hw⟩
theorem infoI27 : (Try.prog.info? 3).map (fun i => (i.zero, i.size, i.bytes)) = some (some (.int .i64 0), 1, 8) := by kernel_rfl
set_option maxHeartbeats 8000000 in
set_option maxRecDepth 100000 in
theorem New16_calls (q : PA) (p : Pl) (A : Option Addr) (l : List Int) (c : Nat) (w : World) (hq : q.rd w p) (hin : InP p) (hl : RdI w A l) :
    Calls Try.prog 26 #[.agg (q.cells p).toArray, .slice A l.length c] w fun e w' => Below w.heap.size w w' ∧ (newOk p l = false → ∃ er : Int, er ≠ 0 ∧ e = .returned (.tuple #[.pointer none, .int .i64 er])) ∧ (newOk p l = true → ∃ gl, e = .returned (.tuple #[.pointer (some ⟨gl, 0, none⟩), .int .i64 0]) ∧ LkAt w' gl 51 116 p (slP p l) ∧ w.heap.size ≤ gl) := by
  have hNw := hidI (fun W (h : q.rd W p) => New15_calls q p W h hin)
  have hSl := hidI (fun W g (h : KitAt W g 116 p) (h2 : RdI W A l) => Slacks_calls g p A l c W h h2)
  have hCl := hidI (fun W (h2 : RdI W A l) (hsm : l.length ≤ 1000000) => CloneI_own A l c W h2 hsm)
  have hDm := hidI (fun W g (h : KitAt W g 116 p) => Dim_calls g p W h)
  obtain ⟨aA, cA, aB, cB, aW, cW, aI, cI, aS, cS, aG, cG⟩ := q
  unfold PA.cells at hNw ⊢
  simp only [] at hNw
  have hgo : Hid (kitOk p = true → p.B.length ≤ 3) := fun h => by have := (kitOk_good h hin).lens; omega
  obtain ⟨ok1, hok1⟩ : ∃ z, kitOk p = z := ⟨_, rfl⟩
  obtain ⟨ok2, hok2⟩ : ∃ z, slacksP p l = z := ⟨_, rfl⟩
  have hok : newOk p l = (ok1 && ok2) := by unfold newOk; rw [hok1, hok2]
  have hsl : Hid (ok2 = true → l.length ≤ p.B.length) := fun h => by rw [← hok2] at h; unfold slacksP at h; simp only [Bool.and_eq_true, decide_eq_true_eq] at h; exact h.1
  rw [hok1] at hNw hgo
  rw [hok2] at hSl
  rw [hok]
  clear hok hok1 hok2 hin
  go_enter Try.func26, Try.ntmps26
  go_upto_region 1 with fail
  have hk2 := blk_new w (.cells #[.slice aA p.A.length cA, .slice aB p.B.length cB, .int .i64 p.inp.lo, .int .i64 p.inp.hi, .slice aW p.W.length cW, .slice aI p.Inv.length cI, .slice aS p.Safe.length cS, .slice aG p.gain.length cG, .int .i64 p.bias] 28)
  have hbw := bl_alloc (Below.refl w.heap.size w) (.cells #[.slice aA p.A.length cA, .slice aB p.B.length cB, .int .i64 p.inp.lo, .int .i64 p.inp.hi, .slice aW p.W.length cW, .slice aI p.Inv.length cI, .slice aS p.Safe.length cS, .slice aG p.gain.length cG, .int .i64 p.bias] 28)
  generalize w.alloc (.cells #[.slice aA p.A.length cA, .slice aB p.B.length cB, .int .i64 p.inp.lo, .int .i64 p.inp.hi, .slice aW p.W.length cW, .slice aI p.Inv.length cI, .slice aS p.Safe.length cS, .slice aG p.gain.length cG, .int .i64 p.bias] 28) = W1 at *
  obtain ⟨g2, hg2⟩ : ∃ z, w.heap.size = z := ⟨_, rfl⟩
  rw [hg2] at hk2
  rw [hg2]
  replace hg2 := hidI hg2
  have y0 : W1.cell? ⟨g2, 0, none⟩ = some (.slice aA p.A.length cA) := blk_cell hk2 0 (by rfl)
  have y1 : W1.cell? ⟨g2, 1, none⟩ = some (.slice aB p.B.length cB) := blk_cell hk2 1 (by rfl)
  have y2 : W1.cell? ⟨g2, 2, none⟩ = some (.int .i64 p.inp.lo) := blk_cell hk2 2 (by rfl)
  have y3 : W1.cell? ⟨g2, 3, none⟩ = some (.int .i64 p.inp.hi) := blk_cell hk2 3 (by rfl)
  have y4 : W1.cell? ⟨g2, 4, none⟩ = some (.slice aW p.W.length cW) := blk_cell hk2 4 (by rfl)
  have y5 : W1.cell? ⟨g2, 5, none⟩ = some (.slice aI p.Inv.length cI) := blk_cell hk2 5 (by rfl)
  have y6 : W1.cell? ⟨g2, 6, none⟩ = some (.slice aS p.Safe.length cS) := blk_cell hk2 6 (by rfl)
  have y7 : W1.cell? ⟨g2, 7, none⟩ = some (.slice aG p.gain.length cG) := blk_cell hk2 7 (by rfl)
  have y8 : W1.cell? ⟨g2, 8, none⟩ = some (.int .i64 p.bias) := blk_cell hk2 8 (by rfl)
  go_wp2_with fail
  refine (hNw.out W1 (hq.below hbw)).mono ?_
  rintro e w1 ⟨hb1, h1, h2⟩
  replace hbw := bl_step hbw hb1
  clear hNw hq hb1 y0 y1 y2 y3 y4 y5 y6 y7 y8 hk2
  cases ok1
  · obtain ⟨er, hne, rfl⟩ := h1 rfl
    clear h1 h2 hgo hsl hSl hCl hDm
    have dE : (er == 0) = false := by simpa using hne
    have dE2 : (er != 0) = true := by simpa using hne
    replace hne := hidI hne
    go_wp2
    go_ret2
    exact ⟨hbw, fun _ => ⟨er, hne.out, rfl⟩, fun h => by cases h⟩
  obtain ⟨g, rfl, hkit, hg1⟩ := h2 rfl
  clear h1 h2
  go_wp2_with fail
  refine (hSl.out w1 g hkit (hl.below hbw)).mono ?_
  rintro e w2 ⟨rfl, hb2⟩
  replace hkit := hkit.below hb2
  replace hbw := bl_step hbw hb2
  clear hSl hb2 hg1 w1
  cases ok2
  · clear hgo hsl hCl hDm
    go_wp2
    go_ret2
    exact ⟨hbw, fun _ => ⟨1, by decide, rfl⟩, fun h => by cases h⟩
  have hle := hidI (hsl.out (by simp))
  have hd3 := hidI (hgo.out (by simp))
  clear hgo hsl
  obtain ⟨K, hK⟩ : ∃ K : Nat, p.B.length - l.length = K := ⟨_, rfl⟩
  have hKi : (p.B.length : Int) - (l.length : Int) = (K : Int) := by have := hle.out; omega
  have hK3 : K ≤ 3 := by have := hd3.out; omega
  replace hK := hidI hK
  go_wp2_with fail
  refine (hCl.out w2 (hl.below hbw) (by have := hle.out; have := hd3.out; omega)).mono ?_
  rintro e w3 ⟨v3, rfl, ho3, hb3⟩
  have hkit2 := hkit
  have hbw2 := hbw
  replace hkit := hkit.below hb3
  clear hCl hbw
  go_wp2_with fail
  refine (hDm.out w3 g hkit).mono ?_
  rintro e w4 ⟨rfl, hw4⟩
  subst hw4
  clear hDm
  have hl3 : l.length ≤ 3 := by have := hle.out; have := hd3.out; omega
  obtain ⟨v4, w5, hr5, ho5, hg5, -⟩ := run_appZeros (P := Try.prog) w4 w2.heap.size 23 3 23 3 8 .i64 Try.underlying23 Try.underlying3 infoI27 v3 l.length (encI l) ho3 K (by omega) (by omega) hb3.size
  have hb5 := bl_grown hb3 hg5 (own_row ho3)
  obtain ⟨A1, c1, rfl, hc1, hr1, hn1, -⟩ := own_rdC ho5
  have hlen : Hid ((slP p l).length = l.length + K) := by unfold Hid slP; rw [List.length_append, List.length_replicate, hK.out]
  have henc : Hid (encI (slP p l) = encI l ++ List.replicate K (.int .i64 0)) := by unfold Hid; rw [encI_slP, hK.out]
  replace hkit := hkit2.below hb5
  have hbw := bl_step hbw2 hb5
  clear ho5 hg5 hkit2 hbw2
  go_wp2_with (first | (at_builtin; refine Lib.wpList_append_run _ rfl (.tmp 24) (.tmp 29) 23 3 rfl v3 _ rfl rfl (.slice A1 (l.length + K) c1) w5 hr5 ?_) | fail)
  go_ret2
  have hkn := blk_new w5 (.cells #[.pointer (some ⟨g, 0, none⟩), .slice A1 (l.length + K) c1] 51)
  have hba := bl_alloc (Below.refl w5.heap.size w5) (.cells #[.pointer (some ⟨g, 0, none⟩), .slice A1 (l.length + K) c1] 51)
  refine ⟨bl_step hbw hba, fun h => (by cases h), fun _ => ⟨w5.heap.size, rfl, ⟨g, A1, c1, by rw [hlen.out]; exact hkn, ⟨by rw [hlen.out]; exact hn1, by rw [henc.out]; exact hr1.below hba⟩, by rw [hlen.out]; exact hc1, hkit.below hba⟩, hbw.size⟩⟩
end Go.Proofs.Ythdaidmjjcmccaa
