/- Proved here: lemmas and contracts (what a function of the program computes) that the proofs of the laws of this seat lean on. Conditions: as each theorem states. -/
import Derived.Test.YtggididnclfahaaV6
import Derived.Laws.BitsLemmas
set_option linter.unusedVariables false
set_option linter.unusedSimpArgs false
namespace Go.Pk.Vt
open Go.RowKit Go.Pk Go
/-- What striking leaves as it is. -/
structure Same (V W : Vo) : Prop where
  last : W.last = V.last
  tol : W.tol = V.tol
  stale : W.stale = V.stale
  strikes : W.strikes = V.strikes
  av : W.a.v = V.a.v
  at_ : W.a.t = V.a.t
  bv : W.b.v = V.b.v
  bt : W.b.t = V.b.t
  cv : W.c.v = V.c.v
  ct : W.c.t = V.c.t
theorem Same.refl (V : Vo) : Same V V := ⟨rfl, rfl, rfl, rfl, rfl, rfl, rfl, rfl, rfl, rfl⟩
theorem Same.trans {U V W : Vo} (h : Same U V) (k : Same V W) : Same U W :=
  ⟨k.last.trans h.last, k.tol.trans h.tol, k.stale.trans h.stale, k.strikes.trans h.strikes, k.av.trans h.av, k.at_.trans h.at_, k.bv.trans h.bv, k.bt.trans h.bt, k.cv.trans h.cv, k.ct.trans h.ct⟩
theorem put_same {V : Vo} {i : Nat} {s : Sen} (h1 : s.v = (V.get i).v) (h2 : s.t = (V.get i).t) : Same V (V.put i s) := by
  unfold Vo.put Vo.get at *
  split
  · rename_i h; rw [if_pos h] at h1 h2; exact ⟨rfl, rfl, rfl, rfl, h1, h2, rfl, rfl, rfl, rfl⟩
  · rename_i h
    rw [if_neg h] at h1 h2
    split
    · rename_i h'; rw [if_pos h'] at h1 h2; exact ⟨rfl, rfl, rfl, rfl, rfl, rfl, h1, h2, rfl, rfl⟩
    · rename_i h'; rw [if_neg h'] at h1 h2; exact ⟨rfl, rfl, rfl, rfl, rfl, rfl, rfl, rfl, h1, h2⟩
theorem look_same (V : Vo) (i : Nat) : Same V (V.look i) := put_same rfl rfl
theorem punish_same (n : Nat) (V : Vo) (i : Nat) : Same V (Vo.punish n V i) := by
  unfold Vo.punish; split
  · exact put_same rfl rfl
  · exact put_same rfl rfl
theorem foldl_same {β : Type} {f : Vo → β → Vo} (hf : ∀ V b, Same V (f V b)) : ∀ (l : List β) (V : Vo), Same V (l.foldl f V)
  | [], V => Same.refl V
  | b :: l, V => (hf V b).trans (foldl_same hf l (f V b))
theorem look2_same : ∀ (l : List Nat) (P : Vo × List Nat), Same P.1 (l.foldl Vo.look2 P).1
  | [], P => Same.refl P.1
  | i :: l, P => (look_same P.1 i).trans (look2_same l (Vo.look2 P i))
theorem strike_same (V : Vo) (l : List Nat) : Same V (V.strike l) := by
  unfold Vo.strike
  exact (look2_same l (V, [])).trans (foldl_same (punish_same _) _ _)
theorem vote_last {V : Vo} {n : Int} (h : V.says n ≠ []) : (V.vote n).last = midL (V.says n) := by
  unfold Vo.vote
  rw [if_neg h]
  split
  · exact (strike_same _ _).last
  · rfl
theorem says_all {V : Vo} {n : Int} (h0 : V.is n 0 = true) (h1 : V.is n 1 = true) (h2 : V.is n 2 = true) : V.counts n = [0, 1, 2] ∧ V.says n = [V.a.v, V.b.v, V.c.v] := by
  have h : V.counts n = [0, 1, 2] := by unfold Vo.counts; simp [List.filter_cons, h0, h1, h2]
  refine ⟨h, ?_⟩
  unfold Vo.says; rw [h]; rfl
/-- Three channels, told one behind the other. -/
def tS (tol stale strikes t : Int) (f : Nat → Int) : Nat → Vo
  | 0 => Vo.new tol stale strikes
  | k + 1 => (tS tol stale strikes t f k).said k (f k) t
theorem tS_ok {tol stale strikes t : Int} {f : Nat → Int} (h : newOkV tol stale strikes = true) (ht : tol ≤ 9223372036854775807) (hf : ∀ i, I64 (f i)) : ∀ k, (tS tol stale strikes t f k).ok
  | 0 => new_ok h ht
  | k + 1 => said_ok (tS_ok h ht hf k) k (hf k) t
def l3 (x y z : Int) (j : Nat) : Int := if j = 0 then x else if j = 1 then y else z
theorem turned (x y z : Int) (m : Nat) : midL [l3 x y z ((0 + m) % 3), l3 x y z ((1 + m) % 3), l3 x y z ((2 + m) % 3)] = midL [x, y, z] := by
  have h3 : m % 3 = 0 ∨ m % 3 = 1 ∨ m % 3 = 2 := by omega
  rcases h3 with h | h | h
  · rw [show (0 + m) % 3 = 0 by omega, show (1 + m) % 3 = 1 by omega, show (2 + m) % 3 = 2 by omega]; rfl
  · rw [show (0 + m) % 3 = 1 by omega, show (1 + m) % 3 = 2 by omega, show (2 + m) % 3 = 0 by omega]
    exact mid_perm (List.perm_append_comm (l₁ := [y, z]) (l₂ := [x]))
  · rw [show (0 + m) % 3 = 2 by omega, show (1 + m) % 3 = 0 by omega, show (2 + m) % 3 = 1 by omega]
    exact mid_perm (List.perm_append_comm (l₁ := [z]) (l₂ := [x, y]))
theorem turn_mid (x y z : Int) : midL [z, x, y] = midL [x, y, z] := mid_perm (List.perm_append_comm (l₁ := [z]) (l₂ := [x, y]))
theorem and1023 (n : Int) : bits .and .i64 n 1023 = n % 1024 := by
  have h1 : (BitVec.ofInt 64 1023).toNat = 2 ^ 10 - 1 := by decide
  have key : (BitVec.ofInt 64 n &&& BitVec.ofInt 64 1023).toNat = (n % ((2 ^ 64 : Nat) : Int)).toNat % 2 ^ 10 := by
    rw [BitVec.toNat_and, BitVec.toNat_ofInt, h1, Nat.and_two_pow_sub_one_eq_mod]
  show IntKind.i64.wrap ((BitVec.ofInt 64 n &&& BitVec.ofInt 64 1023).toNat : Nat) = n % 1024
  rw [key, IntKind.wrap_i64]
  omega
end Go.Pk.Vt
namespace Go.Proofs.Ytggididnclfahaa
open Go.RowKit Go.Pk Go.Pk.Vt
theorem vput_ok (w0 : World) (gv : Nat) (V : Vo) (i : Nat) (hi : i < 3) (x tick : Int) (w : World) (hg : w0.heap.size ≤ gv) (hbw : Below w0.heap.size w0 w) (hk : w.heap[gv]? = some (.cells V.arr 68 (0, 0))) (hs : 1 ≤ V.strikes) (h0 : 0 ≤ tick) (h1 : (V.get i).t < tick) :
    Calls Try.prog 14 #[.pointer (some ⟨gv, 0, none⟩), .int .i64 i, .int .i64 x, .int .i64 tick] w fun e w' => e = .returned (.int .i64 0) ∧ E1 w0 w w' gv ∧ w'.heap[gv]? = some (.cells (V.said i x tick).arr 68 (0, 0)) := by
  rcases (by omega : i = 0 ∨ i = 1 ∨ i = 2) with rfl | rfl | rfl
  · exact put0_ok w0 gv V x tick w hg hbw hk hs h0 h1
  · exact put1_ok w0 gv V x tick w hg hbw hk hs h0 h1
  · exact put2_ok w0 gv V x tick w hg hbw hk hs h0 h1
set_option maxHeartbeats 8000000 in
set_option maxRecDepth 100000 in
theorem VTurned_walk (x y z turn : Int) (w : World) (hx : I64 x) (hy : I64 y) (hz : I64 z) :
    Calls Try.prog 5 #[.int .i64 x, .int .i64 y, .int .i64 z, .int .i64 turn] w fun e w' => e = .returned (.bool true) ∧ Below w.heap.size w w' := by
  have hl3 : ∀ j, I64 (l3 x y z j) := fun j => by unfold l3; split; exact hx; split; exact hy; exact hz
  obtain ⟨m, hm⟩ : ∃ m : Nat, bits .and .i64 turn 1023 = (m : Int) := ⟨(turn % 1024).toNat, by rw [and1023]; omega⟩
  have hm1 : (m : Int) ≤ 1023 := by rw [← hm, and1023]; omega
  have hok1 := hidI (tS_ok (tol := 9223372036854775807) (stale := 0) (strikes := 1) (t := 1) (f := l3 x y z) (by decide) (by omega) hl3)
  have hok2 := hidI (tS_ok (tol := 9223372036854775807) (stale := 0) (strikes := 1) (t := 1) (f := fun k => l3 x y z ((k + m) % 3)) (by decide) (by omega) (fun i => hl3 _))
  have hnew := hidI (fun W => vNew_ok 9223372036854775807 0 1 W (by decide))
  obtain ⟨V0, hV0⟩ : ∃ q : Vo, q = Vo.new 9223372036854775807 0 1 := ⟨_, rfl⟩
  obtain ⟨SA, hSA⟩ : ∃ f : Nat → Vo, f = tS 9223372036854775807 0 1 1 (l3 x y z) := ⟨_, rfl⟩
  obtain ⟨SB, hSB⟩ : ∃ f : Nat → Vo, f = tS 9223372036854775807 0 1 1 (fun k => l3 x y z ((k + m) % 3)) := ⟨_, rfl⟩
  have hA0 : Hid (SA 0 = V0) := by rw [hSA, hV0]; rfl
  have hB0 : Hid (SB 0 = V0) := by rw [hSB, hV0]; rfl
  have hAs : Hid (∀ k, SA (k + 1) = (SA k).said k (l3 x y z k) 1) := by show _; intro k; rw [hSA]; rfl
  have hBs : Hid (∀ k, SB (k + 1) = (SB k).said k (l3 x y z ((k + m) % 3)) 1) := by show _; intro k; rw [hSB]; rfl
  have hAp := hidI (show ∀ k, k < 3 → 1 ≤ (SA k).strikes ∧ ((SA k).get k).t < 1 from fun k hk => by rw [hSA]; rcases (by omega : k = 0 ∨ k = 1 ∨ k = 2) with rfl | rfl | rfl <;> exact ⟨by show (1 : Int) ≤ 1; omega, by show (-1 : Int) < 1; omega⟩)
  have hBp := hidI (show ∀ k, k < 3 → 1 ≤ (SB k).strikes ∧ ((SB k).get k).t < 1 from fun k hk => by rw [hSB]; rcases (by omega : k = 0 ∨ k = 1 ∨ k = 2) with rfl | rfl | rfl <;> exact ⟨by show (1 : Int) ≤ 1; omega, by show (-1 : Int) < 1; omega⟩)
  have hAv : (SA 3).says 1 = [x, y, z] := by rw [hSA]; exact (says_all (by rfl) (by rfl) (by rfl)).2
  have hBv : (SB 3).says 1 = [l3 x y z ((0 + m) % 3), l3 x y z ((1 + m) % 3), l3 x y z ((2 + m) % 3)] := by rw [hSB]; exact (says_all (by rfl) (by rfl) (by rfl)).2
  have hAl : ((SA 3).vote 1).last = midL [x, y, z] := by rw [vote_last (by rw [hAv]; simp), hAv]
  have hBl : ((SB 3).vote 1).last = midL [x, y, z] := by rw [vote_last (by rw [hBv]; simp), hBv, turned]
  rw [← hSA] at hok1
  rw [← hSB] at hok2
  rw [← hV0] at hnew
  obtain ⟨md, hmd⟩ : ∃ q, midL [x, y, z] = q := ⟨_, rfl⟩
  have hvA := hidI (fun w0 g W hg hb hk => vote_calls w0 g (SA 3) 1 W hg hb hk (hok1.out 3) (by omega))
  have hvB := hidI (fun w0 g W hg hb hk => vote_calls w0 g (SB 3) 1 W hg hb hk (hok2.out 3) (by omega))
  rw [hAl, hAv, hmd] at hvA
  rw [hBl, hBv, hmd] at hvB
  have hm1c := hidI (fun W A c (h : RdI W A [x, y, z]) => mid_calls [x, y, z] A c W h (by simp))
  have hm2c := hidI (fun W A c (h : RdI W A [z, x, y]) => mid_calls [z, x, y] A c W h (by simp))
  rw [hmd] at hm1c
  rw [turn_mid, hmd] at hm2c
  have hcell := hidI (show ∀ (W : World) g, W.heap[g]? = some (.cells #[.int .i64 x, .int .i64 y, .int .i64 z] 35 (0, 0)) → ∀ j, j < 3 → W.cell? ⟨g, j, none⟩ = some (.int .i64 (l3 x y z j)) from fun W g h j hj => by
    rcases (by omega : j = 0 ∨ j = 1 ∨ j = 2) with rfl | rfl | rfl <;> exact blk_cell h _ (by rfl))
  have hbw := Below.refl w.heap.size w
  obtain ⟨w0, hw0⟩ : ∃ q : World, q = w := ⟨_, rfl⟩
  rw [← hw0] at hbw ⊢
  replace hw0 := hidI hw0
  have hLm := hidI hm1
  replace hm := hm
  clear hSA hSB hV0 hAv hBv hAl hBl hmd hx hy hz hl3 hok1 hok2 hm1
  subst hw0
  go_enter Try.func5, Try.ntmps5
  go_wp2_with fail
  refine (hnew.out _).mono ?_
  rintro e w1 ⟨ga, hga, rfl, hb1, hka⟩
  replace hbw := hb1
  go_wp2_with fail
  refine (hnew.out _).mono ?_
  rintro e w2 ⟨gb, hgb, rfl, hb2, hkb⟩
  have hne : gb ≠ ga := by have := blk_lt hka; omega
  have hgb2 : w0.heap.size ≤ gb := Nat.le_trans hb1.size hgb
  replace hbw := bl_step hbw hb2
  replace hka := bl_block hb2 hka
  clear hnew hb1 hb2
  go_upto_region 10 with fail
  have hkl := blk_new w2 (.cells #[.int .i64 x, .int .i64 y, .int .i64 z] 35)
  have hgl : ga < w2.heap.size ∧ gb < w2.heap.size := ⟨blk_lt hka, blk_lt hkb⟩
  replace hka := blk_alloc hka (.cells #[.int .i64 x, .int .i64 y, .int .i64 z] 35)
  replace hkb := blk_alloc hkb (.cells #[.int .i64 x, .int .i64 y, .int .i64 z] 35)
  replace hbw := bl_alloc hbw (.cells #[.int .i64 x, .int .i64 y, .int .i64 z] 35)
  generalize w2.alloc (.cells #[.int .i64 x, .int .i64 y, .int .i64 z] 35) = w3 at *
  obtain ⟨gl, hgl_⟩ : ∃ g, w2.heap.size = g := ⟨_, rfl⟩
  rw [hgl_] at hkl hgl
  rw [hgl_]
  have hna : gl ≠ ga := by omega
  have hnb : gl ≠ gb := by omega
  clear hgl_ hgl
  go_wp2
  go_loopw [14] (fun x14 wr => ∃ k : Nat, k ≤ 3 ∧ x14 = .int .i64 k ∧ Below w0.heap.size w0 wr ∧ wr.heap[ga]? = some (.cells (SA k).arr 68 (0, 0)) ∧ wr.heap[gb]? = some (.cells (SB k).arr 68 (0, 0)) ∧ wr.heap[gl]? = some (.cells #[.int .i64 x, .int .i64 y, .int .i64 z] 35 (0, 0))) (fun x14 _ => (3 - intOf x14).toNat)
  case atStart => exact ⟨0, by omega, rfl, hbw, by rw [hA0.out]; exact hka, by rw [hB0.out]; exact hkb, hkl⟩
  case round =>
    clear hbw hka hkb hkl
    obtain ⟨k, hk3, rfl, hbw, hka, hkb, hkl⟩ := hrel
    by_cases hlt : k < 3
    · have hd : decide ((k : Int) < 3) = true := decide_eq_true (by omega)
      obtain ⟨j, hj⟩ : ∃ j, j = (k + m) % 3 := ⟨_, rfl⟩
      have hj3 : j < 3 := by omega
      have hm1 := hLm.out
      have hq : ((k : Int) + (m : Int)) % 3 = (j : Int) := by omega
      have hjl : (j : Int) < 3 := by omega
      have hb64 : ((k : Int) + 1) ≤ 9223372036854775807 := by omega
      have pA := hidI (fun W hb hk => vput_ok w0 ga (SA k) k hlt (l3 x y z k) 1 W hga hb hk (hAp.out k hlt).1 (by decide) (hAp.out k hlt).2)
      have pB := hidI (fun W hb hk => vput_ok w0 gb (SB k) k hlt (l3 x y z j) 1 W hgb2 hb hk (hBp.out k hlt).1 (by decide) (hBp.out k hlt).2)
      rw [← hAs.out k] at pA
      rw [hj, ← hBs.out k, ← hj] at pB
      have c1 := hcell.out wr gl hkl k hlt
      have hq2 : Hid (((k : Int) + (m : Int)).tmod 3 = (j : Int)) := by show _ = _; rw [Int.tmod_eq_emod_of_nonneg (by omega)]; exact hq
      have hw1 : Hid (wrap64 ((k : Int) + (m : Int)) = (k : Int) + (m : Int)) := IntWalk.wrap64_in _ (by omega)
      have hq2 := hq2.out
      have hw1 := hw1.out
      replace hj := hidI hj
      clear hm1
      go_upto_region 14 with fail
      clear hq hq2 hw1
      replace hm := hidI hm
      go_wp2_with fail
      refine (pA.out _ hbw hka).mono ?_
      rintro e w4 ⟨rfl, hE, hka⟩
      replace hbw := hE.b
      replace hkb := hE.blk hne hkb
      replace hkl := hE.blk hna hkl
      have c2 := hcell.out w4 gl hkl j hj3
      clear hE pA c1
      go_wp2_with fail
      refine (pB.out _ hbw hkb).mono ?_
      rintro e w5 ⟨rfl, hE, hkb⟩
      replace hbw := hE.b
      replace hka := hE.blk (Ne.symm hne) hka
      replace hkl := hE.blk hnb hkl
      clear hE pB c2
      go_wp2
      go_roundw
      case rel => exact ⟨k + 1, by omega, by go_num, hbw, hka, hkb, hkl⟩
      case measure => simp [intOf]; omega
    · obtain rfl : k = 3 := by omega
      have hd : decide ((3 : Int) < 3) = false := by decide
      go_wp2_with fail
      refine (hvA.out _ _ _ hga hbw hka).mono ?_
      rintro e w4 ⟨rfl, hE, hka⟩
      replace hbw := hE.b
      replace hkb := hE.blk hne hkb
      clear hE hvA
      go_wp2_with fail
      refine (hvB.out _ _ _ hgb2 hbw hkb).mono ?_
      rintro e w5 ⟨rfl, hE, hkb⟩
      replace hbw := hE.b
      clear hE hvB hka hkb hkl
      go_wp2_with fail
      refine (alive22_calls _).mono ?_
      rintro e w6 ⟨rfl, hb_⟩
      replace hbw := bl_step hbw hb_
      clear hb_
      go_wp2_with fail
      refine (hm1c.out _ (some ⟨w6.heap.size, 0, none⟩) 3 (RdI.of_blk (l := [x, y, z]) (blk_new w6 (.cells #[.int .i64 x, .int .i64 y, .int .i64 z] 3)) (by simp))).mono ?_
      rintro e w7 ⟨rfl, hb_⟩
      replace hbw := bl_step (bl_alloc hbw (.cells #[.int .i64 x, .int .i64 y, .int .i64 z] 3)) hb_
      clear hb_
      go_wp2_with fail
      refine (hm2c.out _ (some ⟨w7.heap.size, 0, none⟩) 3 (RdI.of_blk (l := [z, x, y]) (blk_new w7 (.cells #[.int .i64 z, .int .i64 x, .int .i64 y] 3)) (by simp))).mono ?_
      rintro e w8 ⟨rfl, hb_⟩
      replace hbw := bl_step (bl_alloc hbw (.cells #[.int .i64 z, .int .i64 x, .int .i64 y] 3)) hb_
      clear hb_
      go_wp2
      go_ret
      exact ⟨rfl, hbw⟩
end Go.Proofs.Ytggididnclfahaa
