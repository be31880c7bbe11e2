/- Proved here: lemmas and contracts (what a function of the program computes) that the proofs of the laws of this seat lean on. Conditions: as each theorem states. -/
import Derived.Test.YthdaidmjjcmccaaPl34
import Derived.Test.YthdaidmjjcmccaaOwn3
import Derived.Test.YthdaidmjjcmccaaAr1
import Derived.Test.YthdaidmjjcmccaaSpan5
set_option linter.unusedVariables false
set_option linter.unusedSimpArgs false
namespace Go.Pk
open Go.RowKit Go.Pk.Rx
/-! Whether a command may be let through. -/
def ptL (x : List Int) : List Sp := x.map fun v => ⟨v, v⟩
theorem ptL_length (x : List Int) : (ptL x).length = x.length := by unfold ptL; simp
theorem ptL_getD (x : List Int) (j : Nat) : (ptL x).getD j ⟨0, 0⟩ = ⟨x.getD j 0, x.getD j 0⟩ := by
  unfold ptL
  rw [List.getD_eq_getElem?_getD, List.getD_eq_getElem?_getD, List.getElem?_map]
  cases x[j]? <;> rfl
theorem ptL_in {x : List Int} (h : InI x) : InS (ptL x) := fun s hs => by
  unfold ptL at hs
  obtain ⟨v, hv, rfl⟩ := List.mem_map.1 hs
  exact ⟨h v hv, h v hv⟩
theorem ptL_snoc (x : List Int) (v : Int) : ptL (x ++ [v]) = ptL x ++ [⟨v, v⟩] := by unfold ptL; simp
theorem spanOf_one (v : Int) : spanOf [v] = ⟨v, v⟩ := by simp [spanOf, minL, maxL]
def stepP (p : Pl) (s : List Int) (u : Int) (x : List Int) : List Sp × Bool := reachP p ⟨u, u⟩ (wideL (ptL x) s)
def acceptP (p : Pl) (s : List Int) (u : Int) (x : List Int) : Int :=
  if slacksP p s = true ∧ x.length = p.B.length then
    if hasS p.inp u = true then
      if (stepP p s u x).2 = true then
        if withinP p (stepP p s u x).1 = true then 0 else 60
      else 10
    else 42
  else 1
end Go.Pk
namespace Go.Proofs.Ythdaidmjjcmccaa
open Go.RowKit Go.Pk Go.Proofs.YthdaidmjjcmccaaW.PrintLast
set_option maxHeartbeats 4000000 in
set_option maxRecDepth 100000 in
theorem right_calls (g : Nat) (p : Pl) (A : Option Addr) (l : List Int) (c : Nat) (w : World) (hg : GoodP p) (hk : KitAt w g 116 p) (hl : RdI w A l) :
    Calls Try.prog 123 #[.pointer (some ⟨g, 0, none⟩), .slice A l.length c] w fun e w' => e = .returned (.bool (slacksP p l)) ∧ Below w.heap.size w w' := by
  have hD := hidI (Dim_calls g p w hk)
  have hS := hidI (fun W (h : Below w.heap.size w W) => Slacks_calls g p A l c W (hk.below h) (hl.below h))
  have hN : 1 ≤ p.B.length := hg.lens.1
  obtain ⟨b, hb⟩ : ∃ z, slacksP p l = z := ⟨_, rfl⟩
  rw [hb] at hS ⊢
  obtain ⟨N, hN2⟩ : ∃ z, p.B.length = z := ⟨_, rfl⟩
  rw [hN2] at hD hN
  have hd : decide ((0 : Int) < (N : Int)) = true := decide_eq_true (by omega)
  clear hb hN2 hg hk hl
  go_enter Try.func123, Try.ntmps123
  go_wp2_with fail
  refine hD.out.mono ?_
  rintro e w1 ⟨rfl, hw1⟩
  subst hw1
  go_wp2_with fail
  refine (hS.out _ (Below.refl _ _)).mono ?_
  rintro e w2 ⟨rfl, hb2⟩
  go_wp2
  go_ret
  exact ⟨rfl, hb2⟩
theorem infoSp9 : (Try.prog.info? 25).map (fun i => (i.zero, i.size, i.bytes)) = some (some (.agg #[.int .i64 0, .int .i64 0]), 2, 16) := by kernel_rfl
set_option maxHeartbeats 8000000 in
set_option maxRecDepth 100000 in
theorem creach_calls (g : Nat) (p : Pl) (S X : Option Addr) (s x : List Int) (cs cx : Nat) (u : Int) (w : World) (hg : GoodP p) (hk : KitAt w g 116 p) (hs : RdI w S s) (his : InI s) (hx : RdI w X x) (hix : InI x) (hu0 : -9223372036854775808 ≤ u) (hu1 : u ≤ 9223372036854775807) (hsm : x.length ≤ 1000) :
    Calls Try.prog 124 #[.pointer (some ⟨g, 0, none⟩), .slice S s.length cs, .int .i64 u, .slice X x.length cx] w fun e w' => ∃ A' c', e = .returned (.tuple #[.slice A' (stepP p s u x).1.length c', .bool (stepP p s u x).2]) ∧ RdS w' A' (stepP p s u x).1 ∧ Below w.heap.size w w' := by
  have hR := hidI (fun W A c (h : Below w.heap.size w W) (h2 : RdS W A (wideL (ptL x) s)) => Reach_calls g p ⟨u, u⟩ A (wideL (ptL x) s) c W hg (hk.below h) h2 (wideL_in (ptL_in hix)) ⟨⟨hu0, hu1⟩, hu0, hu1⟩)
  have hW := hidI (fun W A c (h : Below w.heap.size w W) (h2 : RdS W A (ptL x)) => pWide_calls A S (ptL x) s c cs W h2 (hs.below h) (ptL_in hix) his (by rw [ptL_length]; omega))
  have hOf := hidI (fun W gg v (hkk : W.heap[gg]? = some (.cells #[.int .i64 v] 3 (0, 0))) => Of_calls (some ⟨gg, 0, none⟩) [v] 1 W (RdI.of_blk (l := [v]) hkk (by simp)))
  simp only [spanOf_one] at hOf
  simp only [ptL_length] at hW
  simp only [wideL_length, ptL_length] at hR hW
  have hst : Hid (stepP p s u x = reachP p ⟨u, u⟩ (wideL (ptL x) s)) := rfl
  try simp only [] at hR
  obtain ⟨q, hq⟩ : ∃ z, reachP p ⟨u, u⟩ (wideL (ptL x) s) = z := ⟨_, rfl⟩
  rw [hq] at hR hst
  rw [hst.out]
  obtain ⟨q1, q2⟩ := q
  try simp only [] at hR ⊢
  clear hq hst hk hg hs his hix
  go_enter Try.func124, Try.ntmps124
  go_wp2
  go_loopw [10, 12, 15] (fun v x_ i wr => ∃ k : Nat, k ≤ x.length ∧ i = .int .i64 k ∧ Below w.heap.size w wr ∧ wr.ownsRow w.heap.size 25 2 v k (encS (ptL (x.take k)))) (fun _ _ i _ => (x.length - intOf i).toNat)
  case atStart => exact ⟨0, by omega, rfl, Below.refl _ _, World.ownsRow_nil _ _ _ _⟩
  case round =>
    obtain ⟨k, hk, rfl, hb, ho⟩ := hrel
    by_cases hlt : k < x.length
    · obtain ⟨b, off, rfl, hc0⟩ := (hx.below hb).at hlt
      have hx1 : Hid (encS (ptL (x.take (k + 1))) = encS (ptL (x.take k)) ++ encS [⟨x.getD k 0, x.getD k 0⟩]) := by unfold Hid; rw [take_snocD x k hlt, ptL_snoc, encS_app']
      have hd : decide ((k : Int) < (x.length : Int)) = true := decide_eq_true (by omega)
      generalize x.getD k 0 = xk at hc0 hx1
      obtain ⟨A9, c9, rfl, hc9, -, -, -⟩ := own_rdC ho
      go_wp2_with fail
      have hk0 := blk_new wr (.cells #[.int .i64 xk] 3)
      have hb0 := bl_alloc hb (.cells #[.int .i64 xk] 3)
      replace ho := ho.alloc (.cells #[.int .i64 xk] 3)
      generalize wr.alloc (.cells #[.int .i64 xk] 3) = W at *
      generalize wr.heap.size = g0 at *
      refine (hOf.out W g0 xk hk0).mono ?_
      rintro e W2 ⟨rfl, hb2⟩
      replace hb0 := bl_step hb0 hb2
      replace ho := own_below ho hb2
      clear hb2 hk0 hc0 hb
      go_wp2_with (first | (at_builtin; go_loud (refine list_appRd w.heap.size rfl (.tmp 19) (.tmp 23) 26 25 _ 2 _ rfl Try.underlying26 infoSp9 (by rfl) (by omega) (.slice A9 k c9) k (encS (ptL (x.take k))) (some ⟨W2.heap.size, 0, none⟩) 1 1 (encS [⟨xk, xk⟩]) rfl rfl (own_alloc ho _) (by rfl) (fun j v hk => ⟨W2.heap.size, 0, rfl, by rw [Nat.zero_add, blkc (blk_new W2 (.cells #[.int .i64 xk, .int .i64 xk] 25))]; simpa [encS] using hk⟩) (by intro v hv; simp [encS] at hv; rcases hv with rfl | rfl <;> rfl) (by omega) (by omega) (bl_alloc hb0 _).size ?_); intro v1 w9 ho1 hg1 ha1) | fail)
      go_roundw
      case rel => exact ⟨k + 1, by omega, by go_num, bl_grown (bl_alloc hb0 _) hg1 (fun j hj => (own_lt ho j hj).1), by rw [hx1.out]; exact ho1⟩
      case measure => simp [intOf]; omega
    · have hkl : k = x.length := by omega
      subst hkl
      rw [List.take_length] at ho
      have hd : decide ((x.length : Int) < (x.length : Int)) = false := decide_eq_false (by omega)
      obtain ⟨A', c', rfl, hcc, hrd, hn', -⟩ := own_rdC ho
      clear ho
      have hrs : RdS wr A' (ptL x) := ⟨by rw [ptL_length]; exact hn', hrd⟩
      clear hrd hcc
      go_wp2_with fail
      have hk0 := blk_new wr (.cells #[.int .i64 u] 3)
      have hbA := bl_alloc (Below.refl wr.heap.size wr) (.cells #[.int .i64 u] 3)
      replace hb := bl_step hb hbA
      replace hrs := hrs.below hbA
      clear hbA
      generalize wr.alloc (.cells #[.int .i64 u] 3) = W at *
      generalize wr.heap.size = g0 at *
      refine (hOf.out W g0 u hk0).mono ?_
      rintro e W2 ⟨rfl, hb2⟩
      replace hb := bl_step hb hb2
      replace hrs := hrs.below hb2
      clear hb2 hk0
      go_wp2_with fail
      refine (hW.out W2 A' c' hb hrs).mono ?_
      rintro e W3 ⟨A3, c3, rfl, hr3, hb3⟩
      replace hb := bl_step hb hb3
      clear hb3 hrs
      go_wp2_with fail
      refine (hR.out W3 A3 c3 hb hr3).mono ?_
      rintro e W4 ⟨A4, c4, rfl, hr4, hb4⟩
      go_wp2
      go_ret2
      exact ⟨A4, c4, rfl, hr4, bl_step hb hb4⟩
set_option maxHeartbeats 4000000 in
set_option maxRecDepth 100000 in
theorem plField2_ (a0 a1 a2 a3 a4 a5 a6 a7 a8 : Value) (w : World) : (Instr.field 28 (.agg #[a0, a1, a2, a3, a4, a5, a6, a7, a8]) 2).run Try.prog w = .ok (.agg #[a2, a3]) w := by kernel_rfl
set_option maxHeartbeats 8000000 in
set_option maxRecDepth 100000 in
theorem Accept_calls (g : Nat) (p : Pl) (S X : Option Addr) (s x : List Int) (cs cx : Nat) (u : Int) (w : World) (hg : GoodP p) (hk : KitAt w g 116 p) (hs : RdI w S s) (his : InI s) (hx : RdI w X x) (hix : InI x) (hu0 : -9223372036854775808 ≤ u) (hu1 : u ≤ 9223372036854775807) :
    Calls Try.prog 116 #[.pointer (some ⟨g, 0, none⟩), .slice S s.length cs, .int .i64 u, .slice X x.length cx] w fun e w' => e = .returned (.int .i64 (acceptP p s u x)) ∧ Below w.heap.size w w' := by
  have hRi := hidI (right_calls g p S s cs w hg hk hs)
  have hD := hidI (fun W (h : Below w.heap.size w W) => Dim_calls g p W (hk.below h))
  have hC := hidI (fun W (h : Below w.heap.size w W) => Copy_calls g p W hg (hk.below h))
  have hRe := hidI (fun W (h : Below w.heap.size w W) (hl : x.length ≤ 1000) => creach_calls g p S X s x cs cx u W hg (hk.below h) (hs.below h) his (hx.below h) hix hu0 hu1 hl)
  have hWi := hidI (fun W A (l : List Sp) c (h : Below w.heap.size w W) (h2 : RdS W A l) => Within_calls g p A l c W hg (hk.below h) h2)
  have hN3 : p.B.length ≤ 3 := hg.lens.2.1
  obtain ⟨r, hr⟩ : ∃ z, Hid (acceptP p s u x = z) := ⟨_, rfl⟩
  rw [hr.out]
  have hA : Hid (acceptP p s u x = acceptP p s u x) := rfl
  obtain ⟨b1, hb1⟩ : ∃ z, slacksP p s = z := ⟨_, rfl⟩
  rw [hb1] at hRi
  replace hb1 := hidI hb1
  obtain ⟨N, hN⟩ : ∃ z, p.B.length = z := ⟨_, rfl⟩
  rw [hN] at hD hN3
  replace hN := hidI hN
  clear hA hk hs hx his hix hu0 hu1 hg
  go_enter Try.func116, Try.ntmps116
  go_wp2_with fail
  refine hRi.out.mono ?_
  rintro e w1 ⟨rfl, hbw⟩
  clear hRi
  cases b1
  · have hz : Hid (acceptP p s u x = 1) := by unfold Hid acceptP; rw [if_neg (by rw [hb1.out]; simp)]
    go_wp2
    go_ret
    exact ⟨by rw [← hr.out, hz.out]; first | rfl | simp, hbw⟩
  go_wp2_with fail
  refine (hD.out _ hbw).mono ?_
  rintro e w2 ⟨rfl, hw2⟩
  subst hw2
  by_cases hl : ((x.length : Int) != (N : Int)) = true
  · have hz : Hid (acceptP p s u x = 1) := by unfold Hid acceptP; rw [if_neg (by rw [hN.out]; simp at hl; omega)]
    go_wp2
    go_ret
    exact ⟨by rw [← hr.out, hz.out]; first | rfl | simp, hbw⟩
  have hl2 : Hid (x.length = N) := by unfold Hid; simp at hl; omega
  replace hl : ((x.length : Int) != (N : Int)) = false := by simpa using hl
  have hl1000 : x.length ≤ 1000 := by have := hl2.out; omega
  have h1 : Hid (acceptP p s u x = if hasS p.inp u = true then if (stepP p s u x).2 = true then if withinP p (stepP p s u x).1 = true then 0 else 60 else 10 else 42) := by
    unfold Hid acceptP; rw [if_pos ⟨hb1.out, by rw [hN.out]; exact hl2.out⟩]
  replace hRe := hidI (fun W h => hRe.out W h hl1000)
  clear hl1000 hb1 hN hl2
  go_wp2_with fail
  refine (hC.out _ hbw).mono ?_
  rintro e w3 ⟨⟨aA, cA, aB, cB, aW, cW, aI, cI, aS, cS, aG, cG⟩, rfl, -, -, hb3, -⟩
  replace hbw := bl_step hbw hb3
  clear hb3 hC hl
  unfold PA.cells
  simp only []
  have hfd := plField2_ (.slice aA p.A.length cA) (.slice aB p.B.length cB) (.int .i64 p.inp.lo) (.int .i64 p.inp.hi) (.slice aW p.W.length cW) (.slice aI p.Inv.length cI) (.slice aS p.Safe.length cS) (.slice aG p.gain.length cG) (.int .i64 p.bias) w3
  have hHas := hidI (fun W => Has_calls p.inp.lo p.inp.hi u W)
  obtain ⟨b2, hb2⟩ : ∃ z, hasS p.inp u = z := ⟨_, rfl⟩
  rw [show (⟨p.inp.lo, p.inp.hi⟩ : Sp) = p.inp from rfl, hb2] at hHas
  rw [hb2] at h1
  clear hb2
  go_wp2_with fail
  refine (hHas.out _).mono ?_
  rintro e w4 ⟨rfl, hb4⟩
  replace hbw := bl_step hbw hb4
  clear hb4 hfd hHas
  cases b2
  · have hz : Hid (acceptP p s u x = 42) := by unfold Hid; rw [h1.out]; rfl
    go_wp2
    go_ret
    exact ⟨by rw [← hr.out, hz.out]; first | rfl | simp, hbw⟩
  replace h1 : Hid (acceptP p s u x = if (stepP p s u x).2 = true then if withinP p (stepP p s u x).1 = true then 0 else 60 else 10) := by unfold Hid; rw [h1.out]; simp
  obtain ⟨⟨q1, q2⟩, hq⟩ : ∃ z, stepP p s u x = z := ⟨_, rfl⟩
  rw [hq] at h1 hRe
  simp only [] at h1 hRe
  clear hq
  go_wp2_with fail
  refine (hRe.out _ hbw).mono ?_
  rintro e w5 ⟨A5, c5, rfl, hr5, hb5⟩
  replace hbw := bl_step hbw hb5
  clear hb5 hRe
  cases q2
  · have hz : Hid (acceptP p s u x = 10) := by unfold Hid; rw [h1.out]; rfl
    go_wp2
    go_ret
    exact ⟨by rw [← hr.out, hz.out]; first | rfl | simp, hbw⟩
  have hWi2 := hidI (hWi.out _ A5 q1 c5 hbw hr5)
  obtain ⟨b3, hb3⟩ : ∃ z, withinP p q1 = z := ⟨_, rfl⟩
  rw [hb3] at hWi2 h1
  clear hb3 hWi
  go_wp2_with fail
  refine hWi2.out.mono ?_
  rintro e w6 ⟨rfl, hb6⟩
  replace hbw := bl_step hbw hb6
  clear hb6 hWi2
  cases b3
  · have hz : Hid (acceptP p s u x = 60) := by unfold Hid; rw [h1.out]; rfl
    go_wp2
    go_ret
    exact ⟨by rw [← hr.out, hz.out]; first | rfl | simp, hbw⟩
  · have hz : Hid (acceptP p s u x = 0) := by unfold Hid; rw [h1.out]; rfl
    go_wp2
    go_ret
    exact ⟨by rw [← hr.out, hz.out]; first | rfl | simp, hbw⟩
end Go.Proofs.Ythdaidmjjcmccaa
