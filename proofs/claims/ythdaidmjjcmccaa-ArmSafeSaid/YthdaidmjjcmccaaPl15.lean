/- Proved here: lemmas and contracts (what a function of the program computes) that the proofs of the laws of this seat lean on. Conditions: as each theorem states. -/
import Derived.Test.YthdaidmjjcmccaaPl14
set_option linter.unusedVariables false
set_option linter.unusedSimpArgs false
namespace Go.Pk
open Go.RowKit
theorem AccAt.inj {w : World} {g : Nat} {o o' : Bool} (h : AccAt w (some ⟨g, 0, none⟩) o) (k : AccAt w (some ⟨g, 0, none⟩) o') : o = o' := by
  have e := h.1.symm.trans k.1
  simpa using e
theorem accAt_eq {w : World} {g : Nat} {o o' : Bool} (h : AccAt w (some ⟨g, 0, none⟩) o) (e : o = o') : AccAt w (some ⟨g, 0, none⟩) o' := e ▸ h
theorem InS.one {l : List Sp} (h : InS l) (i : Nat) : InSp (l.getD i ⟨0, 0⟩) := by
  rw [List.getD_eq_getElem?_getD]
  by_cases hk : i < l.length
  · rw [List.getElem?_eq_getElem hk]; exact h _ (List.getElem_mem hk)
  · rw [List.getElem?_eq_none (by omega)]; unfold InSp; simp
theorem encS_app' (a b : List Sp) : encS (a ++ b) = encS a ++ encS b := by unfold encS; rw [List.flatMap_append]
theorem GoodP.Bk {p : Pl} (h : GoodP p) {i : Nat} (hi : i < p.B.length) : -1000 ≤ p.B.getD i 0 ∧ p.B.getD i 0 ≤ 1000 :=
  h.small.2 _ (by rw [List.getD_eq_getElem?_getD, List.getElem?_eq_getElem hi]; exact List.getElem_mem hi)
theorem GoodP.Ak {p : Pl} (h : GoodP p) {i j : Nat} (hi : i < p.B.length) (hj : j < (p.A.getD i []).length) : -1000 ≤ (p.A.getD i []).getD j 0 ∧ (p.A.getD i []).getD j 0 ≤ 1000 := by
  have hm : p.A.getD i [] ∈ p.A := by rw [List.getD_eq_getElem?_getD, List.getElem?_eq_getElem (by have := h.lens; omega)]; exact List.getElem_mem _
  exact h.small.1 _ hm _ (by rw [List.getD_eq_getElem?_getD (l := p.A.getD i []), List.getElem?_eq_getElem hj]; exact List.getElem_mem hj)
theorem any_range_succ (f : Nat → Bool) (i : Nat) : (List.range (i + 1)).any f = ((List.range i).any f || f i) := by rw [List.range_succ, List.any_append]; simp
end Go.Pk
namespace Go.Proofs.Ythdaidmjjcmccaa
open Go.RowKit Go.Pk Go.Proofs.YthdaidmjjcmccaaW.PrintLast
set_option maxHeartbeats 8000000 in
set_option maxRecDepth 100000 in
theorem Reach_no (g : Nat) (p : Pl) (u : Sp) (A : Option Addr) (l : List Sp) (c : Nat) (w : World) (hk : KitAt w g 116 p) (hl : RdS w A l) (hno : ¬ (boxedP p l = true ∧ emptyB u = false)) :
    Calls Try.prog 20 #[.pointer (some ⟨g, 0, none⟩), .agg #[.int .i64 (u.lo), .int .i64 (u.hi)], .slice A l.length c] w fun e w' => e = .returned (.tuple #[.slice none 0 0, .bool false]) ∧ Below w.heap.size w w' := by
  obtain ⟨ul, uh⟩ := u
  have hB := hidI (fun W (h : KitAt W g 116 p) (h2 : RdS W A l) => boxed_calls g p A l c W h h2)
  have hE : emptyB ⟨ul, uh⟩ = decide (uh < ul) := rfl
  rw [hE] at hno
  clear hE
  generalize boxedP p l = b1 at *
  obtain ⟨b2, hb2⟩ : ∃ b, Hid (decide (uh < ul) = b) := ⟨_, rfl⟩
  rw [hb2.out] at hno
  have hE2 := hidI (fun W => Empty_calls ul uh W)
  rw [hb2.out] at hE2
  replace hno : Hid ((!b1 || b2) = true) := by unfold Hid; cases b1 <;> cases b2 <;> simp_all
  simp only []
  go_enter Try.func20, Try.ntmps20
  go_upto_region 1 with fail
  have hbw := bl_alloc (Below.refl w.heap.size w) (.cells #[.int .i64 ul, .int .i64 uh] 25)
  have hku := blk_new w (.cells #[.int .i64 ul, .int .i64 uh] 25)
  replace hk := hk.below (bl_alloc (Below.refl w.heap.size w) (.cells #[.int .i64 ul, .int .i64 uh] 25))
  replace hl := hl.below (bl_alloc (Below.refl w.heap.size w) (.cells #[.int .i64 ul, .int .i64 uh] 25))
  generalize w.alloc (.cells #[.int .i64 ul, .int .i64 uh] 25) = W1 at *
  obtain ⟨w0, hw0⟩ : ∃ z : World, z = w := ⟨_, rfl⟩
  rw [← hw0] at hbw
  obtain ⟨gu, hgu⟩ : ∃ z, w.heap.size = z := ⟨_, rfl⟩
  rw [hgu] at hku
  rw [hgu]
  clear hgu
  cases b1
  · go_wp2_with fail
    refine (hB.out _ hk hl).mono ?_
    rintro e w1 ⟨rfl, hb1⟩
    replace hbw := bl_step hbw hb1
    subst hw0
    go_wp2
    go_ret2
    exact ⟨rfl, hbw⟩
  · obtain rfl : b2 = true := by simpa [Hid] using hno
    go_wp2_with fail
    refine (hB.out _ hk hl).mono ?_
    rintro e w1 ⟨rfl, hb1⟩
    replace hbw := bl_step hbw hb1
    replace hku := bl_block hb1 hku
    have m0 := blk_two hku
    go_wp2_with fail
    refine (hE2.out _).mono ?_
    rintro e w2 ⟨rfl, hb3⟩
    replace hbw := bl_step hbw hb3
    subst hw0
    go_wp2
    go_ret2
    exact ⟨rfl, hbw⟩
set_option maxHeartbeats 8000000 in
set_option maxRecDepth 100000 in
theorem Reach_yes (g : Nat) (p : Pl) (u : Sp) (A : Option Addr) (l : List Sp) (c : Nat) (w : World) (hg : GoodP p) (hk : KitAt w g 116 p) (hl : RdS w A l) (hil : InS l) (hiu : InSp u) (hbx : boxedP p l = true) (hue : emptyB u = false) :
    Calls Try.prog 20 #[.pointer (some ⟨g, 0, none⟩), .agg #[.int .i64 (u.lo), .int .i64 (u.hi)], .slice A l.length c] w fun e w' => ∃ A' c', e = .returned (.tuple #[.slice A' (reachP p u l).1.length c', .bool (reachP p u l).2]) ∧ RdS w' A' (reachP p u l).1 ∧ Below w.heap.size w w' := by
  have hlens := hg.lens
  have hbl : l.length = p.B.length := by have := hbx; unfold boxedP areP at this; simp at this; omega
  have hreach : reachP p u l = (if (List.range p.B.length).any (reachO p u l) then ([], false) else ((List.range p.B.length).map fun i => plusS (reachParts p u l i), true)) := by unfold reachP; rw [if_pos ⟨hbx, hue⟩]
  replace hreach := hidI hreach
  obtain ⟨n, hn⟩ : ∃ n, n = p.B.length := ⟨_, rfl⟩
  have hn3 : 1 ≤ n ∧ n ≤ 3 := by omega
  have hZ : Hid (∀ i, i < n → (p.A.getD i []).length = n ∧ InI (p.A.getD i []) ∧ i < p.B.length ∧ i < p.W.length ∧ i < p.A.length) := by
    intro i hi
    have := hg.row (i := i) (by omega)
    exact ⟨by omega, this.2, by omega, by omega, by omega⟩
  have hAn : Hid (p.A.length = n) := by unfold Hid; omega
  have hln : Hid (l.length = n) := by unfold Hid; omega
  replace hn := hidI hn
  have hB := hidI (fun W (h : KitAt W g 116 p) (h2 : RdS W A l) => boxed_calls g p A l c W h h2)
  rw [hbx] at hB
  have hE : emptyB u = decide (u.hi < u.lo) := rfl
  rw [hE] at hue
  have hE2 := hidI (fun W => Empty_calls u.lo u.hi W)
  rw [hue] at hE2
  clear hlens hbl hE hue hbx
  obtain ⟨ul, hul⟩ : ∃ z, u.lo = z := ⟨_, rfl⟩
  obtain ⟨uh, huh⟩ : ∃ z, u.hi = z := ⟨_, rfl⟩
  rw [hul, huh] at hE2
  rw [hul, huh]
  obtain ⟨w0, hw0⟩ : ∃ z : World, z = w := ⟨_, rfl⟩
  rw [← hw0] at hk hl
  go_enter Try.func20, Try.ntmps20
  go_upto_region 1 with fail
  have hbw : Below w0.heap.size w0 (w.alloc (.cells #[.int .i64 ul, .int .i64 uh] 25)) := by rw [hw0]; exact bl_alloc (Below.refl w.heap.size w) _
  have hku := blk_new w (.cells #[.int .i64 ul, .int .i64 uh] 25)
  generalize w.alloc (.cells #[.int .i64 ul, .int .i64 uh] 25) = W1 at *
  obtain ⟨gu, hgu⟩ : ∃ z, w.heap.size = z := ⟨_, rfl⟩
  rw [hgu] at hku
  rw [hgu]
  have hgu0 : w0.heap.size ≤ gu := by rw [hw0]; omega
  clear hgu
  go_wp2_with fail
  refine (hB.out _ (hk.below hbw) (hl.below hbw)).mono ?_
  rintro e w1 ⟨rfl, hb1⟩
  replace hbw := bl_step hbw hb1
  replace hku := bl_block hb1 hku
  clear hb1 hB
  have m0 := blk_two hku
  go_wp2_with fail
  refine (hE2.out _).mono ?_
  rintro e w2 ⟨rfl, hb2⟩
  replace hbw := bl_step hbw hb2
  replace hku := bl_block hb2 hku
  clear hb2 hE2 m0
  replace hw0 := hidI hw0
  obtain ⟨q1, q2, hkc, hr1, hr2⟩ := hk
  obtain ⟨aA, cA, aB, cB, aW, cW, aI, cI, aS, cS, aG, cG⟩ := q2
  obtain ⟨hA, hB, hW, -, -, -, kA, kB, kW, -, -, -⟩ := hr2
  simp only [] at hA hB hW kA kB kW
  go_upto_region 4 with fail
  have hka := blk_new w2 (.cells #[.bool false] 119)
  have hba := bl_alloc (Below.refl w2.heap.size w2) (.cells #[.bool false] 119)
  have hgua := blk_lt hku
  replace hku := bl_block hba hku
  have hgl := blk_lt (bl_block hbw hkc)
  have hgug : g ≠ gu := by have := blk_lt hkc; omega
  replace hbw := bl_step hbw hba
  generalize w2.alloc (.cells #[.bool false] 119) = W3 at *
  obtain ⟨ga, hga⟩ : ∃ z, w2.heap.size = z := ⟨_, rfl⟩
  rw [hga] at hka hgl hgua
  rw [hga]
  have hla : w0.heap.size ≤ (⟨ga, 0, none⟩ : Addr).block := by show w0.heap.size ≤ ga; omega
  have hga2 := blk_lt hka
  clear hga hba
  have hacc := AccAt.blk hka
  clear hka
  have hk9 : W3.cell? ⟨g, 9, none⟩ = some (.slice aA p.A.length cA) := blk_cell (bl_block hbw hkc) 9 (by rfl)
  go_upto_region 6 with fail
  clear hk9
  go_loopw [9, 10, 11, 12, 13, 14, 29] (fun o v10 v11 v12 v13 v14 x wr => ∃ i : Nat, i ≤ n ∧ x = .int .i64 i ∧ Below w0.heap.size w0 wr ∧ wr.heap[gu]? = some (.cells #[.int .i64 ul, .int .i64 uh] 25 (0, 0)) ∧ AccAt wr (some ⟨ga, 0, none⟩) ((List.range i).any (reachO p u l)) ∧ wr.ownsRow (ga + 1) 25 2 o i (encS ((List.range i).map fun i => plusS (reachParts p u l i)))) (fun _ _ _ _ _ _ x _ => (n - intOf x).toNat)
  case atStart => exact ⟨0, by omega, rfl, hbw, hku, hacc, World.ownsRow_nil _ _ _ _⟩
  case round =>
    clear hbw hku hacc hga2
    obtain ⟨i, hi, rfl, hbw, hku, hacc, ho⟩ := hrel
    by_cases hlt : i < n
    · obtain ⟨z1, z2, z3, z4, z5⟩ := hZ.out i hlt
      have hgo := hidI (hg.Bk z3)
      have hwo := hidI ((hg.2.2.2.2.2.1 : InS p.W).one i)
      have hAk := hidI (fun j (hj : j < n) => hg.Ak (i := i) (j := j) z3 (by omega))
      obtain ⟨bA, oA, B, cB_, rfl, hc0, hcB, hrB⟩ := hA.2 i z5
      replace hc0 := bl_cell hbw hc0
      obtain ⟨bB, oB, rfl, hc1⟩ := hB.at z3
      obtain ⟨bW, oW, rfl, hc2, hc3⟩ := hW.at z4
      have hRP : Hid (reachParts p u l i = [timesS u (wholeI (p.B.getD i 0)), p.W.getD i ⟨0, 0⟩] ++ (List.range n).map fun j => timesS (l.getD j ⟨0, 0⟩) (wholeI ((p.A.getD i []).getD j 0))) := by unfold Hid reachParts; rw [z1]
      have hRO : Hid (reachO p u l i = (reachT p u l i n || plusO (reachParts p u l i))) := by unfold Hid reachO; rw [z1]
      have hRT : Hid (∀ m, reachT p u l i m = (timesO u (wholeI (p.B.getD i 0)) || (List.range m).any fun j => timesO (l.getD j ⟨0, 0⟩) (wholeI ((p.A.getD i []).getD j 0)))) := fun m => rfl
      obtain ⟨Bi, hBi⟩ : ∃ z, p.B.getD i 0 = z := ⟨_, rfl⟩
      obtain ⟨Wi, hWi⟩ : ∃ z, p.W.getD i ⟨0, 0⟩ = z := ⟨_, rfl⟩
      obtain ⟨li, hli⟩ : ∃ z, p.A.getD i [] = z := ⟨_, rfl⟩
      rw [hBi] at hc1 hgo hRP hRT
      rw [hWi] at hc2 hc3 hwo hRP
      rw [hli] at hc0 hcB hrB z1 z2 hAk hRP hRT
      obtain ⟨o0, ho0⟩ : ∃ z, (List.range i).any (reachO p u l) = z := ⟨_, rfl⟩
      rw [ho0] at hacc
      replace ho0 := hidI ho0
      obtain ⟨wl, hwl⟩ : ∃ z, Wi.lo = z := ⟨_, rfl⟩
      obtain ⟨wh, hwh⟩ : ∃ z, Wi.hi = z := ⟨_, rfl⟩
      rw [hwl] at hc2
      rw [hwh] at hc3
      obtain ⟨T0, hT0⟩ : ∃ z, timesS u (wholeI Bi) = z := ⟨_, rfl⟩
      obtain ⟨t0, ht0⟩ : ∃ z, timesO u (wholeI Bi) = z := ⟨_, rfl⟩
      have hwhole := hidI (fun W => whole_calls Bi W hgo.out.1 hgo.out.2)
      obtain ⟨kk, hkk⟩ : ∃ z, wholeI Bi = z := ⟨_, rfl⟩
      have hkr : -9223372036854775808 ≤ kk ∧ kk ≤ 9223372036854775807 := by rw [← hkk]; unfold wholeI; have := hgo.out; omega
      rw [hkk] at hT0 ht0 hwhole
      have hTi := hidI (fun W o (h : AccAt W (some ⟨ga, 0, none⟩) o) => Times_calls (some ⟨ga, 0, none⟩) o u kk W h hiu hkr.1 hkr.2)
      rw [hT0, ht0, hul, huh] at hTi
      rw [hkk, hT0] at hRP
      rw [hkk, ht0] at hRT
      have hT0i : Hid (InSp T0) := by unfold Hid; rw [← hT0]; exact timesS_in _ _
      obtain ⟨tl, htl⟩ : ∃ z, T0.lo = z := ⟨_, rfl⟩
      obtain ⟨th, hth⟩ : ∃ z, T0.hi = z := ⟨_, rfl⟩
      rw [htl, hth] at hTi
      clear hT0 ht0 hkk hkr hgo
      have htl' := hidI (And.intro htl hth)
      have hwl' := hidI (And.intro hwl hwh)
      clear htl hth hwl hwh
      replace hBi := hidI hBi
      replace hWi := hidI hWi
      replace hli := hidI hli
      have hd : decide ((i : Int) < (p.A.length : Int)) = true := decide_eq_true (by omega)
      go_upto_region 8 with fail
      have hk_g : wr.heap[g]? = some (.cells #[.slice q1.aA p.A.length q1.cA, .slice q1.aB p.B.length q1.cB, .int .i64 p.inp.lo, .int .i64 p.inp.hi, .slice q1.aW p.W.length q1.cW, .slice q1.aI p.Inv.length q1.cI, .slice q1.aS p.Safe.length q1.cS, .slice q1.aG p.gain.length q1.cG, .int .i64 p.bias, .slice (some ⟨bA, oA, none⟩) p.A.length cA, .slice (some ⟨bB, oB, none⟩) p.B.length cB, .int .i64 p.inp.lo, .int .i64 p.inp.hi, .slice (some ⟨bW, oW, none⟩) p.W.length cW, .slice aI p.Inv.length cI, .slice aS p.Safe.length cS, .slice aG p.gain.length cG, .int .i64 p.bias] 116 (0, 0)) := bl_block hbw hkc
      have hk_gu := hku
      have hd3 : decide ((i : Int) < (p.B.length : Int)) = true := decide_eq_true (by omega)
      have hd4 : decide ((i : Int) < (p.W.length : Int)) = true := decide_eq_true (by omega)
      have ha_a := hacc
      have hl_a := hla
      have p_a_g : PNe (some ⟨ga, 0, none⟩) g := PNe.of (by show ga ≠ g; have := blk_lt hkc; omega)
      have p_a_gu : PNe (some ⟨ga, 0, none⟩) gu := PNe.of (by show ga ≠ gu; omega)
      have hga5 := hacc.lt
      have hob := hidI (fun k (hk : u9.ownBlock = some k) => (own_lt ho k hk).2)
      obtain ⟨B5, hB5⟩ : ∃ z, wr.heap.size = z := ⟨_, rfl⟩
      rw [hB5] at hob hga5
      have hs5 : B5 ≤ wr.drew.heap.size := by show B5 ≤ wr.heap.size; omega
      clear hB5 hku hacc
      replace ho := own_drew ho
      replace hk_g := blk_drew hk_g
      replace hk_gu := blk_drew hk_gu
      replace ha_a := AccAt.below ha_a (bl_drew (Below.refl _ _))
      replace hbw := bl_drew hbw
      refine start_ (n := 21) (S := fun w' => w'.cell? ⟨gu, 0, none⟩ = some (.int .i64 ul) ∧ w'.cell? ⟨gu, 1, none⟩ = some (.int .i64 uh) ∧ w'.cell? ⟨g, 10, none⟩ = some (.slice (some ⟨bB, oB, none⟩) p.B.length cB) ∧ w'.cell? ⟨g, 13, none⟩ = some (.slice (some ⟨bW, oW, none⟩) p.W.length cW) ∧ w'.cell? ⟨bB, oB + i, none⟩ = some (.int .i64 Bi) ∧ w'.cell? ⟨bW, oW + i * 2, none⟩ = some (.int .i64 wl) ∧ w'.cell? ⟨bW, oW + i * 2 + 1, none⟩ = some (.int .i64 wh)) (ds := []) #[false, false, false, false, false, false, false, false, false, false, false, false, false, false, false, false, false, false, false, false, false] (by kernel_rfl) rfl rfl ⟨(blk_cell hk_gu 0 (by rfl)), (blk_cell hk_gu 1 (by rfl)), (blk_cell hk_g 10 (by rfl)), (blk_cell hk_g 13 (by rfl)), (bl_cell hbw hc1), (bl_cell hbw hc2), (bl_cell hbw hc3)⟩ (fun hHeld => ?_)
      generalize wr.drew = wn at *
      refine pure_ (i := 1) (N := some 35) (v := ?_) (a' := ?_) #[false, true, false, false, false, false, false, false, false, false, false, false, false, false, false, false, false, false, false, false, false] rfl rfl (by kernel_rfl) (fun _ _ _ h => h) (Or.inl ⟨by rfl, ?_⟩) ?_ ?_
      rotate_left
      · intro w'
        go_simp
        with_reducible rfl
      rotate_left
      · simp only [Act.put, List.setIfInBounds_toArray, List.set_cons_zero, List.set_cons_succ, i64_w, i32_w]
        rfl
      refine pure_ (i := 2) (N := some 36) (v := ?_) (a' := ?_) #[false, true, true, false, false, false, false, false, false, false, false, false, false, false, false, false, false, false, false, false, false] rfl rfl (by kernel_rfl) (fun _ _ _ h => h) (Or.inl ⟨by rfl, ?_⟩) ?_ ?_
      rotate_left
      · intro w'
        go_simp
        with_reducible rfl
      rotate_left
      · simp only [Act.put, List.setIfInBounds_toArray, List.set_cons_zero, List.set_cons_succ, i64_w, i32_w]
        rfl
      refine pure_ (i := 3) (N := some 37) (v := ?_) (a' := ?_) #[false, true, true, true, false, false, false, false, false, false, false, false, false, false, false, false, false, false, false, false, false] rfl rfl (by kernel_rfl) (fun _ _ _ h => h) (Or.inl ⟨by rfl, ?_⟩) ?_ ?_
      rotate_left
      · intro w'
        go_simp
        with_reducible rfl
      rotate_left
      · simp only [Act.put, List.setIfInBounds_toArray, List.set_cons_zero, List.set_cons_succ, i64_w, i32_w]
        rfl
      refine pure_ (i := 4) (N := some 38) (v := ?_) (a' := ?_) #[false, true, true, true, true, false, false, false, false, false, false, false, false, false, false, false, false, false, false, false, false] rfl rfl (by kernel_rfl) (fun _ _ _ h => h) (Or.inl ⟨by rfl, ?_⟩) ?_ ?_
      rotate_left
      · intro w'
        go_simp
        with_reducible rfl
      rotate_left
      · simp only [Act.put, List.setIfInBounds_toArray, List.set_cons_zero, List.set_cons_succ, i64_w, i32_w]
        rfl
      refine pure_ (i := 6) (N := some 40) (v := ?_) (a' := ?_) #[false, true, true, true, true, false, true, false, false, false, false, false, false, false, false, false, false, false, false, false, false] rfl rfl (by kernel_rfl) (fun _ _ _ h => h) (Or.inl ⟨by rfl, ?_⟩) ?_ ?_
      rotate_left
      · intro w'
        go_simp
        with_reducible rfl
      rotate_left
      · simp only [Act.put, List.setIfInBounds_toArray, List.set_cons_zero, List.set_cons_succ, i64_w, i32_w]
        rfl
      refine pure_ (i := 11) (N := some 45) (v := ?_) (a' := ?_) #[false, true, true, true, true, false, true, false, false, false, false, true, false, false, false, false, false, false, false, false, false] rfl rfl (by kernel_rfl) (fun _ _ _ h => h) (Or.inl ⟨by rfl, ?_⟩) ?_ ?_
      rotate_left
      · intro w'
        go_simp
        with_reducible rfl
      rotate_left
      · simp only [Act.put, List.setIfInBounds_toArray, List.set_cons_zero, List.set_cons_succ, i64_w, i32_w]
        rfl
      refine pure_ (i := 12) (N := some 46) (v := ?_) (a' := ?_) #[false, true, true, true, true, false, true, false, false, false, false, true, true, false, false, false, false, false, false, false, false] rfl rfl (by kernel_rfl) (fun _ _ _ h => h) (Or.inl ⟨by rfl, ?_⟩) ?_ ?_
      rotate_left
      · intro w'
        go_simp
        with_reducible rfl
      rotate_left
      · simp only [Act.put, List.setIfInBounds_toArray, List.set_cons_zero, List.set_cons_succ, i64_w, i32_w]
        rfl
      refine pure_ (i := 13) (N := some 47) (v := ?_) (a' := ?_) #[false, true, true, true, true, false, true, false, false, false, false, true, true, true, false, false, false, false, false, false, false] rfl rfl (by kernel_rfl) (fun _ _ _ h => h) (Or.inl ⟨by rfl, ?_⟩) ?_ ?_
      rotate_left
      · intro w'
        go_simp
        with_reducible rfl
      rotate_left
      · simp only [Act.put, List.setIfInBounds_toArray, List.set_cons_zero, List.set_cons_succ, i64_w, i32_w]
        rfl
      refine pure_ (i := 14) (N := some 48) (v := ?_) (a' := ?_) #[false, true, true, true, true, false, true, false, false, false, false, true, true, true, true, false, false, false, false, false, false] rfl rfl (by kernel_rfl) (fun _ _ _ h => h) (Or.inl ⟨by rfl, ?_⟩) ?_ ?_
      rotate_left
      · intro w'
        go_simp
        with_reducible rfl
      rotate_left
      · simp only [Act.put, List.setIfInBounds_toArray, List.set_cons_zero, List.set_cons_succ, i64_w, i32_w]
        rfl
      refine pure_ (i := 16) (N := some 50) (v := ?_) (a' := ?_) #[false, true, true, true, true, false, true, false, false, false, false, true, true, true, true, false, true, false, false, false, false] rfl rfl (by kernel_rfl) (fun _ _ _ h => h) (Or.inl ⟨by rfl, ?_⟩) ?_ ?_
      rotate_left
      · intro w'
        go_simp
        with_reducible rfl
      rotate_left
      · simp only [Act.put, List.setIfInBounds_toArray, List.set_cons_zero, List.set_cons_succ, i64_w, i32_w]
        rfl
      refine take_ (i := 0) (N := some 34) (v := ?_) (a' := ?_) #[true, true, true, true, true, false, true, false, false, false, false, true, true, true, true, false, true, false, false, false, false] rfl rfl (by kernel_rfl) (fun _ _ _ h => h) (Or.inl ⟨by rfl, ?_⟩) hHeld ?_ ?_
      rotate_left
      · rintro w' ⟨s0, s1, s2, s3, s4, s5, s6⟩
        go_simp
        with_reducible rfl
      rotate_left
      · simp only [Act.put, List.setIfInBounds_toArray, List.set_cons_zero, List.set_cons_succ, i64_w, i32_w]
        rfl
      refine take_ (i := 5) (N := some 39) (v := ?_) (a' := ?_) #[true, true, true, true, true, true, true, false, false, false, false, true, true, true, true, false, true, false, false, false, false] rfl rfl (by kernel_rfl) (fun _ _ _ h => h) (Or.inl ⟨by rfl, ?_⟩) hHeld ?_ ?_
      rotate_left
      · rintro w' ⟨s0, s1, s2, s3, s4, s5, s6⟩
        go_simp
        with_reducible rfl
      rotate_left
      · simp only [Act.put, List.setIfInBounds_toArray, List.set_cons_zero, List.set_cons_succ, i64_w, i32_w]
        rfl
      refine pure_ (i := 7) (N := some 41) (v := ?_) (a' := ?_) #[true, true, true, true, true, true, true, true, false, false, false, true, true, true, true, false, true, false, false, false, false] rfl rfl (by kernel_rfl) (fun _ _ _ h => h) (Or.inl ⟨by rfl, ?_⟩) ?_ ?_
      rotate_left
      · intro w'
        go_simp
        with_reducible rfl
      rotate_left
      · simp only [Act.put, List.setIfInBounds_toArray, List.set_cons_zero, List.set_cons_succ, i64_w, i32_w]
        rfl
      refine take_ (i := 8) (N := some 42) (v := ?_) (a' := ?_) #[true, true, true, true, true, true, true, true, true, false, false, true, true, true, true, false, true, false, false, false, false] rfl rfl (by kernel_rfl) (fun _ _ _ h => h) (Or.inl ⟨by rfl, ?_⟩) hHeld ?_ ?_
      rotate_left
      · rintro w' ⟨s0, s1, s2, s3, s4, s5, s6⟩
        go_simp
        with_reducible rfl
      rotate_left
      · simp only [Act.put, List.setIfInBounds_toArray, List.set_cons_zero, List.set_cons_succ, i64_w, i32_w]
        rfl
      refine take_ (i := 15) (N := some 49) (v := ?_) (a' := ?_) #[true, true, true, true, true, true, true, true, true, false, false, true, true, true, true, true, true, false, false, false, false] rfl rfl (by kernel_rfl) (fun _ _ _ h => h) (Or.inl ⟨by rfl, ?_⟩) hHeld ?_ ?_
      rotate_left
      · rintro w' ⟨s0, s1, s2, s3, s4, s5, s6⟩
        go_simp
        with_reducible rfl
      rotate_left
      · simp only [Act.put, List.setIfInBounds_toArray, List.set_cons_zero, List.set_cons_succ, i64_w, i32_w]
        rfl
      refine pure_ (i := 17) (N := some 51) (v := ?_) (a' := ?_) #[true, true, true, true, true, true, true, true, true, false, false, true, true, true, true, true, true, true, false, false, false] rfl rfl (by kernel_rfl) (fun _ _ _ h => h) (Or.inl ⟨by rfl, ?_⟩) ?_ ?_
      rotate_left
      · intro w'
        go_simp
        with_reducible rfl
      rotate_left
      · simp only [Act.put, List.setIfInBounds_toArray, List.set_cons_zero, List.set_cons_succ, i64_w, i32_w]
        rfl
      refine take_ (i := 18) (N := some 52) (v := ?_) (a' := ?_) #[true, true, true, true, true, true, true, true, true, false, false, true, true, true, true, true, true, true, true, false, false] rfl rfl (by kernel_rfl) (fun _ _ _ h => h) (Or.inl ⟨by rfl, ?_⟩) hHeld ?_ ?_
      rotate_left
      · rintro w' ⟨s0, s1, s2, s3, s4, s5, s6⟩
        go_simp
        with_reducible rfl
      rotate_left
      · simp only [Act.put, List.setIfInBounds_toArray, List.set_cons_zero, List.set_cons_succ, i64_w, i32_w]
        rfl
      refine one_ (i := 9) (N := some 43) #[true, true, true, true, true, true, true, true, true, true, false, true, true, true, true, true, true, true, true, false, false] rfl rfl (by kernel_rfl) (by decide) (fun K hK => ?_)
      refine goes_ Try.func65 (by kernel_rfl) rfl #[.int .i64 Bi] (by rfl) rfl rfl (by simp only [List.map_toArray, List.map_cons, List.map_nil] <;> rfl) ?_
      refine (hwhole.out _).mono ?_
      rintro e wn ⟨rfl, rfl⟩
      refine ⟨_, rfl, ?_⟩
      clear hHeld
      refine hK.out _ _ ⟨(blk_cell hk_gu 0 (by rfl)), (blk_cell hk_gu 1 (by rfl)), (blk_cell hk_g 10 (by rfl)), (blk_cell hk_g 13 (by rfl)), (bl_cell hbw hc1), (bl_cell hbw hc2), (bl_cell hbw hc3)⟩ (fun hHeld => ?_)
      clear hK K
      refine norm_ (a' := ?_) ?_ ?_
      rotate_left
      · show Act.put _ (some 43) _ = _
        simp only [Act.put, List.setIfInBounds_toArray, List.set_cons_zero, List.set_cons_succ, i64_w, i32_w]
        rfl
      refine one_ (i := 10) (N := some 44) #[true, true, true, true, true, true, true, true, true, true, true, true, true, true, true, true, true, true, true, false, false] rfl rfl (by kernel_rfl) (by decide) (fun K hK => ?_)
      refine goes_ Try.func64 (by kernel_rfl) rfl #[.pointer (some ⟨ga, 0, none⟩), .agg #[.int .i64 ul, .int .i64 uh], .int .i64 kk] (by rfl) rfl rfl (by simp only [List.map_toArray, List.map_cons, List.map_nil] <;> rfl) ?_
      refine (hTi.out _ _ ha_a).mono ?_
      rintro e wn ⟨rfl, hbn⟩
      refine ⟨_, rfl, ?_⟩
      replace hk_g := blk_acc hbn hk_g p_a_g
      replace hk_gu := blk_acc hbn hk_gu p_a_gu
      replace ha_a := AccAt.or ha_a hbn
      replace hbw := bl_own hbw hl_a hbn
      replace hs5 : B5 ≤ wn.heap.size := by have h_ := hbn.size; rw [orCell_size] at h_; omega
      replace ho := own_acc ho hbn (fun k hk => PNe.of (by have := (own_lt ho k hk).1; simp only []; omega))
      clear hbn
      clear hHeld
      refine hK.out _ _ ⟨(blk_cell hk_gu 0 (by rfl)), (blk_cell hk_gu 1 (by rfl)), (blk_cell hk_g 10 (by rfl)), (blk_cell hk_g 13 (by rfl)), (bl_cell hbw hc1), (bl_cell hbw hc2), (bl_cell hbw hc3)⟩ (fun hHeld => ?_)
      clear hK K
      refine norm_ (a' := ?_) ?_ ?_
      rotate_left
      · show Act.put _ (some 44) _ = _
        simp only [Act.put, List.setIfInBounds_toArray, List.set_cons_zero, List.set_cons_succ, i64_w, i32_w]
        rfl
      refine one_ (i := 19) (N := some 53) #[true, true, true, true, true, true, true, true, true, true, true, true, true, true, true, true, true, true, true, true, false] rfl rfl (by kernel_rfl) (by decide) (fun K hK => ?_)
      refine value_ (w1 := wn.alloc (.cells #[.int .i64 tl, .int .i64 th, .int .i64 wl, .int .i64 wh] 25)) (v := .slice (some ⟨wn.heap.size, 0, none⟩) 2 2) (by rfl) rfl ?_ ?_
      · go_simp
        try rfl
      have hk_19 : (wn.alloc (.cells #[.int .i64 tl, .int .i64 th, .int .i64 wl, .int .i64 wh] 25)).heap[wn.heap.size]? = some (.cells #[.int .i64 tl, .int .i64 th, .int .i64 wl, .int .i64 wh] 25 (0, 0)) := blk_new wn _
      have hle_19 : w0.heap.size ≤ wn.heap.size := hbw.size
      have p_a_19 : PNe (some ⟨ga, 0, none⟩) wn.heap.size := AccAt.ne ha_a (Nat.le_refl _)
      replace hk_g := blk_alloc hk_g (.cells #[.int .i64 tl, .int .i64 th, .int .i64 wl, .int .i64 wh] 25)
      replace hk_gu := blk_alloc hk_gu (.cells #[.int .i64 tl, .int .i64 th, .int .i64 wl, .int .i64 wh] 25)
      replace ha_a := AccAt.below ha_a (bl_alloc (Below.refl _ _) (.cells #[.int .i64 tl, .int .i64 th, .int .i64 wl, .int .i64 wh] 25))
      replace hbw := bl_alloc hbw (.cells #[.int .i64 tl, .int .i64 th, .int .i64 wl, .int .i64 wh] 25)
      replace ho := own_alloc ho (.cells #[.int .i64 tl, .int .i64 th, .int .i64 wl, .int .i64 wh] 25)
      have hf19 : B5 ≤ wn.heap.size := hs5
      replace hs5 : B5 ≤ (wn.alloc (.cells #[.int .i64 tl, .int .i64 th, .int .i64 wl, .int .i64 wh] 25)).heap.size := by have h_ := (bl_alloc (Below.refl wn.heap.size wn) (.cells #[.int .i64 tl, .int .i64 th, .int .i64 wl, .int .i64 wh] 25)).size; omega
      generalize wn.heap.size = g19 at *
      generalize wn.alloc (.cells #[.int .i64 tl, .int .i64 th, .int .i64 wl, .int .i64 wh] 25) = wn at *
      clear hHeld
      refine hK.out _ _ ⟨(blk_cell hk_gu 0 (by rfl)), (blk_cell hk_gu 1 (by rfl)), (blk_cell hk_g 10 (by rfl)), (blk_cell hk_g 13 (by rfl)), (bl_cell hbw hc1), (bl_cell hbw hc2), (bl_cell hbw hc3)⟩ (fun hHeld => ?_)
      clear hK K
      refine norm_ (a' := ?_) ?_ ?_
      rotate_left
      · show Act.put _ (some 53) _ = _
        simp only [Act.put, List.setIfInBounds_toArray, List.set_cons_zero, List.set_cons_succ, i64_w, i32_w]
        rfl
      refine pure_ (i := 20) (N := some 12) (v := ?_) (a' := ?_) #[true, true, true, true, true, true, true, true, true, true, true, true, true, true, true, true, true, true, true, true, true] rfl rfl (by kernel_rfl) (fun _ _ _ h => h) (Or.inl ⟨by rfl, ?_⟩) ?_ ?_
      rotate_left
      · intro w'
        go_simp
        with_reducible rfl
      rotate_left
      · simp only [Act.put, List.setIfInBounds_toArray, List.set_cons_zero, List.set_cons_succ, i64_w, i32_w]
        rfl
      refine done_ (by kernel_rfl) ?_
      have hgB : g < B5 := by have := blk_lt hkc; omega
      have hguB : gu < B5 := by omega
      have hB50 : w0.heap.size ≤ B5 := by omega
      have hop : wn.ownsRow B5 25 2 (.slice (some ⟨g19, 0, none⟩) 2 2) 2 (encS [T0, Wi]) := by
        have h := own_fresh (n := 2) (size := 2) (cs := #[.int .i64 tl, .int .i64 th, .int .i64 wl, .int .i64 wh]) hf19 hk_19 (by rfl) (by omega)
        rw [show encS [T0, Wi] = [.int .i64 tl, .int .i64 th, .int .i64 wl, .int .i64 wh] by simp [encS, htl'.out.1, htl'.out.2, hwl'.out.1, hwl'.out.2]]
        exact h
      clear hk_19 hle_19 p_a_19 hf19 hd3 hd4 hc0 hc1 hc2 hc3 hTi hwhole
      obtain ⟨f, hf⟩ : ∃ f : Nat → Sp, f = fun j => timesS (l.getD j ⟨0, 0⟩) (wholeI (li.getD j 0)) := ⟨_, rfl⟩
      obtain ⟨fo, hfo⟩ : ∃ f : Nat → Bool, f = fun j => timesO (l.getD j ⟨0, 0⟩) (wholeI (li.getD j 0)) := ⟨_, rfl⟩
      rw [← hf] at hRP
      rw [← hfo] at hRT
      have hfj : ∀ j, f j = timesS (l.getD j ⟨0, 0⟩) (wholeI (li.getD j 0)) := fun j => by rw [hf]
      have hfoj : ∀ j, fo j = timesO (l.getD j ⟨0, 0⟩) (wholeI (li.getD j 0)) := fun j => by rw [hfo]
      clear hf hfo
      replace hfj := hidI hfj
      replace hfoj := hidI hfoj
      obtain ⟨ps, hps⟩ : ∃ z, z = fun j : Nat => ([T0, Wi] ++ (List.range j).map f) := ⟨_, rfl⟩
      have hpl : ∀ j, (ps j).length = 2 + j := fun j => by rw [hps]; simp; omega
      have hp0 : ps 0 = [T0, Wi] := by rw [hps]; rfl
      have hpS : ∀ j, ps (j + 1) = ps j ++ [f j] := fun j => by rw [hps]; simp [List.range_succ]
      have hpn : ps n = reachParts p u l i := by rw [hps, hRP.out]
      rw [← hp0] at hop
      replace hp0 := hidI hp0
      replace hpS := hidI hpS
      replace hpl := hidI hpl
      replace hpn := hidI hpn
      have hpin : Hid (InS (ps n)) := by
        unfold Hid
        rw [hps]
        intro s hs
        simp only [List.cons_append, List.nil_append, List.mem_cons, List.mem_map] at hs
        rcases hs with rfl | rfl | ⟨j, -, rfl⟩
        · exact hT0i.out
        · exact hwo.out
        · rw [hfj.out]; exact timesS_in _ _
      clear hps hRP
      have hku := hk_gu
      have hacc : AccAt wn (some ⟨ga, 0, none⟩) (o0 || (t0 || (List.range 0).any fo)) := by simpa using ha_a
      clear hk_gu ha_a hk_g
      go_wp2
      go_loopw [12, 13, 14, 56] (fun pv v13 v14 y wi => ∃ j : Nat, j ≤ n ∧ y = .int .i64 j ∧ Below w0.heap.size w0 wi ∧ wi.heap[gu]? = some (.cells #[.int .i64 ul, .int .i64 uh] 25 (0, 0)) ∧ AccAt wi (some ⟨ga, 0, none⟩) (o0 || (t0 || (List.range j).any fo)) ∧ wi.ownsRow (ga + 1) 25 2 u9 i (encS ((List.range i).map fun i => plusS (reachParts p u l i))) ∧ wi.ownsRow B5 25 2 pv (2 + j) (encS (ps j)) ∧ B5 ≤ wi.heap.size) (fun _ _ _ y _ => (n - intOf y).toNat)
      case atStart => exact ⟨0, by omega, rfl, hbw, hku, hacc, ho, hop, hs5⟩
      case round =>
        clear hbw hku hacc ho hop hs5
        obtain ⟨j, hj, rfl, hbw, hku, hacc, ho, hop, hs5⟩ := hrel
        by_cases hjn : j < n
        · obtain ⟨b1, o1, rfl, hc0⟩ := hrB.at (show j < li.length by omega)
          obtain ⟨b2, o2, rfl, hc1, hc2⟩ := hl.at (show j < l.length by have := hln.out; omega)
          replace hc0 := bl_cell hbw hc0
          have hpj := hidI (hpS.out j)
          have hfx := hidI (hfj.out j)
          have hfox := hidI (hfoj.out j)
          have hmb := hidI (hAk.out j hjn)
          have hsi := hidI (hil.one j)
          obtain ⟨⟨sl, sh⟩, hsj⟩ : ∃ z, l.getD j ⟨0, 0⟩ = z := ⟨_, rfl⟩
          rw [hsj] at hc1 hc2 hfx hfox hsi
          simp only [] at hc1 hc2
          clear hsj
          obtain ⟨m1, hm1⟩ : ∃ z, li.getD j 0 = z := ⟨_, rfl⟩
          rw [hm1] at hc0 hfx hfox hmb
          clear hm1
          have hwhole := hidI (fun W => whole_calls m1 W hmb.out.1 hmb.out.2)
          obtain ⟨kk, hkk⟩ : ∃ z, wholeI m1 = z := ⟨_, rfl⟩
          have hkr : -9223372036854775808 ≤ kk ∧ kk ≤ 9223372036854775807 := by rw [← hkk]; unfold wholeI; have := hmb.out; omega
          rw [hkk] at hfx hfox hwhole
          have hTi := hidI (fun W o (h : AccAt W (some ⟨ga, 0, none⟩) o) => Times_calls (some ⟨ga, 0, none⟩) o ⟨sl, sh⟩ kk W h hsi.out hkr.1 hkr.2)
          rw [← hfx.out, ← hfox.out] at hTi
          obtain ⟨⟨xl, xh⟩, hX⟩ : ∃ z, f j = z := ⟨_, rfl⟩
          obtain ⟨x0, hx0⟩ : ∃ z, fo j = z := ⟨_, rfl⟩
          rw [hX, hx0] at hTi
          rw [hX] at hpj
          replace hX := hidI hX
          replace hx0 := hidI hx0
          simp only [] at hTi
          clear hkk hkr hmb hfx hfox
          have hd5 : decide ((j : Int) < (n : Int)) = true := decide_eq_true (by omega)
          have hjx : j < l.length := by have := hln.out; omega
          obtain ⟨A1, c1, rfl, hc1', -, -, -⟩ := own_rdC hop
          go_upto_region 12 with fail
          have hk_gu := hku
          have ha_a := hacc
          have hl_a := hla
          clear hku hacc hc0
          replace ho := own_drew ho
          replace hop := own_drew hop
          have hs5' : B5 ≤ wr.drew.heap.size := hs5
          clear hs5
          have hs5 := hs5'
          clear hs5'
          replace hk_gu := blk_drew hk_gu
          replace ha_a := AccAt.below ha_a (bl_drew (Below.refl _ _))
          replace hbw := bl_drew hbw
          refine start_ (n := 11) (S := fun w' => w'.cell? ⟨b2, o2 + j * 2, none⟩ = some (.int .i64 sl) ∧ w'.cell? ⟨b2, o2 + j * 2 + 1, none⟩ = some (.int .i64 sh)) (ds := []) #[false, false, false, false, false, false, false, false, false, false, false] (by kernel_rfl) rfl rfl ⟨(bl_cell hbw hc1), (bl_cell hbw hc2)⟩ (fun hHeld => ?_)
          generalize wr.drew = wn at *
          refine pure_ (i := 0) (N := some 61) (v := ?_) (a' := ?_) #[true, false, false, false, false, false, false, false, false, false, false] rfl rfl (by kernel_rfl) (fun _ _ _ h => h) (Or.inl ⟨by rfl, ?_⟩) ?_ ?_
          rotate_left
          · intro w'
            go_simp
            with_reducible rfl
          rotate_left
          · simp only [Act.put, List.setIfInBounds_toArray, List.set_cons_zero, List.set_cons_succ, i64_w, i32_w]
            rfl
          refine pure_ (i := 1) (N := some 62) (v := ?_) (a' := ?_) #[true, true, false, false, false, false, false, false, false, false, false] rfl rfl (by kernel_rfl) (fun _ _ _ h => h) (Or.inl ⟨by rfl, ?_⟩) ?_ ?_
          rotate_left
          · intro w'
            go_simp
            with_reducible rfl
          rotate_left
          · simp only [Act.put, List.setIfInBounds_toArray, List.set_cons_zero, List.set_cons_succ, i64_w, i32_w]
            rfl
          refine pure_ (i := 2) (N := some 63) (v := ?_) (a' := ?_) #[true, true, true, false, false, false, false, false, false, false, false] rfl rfl (by kernel_rfl) (fun _ _ _ h => h) (Or.inl ⟨by rfl, ?_⟩) ?_ ?_
          rotate_left
          · intro w'
            go_simp
            with_reducible rfl
          rotate_left
          · simp only [Act.put, List.setIfInBounds_toArray, List.set_cons_zero, List.set_cons_succ, i64_w, i32_w]
            rfl
          refine pure_ (i := 3) (N := some 64) (v := ?_) (a' := ?_) #[true, true, true, true, false, false, false, false, false, false, false] rfl rfl (by kernel_rfl) (fun _ _ _ h => h) (Or.inl ⟨by rfl, ?_⟩) ?_ ?_
          rotate_left
          · intro w'
            go_simp
            with_reducible rfl
          rotate_left
          · simp only [Act.put, List.setIfInBounds_toArray, List.set_cons_zero, List.set_cons_succ, i64_w, i32_w]
            rfl
          refine pure_ (i := 5) (N := some 66) (v := ?_) (a' := ?_) #[true, true, true, true, false, true, false, false, false, false, false] rfl rfl (by kernel_rfl) (fun _ _ _ h => h) (Or.inl ⟨by rfl, ?_⟩) ?_ ?_
          rotate_left
          · intro w'
            go_simp
            with_reducible rfl
          rotate_left
          · simp only [Act.put, List.setIfInBounds_toArray, List.set_cons_zero, List.set_cons_succ, i64_w, i32_w]
            rfl
          refine take_ (i := 4) (N := some 65) (v := ?_) (a' := ?_) #[true, true, true, true, true, true, false, false, false, false, false] rfl rfl (by kernel_rfl) (fun _ _ _ h => h) (Or.inl ⟨by rfl, ?_⟩) hHeld ?_ ?_
          rotate_left
          · rintro w' ⟨s0, s1⟩
            go_simp
            with_reducible rfl
          rotate_left
          · simp only [Act.put, List.setIfInBounds_toArray, List.set_cons_zero, List.set_cons_succ, i64_w, i32_w]
            rfl
          refine one_ (i := 6) (N := some 67) #[true, true, true, true, true, true, true, false, false, false, false] rfl rfl (by kernel_rfl) (by decide) (fun K hK => ?_)
          refine goes_ Try.func65 (by kernel_rfl) rfl #[.int .i64 m1] (by rfl) rfl rfl (by simp only [List.map_toArray, List.map_cons, List.map_nil] <;> rfl) ?_
          refine (hwhole.out _).mono ?_
          rintro e wn ⟨rfl, rfl⟩
          refine ⟨_, rfl, ?_⟩
          clear hHeld
          refine hK.out _ _ ⟨(bl_cell hbw hc1), (bl_cell hbw hc2)⟩ (fun hHeld => ?_)
          clear hK K
          refine norm_ (a' := ?_) ?_ ?_
          rotate_left
          · show Act.put _ (some 67) _ = _
            simp only [Act.put, List.setIfInBounds_toArray, List.set_cons_zero, List.set_cons_succ, i64_w, i32_w]
            rfl
          refine one_ (i := 7) (N := some 68) #[true, true, true, true, true, true, true, true, false, false, false] rfl rfl (by kernel_rfl) (by decide) (fun K hK => ?_)
          refine goes_ Try.func64 (by kernel_rfl) rfl #[.pointer (some ⟨ga, 0, none⟩), .agg #[.int .i64 sl, .int .i64 sh], .int .i64 kk] (by rfl) rfl rfl (by simp only [List.map_toArray, List.map_cons, List.map_nil] <;> rfl) ?_
          refine (hTi.out _ _ ha_a).mono ?_
          rintro e wn ⟨rfl, hbn⟩
          refine ⟨_, rfl, ?_⟩
          replace hk_gu := blk_acc hbn hk_gu p_a_gu
          replace ha_a := AccAt.or ha_a hbn
          replace hbw := bl_own hbw hl_a hbn
          replace hs5 : B5 ≤ wn.heap.size := by have h_ := hbn.size; rw [orCell_size] at h_; omega
          replace ho := own_acc ho hbn (fun k hk => PNe.of (by have := (own_lt ho k hk).1; simp only []; omega))
          replace hop := own_acc hop hbn (fun k hk => PNe.of (by have := (own_lt hop k hk).1; simp only []; omega))
          clear hbn
          clear hHeld
          refine hK.out _ _ ⟨(bl_cell hbw hc1), (bl_cell hbw hc2)⟩ (fun hHeld => ?_)
          clear hK K
          refine norm_ (a' := ?_) ?_ ?_
          rotate_left
          · show Act.put _ (some 68) _ = _
            simp only [Act.put, List.setIfInBounds_toArray, List.set_cons_zero, List.set_cons_succ, i64_w, i32_w]
            rfl
          refine one_ (i := 8) (N := some 69) #[true, true, true, true, true, true, true, true, true, false, false] rfl rfl (by kernel_rfl) (by decide) (fun K hK => ?_)
          refine value_ (w1 := wn.alloc (.cells #[.int .i64 xl, .int .i64 xh] 25)) (v := .slice (some ⟨wn.heap.size, 0, none⟩) 1 1) (by rfl) rfl ?_ ?_
          · go_simp
            try rfl
          have hk_8 : (wn.alloc (.cells #[.int .i64 xl, .int .i64 xh] 25)).heap[wn.heap.size]? = some (.cells #[.int .i64 xl, .int .i64 xh] 25 (0, 0)) := blk_new wn _
          have hle_8 : w0.heap.size ≤ wn.heap.size := hbw.size
          have p_a_8 : PNe (some ⟨ga, 0, none⟩) wn.heap.size := AccAt.ne ha_a (Nat.le_refl _)
          replace hk_gu := blk_alloc hk_gu (.cells #[.int .i64 xl, .int .i64 xh] 25)
          replace ha_a := AccAt.below ha_a (bl_alloc (Below.refl _ _) (.cells #[.int .i64 xl, .int .i64 xh] 25))
          replace hbw := bl_alloc hbw (.cells #[.int .i64 xl, .int .i64 xh] 25)
          replace ho := own_alloc ho (.cells #[.int .i64 xl, .int .i64 xh] 25)
          replace hop := own_alloc hop (.cells #[.int .i64 xl, .int .i64 xh] 25)
          replace hs5 : B5 ≤ (wn.alloc (.cells #[.int .i64 xl, .int .i64 xh] 25)).heap.size := by have h_ := (bl_alloc (Below.refl wn.heap.size wn) (.cells #[.int .i64 xl, .int .i64 xh] 25)).size; omega
          generalize wn.heap.size = g8 at *
          generalize wn.alloc (.cells #[.int .i64 xl, .int .i64 xh] 25) = wn at *
          clear hHeld
          refine hK.out _ _ ⟨(bl_cell hbw hc1), (bl_cell hbw hc2)⟩ (fun hHeld => ?_)
          clear hK K
          refine norm_ (a' := ?_) ?_ ?_
          rotate_left
          · show Act.put _ (some 69) _ = _
            simp only [Act.put, List.setIfInBounds_toArray, List.set_cons_zero, List.set_cons_succ, i64_w, i32_w]
            rfl
          refine one_ (i := 9) (N := some 70) #[true, true, true, true, true, true, true, true, true, true, false] rfl rfl (by kernel_rfl) (by decide) (fun K hK => ?_)
          obtain ⟨v2, w2, hrun, ho2, hg2, -⟩ := run_appRd (P := Try.prog) wn B5 26 26 25 _ 2 _ Try.underlying26 infoSp (by rfl) (by omega) (.slice A1 (2 + j) c1) (2 + j) (encS (ps j)) hop (some ⟨g8, 0, none⟩) 1 1 (encS [⟨xl, xh⟩]) (by rfl) (fun k v hk => ⟨g8, 0, rfl, by rw [Nat.zero_add, blkc hk_8]; simpa [encS] using hk⟩) (by intro v hv; simp [encS] at hv; rcases hv with rfl | rfl <;> rfl) (by omega) (by omega) hs5
          obtain ⟨A2, c2, rfl, hc2', hr2, hn2, -⟩ := own_rdC ho2
          refine value_ (w1 := w2) (v := .slice A2 (2 + j + 1) c2) (by rfl) rfl (exec_app (.tmp 61) (.tmp 69) 26 (by rfl) (by rfl) (by rfl) hrun) ?_
          replace hk_gu := blk_grown hk_gu hg2 (fun e => by have := own_lt hop _ e.symm; omega)
          replace ho := own_grown ho hg2 (by rcases hz : u9.ownBlock with _ | k; exact Or.inl rfl; exact Or.inr (fun e => by have h1 := hob.out k hz; have h2 := own_lt hop k e.symm; omega))
          replace ha_a := AccAt.grown ha_a hg2 (fun e => by have := own_lt hop ga e.symm; omega)
          replace hbw := bl_grown hbw hg2 (fun k hk => by have := own_lt hop k hk; omega)
          replace hs5 : B5 ≤ w2.heap.size := Nat.le_trans hs5 hg2.size
          clear hop hk_8 hle_8 p_a_8 hg2 hrun
          generalize w2 = wn at *
          clear hHeld
          refine hK.out _ _ ⟨(bl_cell hbw hc1), (bl_cell hbw hc2)⟩ (fun hHeld => ?_)
          clear hK K
          refine norm_ (a' := ?_) ?_ ?_
          rotate_left
          · show Act.put _ (some 70) _ = _
            simp only [Act.put, List.setIfInBounds_toArray, List.set_cons_zero, List.set_cons_succ, i64_w, i32_w]
            rfl
          refine pure_ (i := 10) (N := some 12) (v := ?_) (a' := ?_) #[true, true, true, true, true, true, true, true, true, true, true] rfl rfl (by kernel_rfl) (fun _ _ _ h => h) (Or.inl ⟨by rfl, ?_⟩) ?_ ?_
          rotate_left
          · intro w'
            go_simp
            with_reducible rfl
          rotate_left
          · simp only [Act.put, List.setIfInBounds_toArray, List.set_cons_zero, List.set_cons_succ, i64_w, i32_w]
            rfl
          refine done_ (by kernel_rfl) ?_
          have hb64 : ((j : Int) + 1) ≤ 9223372036854775807 := by omega
          go_wp2
          go_roundw
          case rel =>
            refine ⟨j + 1, by omega, by go_num, hbw, hk_gu, accAt_eq ha_a ?_, ho, ?_, hs5⟩
            · rw [any_range_succ, hx0.out]
              simp [Bool.or_assoc]
            · rw [hpj.out, encS_app']; exact ho2
          case measure => simp [intOf]; omega
        · have hje : j = n := by omega
          subst hje
          have hd5 : decide ((j : Int) < (li.length : Int)) = false := decide_eq_false (by omega)
          have hd6 : ¬ j < li.length := by omega
          obtain ⟨A1, c1, rfl, hc1', hrd, hn1, -⟩ := own_rdC hop
          have hpl2 := hpl.out j
          have hEx := hidI (fun W o (hA : AccAt W (some ⟨ga, 0, none⟩) o) (hW : RdS W A1 (ps j)) => Plus_calls (some ⟨ga, 0, none⟩) o A1 (ps j) c1 W hA hW hpin.out (by rw [hpl2]; omega))
          have hrdS : RdS wr A1 (ps j) := ⟨by rw [hpl2]; exact hn1, hrd⟩
          rw [hpl2] at hEx
          have hP : Hid (plusS (reachParts p u l i) = plusS (ps j)) := by unfold Hid; rw [hpn.out]
          have hPo : Hid (reachO p u l i = ((t0 || (List.range j).any fo) || plusO (ps j))) := by unfold Hid; rw [hRO.out, hRT.out, hpn.out]
          obtain ⟨⟨pl_, ph_⟩, hP0⟩ : ∃ z, plusS (ps j) = z := ⟨_, rfl⟩
          obtain ⟨po, hpo⟩ : ∃ z, plusO (ps j) = z := ⟨_, rfl⟩
          rw [hP0, hpo] at hEx
          rw [hP0] at hP
          rw [hpo] at hPo
          simp only [] at hEx
          clear hP0 hpo hrd hpl2
          obtain ⟨A9, c9, rfl, hc9, -, -, -⟩ := own_rdC ho
          go_wp2_with (first | (go_at_call 66; refine (hEx.out _ _ hacc hrdS).mono ?_; rintro e we ⟨rfl, hbe⟩; have ho6 := own_acc ho hbe (fun k hk => PNe.of (by have := (own_lt ho k hk).1; simp only []; omega)); have hacc6 := AccAt.or hacc hbe; have hbw6 := bl_own hbw hla hbe; have hku6 := blk_acc hbe hku p_a_gu) | (at_builtin; go_loud (refine list_appRd (ga + 1) rfl (.tmp 72) (.tmp 75) 26 25 _ 2 _ rfl Try.underlying26 infoSp (by rfl) (by omega) (.slice A9 i c9) i (encS ((List.range i).map fun i => plusS (reachParts p u l i))) (some ⟨we.heap.size, 0, none⟩) 1 1 (encS [⟨pl_, ph_⟩]) rfl rfl (own_alloc ho6 _) (by rfl) (fun k v hk => ⟨we.heap.size, 0, rfl, by rw [Nat.zero_add, blkc (blk_new we (.cells #[.int .i64 pl_, .int .i64 ph_] 25))]; simpa [encS] using hk⟩) (by intro v hv; simp [encS] at hv; rcases hv with rfl | rfl <;> rfl) (by omega) (by omega) (by have h1 := hacc6.lt; have h2 := (bl_alloc (Below.refl _ _) (.cells #[.int .i64 pl_, .int .i64 ph_] 25) : Below we.heap.size we _).size; omega) ?_); intro v1 w9 ho1 hg1 ha1) | fail)
          go_roundw
          case rel =>
            refine ⟨i + 1, by omega, by go_num, bl_grown (bl_alloc hbw6 _) hg1 (fun k hk => by have := own_lt ho6 k hk; have h3 : w0.heap.size ≤ ga := hla; omega), blk_grown (blk_alloc hku6 _) hg1 (fun e => by have := own_lt ho6 gu e.symm; omega), accAt_eq (AccAt.grown (AccAt.below hacc6 (bl_alloc (Below.refl _ _) _)) hg1 (fun e => by have := own_lt ho6 ga e.symm; omega)) ?_, ?_⟩
            · rw [any_range_succ, ho0.out, hPo.out]
              simp [Bool.or_assoc]
            · have e : encS ((List.range (i + 1)).map fun i => plusS (reachParts p u l i)) = encS ((List.range i).map fun i => plusS (reachParts p u l i)) ++ encS [⟨pl_, ph_⟩] := by rw [List.range_succ, List.map_append, encS_app']; simp only [List.map_cons, List.map_nil]; rw [hP.out]
              rw [e]; exact ho1
          case measure => simp [intOf]; omega
    · have hie : i = n := by omega
      subst hie
      have hd : decide ((i : Int) < (p.A.length : Int)) = false := decide_eq_false (by have := hAn.out; omega)
      have hd2 : ¬ i < p.A.length := by have := hAn.out; omega
      have hN := hreach.out
      rw [← hn.out] at hN
      obtain ⟨A', c', rfl, hcc, hrd, hn', -⟩ := own_rdC ho
      obtain ⟨ob, hob⟩ : ∃ z, (List.range i).any (reachO p u l) = z := ⟨_, rfl⟩
      rw [hob] at hN hacc
      have hy := hacc.1
      clear hob
      cases ob
      · rw [if_neg (by simp)] at hN
        replace hN := hidI hN
        go_wp2
        go_ret2
        rw [hN.out]
        exact ⟨A', c', by simp, ⟨by simpa using hn', hrd⟩, by rw [← hw0.out]; exact hbw⟩
      · rw [if_pos rfl] at hN
        replace hN := hidI hN
        go_wp2
        go_ret2
        rw [hN.out]
        exact ⟨none, 0, rfl, ⟨by simp, RdC.nil _ _⟩, by rw [← hw0.out]; exact hbw⟩
end Go.Proofs.Ythdaidmjjcmccaa
