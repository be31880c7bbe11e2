/- Proved here: lemmas and contracts (what a function of the program computes) that the proofs of the laws of this seat lean on. Conditions: as each theorem states. -/
import Derived.Test.YthdaidmjjcmccaaPl15
set_option linter.unusedVariables false
set_option linter.unusedSimpArgs false
namespace Go.Pk
open Go.RowKit
theorem res_ct {P : Program} {fn : Func} {p q : Tmp} {ty : TypeId} (h : fn.results = #[.cell p ty, .tmp q]) (tmps : Array Value) (w : World) (g : Nat) (t : TypeId) (cs : Array Value) (fr : Nat × Nat) (d : TypeDesc) (v : Value)
    (hp : tmps.getD p undef = .pointer (some ⟨g, 0, none⟩)) (hg : w.heap[g]? = some (.cells cs t fr)) (hu : P.underlying ty = some d) (hd : (match d with | .struct _ | .array _ _ => true | _ => false) = true) (hi : (P.info? ty).map (·.size) = some cs.size)
    (hq : tmps.getD q undef = v) :
    (results fn tmps).run P w = .ok (.tuple #[.agg cs, v]) w := by
  have h1 : tmps[p]?.getD undef = .pointer (some ⟨g, 0, none⟩) := by simpa using hp
  have h2 : tmps[q]?.getD undef = v := by simpa using hq
  simp [results, h, h1, h2, asAddr, run_loadVar_row w g t ty cs fr d hg hu hd hi]
end Go.Pk
namespace Go.Proofs.Ythdaidmjjcmccaa
open Go.RowKit Go.Pk Go.Proofs.YthdaidmjjcmccaaW.PrintLast
set_option maxHeartbeats 8000000 in
set_option maxRecDepth 100000 in
theorem Command_no (g : Nat) (p : Pl) (A : Option Addr) (l : List Sp) (c : Nat) (w : World) (hk : KitAt w g 116 p) (hl : RdS w A l) (hno : boxedP p l = false) :
    Calls Try.prog 21 #[.pointer (some ⟨g, 0, none⟩), .slice A l.length c] w fun e w' => e = .returned (.tuple #[.agg #[.int .i64 (0), .int .i64 ((-1))], .bool false]) ∧ Below w.heap.size w w' := by
  have hB := hidI (fun W (h : KitAt W g 116 p) (h2 : RdS W A l) => boxed_calls g p A l c W h h2)
  rw [hno] at hB
  go_enter Try.func21, Try.ntmps21
  go_upto_region 1 with fail
  have hbw := bl_alloc (Below.refl w.heap.size w) (.cells #[.int .i64 0, .int .i64 0] 25)
  have hk4 := blk_new w (.cells #[.int .i64 0, .int .i64 0] 25)
  replace hk := hk.below hbw
  replace hl := hl.below hbw
  generalize w.alloc (.cells #[.int .i64 0, .int .i64 0] 25) = W1 at *
  obtain ⟨w0, hw0⟩ : ∃ z : World, z = w := ⟨_, rfl⟩
  rw [← hw0] at hbw
  obtain ⟨g4, hg4⟩ : ∃ z, w.heap.size = z := ⟨_, rfl⟩
  rw [hg4] at hk4
  rw [hg4]
  have h04 : w0.heap.size ≤ g4 := by rw [hw0]; omega
  clear hg4
  go_wp2_with fail
  refine (hB.out _ hk hl).mono ?_
  rintro e w1 ⟨rfl, hb1⟩
  replace hbw := bl_step hbw hb1
  replace hk4 := bl_block hb1 hk4
  have m0 := blk_two hk4
  go_wp2
  refine bodyPost_ret (res_ct rfl _ _ g4 25 #[.int .i64 0, .int .i64 (-1)] (0, 0) _ _ rfl (blk_put2 hk4 _ _) Try.underlying25 rfl (by kernel_rfl) rfl) rfl ?_
  subst hw0
  exact ⟨rfl, bl_set (bl_set hbw (by show _ ≤ g4; omega) _) (by show _ ≤ g4; omega) _⟩
set_option maxHeartbeats 8000000 in
set_option maxRecDepth 100000 in
theorem Command_yes (g : Nat) (p : Pl) (A : Option Addr) (l : List Sp) (c : Nat) (w : World) (hGl : p.gain.length = p.B.length) (hn3 : p.B.length ≤ 3) (hiG : InI p.gain) (hbias : -9223372036854775808 ≤ p.bias ∧ p.bias ≤ 9223372036854775807) (hk : KitAt w g 116 p) (hl : RdS w A l) (hil : InS l) (hbx : boxedP p l = true) :
    Calls Try.prog 21 #[.pointer (some ⟨g, 0, none⟩), .slice A l.length c] w fun e w' => e = .returned (.tuple #[.agg #[.int .i64 ((commandP p l).1.lo), .int .i64 ((commandP p l).1.hi)], .bool (commandP p l).2]) ∧ Below w.heap.size w w' := by
  have hcmd : commandP p l = (⟨clampTo (plusS (cmdParts p l)).lo p.inp.lo p.inp.hi, clampTo (plusS (cmdParts p l)).hi p.inp.lo p.inp.hi⟩, !(cmdT p l l.length || plusO (cmdParts p l))) := by unfold commandP; rw [if_pos hbx]
  have hbl : l.length = p.B.length ∧ 0 < l.length := by have := hbx; unfold boxedP areP at this; simp at this; omega
  obtain ⟨n, hn⟩ : ∃ n, n = l.length := ⟨_, rfl⟩
  have hN : 1 ≤ n ∧ n ≤ 3 := by omega
  have hGn : Hid (n = p.gain.length) := by unfold Hid; omega
  have hcp : Hid (cmdParts p l = ⟨p.bias, p.bias⟩ :: (List.range n).map fun j => timesS (l.getD j ⟨0, 0⟩) (p.gain.getD j 0)) := by unfold Hid cmdParts; rw [hn]
  have hct : Hid (cmdT p l n = (List.range n).any fun j => timesO (l.getD j ⟨0, 0⟩) (p.gain.getD j 0)) := rfl
  have hB := hidI (fun W (h : KitAt W g 116 p) (h2 : RdS W A l) => boxed_calls g p A l c W h h2)
  rw [hbx] at hB
  rw [← hn] at hcmd
  replace hcmd := hidI hcmd
  replace hn := hidI hn
  clear hbx hbl hn3 hGl
  obtain ⟨bi, hbi⟩ : ∃ z, p.bias = z := ⟨_, rfl⟩
  obtain ⟨il, hinl⟩ : ∃ z, p.inp.lo = z := ⟨_, rfl⟩
  obtain ⟨ih, hinh⟩ : ∃ z, p.inp.hi = z := ⟨_, rfl⟩
  rw [hbi] at hcp hbias
  rw [hinl, hinh] at hcmd
  replace hbias := hidI hbias
  obtain ⟨w0, hw0⟩ : ∃ z : World, z = w := ⟨_, rfl⟩
  rw [← hw0] at hk hl
  go_enter Try.func21, Try.ntmps21
  go_upto_region 1 with fail
  have hbw : Below w0.heap.size w0 (w.alloc (.cells #[.int .i64 0, .int .i64 0] 25)) := by rw [hw0]; exact bl_alloc (Below.refl w.heap.size w) _
  have hk4 := blk_new w (.cells #[.int .i64 0, .int .i64 0] 25)
  generalize w.alloc (.cells #[.int .i64 0, .int .i64 0] 25) = W1 at *
  obtain ⟨g4, hg4⟩ : ∃ z, w.heap.size = z := ⟨_, rfl⟩
  rw [hg4] at hk4
  rw [hg4]
  have hle_g4 : w0.heap.size ≤ g4 := by rw [hw0]; omega
  clear hg4
  replace hw0 := hidI hw0
  go_wp2_with fail
  refine (hB.out _ (hk.below hbw) (hl.below hbw)).mono ?_
  rintro e w1 ⟨rfl, hb1⟩
  replace hbw := bl_step hbw hb1
  replace hk4 := bl_block hb1 hk4
  clear hb1 hB
  obtain ⟨q1, q2, hkc, hr1, hr2⟩ := hk
  obtain ⟨aA, cA, aB, cB, aW, cW, aI, cI, aS, cS, aG, cG⟩ := q2
  obtain ⟨-, -, -, -, -, hG, -, -, -, -, -, -⟩ := hr2
  simp only [] at hG
  replace hkc : w0.heap[g]? = some (.cells #[.slice q1.aA p.A.length q1.cA, .slice q1.aB p.B.length q1.cB, .int .i64 il, .int .i64 ih, .slice q1.aW p.W.length q1.cW, .slice q1.aI p.Inv.length q1.cI, .slice q1.aS p.Safe.length q1.cS, .slice q1.aG p.gain.length q1.cG, .int .i64 bi, .slice aA p.A.length cA, .slice aB p.B.length cB, .int .i64 il, .int .i64 ih, .slice aW p.W.length cW, .slice aI p.Inv.length cI, .slice aS p.Safe.length cS, .slice aG p.gain.length cG, .int .i64 bi] 116 (0, 0)) := by rw [← hbi, ← hinl, ← hinh]; exact hkc
  clear hbi hinl hinh
  go_upto_region 4 with fail
  have hka := blk_new w1 (.cells #[.bool false] 119)
  have hba := bl_alloc (Below.refl w1.heap.size w1) (.cells #[.bool false] 119)
  have hg4a := blk_lt hk4
  replace hk4 := bl_block hba hk4
  have hgl := blk_lt (bl_block hbw hkc)
  have hg04 : g < g4 := by have := blk_lt hkc; omega
  replace hbw := bl_step hbw hba
  generalize w1.alloc (.cells #[.bool false] 119) = W3 at *
  obtain ⟨ga, hga⟩ : ∃ z, w1.heap.size = z := ⟨_, rfl⟩
  rw [hga] at hka hgl hg4a
  rw [hga]
  have hla : w0.heap.size ≤ (⟨ga, 0, none⟩ : Addr).block := by show w0.heap.size ≤ ga; omega
  clear hga hba
  have ha_a := AccAt.blk hka
  have hga2 := blk_lt hka
  clear hka
  have hl_a := hla
  have p_a_g : PNe (some ⟨ga, 0, none⟩) g := PNe.of (by show ga ≠ g; omega)
  have p_a_g4 : PNe (some ⟨ga, 0, none⟩) g4 := PNe.of (by show ga ≠ g4; omega)
  have hk_g4 := hk4
  have hk17 : W3.cell? ⟨g, 17, none⟩ = some (.int .i64 bi) := blk_cell (bl_block hbw hkc) 17 (by rfl)
  have hs5 : ga + 1 ≤ W3.drew.heap.size := by show ga + 1 ≤ W3.heap.size; omega
  clear hk4
  replace hk_g4 := blk_drew hk_g4
  replace ha_a := AccAt.below ha_a (bl_drew (Below.refl _ _))
  replace hbw := bl_drew hbw
  refine start_ (n := 13) (S := fun w' => w'.cell? ⟨g, 17, none⟩ = some (.int .i64 bi)) (ds := []) #[false, false, false, false, false, false, false, false, false, false, false, false, false] (by kernel_rfl) rfl rfl ((blk_cell (bl_block hbw hkc) 17 (by rfl))) (fun hHeld => ?_)
  generalize W3.drew = wn at *
  refine pure_ (i := 0) (N := some 17) (v := ?_) (a' := ?_) #[true, false, false, false, false, false, false, false, false, false, false, false, false] rfl rfl (by kernel_rfl) (fun _ _ _ h => h) (Or.inl ⟨by rfl, ?_⟩) ?_ ?_
  rotate_left
  · intro w'
    go_simp
    with_reducible rfl
  rotate_left
  · simp only [Act.put, List.setIfInBounds_toArray, List.set_cons_zero, List.set_cons_succ, i64_w, i32_w]
    rfl
  refine pure_ (i := 1) (N := some 18) (v := ?_) (a' := ?_) #[true, true, false, false, false, false, false, false, false, false, false, false, false] rfl rfl (by kernel_rfl) (fun _ _ _ h => h) (Or.inl ⟨by rfl, ?_⟩) ?_ ?_
  rotate_left
  · intro w'
    go_simp
    with_reducible rfl
  rotate_left
  · simp only [Act.put, List.setIfInBounds_toArray, List.set_cons_zero, List.set_cons_succ, i64_w, i32_w]
    rfl
  refine pure_ (i := 2) (N := some 19) (v := ?_) (a' := ?_) #[true, true, true, false, false, false, false, false, false, false, false, false, false] rfl rfl (by kernel_rfl) (fun _ _ _ h => h) (Or.inl ⟨by rfl, ?_⟩) ?_ ?_
  rotate_left
  · intro w'
    go_simp
    with_reducible rfl
  rotate_left
  · simp only [Act.put, List.setIfInBounds_toArray, List.set_cons_zero, List.set_cons_succ, i64_w, i32_w]
    rfl
  refine pure_ (i := 3) (N := some 20) (v := ?_) (a' := ?_) #[true, true, true, true, false, false, false, false, false, false, false, false, false] rfl rfl (by kernel_rfl) (fun _ _ _ h => h) (Or.inl ⟨by rfl, ?_⟩) ?_ ?_
  rotate_left
  · intro w'
    go_simp
    with_reducible rfl
  rotate_left
  · simp only [Act.put, List.setIfInBounds_toArray, List.set_cons_zero, List.set_cons_succ, i64_w, i32_w]
    rfl
  refine pure_ (i := 5) (N := some 22) (v := ?_) (a' := ?_) #[true, true, true, true, false, true, false, false, false, false, false, false, false] rfl rfl (by kernel_rfl) (fun _ _ _ h => h) (Or.inl ⟨by rfl, ?_⟩) ?_ ?_
  rotate_left
  · intro w'
    go_simp
    with_reducible rfl
  rotate_left
  · simp only [Act.put, List.setIfInBounds_toArray, List.set_cons_zero, List.set_cons_succ, i64_w, i32_w]
    rfl
  refine pure_ (i := 6) (N := some 23) (v := ?_) (a' := ?_) #[true, true, true, true, false, true, true, false, false, false, false, false, false] rfl rfl (by kernel_rfl) (fun _ _ _ h => h) (Or.inl ⟨by rfl, ?_⟩) ?_ ?_
  rotate_left
  · intro w'
    go_simp
    with_reducible rfl
  rotate_left
  · simp only [Act.put, List.setIfInBounds_toArray, List.set_cons_zero, List.set_cons_succ, i64_w, i32_w]
    rfl
  refine pure_ (i := 7) (N := some 24) (v := ?_) (a' := ?_) #[true, true, true, true, false, true, true, true, false, false, false, false, false] rfl rfl (by kernel_rfl) (fun _ _ _ h => h) (Or.inl ⟨by rfl, ?_⟩) ?_ ?_
  rotate_left
  · intro w'
    go_simp
    with_reducible rfl
  rotate_left
  · simp only [Act.put, List.setIfInBounds_toArray, List.set_cons_zero, List.set_cons_succ, i64_w, i32_w]
    rfl
  refine pure_ (i := 8) (N := some 25) (v := ?_) (a' := ?_) #[true, true, true, true, false, true, true, true, true, false, false, false, false] rfl rfl (by kernel_rfl) (fun _ _ _ h => h) (Or.inl ⟨by rfl, ?_⟩) ?_ ?_
  rotate_left
  · intro w'
    go_simp
    with_reducible rfl
  rotate_left
  · simp only [Act.put, List.setIfInBounds_toArray, List.set_cons_zero, List.set_cons_succ, i64_w, i32_w]
    rfl
  refine take_ (i := 4) (N := some 21) (v := ?_) (a' := ?_) #[true, true, true, true, true, true, true, true, true, false, false, false, false] rfl rfl (by kernel_rfl) (fun _ _ _ h => h) (Or.inl ⟨by rfl, ?_⟩) hHeld ?_ ?_
  rotate_left
  · intro w' s0
    go_simp
    with_reducible rfl
  rotate_left
  · simp only [Act.put, List.setIfInBounds_toArray, List.set_cons_zero, List.set_cons_succ, i64_w, i32_w]
    rfl
  refine take_ (i := 9) (N := some 26) (v := ?_) (a' := ?_) #[true, true, true, true, true, true, true, true, true, true, false, false, false] rfl rfl (by kernel_rfl) (fun _ _ _ h => h) (Or.inl ⟨by rfl, ?_⟩) hHeld ?_ ?_
  rotate_left
  · intro w' s0
    go_simp
    with_reducible rfl
  rotate_left
  · simp only [Act.put, List.setIfInBounds_toArray, List.set_cons_zero, List.set_cons_succ, i64_w, i32_w]
    rfl
  refine pure_ (i := 10) (N := some 27) (v := ?_) (a' := ?_) #[true, true, true, true, true, true, true, true, true, true, true, false, false] rfl rfl (by kernel_rfl) (fun _ _ _ h => h) (Or.inl ⟨by rfl, ?_⟩) ?_ ?_
  rotate_left
  · intro w'
    go_simp
    with_reducible rfl
  rotate_left
  · simp only [Act.put, List.setIfInBounds_toArray, List.set_cons_zero, List.set_cons_succ, i64_w, i32_w]
    rfl
  refine one_ (i := 11) (N := some 28) #[true, true, true, true, true, true, true, true, true, true, true, true, false] rfl rfl (by kernel_rfl) (by decide) (fun K hK => ?_)
  refine value_ (w1 := wn.alloc (.cells #[.int .i64 bi, .int .i64 bi] 25)) (v := .slice (some ⟨wn.heap.size, 0, none⟩) 1 1) (by rfl) rfl ?_ ?_
  · go_simp
    try rfl
  have hk_11 : (wn.alloc (.cells #[.int .i64 bi, .int .i64 bi] 25)).heap[wn.heap.size]? = some (.cells #[.int .i64 bi, .int .i64 bi] 25 (0, 0)) := blk_new wn _
  have hle_11 : w0.heap.size ≤ wn.heap.size := hbw.size
  have p_a_11 : PNe (some ⟨ga, 0, none⟩) wn.heap.size := AccAt.ne ha_a (Nat.le_refl _)
  replace hk_g4 := blk_alloc hk_g4 (.cells #[.int .i64 bi, .int .i64 bi] 25)
  replace ha_a := AccAt.below ha_a (bl_alloc (Below.refl _ _) (.cells #[.int .i64 bi, .int .i64 bi] 25))
  replace hbw := bl_alloc hbw (.cells #[.int .i64 bi, .int .i64 bi] 25)
  have hf11 : ga + 1 ≤ wn.heap.size := hs5
  generalize wn.heap.size = g11 at *
  generalize wn.alloc (.cells #[.int .i64 bi, .int .i64 bi] 25) = wn at *
  clear hHeld
  refine hK.out _ _ ((blk_cell (bl_block hbw hkc) 17 (by rfl))) (fun hHeld => ?_)
  clear hK K
  refine norm_ (a' := ?_) ?_ ?_
  rotate_left
  · show Act.put _ (some 28) _ = _
    simp only [Act.put, List.setIfInBounds_toArray, List.set_cons_zero, List.set_cons_succ, i64_w, i32_w]
    rfl
  refine pure_ (i := 12) (N := some 7) (v := ?_) (a' := ?_) #[true, true, true, true, true, true, true, true, true, true, true, true, true] rfl rfl (by kernel_rfl) (fun _ _ _ h => h) (Or.inl ⟨by rfl, ?_⟩) ?_ ?_
  rotate_left
  · intro w'
    go_simp
    with_reducible rfl
  rotate_left
  · simp only [Act.put, List.setIfInBounds_toArray, List.set_cons_zero, List.set_cons_succ, i64_w, i32_w]
    rfl
  refine done_ (by kernel_rfl) ?_
  have hop : wn.ownsRow (ga + 1) 25 2 (.slice (some ⟨g11, 0, none⟩) 1 1) 1 (encS [⟨bi, bi⟩]) := own_fresh (n := 1) (size := 2) (cs := #[.int .i64 bi, .int .i64 bi]) hf11 hk_11 (by rfl) (by omega)
  have hs6 : ga + 1 ≤ wn.heap.size := by have := blk_lt hk_11; omega
  clear hk_11 hle_11 p_a_11 hf11 hs5 hk17
  obtain ⟨f, hf⟩ : ∃ f : Nat → Sp, f = fun j => timesS (l.getD j ⟨0, 0⟩) (p.gain.getD j 0) := ⟨_, rfl⟩
  obtain ⟨fo, hfo⟩ : ∃ f : Nat → Bool, f = fun j => timesO (l.getD j ⟨0, 0⟩) (p.gain.getD j 0) := ⟨_, rfl⟩
  rw [← hf] at hcp
  rw [← hfo] at hct
  have hfj : ∀ j, f j = timesS (l.getD j ⟨0, 0⟩) (p.gain.getD j 0) := fun j => by rw [hf]
  have hfoj : ∀ j, fo j = timesO (l.getD j ⟨0, 0⟩) (p.gain.getD j 0) := fun j => by rw [hfo]
  clear hf hfo
  replace hfj := hidI hfj
  replace hfoj := hidI hfoj
  obtain ⟨ps, hps⟩ : ∃ z, z = fun j : Nat => ((⟨bi, bi⟩ : Sp) :: (List.range j).map f) := ⟨_, rfl⟩
  have hpl : ∀ j, (ps j).length = 1 + j := fun j => by rw [hps]; simp; omega
  have hp0 : ps 0 = [⟨bi, bi⟩] := by rw [hps]; rfl
  have hpS : ∀ j, ps (j + 1) = ps j ++ [f j] := fun j => by rw [hps]; simp [List.range_succ]
  have hpn : ps n = cmdParts p l := by rw [hps, hcp.out]
  rw [← hp0] at hop
  replace hp0 := hidI hp0
  replace hpS := hidI hpS
  replace hpl := hidI hpl
  replace hpn := hidI hpn
  have hpin : Hid (InS (ps n)) := by
    unfold Hid
    rw [hps]
    intro s hs
    simp only [List.mem_cons, List.mem_map] at hs
    rcases hs with rfl | ⟨j, -, rfl⟩
    · exact ⟨hbias.out, hbias.out⟩
    · rw [hfj.out]; exact timesS_in _ _
  clear hps hcp
  have hacc : AccAt wn (some ⟨ga, 0, none⟩) ((List.range 0).any fo) := by simpa using ha_a
  have hk4 := hk_g4
  clear hk_g4 ha_a
  rw [← hn.out]
  go_upto_region 6 with fail
  go_loopw [7, 8, 9, 31] (fun pv v8 v9 y wi => ∃ j : Nat, j ≤ n ∧ y = .int .i64 j ∧ Below w0.heap.size w0 wi ∧ wi.heap[g4]? = some (.cells #[.int .i64 0, .int .i64 0] 25 (0, 0)) ∧ AccAt wi (some ⟨ga, 0, none⟩) ((List.range j).any fo) ∧ wi.ownsRow (ga + 1) 25 2 pv (1 + j) (encS (ps j)) ∧ ga + 1 ≤ wi.heap.size) (fun _ _ _ y _ => (n - intOf y).toNat)
  case atStart => exact ⟨0, by omega, rfl, hbw, hk4, hacc, hop, hs6⟩
  case round =>
    clear hbw hk4 hacc hop hs6 hga2
    obtain ⟨j, hj, rfl, hbw, hk4, hacc, hop, hs6⟩ := hrel
    by_cases hjn : j < n
    · obtain ⟨b2, o2, rfl, hc1, hc2⟩ := hl.at (show j < l.length by have := hn.out; omega)
      have hjG : j < p.gain.length := by have := hGn.out; omega
      obtain ⟨bG, oG, rfl, hc0⟩ := hG.at hjG
      have hpj := hidI (hpS.out j)
      have hfx := hidI (hfj.out j)
      have hfox := hidI (hfoj.out j)
      have hmb := hidI (hiG.getD j)
      have hsi := hidI (hil.one j)
      obtain ⟨⟨sl, sh⟩, hsj⟩ : ∃ z, l.getD j ⟨0, 0⟩ = z := ⟨_, rfl⟩
      rw [hsj] at hc1 hc2 hfx hfox hsi
      simp only [] at hc1 hc2
      clear hsj
      obtain ⟨kk, hm1⟩ : ∃ z, p.gain.getD j 0 = z := ⟨_, rfl⟩
      rw [hm1] at hc0 hfx hfox hmb
      clear hm1
      have hTi := hidI (fun W o (h : AccAt W (some ⟨ga, 0, none⟩) o) => Times_calls (some ⟨ga, 0, none⟩) o ⟨sl, sh⟩ kk W h hsi.out hmb.out.1 hmb.out.2)
      rw [← hfx.out, ← hfox.out] at hTi
      obtain ⟨⟨xl, xh⟩, hX⟩ : ∃ z, f j = z := ⟨_, rfl⟩
      obtain ⟨x0, hx0⟩ : ∃ z, fo j = z := ⟨_, rfl⟩
      rw [hX, hx0] at hTi
      rw [hX] at hpj
      replace hX := hidI hX
      replace hx0 := hidI hx0
      simp only [] at hTi
      clear hmb hfx hfox
      have hjl : j < l.length := by have := hn.out; omega
      have hd5 : decide ((j : Int) < (n : Int)) = true := decide_eq_true (by omega)
      obtain ⟨A1, c1, rfl, hc1', -, -, -⟩ := own_rdC hop
      have yc1 := bl_cell hbw hc1
      have yc2 := bl_cell hbw hc2
      go_upto_region 8 with fail
      have hob := hidI (fun k (hk : (Value.slice A1 (1 + j) c1).ownBlock = some k) => (own_lt hop k hk).2)
      have hk_g9 := blk_new wr (.cells #[.int .i64 sl, .int .i64 sh] 25)
      have hbA := bl_alloc (Below.refl wr.heap.size wr) (.cells #[.int .i64 sl, .int .i64 sh] 25)
      have hk_g4 := bl_block hbA hk4
      have ha_a := AccAt.below hacc hbA
      replace hop := own_below hop hbA
      replace hbw := bl_step hbw hbA
      have hgaw := hacc.lt
      generalize wr.alloc (.cells #[.int .i64 sl, .int .i64 sh] 25) = Wa at *
      obtain ⟨g9, hg9⟩ : ∃ z, wr.heap.size = z := ⟨_, rfl⟩
      rw [hg9] at hk_g9 hgaw hs6 hob
      rw [hg9]
      clear hg9 hbA hk4 hacc yc1 yc2
      have p_a_g9 : PNe (some ⟨ga, 0, none⟩) g9 := PNe.of (by show ga ≠ g9; omega)
      have hs5 : ga + 1 ≤ Wa.drew.heap.size := by show ga + 1 ≤ Wa.heap.size; have := blk_lt hk_g9; omega
      have hle_g9 : w0.heap.size ≤ g9 := by have h3 : w0.heap.size ≤ ga := hla; omega
      replace hop := own_drew hop
      have hGl2 : j < p.gain.length := hjG
      replace hk_g4 := blk_drew hk_g4
      replace hk_g9 := blk_drew hk_g9
      replace ha_a := AccAt.below ha_a (bl_drew (Below.refl _ _))
      replace hbw := bl_drew hbw
      refine start_ (n := 14) (S := fun w' => w'.cell? ⟨g9, 0, none⟩ = some (.int .i64 sl) ∧ w'.cell? ⟨g9, 1, none⟩ = some (.int .i64 sh) ∧ w'.cell? ⟨g, 16, none⟩ = some (.slice (some ⟨bG, oG, none⟩) p.gain.length cG) ∧ w'.cell? ⟨bG, oG + j, none⟩ = some (.int .i64 kk)) (ds := []) #[false, false, false, false, false, false, false, false, false, false, false, false, false, false] (by kernel_rfl) rfl rfl ⟨(blk_cell hk_g9 0 (by rfl)), (blk_cell hk_g9 1 (by rfl)), (blk_cell (bl_block hbw hkc) 16 (by rfl)), (bl_cell hbw hc0)⟩ (fun hHeld => ?_)
      generalize Wa.drew = wn at *
      refine pure_ (i := 0) (N := some 36) (v := ?_) (a' := ?_) #[true, false, false, false, false, false, false, false, false, false, false, false, false, false] rfl rfl (by kernel_rfl) (fun _ _ _ h => h) (Or.inl ⟨by rfl, ?_⟩) ?_ ?_
      rotate_left
      · intro w'
        go_simp
        with_reducible rfl
      rotate_left
      · simp only [Act.put, List.setIfInBounds_toArray, List.set_cons_zero, List.set_cons_succ, i64_w, i32_w]
        rfl
      refine pure_ (i := 2) (N := some 38) (v := ?_) (a' := ?_) #[true, false, true, false, false, false, false, false, false, false, false, false, false, false] rfl rfl (by kernel_rfl) (fun _ _ _ h => h) (Or.inl ⟨by rfl, ?_⟩) ?_ ?_
      rotate_left
      · intro w'
        go_simp
        with_reducible rfl
      rotate_left
      · simp only [Act.put, List.setIfInBounds_toArray, List.set_cons_zero, List.set_cons_succ, i64_w, i32_w]
        rfl
      refine pure_ (i := 3) (N := some 39) (v := ?_) (a' := ?_) #[true, false, true, true, false, false, false, false, false, false, false, false, false, false] rfl rfl (by kernel_rfl) (fun _ _ _ h => h) (Or.inl ⟨by rfl, ?_⟩) ?_ ?_
      rotate_left
      · intro w'
        go_simp
        with_reducible rfl
      rotate_left
      · simp only [Act.put, List.setIfInBounds_toArray, List.set_cons_zero, List.set_cons_succ, i64_w, i32_w]
        rfl
      refine pure_ (i := 4) (N := some 40) (v := ?_) (a' := ?_) #[true, false, true, true, true, false, false, false, false, false, false, false, false, false] rfl rfl (by kernel_rfl) (fun _ _ _ h => h) (Or.inl ⟨by rfl, ?_⟩) ?_ ?_
      rotate_left
      · intro w'
        go_simp
        with_reducible rfl
      rotate_left
      · simp only [Act.put, List.setIfInBounds_toArray, List.set_cons_zero, List.set_cons_succ, i64_w, i32_w]
        rfl
      refine pure_ (i := 5) (N := some 41) (v := ?_) (a' := ?_) #[true, false, true, true, true, true, false, false, false, false, false, false, false, false] rfl rfl (by kernel_rfl) (fun _ _ _ h => h) (Or.inl ⟨by rfl, ?_⟩) ?_ ?_
      rotate_left
      · intro w'
        go_simp
        with_reducible rfl
      rotate_left
      · simp only [Act.put, List.setIfInBounds_toArray, List.set_cons_zero, List.set_cons_succ, i64_w, i32_w]
        rfl
      refine pure_ (i := 7) (N := some 43) (v := ?_) (a' := ?_) #[true, false, true, true, true, true, false, true, false, false, false, false, false, false] rfl rfl (by kernel_rfl) (fun _ _ _ h => h) (Or.inl ⟨by rfl, ?_⟩) ?_ ?_
      rotate_left
      · intro w'
        go_simp
        with_reducible rfl
      rotate_left
      · simp only [Act.put, List.setIfInBounds_toArray, List.set_cons_zero, List.set_cons_succ, i64_w, i32_w]
        rfl
      refine take_ (i := 1) (N := some 37) (v := ?_) (a' := ?_) #[true, true, true, true, true, true, false, true, false, false, false, false, false, false] rfl rfl (by kernel_rfl) (fun _ _ _ h => h) (Or.inl ⟨by rfl, ?_⟩) hHeld ?_ ?_
      rotate_left
      · rintro w' ⟨s0, s1, s2, s3⟩
        go_simp
        with_reducible rfl
      rotate_left
      · simp only [Act.put, List.setIfInBounds_toArray, List.set_cons_zero, List.set_cons_succ, i64_w, i32_w]
        rfl
      refine take_ (i := 6) (N := some 42) (v := ?_) (a' := ?_) #[true, true, true, true, true, true, true, true, false, false, false, false, false, false] rfl rfl (by kernel_rfl) (fun _ _ _ h => h) (Or.inl ⟨by rfl, ?_⟩) hHeld ?_ ?_
      rotate_left
      · rintro w' ⟨s0, s1, s2, s3⟩
        go_simp
        with_reducible rfl
      rotate_left
      · simp only [Act.put, List.setIfInBounds_toArray, List.set_cons_zero, List.set_cons_succ, i64_w, i32_w]
        rfl
      refine pure_ (i := 8) (N := some 44) (v := ?_) (a' := ?_) #[true, true, true, true, true, true, true, true, true, false, false, false, false, false] rfl rfl (by kernel_rfl) (fun _ _ _ h => h) (Or.inl ⟨by rfl, ?_⟩) ?_ ?_
      rotate_left
      · intro w'
        go_simp
        with_reducible rfl
      rotate_left
      · simp only [Act.put, List.setIfInBounds_toArray, List.set_cons_zero, List.set_cons_succ, i64_w, i32_w]
        rfl
      refine take_ (i := 9) (N := some 45) (v := ?_) (a' := ?_) #[true, true, true, true, true, true, true, true, true, true, false, false, false, false] rfl rfl (by kernel_rfl) (fun _ _ _ h => h) (Or.inl ⟨by rfl, ?_⟩) hHeld ?_ ?_
      rotate_left
      · rintro w' ⟨s0, s1, s2, s3⟩
        go_simp
        with_reducible rfl
      rotate_left
      · simp only [Act.put, List.setIfInBounds_toArray, List.set_cons_zero, List.set_cons_succ, i64_w, i32_w]
        rfl
      refine one_ (i := 10) (N := some 46) #[true, true, true, true, true, true, true, true, true, true, true, false, false, false] rfl rfl (by kernel_rfl) (by decide) (fun K hK => ?_)
      refine goes_ Try.func64 (by kernel_rfl) rfl #[.pointer (some ⟨ga, 0, none⟩), .agg #[.int .i64 sl, .int .i64 sh], .int .i64 kk] (by rfl) rfl rfl (by simp only [List.map_toArray, List.map_cons, List.map_nil] <;> rfl) ?_
      refine (hTi.out _ _ ha_a).mono ?_
      rintro e wn ⟨rfl, hbn⟩
      refine ⟨_, rfl, ?_⟩
      replace hk_g4 := blk_acc hbn hk_g4 p_a_g4
      replace hk_g9 := blk_acc hbn hk_g9 p_a_g9
      replace ha_a := AccAt.or ha_a hbn
      replace hbw := bl_own hbw hl_a hbn
      replace hs5 : ga + 1 ≤ wn.heap.size := by have h_ := hbn.size; rw [orCell_size] at h_; omega
      replace hop := own_acc hop hbn (fun k hk => PNe.of (by have := (own_lt hop k hk).1; simp only []; omega))
      clear hbn
      clear hHeld
      refine hK.out _ _ ⟨(blk_cell hk_g9 0 (by rfl)), (blk_cell hk_g9 1 (by rfl)), (blk_cell (bl_block hbw hkc) 16 (by rfl)), (bl_cell hbw hc0)⟩ (fun hHeld => ?_)
      clear hK K
      refine norm_ (a' := ?_) ?_ ?_
      rotate_left
      · show Act.put _ (some 46) _ = _
        simp only [Act.put, List.setIfInBounds_toArray, List.set_cons_zero, List.set_cons_succ, i64_w, i32_w]
        rfl
      refine one_ (i := 11) (N := some 47) #[true, true, true, true, true, true, true, true, true, true, true, true, false, false] rfl rfl (by kernel_rfl) (by decide) (fun K hK => ?_)
      refine value_ (w1 := wn.alloc (.cells #[.int .i64 xl, .int .i64 xh] 25)) (v := .slice (some ⟨wn.heap.size, 0, none⟩) 1 1) (by rfl) rfl ?_ ?_
      · go_simp
        try rfl
      have hk_11 : (wn.alloc (.cells #[.int .i64 xl, .int .i64 xh] 25)).heap[wn.heap.size]? = some (.cells #[.int .i64 xl, .int .i64 xh] 25 (0, 0)) := blk_new wn _
      have hle_11 : w0.heap.size ≤ wn.heap.size := hbw.size
      have p_a_11 : PNe (some ⟨ga, 0, none⟩) wn.heap.size := AccAt.ne ha_a (Nat.le_refl _)
      replace hk_g4 := blk_alloc hk_g4 (.cells #[.int .i64 xl, .int .i64 xh] 25)
      replace hk_g9 := blk_alloc hk_g9 (.cells #[.int .i64 xl, .int .i64 xh] 25)
      replace ha_a := AccAt.below ha_a (bl_alloc (Below.refl _ _) (.cells #[.int .i64 xl, .int .i64 xh] 25))
      replace hbw := bl_alloc hbw (.cells #[.int .i64 xl, .int .i64 xh] 25)
      replace hop := own_alloc hop (.cells #[.int .i64 xl, .int .i64 xh] 25)
      replace hs5 : ga + 1 ≤ (wn.alloc (.cells #[.int .i64 xl, .int .i64 xh] 25)).heap.size := by have h_ := (bl_alloc (Below.refl wn.heap.size wn) (.cells #[.int .i64 xl, .int .i64 xh] 25)).size; omega
      generalize wn.heap.size = g11 at *
      generalize wn.alloc (.cells #[.int .i64 xl, .int .i64 xh] 25) = wn at *
      clear hHeld
      refine hK.out _ _ ⟨(blk_cell hk_g9 0 (by rfl)), (blk_cell hk_g9 1 (by rfl)), (blk_cell (bl_block hbw hkc) 16 (by rfl)), (bl_cell hbw hc0)⟩ (fun hHeld => ?_)
      clear hK K
      refine norm_ (a' := ?_) ?_ ?_
      rotate_left
      · show Act.put _ (some 47) _ = _
        simp only [Act.put, List.setIfInBounds_toArray, List.set_cons_zero, List.set_cons_succ, i64_w, i32_w]
        rfl
      refine one_ (i := 12) (N := some 48) #[true, true, true, true, true, true, true, true, true, true, true, true, true, false] rfl rfl (by kernel_rfl) (by decide) (fun K hK => ?_)
      obtain ⟨v2, w2, hrun, ho2, hg2, -⟩ := run_appRd (P := Try.prog) wn (ga + 1) 26 26 25 _ 2 _ Try.underlying26 infoSp (by rfl) (by omega) (.slice A1 (1 + j) c1) (1 + j) (encS (ps j)) hop (some ⟨g11, 0, none⟩) 1 1 (encS [⟨xl, xh⟩]) (by rfl) (fun k v hk => ⟨g11, 0, rfl, by rw [Nat.zero_add, blkc hk_11]; simpa [encS] using hk⟩) (by intro v hv; simp [encS] at hv; rcases hv with rfl | rfl <;> rfl) (by omega) (by omega) hs5
      obtain ⟨A2, c2, rfl, hc2', hr2, hn2, -⟩ := own_rdC ho2
      refine value_ (w1 := w2) (v := .slice A2 (1 + j + 1) c2) (by rfl) rfl (exec_app (.tmp 36) (.tmp 47) 26 (by rfl) (by rfl) (by rfl) hrun) ?_
      replace hk_g4 := blk_grown hk_g4 hg2 (fun e => by have := own_lt hop _ e.symm; omega)
      replace ha_a := AccAt.grown ha_a hg2 (fun e => by have := own_lt hop ga e.symm; omega)
      replace hbw := bl_grown hbw hg2 (fun k hk => by have := own_lt hop k hk; have h3 : w0.heap.size ≤ ga := hla; omega)
      replace hk_g9 := blk_grown hk_g9 hg2 (fun e => by have := hob.out _ e.symm; omega)
      replace hs5 : ga + 1 ≤ w2.heap.size := Nat.le_trans hs5 hg2.size
      clear hop hk_11 hle_11 p_a_11 hg2 hrun
      generalize w2 = wn at *
      clear hHeld
      refine hK.out _ _ ⟨(blk_cell hk_g9 0 (by rfl)), (blk_cell hk_g9 1 (by rfl)), (blk_cell (bl_block hbw hkc) 16 (by rfl)), (bl_cell hbw hc0)⟩ (fun hHeld => ?_)
      clear hK K
      refine norm_ (a' := ?_) ?_ ?_
      rotate_left
      · show Act.put _ (some 48) _ = _
        simp only [Act.put, List.setIfInBounds_toArray, List.set_cons_zero, List.set_cons_succ, i64_w, i32_w]
        rfl
      refine pure_ (i := 13) (N := some 7) (v := ?_) (a' := ?_) #[true, true, true, true, true, true, true, true, true, true, true, true, true, true] rfl rfl (by kernel_rfl) (fun _ _ _ h => h) (Or.inl ⟨by rfl, ?_⟩) ?_ ?_
      rotate_left
      · intro w'
        go_simp
        with_reducible rfl
      rotate_left
      · simp only [Act.put, List.setIfInBounds_toArray, List.set_cons_zero, List.set_cons_succ, i64_w, i32_w]
        rfl
      refine done_ (by kernel_rfl) ?_
      have hb64 : ((j : Int) + 1) ≤ 9223372036854775807 := by omega
      go_wp2
      go_roundw
      case rel =>
        refine ⟨j + 1, by omega, by go_num, hbw, hk_g4, accAt_eq ha_a ?_, ?_, hs5⟩
        · rw [any_range_succ, hx0.out]
        · rw [hpj.out, encS_app']; exact ho2
      case measure => simp [intOf]; omega
    · have hje : j = n := by omega
      subst hje
      have hd5 : decide ((j : Int) < (j : Int)) = false := decide_eq_false (by omega)
      obtain ⟨A1, c1, rfl, hc1', hrd, hn1, -⟩ := own_rdC hop
      have hpl2 := hpl.out j
      have hEx := hidI (fun W o (hA : AccAt W (some ⟨ga, 0, none⟩) o) (hW : RdS W A1 (ps j)) => Plus_calls (some ⟨ga, 0, none⟩) o A1 (ps j) c1 W hA hW hpin.out (by rw [hpl2]; omega))
      have hrdS : RdS wr A1 (ps j) := ⟨by rw [hpl2]; exact hn1, hrd⟩
      rw [hpl2] at hEx
      rw [hct.out, ← hpn.out] at hcmd
      obtain ⟨⟨pl_, ph_⟩, hP0⟩ : ∃ z, plusS (ps j) = z := ⟨_, rfl⟩
      obtain ⟨po, hpo⟩ : ∃ z, plusO (ps j) = z := ⟨_, rfl⟩
      obtain ⟨ct, hct'⟩ : ∃ z, (List.range j).any fo = z := ⟨_, rfl⟩
      rw [hP0, hpo] at hEx
      rw [hP0, hpo, hct'] at hcmd
      rw [hct'] at hacc
      simp only [] at hEx hcmd
      clear hP0 hpo hrd hpl2 hct'
      go_upto_region 11 with (first | (go_at_call 66; refine (hEx.out _ _ hacc hrdS).mono ?_; rintro e we ⟨rfl, hbe⟩; have hacc6 := AccAt.or hacc hbe; have hbw6 := bl_own hbw hla hbe; have hk46 := blk_acc hbe hk4 p_a_g4) | fail)
      have hk_g10 := blk_new we (.cells #[.int .i64 pl_, .int .i64 ph_] 25)
      have hbA := bl_alloc (Below.refl we.heap.size we) (.cells #[.int .i64 pl_, .int .i64 ph_] 25)
      replace hk46 := bl_block hbA hk46
      replace hacc6 := AccAt.below hacc6 hbA
      replace hbw6 := bl_step hbw6 hbA
      have hgaw := hacc.lt
      have hgaw2 : ga < we.heap.size := by have h_ := hbe.size; rw [orCell_size] at h_; omega
      generalize we.alloc (.cells #[.int .i64 pl_, .int .i64 ph_] 25) = Wa at *
      obtain ⟨g10, hg10⟩ : ∃ z, we.heap.size = z := ⟨_, rfl⟩
      rw [hg10] at hk_g10 hgaw2
      rw [hg10]
      clear hg10 hbA hbe hacc hk4 hbw hop hrdS hEx hgaw
      have y11 : Wa.cell? ⟨g, 11, none⟩ = some (.int .i64 il) := blk_cell (bl_block hbw6 hkc) 11 (by rfl)
      have y12 : Wa.cell? ⟨g, 12, none⟩ = some (.int .i64 ih) := blk_cell (bl_block hbw6 hkc) 12 (by rfl)
      go_upto_region 12 with fail
      have hk_g11 := blk_new Wa (.cells #[.int .i64 il, .int .i64 ih] 25)
      have hbA := bl_alloc (Below.refl Wa.heap.size Wa) (.cells #[.int .i64 il, .int .i64 ih] 25)
      have hk_g4 := bl_block hbA hk46
      have hg10lt := blk_lt hk_g10
      replace hk_g10 := bl_block hbA hk_g10
      have hacc7 := AccAt.below hacc6 hbA
      have hbw := bl_step hbw6 hbA
      generalize Wa.alloc (.cells #[.int .i64 il, .int .i64 ih] 25) = Wb at *
      obtain ⟨g11b, hg11⟩ : ∃ z, Wa.heap.size = z := ⟨_, rfl⟩
      rw [hg11] at hk_g11 hg10lt
      rw [hg11]
      clear hg11 hbA y11 y12 hk46 hacc6 hbw6
      have hk_g11b := hk_g11
      clear hk_g11
      have n_g10_g4 : g10 ≠ g4 := by omega
      have n_g11b_g4 : g11b ≠ g4 := by omega
      have n_ga_g4 : ga ≠ g4 := by omega
      have c0_ya : Wb.drew.cell? ⟨ga, 0, none⟩ = some (.bool (ct || po)) := hacc7.1
      obtain ⟨tt, htt⟩ : ∃ z, (ct || po) = z := ⟨_, rfl⟩
      rw [htt] at c0_ya hcmd
      clear hacc7 htt
      obtain ⟨B0, hB0⟩ : ∃ B, B = Wb.heap.size := ⟨_, rfl⟩
      have c0_hsz : B0 ≤ Wb.heap.size := Nat.le_of_eq hB0
      have hw0B0 : w0.heap.size ≤ B0 := by rw [hB0]; exact hbw.size
      have c0_hle : Wb.heap.size ≤ B0 := Nat.le_of_eq hB0.symm
      have c0_hk_g10 := blk_drew hk_g10
      have c0_lt_g10 : g10 < B0 := by rw [hB0]; exact blk_lt hk_g10
      have c0_hk_g11b := blk_drew hk_g11b
      have c0_lt_g11b : g11b < B0 := by rw [hB0]; exact blk_lt hk_g11b
      have c0_hk_g4 := blk_drew hk_g4
      have c0_lt_g4 : g4 < B0 := by rw [hB0]; exact blk_lt hk_g4
      have c0_hbw := bl_drew hbw
      clear hB0 hbw hk_g10 hk_g11b hk_g4
      refine region_linM (n := 21) (st := ?st10) { R := [0, 1, 0, 4, 0, 16, 63, 0, 128, 0, 512, 0, 2048, 8191, 16383, 0, 32768, 98304, 229376, 32767, 1048575], kill := [[], [], [], [], [], [], [], [], [], [], [], [], [], [], [], [], [], [], [], [], [], [19]], cls := [0, 0, 0, 0, 0, 0, 0, 0, 0, 0, 0, 0, 0, 0, 0, 0, 0, 0, 0, 1, 0], dst := [some 57, some 58, some 59, some 60, some 61, some 62, some 63, some 64, some 65, some 66, some 67, some 68, some 69, some 70, some 71, some 72, some 73, some 74, some 75, none, some 5], pre := [[], [0], [], [2], [], [4], [1, 3, 5], [], [7], [], [9], [], [11], [8, 10, 12], [6, 13], [], [15], [16], [17], [14, 21], [18]], cov := [(0, 19), (0, 21)], fin := [19, 20], locs := [], tgt := [none, none], abt := [none, none, none, none, none, none, none, none, none, none, none, none, none, none, none, none, none, none, none, none, none], m := 1 }
        [.v [57] (fun vs => (vs.getD 0 undef) = .pointer (some ⟨g10, 0, none⟩)),
         .v [58] (fun vs => (vs.getD 0 undef) = .int .i64 pl_),
         .v [59] (fun vs => (vs.getD 0 undef) = .pointer (some ⟨g11b, 0, none⟩)),
         .v [60] (fun vs => (vs.getD 0 undef) = .int .i64 il),
         .v [61] (fun vs => (vs.getD 0 undef) = .pointer (some ⟨g11b, 1, none⟩)),
         .v [62] (fun vs => (vs.getD 0 undef) = .int .i64 ih),
         .v [63] (fun vs => (vs.getD 0 undef) = .int .i64 (clampTo pl_ il ih)),
         .v [64] (fun vs => (vs.getD 0 undef) = .pointer (some ⟨g10, 1, none⟩)),
         .v [65] (fun vs => (vs.getD 0 undef) = .int .i64 ph_),
         .v [66] (fun vs => (vs.getD 0 undef) = .pointer (some ⟨g11b, 0, none⟩)),
         .v [67] (fun vs => (vs.getD 0 undef) = .int .i64 il),
         .v [68] (fun vs => (vs.getD 0 undef) = .pointer (some ⟨g11b, 1, none⟩)),
         .v [69] (fun vs => (vs.getD 0 undef) = .int .i64 ih),
         .v [70] (fun vs => (vs.getD 0 undef) = .int .i64 (clampTo ph_ il ih)),
         .v [71] (fun vs => (vs.getD 0 undef) = .agg #[.int .i64 (clampTo pl_ il ih), .int .i64 (clampTo ph_ il ih)]),
         .v [72] (fun vs => (vs.getD 0 undef) = .pointer (some ⟨ga, 0, none⟩)),
         .v [73] (fun vs => (vs.getD 0 undef) = .pointer (some ⟨ga, 0, none⟩)),
         .v [74] (fun vs => (vs.getD 0 undef) = .bool tt),
         .v [75] (fun vs => (vs.getD 0 undef) = .bool (!tt)),
         .w [] (fun vs w => w.heap[g4]? = some (.cells #[.int .i64 (clampTo pl_ il ih), .int .i64 (clampTo ph_ il ih)] 25 (0, 0))),
         .v [5] (fun vs => (vs.getD 0 undef) = .bool (!tt)),
         .w [] (fun vs w => w.heap[g4]? = some (.cells #[.int .i64 0, .int .i64 0] 25 (0, 0)))]
        (fun w => B0 ≤ w.heap.size ∧ w.heap[g10]? = some (.cells #[.int .i64 pl_, .int .i64 ph_] 25 (0, 0)) ∧ g10 < B0 ∧ w.heap[g11b]? = some (.cells #[.int .i64 il, .int .i64 ih] 25 (0, 0)) ∧ g11b < B0 ∧ g4 < B0 ∧ Below w0.heap.size w0 w ∧ w.cell? ⟨ga, 0, none⟩ = some (.bool tt))
        (fun c => ([fun s w w' => Below w.heap.size w w', fun s w w' => w' = w ∨ ((∀ k o, k ≠ g4 → w.heap[k]? = some o → w'.heap[k]? = some o) ∧ w'.heap.size = w.heap.size ∧ Below g4 w w')] : List ((Nat → Value) → World → World → Prop)).getD c (fun s w w' => w' = w))
        [5, 57, 58, 59, 60, 61, 62, 63, 64, 65, 66, 67, 68, 69, 70, 71, 72, 73, 74, 75] (by kernel_rfl) ⟨by kernel_rfl, by kernel_rfl, by kernel_rfl, by kernel_rfl, by kernel_rfl, by kernel_rfl, by kernel_rfl, by kernel_rfl⟩ (fun s => ?_) ?_ ?_ ?_ ?_ ?_ ?_ (fun s w hC hA => ?_)
      rotate_left
      · simp only [fillS, List.foldl, List.setIfInBounds_toArray, List.set_cons_zero, List.set_cons_succ]; rfl
      · exact ⟨c0_hsz, c0_hk_g10, c0_lt_g10, c0_hk_g11b, c0_lt_g11b, c0_lt_g4, c0_hbw, c0_ya⟩
      · exact ⟨c0_hk_g4, trivial⟩
      · intro c s w w' hE
        match c, hE with
        | 0, hE => exact Below.size hE
        | 1, hE => replace hE : w' = w ∨ ((∀ k o, k ≠ g4 → w.heap[k]? = some o → w'.heap[k]? = some o) ∧ w'.heap.size = w.heap.size ∧ Below g4 w w') := hE; rcases hE with hE | ⟨_, hE, _⟩; exact Nat.le_of_eq (by rw [hE]); exact Nat.le_of_eq hE.symm
        | c + 2, hE => cases hE; exact Nat.le_refl _
      · rintro c s w w' ⟨hsz, hk_g10, lt_g10, hk_g11b, lt_g11b, lt_g4, hbw, ya⟩ hE
        match c, hE with
        | 0, hE => replace hE : Below w.heap.size w w' := hE; exact ⟨Nat.le_trans hsz hE.size, bl_block hE hk_g10, lt_g10, bl_block hE hk_g11b, lt_g11b, lt_g4, bl_step hbw hE, bl_cell hE ya⟩
        | 1, hE =>
          replace hE : w' = w ∨ ((∀ k o, k ≠ g4 → w.heap[k]? = some o → w'.heap[k]? = some o) ∧ w'.heap.size = w.heap.size ∧ Below g4 w w') := hE
          rcases hE with rfl | ⟨hkeep, hsz_, hBl⟩
          · exact ⟨hsz, hk_g10, lt_g10, hk_g11b, lt_g11b, lt_g4, hbw, ya⟩
          · exact ⟨by omega, hkeep _ _ n_g10_g4 hk_g10, lt_g10, hkeep _ _ n_g11b_g4 hk_g11b, lt_g11b, lt_g4, hbw.trans (Below.mono hBl hle_g4), (KeepX.of1 (X := fun z => z = g4) hkeep rfl).cell (show ¬ (ga = g4) from n_ga_g4) ya⟩
        | c + 2, hE => cases hE; exact ⟨hsz, hk_g10, lt_g10, hk_g11b, lt_g11b, lt_g4, hbw, ya⟩
      · refine ⟨?_, ?_, trivial⟩
        · intro s w w' hD hC hE hF
          replace hF : w.heap[g4]? = some (.cells #[.int .i64 (clampTo pl_ il ih), .int .i64 (clampTo ph_ il ih)] 25 (0, 0)) := hF
          show w'.heap[g4]? = some (.cells #[.int .i64 (clampTo pl_ il ih), .int .i64 (clampTo ph_ il ih)] 25 (0, 0))
          replace hE : Below w.heap.size w w' := hE
          exact bl_block hE (hF)
        · intro s w w' hD hC hE hF
          replace hF : w.heap[g4]? = some (.cells #[.int .i64 0, .int .i64 0] 25 (0, 0)) := hF
          show w'.heap[g4]? = some (.cells #[.int .i64 0, .int .i64 0] 25 (0, 0))
          replace hE : Below w.heap.size w w' := hE
          exact bl_block hE (hF)
      · skip
        refine StepsP.cons ?_ ?_
        · intro Q s w hC hA K hK
          clear hC
          clear hA
          refine guard_none (by rfl) ?_
          refine wp_value (v := .pointer (some ⟨g10, 0, none⟩)) (w1 := w) ?_ (hK.out _ w (Below.refl _ _) rfl (fun h => by cases h))
          go_simp
          try (first | done | rfl | (simp; done))
        refine StepsP.cons ?_ ?_
        · intro Q s w hC hA K hK
          obtain ⟨hsz, hk_g10, lt_g10, hk_g11b, lt_g11b, lt_g4, hbw, ya⟩ := hC
          obtain ⟨f0, -⟩ := hA
          replace f0 : (s 57) = .pointer (some ⟨g10, 0, none⟩) := f0
          refine guard_none (by rfl) ?_
          have m0_g10 : w.cell? ⟨g10, 0, none⟩ = some (.int .i64 pl_) := blk_cell hk_g10 0 (by rfl)
          have m1_g10 : w.cell? ⟨g10, 1, none⟩ = some (.int .i64 ph_) := blk_cell hk_g10 1 (by rfl)
          refine wp_value (v := .int .i64 pl_) (w1 := w) ?_ (hK.out _ w (Below.refl _ _) rfl (fun h => by cases h))
          try simp only [f0]
          go_simp
          try (first | done | rfl | (simp; done))
        refine StepsP.cons ?_ ?_
        · intro Q s w hC hA K hK
          clear hC
          clear hA
          refine guard_none (by rfl) ?_
          refine wp_value (v := .pointer (some ⟨g11b, 0, none⟩)) (w1 := w) ?_ (hK.out _ w (Below.refl _ _) rfl (fun h => by cases h))
          go_simp
          try (first | done | rfl | (simp; done))
        refine StepsP.cons ?_ ?_
        · intro Q s w hC hA K hK
          obtain ⟨hsz, hk_g10, lt_g10, hk_g11b, lt_g11b, lt_g4, hbw, ya⟩ := hC
          obtain ⟨f2, -⟩ := hA
          replace f2 : (s 59) = .pointer (some ⟨g11b, 0, none⟩) := f2
          refine guard_none (by rfl) ?_
          have m0_g11b : w.cell? ⟨g11b, 0, none⟩ = some (.int .i64 il) := blk_cell hk_g11b 0 (by rfl)
          have m1_g11b : w.cell? ⟨g11b, 1, none⟩ = some (.int .i64 ih) := blk_cell hk_g11b 1 (by rfl)
          refine wp_value (v := .int .i64 il) (w1 := w) ?_ (hK.out _ w (Below.refl _ _) rfl (fun h => by cases h))
          try simp only [f2]
          go_simp
          try (first | done | rfl | (simp; done))
        refine StepsP.cons ?_ ?_
        · intro Q s w hC hA K hK
          clear hC
          clear hA
          refine guard_none (by rfl) ?_
          refine wp_value (v := .pointer (some ⟨g11b, 1, none⟩)) (w1 := w) ?_ (hK.out _ w (Below.refl _ _) rfl (fun h => by cases h))
          go_simp
          try (first | done | rfl | (simp; done))
        refine StepsP.cons ?_ ?_
        · intro Q s w hC hA K hK
          obtain ⟨hsz, hk_g10, lt_g10, hk_g11b, lt_g11b, lt_g4, hbw, ya⟩ := hC
          obtain ⟨f4, -⟩ := hA
          replace f4 : (s 61) = .pointer (some ⟨g11b, 1, none⟩) := f4
          refine guard_none (by rfl) ?_
          have m0_g11b : w.cell? ⟨g11b, 0, none⟩ = some (.int .i64 il) := blk_cell hk_g11b 0 (by rfl)
          have m1_g11b : w.cell? ⟨g11b, 1, none⟩ = some (.int .i64 ih) := blk_cell hk_g11b 1 (by rfl)
          refine wp_value (v := .int .i64 ih) (w1 := w) ?_ (hK.out _ w (Below.refl _ _) rfl (fun h => by cases h))
          try simp only [f4]
          go_simp
          try (first | done | rfl | (simp; done))
        refine StepsP.cons ?_ ?_
        · intro Q s w hC hA K hK
          obtain ⟨hsz, hk_g10, lt_g10, hk_g11b, lt_g11b, lt_g4, hbw, ya⟩ := hC
          obtain ⟨f1, f3, f5, -⟩ := hA
          replace f1 : (s 58) = .int .i64 pl_ := f1
          replace f3 : (s 60) = .int .i64 il := f3
          replace f5 : (s 62) = .int .i64 ih := f5
          refine guard_none (by rfl) ?_
          refine wp_call (N := some 63) (by rfl) Try.func22 (by kernel_rfl) #[.int .i64 pl_, .int .i64 il, .int .i64 ih] rfl (by rfl) ?_ ?_
          · show [s 58, s 60, s 62] = [.int .i64 pl_, .int .i64 il, .int .i64 ih]
            first | rfl | simp only [f1, f3, f5]
          refine (Clamp_calls pl_ il ih _).mono ?_
          rintro e w1 ⟨rfl, rfl⟩
          refine ⟨_, rfl, ?_⟩
          exact hK.out _ _ (Below.refl _ _) rfl (fun h => by cases h)
        refine StepsP.cons ?_ ?_
        · intro Q s w hC hA K hK
          clear hC
          clear hA
          refine guard_none (by rfl) ?_
          refine wp_value (v := .pointer (some ⟨g10, 1, none⟩)) (w1 := w) ?_ (hK.out _ w (Below.refl _ _) rfl (fun h => by cases h))
          go_simp
          try (first | done | rfl | (simp; done))
        refine StepsP.cons ?_ ?_
        · intro Q s w hC hA K hK
          obtain ⟨hsz, hk_g10, lt_g10, hk_g11b, lt_g11b, lt_g4, hbw, ya⟩ := hC
          obtain ⟨f7, -⟩ := hA
          replace f7 : (s 64) = .pointer (some ⟨g10, 1, none⟩) := f7
          refine guard_none (by rfl) ?_
          have m0_g10 : w.cell? ⟨g10, 0, none⟩ = some (.int .i64 pl_) := blk_cell hk_g10 0 (by rfl)
          have m1_g10 : w.cell? ⟨g10, 1, none⟩ = some (.int .i64 ph_) := blk_cell hk_g10 1 (by rfl)
          refine wp_value (v := .int .i64 ph_) (w1 := w) ?_ (hK.out _ w (Below.refl _ _) rfl (fun h => by cases h))
          try simp only [f7]
          go_simp
          try (first | done | rfl | (simp; done))
        refine StepsP.cons ?_ ?_
        · intro Q s w hC hA K hK
          clear hC
          clear hA
          refine guard_none (by rfl) ?_
          refine wp_value (v := .pointer (some ⟨g11b, 0, none⟩)) (w1 := w) ?_ (hK.out _ w (Below.refl _ _) rfl (fun h => by cases h))
          go_simp
          try (first | done | rfl | (simp; done))
        refine StepsP.cons ?_ ?_
        · intro Q s w hC hA K hK
          obtain ⟨hsz, hk_g10, lt_g10, hk_g11b, lt_g11b, lt_g4, hbw, ya⟩ := hC
          obtain ⟨f9, -⟩ := hA
          replace f9 : (s 66) = .pointer (some ⟨g11b, 0, none⟩) := f9
          refine guard_none (by rfl) ?_
          have m0_g11b : w.cell? ⟨g11b, 0, none⟩ = some (.int .i64 il) := blk_cell hk_g11b 0 (by rfl)
          have m1_g11b : w.cell? ⟨g11b, 1, none⟩ = some (.int .i64 ih) := blk_cell hk_g11b 1 (by rfl)
          refine wp_value (v := .int .i64 il) (w1 := w) ?_ (hK.out _ w (Below.refl _ _) rfl (fun h => by cases h))
          try simp only [f9]
          go_simp
          try (first | done | rfl | (simp; done))
        refine StepsP.cons ?_ ?_
        · intro Q s w hC hA K hK
          clear hC
          clear hA
          refine guard_none (by rfl) ?_
          refine wp_value (v := .pointer (some ⟨g11b, 1, none⟩)) (w1 := w) ?_ (hK.out _ w (Below.refl _ _) rfl (fun h => by cases h))
          go_simp
          try (first | done | rfl | (simp; done))
        refine StepsP.cons ?_ ?_
        · intro Q s w hC hA K hK
          obtain ⟨hsz, hk_g10, lt_g10, hk_g11b, lt_g11b, lt_g4, hbw, ya⟩ := hC
          obtain ⟨f11, -⟩ := hA
          replace f11 : (s 68) = .pointer (some ⟨g11b, 1, none⟩) := f11
          refine guard_none (by rfl) ?_
          have m0_g11b : w.cell? ⟨g11b, 0, none⟩ = some (.int .i64 il) := blk_cell hk_g11b 0 (by rfl)
          have m1_g11b : w.cell? ⟨g11b, 1, none⟩ = some (.int .i64 ih) := blk_cell hk_g11b 1 (by rfl)
          refine wp_value (v := .int .i64 ih) (w1 := w) ?_ (hK.out _ w (Below.refl _ _) rfl (fun h => by cases h))
          try simp only [f11]
          go_simp
          try (first | done | rfl | (simp; done))
        refine StepsP.cons ?_ ?_
        · intro Q s w hC hA K hK
          obtain ⟨hsz, hk_g10, lt_g10, hk_g11b, lt_g11b, lt_g4, hbw, ya⟩ := hC
          obtain ⟨f8, f10, f12, -⟩ := hA
          replace f8 : (s 65) = .int .i64 ph_ := f8
          replace f10 : (s 67) = .int .i64 il := f10
          replace f12 : (s 69) = .int .i64 ih := f12
          refine guard_none (by rfl) ?_
          refine wp_call (N := some 70) (by rfl) Try.func22 (by kernel_rfl) #[.int .i64 ph_, .int .i64 il, .int .i64 ih] rfl (by rfl) ?_ ?_
          · show [s 65, s 67, s 69] = [.int .i64 ph_, .int .i64 il, .int .i64 ih]
            first | rfl | simp only [f8, f10, f12]
          refine (Clamp_calls ph_ il ih _).mono ?_
          rintro e w1 ⟨rfl, rfl⟩
          refine ⟨_, rfl, ?_⟩
          exact hK.out _ _ (Below.refl _ _) rfl (fun h => by cases h)
        refine StepsP.cons ?_ ?_
        · intro Q s w hC hA K hK
          clear hC
          obtain ⟨f6, f13, -⟩ := hA
          replace f6 : (s 63) = .int .i64 (clampTo pl_ il ih) := f6
          replace f13 : (s 70) = .int .i64 (clampTo ph_ il ih) := f13
          refine guard_none (by rfl) ?_
          refine wp_value (v := .agg #[.int .i64 (clampTo pl_ il ih), .int .i64 (clampTo ph_ il ih)]) (w1 := w) ?_ (hK.out _ w (Below.refl _ _) rfl (fun h => by cases h))
          try simp only [f6, f13]
          go_simp
          try (first | done | rfl | (simp; done))
        refine StepsP.cons ?_ ?_
        · intro Q s w hC hA K hK
          clear hC
          clear hA
          refine guard_none (by rfl) ?_
          refine wp_value (v := .pointer (some ⟨ga, 0, none⟩)) (w1 := w) ?_ (hK.out _ w (Below.refl _ _) rfl (fun h => by cases h))
          go_simp
          try (first | done | rfl | (simp; done))
        refine StepsP.cons ?_ ?_
        · intro Q s w hC hA K hK
          clear hC
          obtain ⟨f15, -⟩ := hA
          replace f15 : (s 72) = .pointer (some ⟨ga, 0, none⟩) := f15
          refine guard_none (by rfl) ?_
          refine wp_value (v := .pointer (some ⟨ga, 0, none⟩)) (w1 := w) ?_ (hK.out _ w (Below.refl _ _) rfl (fun h => by cases h))
          try simp only [f15]
          go_simp
          try (first | done | rfl | (simp; done))
        refine StepsP.cons ?_ ?_
        · intro Q s w hC hA K hK
          obtain ⟨hsz, hk_g10, lt_g10, hk_g11b, lt_g11b, lt_g4, hbw, ya⟩ := hC
          obtain ⟨f16, -⟩ := hA
          replace f16 : (s 73) = .pointer (some ⟨ga, 0, none⟩) := f16
          refine guard_none (by rfl) ?_
          refine wp_value (v := .bool tt) (w1 := w) ?_ (hK.out _ w (Below.refl _ _) rfl (fun h => by cases h))
          try simp only [f16]
          go_simp
          try (first | done | rfl | (simp; done))
        refine StepsP.cons ?_ ?_
        · intro Q s w hC hA K hK
          clear hC
          obtain ⟨f17, -⟩ := hA
          replace f17 : (s 74) = .bool tt := f17
          refine guard_none (by rfl) ?_
          refine wp_value (v := .bool (!tt)) (w1 := w) ?_ (hK.out _ w (Below.refl _ _) rfl (fun h => by cases h))
          try simp only [f17]
          go_simp
          try (first | done | rfl | (simp; done))
        refine StepsP.cons ?_ ?_
        · intro Q s w hC hA K hK
          obtain ⟨hsz, hk_g10, lt_g10, hk_g11b, lt_g11b, lt_g4, hbw, ya⟩ := hC
          obtain ⟨f14, f21, -⟩ := hA
          replace f14 : (s 71) = .agg #[.int .i64 (clampTo pl_ il ih), .int .i64 (clampTo ph_ il ih)] := f14
          replace f21 : w.heap[g4]? = some (.cells #[.int .i64 0, .int .i64 0] 25 (0, 0)) := f21
          refine guard_none (by rfl) ?_
          have hk_g4 := f21
          have m0_g4 : w.cell? ⟨g4, 0, none⟩ = some (.int .i64 0) := blk_cell hk_g4 0 (by rfl)
          have z0_g4 : w.frozen? ⟨g4, 0, none⟩ = false := blkf hk_g4 0
          have m1_g4 : w.cell? ⟨g4, 1, none⟩ = some (.int .i64 0) := blk_cell hk_g4 1 (by rfl)
          have z1_g4 : w.frozen? ⟨g4, 1, none⟩ = false := blkf hk_g4 1
          refine wp_skip_ (w1 := ((w.setCell ⟨g4, 0, none⟩ (.int .i64 (clampTo pl_ il ih))).setCell ⟨g4, 1, none⟩ (.int .i64 (clampTo ph_ il ih)))) ?_ (hK.out undef _ (Or.inr ⟨fun k_ o_ hne_ h_ => (blk_far (blk_far h_ (a := ⟨g4, 0, none⟩) (Ne.symm hne_) (.int .i64 (clampTo pl_ il ih))) (a := ⟨g4, 1, none⟩) (Ne.symm hne_) (.int .i64 (clampTo ph_ il ih))), by simp [World.setCell], (Below.setCell (Below.setCell (Below.refl _ _) (p := ⟨g4, 0, none⟩) (Nat.le_refl _) (.int .i64 (clampTo pl_ il ih))) (p := ⟨g4, 1, none⟩) (Nat.le_refl _) (.int .i64 (clampTo ph_ il ih)))⟩) (blk_set (blk_set hk_g4 0 (.int .i64 (clampTo pl_ il ih))) 1 (.int .i64 (clampTo ph_ il ih))) (fun h => by cases h))
          try simp only [f14]
          go_simp
          try rfl
        refine StepsP.cons ?_ ?_
        · intro Q s w hC hA K hK
          clear hC
          obtain ⟨f18, -⟩ := hA
          replace f18 : (s 75) = .bool (!tt) := f18
          refine guard_none (by rfl) ?_
          refine wp_value (v := .bool (!tt)) (w1 := w) ?_ (hK.out _ w (Below.refl _ _) rfl (fun h => by cases h))
          try simp only [f18]
          go_simp
          try (first | done | rfl | (simp; done))
        exact StepsP.nil
      obtain ⟨hsz, hk_g10, lt_g10, hk_g11b, lt_g11b, lt_g4, hbw, ya⟩ := hC
      obtain ⟨f19, f20, -⟩ := hA
      replace f19 : w.heap[g4]? = some (.cells #[.int .i64 (clampTo pl_ il ih), .int .i64 (clampTo ph_ il ih)] 25 (0, 0)) := f19
      replace f20 : (s 5) = .bool (!tt) := f20
      have hk_g4 := f19
      refine act_eq (b' := ?b10) ?h10 ?q10
      case h10 => simp only [f20]; rfl
      go_wp2
      refine bodyPost_ret (res_ct rfl _ _ g4 25 #[.int .i64 (clampTo pl_ il ih), .int .i64 (clampTo ph_ il ih)] (0, 0) _ _ rfl (by first | exact hk_g4 | assumption) Try.underlying25 rfl (by kernel_rfl) rfl) rfl ?_
      rw [hcmd.out]
      exact ⟨rfl, by rw [← hw0.out]; exact hbw⟩
end Go.Proofs.Ythdaidmjjcmccaa
