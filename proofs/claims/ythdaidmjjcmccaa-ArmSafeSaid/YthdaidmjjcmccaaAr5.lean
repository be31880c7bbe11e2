/- Proved here: lemmas and contracts (what a function of the program computes) that the proofs of the laws of this seat lean on. Conditions: as each theorem states. -/
import Derived.Test.YthdaidmjjcmccaaAr4
set_option linter.unusedVariables false
set_option linter.unusedSimpArgs false
namespace Go.Pk
open Go.RowKit Go.Pk.Rx
/-- Why a command is not let through, the controller's bytes having been read. -/
def whyW (p : Pl) (s : List Int) (hold : Int) (a : ASt) (u er : Int) (x : List Int) : Int :=
  if x.length = p.B.length then
    if er = 0 then
      if acceptP p s u x = 0 then
        if a.src = 1 ∧ a.since < hold then 43 else 0
      else acceptP p s u x
    else er
  else 1
def decWhy (p : Pl) (s : List Int) (hold : Int) (a : ASt) (b : ByteArray) (x : List Int) : Int := whyW p s hold a (cmdU b) (cmdE b) x
def decSrc (p : Pl) (s : List Int) (hold : Int) (a : ASt) (b : ByteArray) (x : List Int) : Int := if decWhy p s hold a b x = 0 then 0 else 1
def decCmd (p : Pl) (s : List Int) (hold : Int) (a : ASt) (b : ByteArray) (x : List Int) : Int := if decWhy p s hold a b x = 0 then cmdU b else baseP p x
def forceWhy (p : Pl) (why : Int) (x : List Int) : Int := if x.length = p.B.length then why else 1
/-- What a choice of an arm leaves behind. -/
def Chose (w0 w w' : World) (ga gl : Nat) (hold : Int) (a' : ASt) (aS : Option Addr) (n cS TA : Nat) (cmd src why : Int) (e : Ending) : Prop :=
  e = .returned (.agg #[.int .i64 cmd, .int .i64 src, .int .i64 why]) ∧ Arm1 w0 w w' ga ∧ w'.heap[ga]? = some (.cells (armV gl hold a' aS n cS) TA (0, 0))
end Go.Pk
namespace Go.Proofs.Ythdaidmjjcmccaa
open Go.RowKit Go.Pk Go.Proofs.YthdaidmjjcmccaaW.PrintLast
set_option maxHeartbeats 8000000 in
set_option maxRecDepth 100000 in
theorem abase_calls (w0 : World) (ga gl : Nat) (hold : Int) (a : ASt) (aS : Option Addr) (p : Pl) (s : List Int) (n cS : Nat) (why : Int) (x : List Int) (ax : Option Addr) (cx : Nat) (w : World) (hX : ArmX w0 ga gl aS p s 51 116) (ha : a.ok) (hbw : Below w0.heap.size w0 w) (hk_ga : w.heap[ga]? = some (.cells (armV gl hold a aS n cS) 78 (0, 0))) (hx : RdI w ax x) (hix : InI x) :
    Calls Try.prog 88 #[.pointer (some ⟨ga, 0, none⟩), .int .i64 why, .slice ax x.length cx] w fun e w' => Chose w0 w w' ga gl hold (a.chosen 1) aS n cS 78 (baseP p x) 1 why e := by
  obtain ⟨gk, hgk, hkit⟩ := hX.lk.ptr
  have hgl := World.block_lt_of_cell? w0 _ hgk
  have hga := hX.hg
  have hBa := hidI (fun W (h : Below w0.heap.size w0 W) (h2 : RdI W ax x) => Base_calls gk p x ax cx W (hkit.below h) (by have := hX.good.lens; omega) (by have := hX.good.lens; omega) hX.good.2.2.2.2.2.2.2.2.1 hX.good.2.2.2.2.2.2.2.2.2.1 hX.good.2.2.2.2.2.2.2.2.2.2 h2 hix)
  obtain ⟨bs, hbs⟩ : ∃ z, baseP p x = z := ⟨_, rfl⟩
  rw [hbs] at hBa ⊢
  unfold armV at hk_ga
  have hCh := hidI (fun W (h : Below w0.heap.size w0 W) hk => chosen1_calls w0 ga gl hold a.src a.since a.c0 a.c1 aS n cS bs why W hga h hk ha.t0 ha.t1 ha.u0 ha.u1 ha.v0 ha.v1)
  have hlt := blk_lt hk_ga
  clear hbs hX ha hkit
  obtain ⟨sr, hsr⟩ : ∃ z, a.src = z := ⟨_, rfl⟩
  obtain ⟨sn, hsn⟩ : ∃ z, a.since = z := ⟨_, rfl⟩
  obtain ⟨c0, hc0⟩ : ∃ z, a.c0 = z := ⟨_, rfl⟩
  obtain ⟨c1, hc1⟩ : ∃ z, a.c1 = z := ⟨_, rfl⟩
  have hfin : Hid (armV gl hold (a.chosen 1) aS n cS = #[.pointer (some ⟨gl, 0, none⟩), .int .i64 hold, .int .i64 1, .int .i64 (mn31 ((if 1 = a.src then a.since else 0) + 1)), .int .i64 a.c0, .int .i64 (mn31 (a.c1 + 1)), .slice aS n cS]) := rfl
  rw [hsr, hsn, hc0, hc1] at hk_ga hCh hfin
  replace hsr := hidI (And.intro hsr (And.intro hsn (And.intro hc0 hc1)))
  clear hsn hc0 hc1
  go_enter Try.func88, Try.ntmps88
  go_upto_region 1 with fail
  have hk_gr := blk_new w (.cells #[.int .i64 0, .int .i64 0, .int .i64 0] 73)
  have hbA := bl_alloc (Below.refl w.heap.size w) (.cells #[.int .i64 0, .int .i64 0, .int .i64 0] 73)
  have hA1 := (Arm1.refl (ga := ga) hbw).ext hbA
  replace hk_ga := bl_block hbA hk_ga
  replace hx := hx.below hbA
  generalize w.alloc (.cells #[.int .i64 0, .int .i64 0, .int .i64 0] 73) = W1 at *
  obtain ⟨gr, hgr⟩ : ∃ g, w.heap.size = g := ⟨_, rfl⟩
  have hng : gr ≠ ga := by omega
  have hw0g : w0.heap.size ≤ gr := by have := hbw.size; omega
  have hwg : w.heap.size ≤ gr := by omega
  rw [hgr] at hk_gr
  rw [hgr]
  clear hgr hbA
  have y0 : W1.cell? ⟨ga, 0, none⟩ = some (.pointer (some ⟨gl, 0, none⟩)) := blk_cell hk_ga 0 (by rfl)
  have y1 : W1.cell? ⟨gl, 0, none⟩ = some (.pointer (some ⟨gk, 0, none⟩)) := bl_cell hA1.b hgk
  go_wp2_with fail
  refine (hBa.out _ hA1.b hx).mono ?_
  rintro e W2 ⟨rfl, hb2⟩
  replace hA1 := hA1.ext hb2
  replace hk_ga := bl_block hb2 hk_ga
  replace hk_gr := bl_block hb2 hk_gr
  clear hb2 y0 y1 hBa
  go_wp2_with fail
  refine (hCh.out _ hA1.b hk_ga).mono ?_
  rintro e W3 ⟨rfl, hA3, hk3⟩
  replace hk_gr := hA3.k _ _ hng hk_gr
  replace hA1 := hA1.trans hA3
  clear hA3 hCh hk_ga
  have y0 : W3.cell? ⟨gr, 0, none⟩ = some (.int .i64 0) := blk_cell hk_gr 0 (by rfl)
  have y1 : W3.cell? ⟨gr, 1, none⟩ = some (.int .i64 0) := blk_cell hk_gr 1 (by rfl)
  have y2 : W3.cell? ⟨gr, 2, none⟩ = some (.int .i64 0) := blk_cell hk_gr 2 (by rfl)
  have z0 := blkf hk_gr 0
  have z1 := blkf hk_gr 1
  have z2 := blkf hk_gr 2
  go_wp2
  refine bodyPost_ret (results_cell_row rfl _ _ gr 73 #[.int .i64 bs, .int .i64 1, .int .i64 why] (0, 0) _ rfl (blk_set (blk_set (blk_set hk_gr 0 (.int .i64 bs)) 1 (.int .i64 1)) 2 (.int .i64 why)) Try.underlying73 rfl (by kernel_rfl)) rfl ?_
  unfold Chose
  exact ⟨rfl, ((hA1.set (a := ⟨gr, 0, none⟩) hwg hw0g (.int .i64 bs)).set (a := ⟨gr, 1, none⟩) hwg hw0g (.int .i64 1)).set (a := ⟨gr, 2, none⟩) hwg hw0g (.int .i64 why), by rw [hfin.out]; exact blk_far (blk_far (blk_far hk3 (a := ⟨gr, 0, none⟩) hng (.int .i64 bs)) (a := ⟨gr, 1, none⟩) hng (.int .i64 1)) (a := ⟨gr, 2, none⟩) hng (.int .i64 why)⟩
set_option maxHeartbeats 8000000 in
set_option maxRecDepth 100000 in
theorem awrong_calls (w0 : World) (ga gl : Nat) (hold : Int) (a : ASt) (aS : Option Addr) (p : Pl) (s : List Int) (cS : Nat) (u er : Int) (x : List Int) (ax : Option Addr) (cx : Nat) (w : World) (hX : ArmX w0 ga gl aS p s 51 116) (hbw : Below w0.heap.size w0 w) (hk_ga : w.heap[ga]? = some (.cells (armV gl hold a aS s.length cS) 78 (0, 0))) (hx : RdI w ax x) (hix : InI x) (hu0 : -9223372036854775808 ≤ u) (hu1 : u ≤ 9223372036854775807) :
    Calls Try.prog 87 #[.pointer (some ⟨ga, 0, none⟩), .int .i64 u, .int .i64 er, .slice ax x.length cx] w fun e w' => e = .returned (.int .i64 (whyW p s hold a u er x)) ∧ Below w.heap.size w w' := by
  obtain ⟨gk, hgk, hkit⟩ := hX.lk.ptr
  have hDi := hidI (fun W (h : Below w0.heap.size w0 W) => Dim_calls gk p W (hkit.below h))
  have hAc := hidI (fun W (h : Below w0.heap.size w0 W) (h2 : RdI W ax x) => Accept_calls gk p aS ax s x cS cx u W hX.good (hkit.below h) (hX.rs.below h) hX.si h2 hix hu0 hu1)
  obtain ⟨r, hr⟩ : ∃ z, Hid (whyW p s hold a u er x = z) := ⟨_, rfl⟩
  rw [hr.out]
  unfold armV at hk_ga
  have y0 : w.cell? ⟨ga, 0, none⟩ = some (.pointer (some ⟨gl, 0, none⟩)) := blk_cell hk_ga 0 (by rfl)
  have y1 : w.cell? ⟨gl, 0, none⟩ = some (.pointer (some ⟨gk, 0, none⟩)) := bl_cell hbw hgk
  obtain ⟨sr, hsr⟩ : ∃ z, a.src = z := ⟨_, rfl⟩
  obtain ⟨sn, hsn⟩ : ∃ z, a.since = z := ⟨_, rfl⟩
  rw [hsr, hsn] at hk_ga
  have hW : Hid (whyW p s hold a u er x = if x.length = p.B.length then if er = 0 then if acceptP p s u x = 0 then if sr = 1 ∧ sn < hold then 43 else 0 else acceptP p s u x else er else 1) := by unfold Hid; rw [← hsr, ← hsn]; rfl
  obtain ⟨N, hN⟩ : ∃ z, p.B.length = z := ⟨_, rfl⟩
  rw [hN] at hDi hW
  obtain ⟨ac, hac⟩ : ∃ z, acceptP p s u x = z := ⟨_, rfl⟩
  rw [hac] at hAc hW
  clear hsr hsn hN hac hX hkit hix
  go_enter Try.func87, Try.ntmps87
  go_wp2_with fail
  refine (hDi.out _ hbw).mono ?_
  rintro e w1 ⟨rfl, hw1⟩
  subst hw1
  by_cases hl : ((x.length : Int) != (N : Int)) = true
  · have hz : Hid (whyW p s hold a u er x = 1) := by unfold Hid; rw [hW.out, if_neg (by simp at hl; omega)]
    go_wp2
    go_ret
    exact ⟨by rw [← hr.out, hz.out]; first | rfl | simp, Below.refl _ _⟩
  have hl2 : Hid (x.length = N) := by unfold Hid; simp at hl; omega
  replace hl : ((x.length : Int) != (N : Int)) = false := by simpa using hl
  by_cases he : er = 0
  rotate_left
  · have hz : Hid (whyW p s hold a u er x = er) := by unfold Hid; rw [hW.out, if_pos hl2.out, if_neg he]
    have d1 : (er != 0) = true := by simpa using he
    go_wp2
    go_ret
    exact ⟨by rw [← hr.out, hz.out]; first | rfl | simp, Below.refl _ _⟩
  have hW2 : Hid (whyW p s hold a u er x = if ac = 0 then if sr = 1 ∧ sn < hold then 43 else 0 else ac) := by unfold Hid; rw [hW.out, if_pos hl2.out, if_pos he]
  subst he
  clear hW hl2
  go_upto_region 5 with fail
  clear y0 y1
  obtain ⟨V, hV⟩ : ∃ z : World, z = w1 := ⟨_, rfl⟩
  have hbw_ := hbw
  have hxV : RdI V ax x := by rw [hV]; exact hx
  have hkV : V.heap[ga]? = some (.cells #[.pointer (some ⟨gl, 0, none⟩), .int .i64 hold, .int .i64 sr, .int .i64 sn, .int .i64 a.c0, .int .i64 a.c1, .slice aS s.length cS] 78 (0, 0)) := by rw [hV]; exact hk_ga
  have hgV : V.cell? ⟨gl, 0, none⟩ = some (.pointer (some ⟨gk, 0, none⟩)) := by rw [hV]; exact bl_cell hbw hgk
  have hb0V : Below w0.heap.size w0 V := by rw [hV]; exact hbw
  clear hbw hbw_
  have hbw : Below V.heap.size V w1 := by rw [hV]; exact Below.refl _ _
  clear hx hk_ga hgk
  replace hbw := bl_drew hbw
  refine start_ (n := 15) (S := fun w' => w'.cell? ⟨ga, 0, none⟩ = some (.pointer (some ⟨gl, 0, none⟩)) ∧ w'.cell? ⟨ga, 6, none⟩ = some (.slice aS s.length cS) ∧ w'.cell? ⟨gl, 0, none⟩ = some (.pointer (some ⟨gk, 0, none⟩))) (ds := []) #[false, false, false, false, false, false, false, false, false, false, false, false, false, false, false] (by kernel_rfl) rfl rfl ⟨(blk_cell (bl_block hbw hkV) 0 (by rfl)), (blk_cell (bl_block hbw hkV) 6 (by rfl)), (bl_cell hbw hgV)⟩ (fun hHeld => ?_)
  generalize w1.drew = wn at *
  refine pure_ (i := 0) (N := some 26) (v := ?_) (a' := ?_) #[true, false, false, false, false, false, false, false, false, false, false, false, false, false, false] rfl rfl (by kernel_rfl) (fun _ _ _ h => h) (Or.inl ⟨by rfl, ?_⟩) ?_ ?_
  rotate_left
  · intro w'
    go_simp
    with_reducible rfl
  rotate_left
  · simp only [Act.put, List.setIfInBounds_toArray, List.set_cons_zero, List.set_cons_succ, i64_w, i32_w]
    rfl
  refine pure_ (i := 1) (N := some 27) (v := ?_) (a' := ?_) #[true, true, false, false, false, false, false, false, false, false, false, false, false, false, false] rfl rfl (by kernel_rfl) (fun _ _ _ h => h) (Or.inl ⟨by rfl, ?_⟩) ?_ ?_
  rotate_left
  · intro w'
    go_simp
    with_reducible rfl
  rotate_left
  · simp only [Act.put, List.setIfInBounds_toArray, List.set_cons_zero, List.set_cons_succ, i64_w, i32_w]
    rfl
  refine pure_ (i := 2) (N := some 28) (v := ?_) (a' := ?_) #[true, true, true, false, false, false, false, false, false, false, false, false, false, false, false] rfl rfl (by kernel_rfl) (fun _ _ _ h => h) (Or.inl ⟨by rfl, ?_⟩) ?_ ?_
  rotate_left
  · intro w'
    go_simp
    with_reducible rfl
  rotate_left
  · simp only [Act.put, List.setIfInBounds_toArray, List.set_cons_zero, List.set_cons_succ, i64_w, i32_w]
    rfl
  refine pure_ (i := 7) (N := some 33) (v := ?_) (a' := ?_) #[true, true, true, false, false, false, false, true, false, false, false, false, false, false, false] rfl rfl (by kernel_rfl) (fun _ _ _ h => h) (Or.inl ⟨by rfl, ?_⟩) ?_ ?_
  rotate_left
  · intro w'
    go_simp
    with_reducible rfl
  rotate_left
  · simp only [Act.put, List.setIfInBounds_toArray, List.set_cons_zero, List.set_cons_succ, i64_w, i32_w]
    rfl
  refine pure_ (i := 8) (N := some 34) (v := ?_) (a' := ?_) #[true, true, true, false, false, false, false, true, true, false, false, false, false, false, false] rfl rfl (by kernel_rfl) (fun _ _ _ h => h) (Or.inl ⟨by rfl, ?_⟩) ?_ ?_
  rotate_left
  · intro w'
    go_simp
    with_reducible rfl
  rotate_left
  · simp only [Act.put, List.setIfInBounds_toArray, List.set_cons_zero, List.set_cons_succ, i64_w, i32_w]
    rfl
  refine pure_ (i := 9) (N := some 35) (v := ?_) (a' := ?_) #[true, true, true, false, false, false, false, true, true, true, false, false, false, false, false] rfl rfl (by kernel_rfl) (fun _ _ _ h => h) (Or.inl ⟨by rfl, ?_⟩) ?_ ?_
  rotate_left
  · intro w'
    go_simp
    with_reducible rfl
  rotate_left
  · simp only [Act.put, List.setIfInBounds_toArray, List.set_cons_zero, List.set_cons_succ, i64_w, i32_w]
    rfl
  refine pure_ (i := 11) (N := some 37) (v := ?_) (a' := ?_) #[true, true, true, false, false, false, false, true, true, true, false, true, false, false, false] rfl rfl (by kernel_rfl) (fun _ _ _ h => h) (Or.inl ⟨by rfl, ?_⟩) ?_ ?_
  rotate_left
  · intro w'
    go_simp
    with_reducible rfl
  rotate_left
  · simp only [Act.put, List.setIfInBounds_toArray, List.set_cons_zero, List.set_cons_succ, i64_w, i32_w]
    rfl
  refine pure_ (i := 12) (N := some 38) (v := ?_) (a' := ?_) #[true, true, true, false, false, false, false, true, true, true, false, true, true, false, false] rfl rfl (by kernel_rfl) (fun _ _ _ h => h) (Or.inl ⟨by rfl, ?_⟩) ?_ ?_
  rotate_left
  · intro w'
    go_simp
    with_reducible rfl
  rotate_left
  · simp only [Act.put, List.setIfInBounds_toArray, List.set_cons_zero, List.set_cons_succ, i64_w, i32_w]
    rfl
  refine take_ (i := 3) (N := some 29) (v := ?_) (a' := ?_) #[true, true, true, true, false, false, false, true, true, true, false, true, true, false, false] rfl rfl (by kernel_rfl) (fun _ _ _ h => h) (Or.inl ⟨by rfl, ?_⟩) hHeld ?_ ?_
  rotate_left
  · rintro w' ⟨s0, s1, s2⟩
    go_simp
    with_reducible rfl
  rotate_left
  · simp only [Act.put, List.setIfInBounds_toArray, List.set_cons_zero, List.set_cons_succ, i64_w, i32_w]
    rfl
  refine pure_ (i := 4) (N := some 30) (v := ?_) (a' := ?_) #[true, true, true, true, true, false, false, true, true, true, false, true, true, false, false] rfl rfl (by kernel_rfl) (fun _ _ _ h => h) (Or.inl ⟨by rfl, ?_⟩) ?_ ?_
  rotate_left
  · intro w'
    go_simp
    with_reducible rfl
  rotate_left
  · simp only [Act.put, List.setIfInBounds_toArray, List.set_cons_zero, List.set_cons_succ, i64_w, i32_w]
    rfl
  refine pure_ (i := 5) (N := some 31) (v := ?_) (a' := ?_) #[true, true, true, true, true, true, false, true, true, true, false, true, true, false, false] rfl rfl (by kernel_rfl) (fun _ _ _ h => h) (Or.inl ⟨by rfl, ?_⟩) ?_ ?_
  rotate_left
  · intro w'
    go_simp
    with_reducible rfl
  rotate_left
  · simp only [Act.put, List.setIfInBounds_toArray, List.set_cons_zero, List.set_cons_succ, i64_w, i32_w]
    rfl
  refine take_ (i := 6) (N := some 32) (v := ?_) (a' := ?_) #[true, true, true, true, true, true, true, true, true, true, false, true, true, false, false] rfl rfl (by kernel_rfl) (fun _ _ _ h => h) (Or.inl ⟨by rfl, ?_⟩) hHeld ?_ ?_
  rotate_left
  · rintro w' ⟨s0, s1, s2⟩
    go_simp
    with_reducible rfl
  rotate_left
  · simp only [Act.put, List.setIfInBounds_toArray, List.set_cons_zero, List.set_cons_succ, i64_w, i32_w]
    rfl
  refine take_ (i := 10) (N := some 36) (v := ?_) (a' := ?_) #[true, true, true, true, true, true, true, true, true, true, true, true, true, false, false] rfl rfl (by kernel_rfl) (fun _ _ _ h => h) (Or.inl ⟨by rfl, ?_⟩) hHeld ?_ ?_
  rotate_left
  · rintro w' ⟨s0, s1, s2⟩
    go_simp
    with_reducible rfl
  rotate_left
  · simp only [Act.put, List.setIfInBounds_toArray, List.set_cons_zero, List.set_cons_succ, i64_w, i32_w]
    rfl
  refine one_ (i := 13) (N := some 39) #[true, true, true, true, true, true, true, true, true, true, true, true, true, true, false] rfl rfl (by kernel_rfl) (by decide) (fun K hK => ?_)
  refine goes_ Try.func116 (by kernel_rfl) rfl #[.pointer (some ⟨gk, 0, none⟩), .slice aS s.length cS, .int .i64 u, .slice ax x.length cx] (by rfl) rfl rfl (by simp only [List.map_toArray, List.map_cons, List.map_nil] <;> rfl) ?_
  refine (hAc.out _ (bl_step hb0V hbw) (hxV.below hbw)).mono ?_
  rintro e wn ⟨rfl, hbn⟩
  refine ⟨_, rfl, ?_⟩
  replace hbw := bl_step hbw hbn
  clear hbn
  clear hHeld
  refine hK.out _ _ ⟨(blk_cell (bl_block hbw hkV) 0 (by rfl)), (blk_cell (bl_block hbw hkV) 6 (by rfl)), (bl_cell hbw hgV)⟩ (fun hHeld => ?_)
  clear hK K
  refine norm_ (a' := ?_) ?_ ?_
  rotate_left
  · show Act.put _ (some 39) _ = _
    simp only [Act.put, List.setIfInBounds_toArray, List.set_cons_zero, List.set_cons_succ, i64_w, i32_w]
    rfl
  refine pure_ (i := 14) (N := some 9) (v := ?_) (a' := ?_) #[true, true, true, true, true, true, true, true, true, true, true, true, true, true, true] rfl rfl (by kernel_rfl) (fun _ _ _ h => h) (Or.inl ⟨by rfl, ?_⟩) ?_ ?_
  rotate_left
  · intro w'
    go_simp
    with_reducible rfl
  rotate_left
  · simp only [Act.put, List.setIfInBounds_toArray, List.set_cons_zero, List.set_cons_succ, i64_w, i32_w]
    rfl
  refine done_ (by kernel_rfl) ?_
  subst hV
  by_cases hac : ac = 0
  rotate_left
  · have hz : Hid (whyW p s hold a u 0 x = ac) := by unfold Hid; rw [hW2.out, if_neg hac]
    have d1 : (ac != 0) = true := by simpa using hac
    go_wp2
    go_ret
    exact ⟨by rw [← hr.out, hz.out]; first | rfl | simp, hbw⟩
  have hW3 : Hid (whyW p s hold a u 0 x = if sr = 1 ∧ sn < hold then 43 else 0) := by unfold Hid; rw [hW2.out, if_pos hac]
  subst hac
  have y2 : wn.cell? ⟨ga, 2, none⟩ = some (.int .i64 sr) := blk_cell (bl_block hbw hkV) 2 (by rfl)
  have y3 : wn.cell? ⟨ga, 3, none⟩ = some (.int .i64 sn) := blk_cell (bl_block hbw hkV) 3 (by rfl)
  have y1 : wn.cell? ⟨ga, 1, none⟩ = some (.int .i64 hold) := blk_cell (bl_block hbw hkV) 1 (by rfl)
  by_cases hs1 : sr = 1
  rotate_left
  · have hz : Hid (whyW p s hold a u 0 x = 0) := by unfold Hid; rw [hW3.out, if_neg (fun h => hs1 h.1)]
    have d1 : (sr == 1) = false := by simpa using hs1
    go_wp2
    go_quiet (fail)
    go_wp2
    go_ret
    exact ⟨by rw [← hr.out, hz.out]; first | rfl | simp, bl_drewN hbw _⟩
  subst hs1
  by_cases hs2 : sn < hold
  · have hz : Hid (whyW p s hold a u 0 x = 43) := by unfold Hid; rw [hW3.out, if_pos ⟨rfl, hs2⟩]
    have d1 : decide (sn < hold) = true := decide_eq_true hs2
    go_wp2
    go_quiet (fail)
    go_wp2
    go_ret
    exact ⟨by rw [← hr.out, hz.out]; first | rfl | simp, bl_drewN hbw _⟩
  · have hz : Hid (whyW p s hold a u 0 x = 0) := by unfold Hid; rw [hW3.out, if_neg (fun h => hs2 h.2)]
    have d1 : decide (sn < hold) = false := decide_eq_false hs2
    go_wp2
    go_quiet (fail)
    go_wp2
    go_ret
    exact ⟨by rw [← hr.out, hz.out]; first | rfl | simp, bl_drewN hbw _⟩
end Go.Proofs.Ythdaidmjjcmccaa
