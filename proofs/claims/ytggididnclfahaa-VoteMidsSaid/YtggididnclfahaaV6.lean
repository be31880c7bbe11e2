/- Proved here: lemmas and contracts (what a function of the program computes) that the proofs of the laws of this seat lean on. Conditions: as each theorem states. -/
import Derived.Test.YtggididnclfahaaV5
import Derived.Test.YtggididnclfahaaVm2
set_option linter.unusedVariables false
set_option linter.unusedSimpArgs false
namespace Go.Proofs.Ytggididnclfahaa
open Go.RowKit Go.Pk Go.Pk.Vt
set_option maxHeartbeats 8000000 in
set_option maxRecDepth 100000 in
theorem alive22_calls (w : World) : Calls Try.prog 10 #[] w fun e w' => e = .returned (.bool true) ∧ Below w.heap.size w w' := by
  have hm1 := hidI (fun W A c (h : RdI W A [3, 1, 2]) => al_m1 ▸ mid_calls [3, 1, 2] A c W h (by simp))
  have hm2 := hidI (fun W A c (h : RdI W A [4, 1, 2, 3]) => al_m2 ▸ mid_calls [4, 1, 2, 3] A c W h (by simp))
  go_enter Try.func10, Try.ntmps10
  go_wp2_with fail
  refine (vNew_ok 1 5 2 w (by decide)).mono ?_
  rintro e V ⟨g, hg, rfl, hbw, hk⟩
  go_wp2
  go_loopw [3] (fun x wr => ∃ k : Nat, k ≤ 2 ∧ x = .int .i64 ((k : Int) + 1) ∧ Below w.heap.size w wr ∧ wr.heap[g]? = some (.cells (alS k).arr 68 (0, 0))) (fun x _ => (3 - intOf x).toNat)
  case atStart => exact ⟨0, by omega, rfl, hbw, hk⟩
  case round =>
    clear hbw hk
    obtain ⟨k, hk2, rfl, hbw, hk⟩ := hrel
    rcases (by omega : k = 0 ∨ k = 1 ∨ k = 2) with rfl | rfl | rfl
    · have hd' : decide ((1 : Int) ≤ 2) = true := by decide
      replace hk : wr.heap[g]? = some (.cells (al0).arr 68 (0, 0)) := hk
      have p0 := hidI (fun W hbw hk => put0_ok w g al0 10 1 W hg hbw hk (by rw [al_s.1]; decide) (by decide) (by rw [al_t.1]; decide))
      have p1 := hidI (fun W hbw hk => put1_ok w g (al0.said 0 10 1) 11 1 W hg hbw hk (by show 1 ≤ al0.strikes; rw [al_s.1]; decide) (by decide) (by show al0.b.t < _; rw [al_t.2.1]; decide))
      have p2 := hidI (fun W hbw hk => put2_ok w g ((al0.said 0 10 1).said 1 11 1) 90 1 W hg hbw hk (by show 1 ≤ al0.strikes; rw [al_s.1]; decide) (by decide) (by show al0.c.t < _; rw [al_t.2.2.1]; decide))
      have pv := hidI (fun W hbw hk => vote_calls w g (((al0.said 0 10 1).said 1 11 1).said 2 90 1) 1 W hg hbw hk al_ok1' (by decide))
      rw [vote_eq] at pv
      go_wp2_with fail
      refine (p0.out _ hbw hk).mono ?_
      rintro e w1 ⟨rfl, hE, hk1⟩
      replace hbw := hE.b
      clear hk hE p0
      go_wp2_with fail
      refine (p1.out _ hbw hk1).mono ?_
      rintro e w2 ⟨rfl, hE, hk2⟩
      replace hbw := hE.b
      clear hk1 hE p1
      go_wp2_with fail
      refine (p2.out _ hbw hk2).mono ?_
      rintro e w3 ⟨rfl, hE, hk3⟩
      replace hbw := hE.b
      clear hk2 hE p2
      go_wp2_with fail
      refine (pv.out _ hbw hk3).mono ?_
      rintro e w4 ⟨rfl, hE, hk4⟩
      replace hbw := hE.b
      clear hk3 hE pv
      go_wp2
      go_roundw
      case rel => exact ⟨1, by omega, by first | rfl | go_num, hbw, hk4⟩
      case measure => simp [intOf]
    · have hd' : decide ((2 : Int) ≤ 2) = true := by decide
      replace hk : wr.heap[g]? = some (.cells (al1).arr 68 (0, 0)) := hk
      have p0 := hidI (fun W hbw hk => put0_ok w g al1 10 2 W hg hbw hk (by rw [al_s.2.1]; decide) (by decide) (by rw [al_t.2.2.2.1]; decide))
      have p1 := hidI (fun W hbw hk => put1_ok w g (al1.said 0 10 2) 11 2 W hg hbw hk (by show 1 ≤ al1.strikes; rw [al_s.2.1]; decide) (by decide) (by show al1.b.t < _; rw [al_t.2.2.2.2.1]; decide))
      have p2 := hidI (fun W hbw hk => put2_ok w g ((al1.said 0 10 2).said 1 11 2) 90 2 W hg hbw hk (by show 1 ≤ al1.strikes; rw [al_s.2.1]; decide) (by decide) (by show al1.c.t < _; rw [al_t.2.2.2.2.2]; decide))
      have pv := hidI (fun W hbw hk => vote_calls w g (((al1.said 0 10 2).said 1 11 2).said 2 90 2) 2 W hg hbw hk al_ok2' (by decide))
      rw [vote_eq] at pv
      go_wp2_with fail
      refine (p0.out _ hbw hk).mono ?_
      rintro e w1 ⟨rfl, hE, hk1⟩
      replace hbw := hE.b
      clear hk hE p0
      go_wp2_with fail
      refine (p1.out _ hbw hk1).mono ?_
      rintro e w2 ⟨rfl, hE, hk2⟩
      replace hbw := hE.b
      clear hk1 hE p1
      go_wp2_with fail
      refine (p2.out _ hbw hk2).mono ?_
      rintro e w3 ⟨rfl, hE, hk3⟩
      replace hbw := hE.b
      clear hk2 hE p2
      go_wp2_with fail
      refine (pv.out _ hbw hk3).mono ?_
      rintro e w4 ⟨rfl, hE, hk4⟩
      replace hbw := hE.b
      clear hk3 hE pv
      go_wp2
      go_roundw
      case rel => exact ⟨2, by omega, by first | rfl | go_num, hbw, hk4⟩
      case measure => simp [intOf]
    · have hd' : decide ((3 : Int) ≤ 2) = false := by decide
      replace hk : wr.heap[g]? = some (.cells al2.arr 68 (0, 0)) := hk
      have pv := hidI (fun W hbw hk => vote_calls w g al2 2 W hg hbw hk al_ok2 (by decide))
      rw [vote_eq, show al2.voteI 2 = al3 from rfl, al_x, al_n] at pv
      have pb := hidI (fun W hk => bad_calls g al3 W hk (by rw [al_s.2.2.2]; decide))
      rw [al_b] at pb
      go_wp2_with fail
      refine (pv.out _ hbw hk).mono ?_
      rintro e w1 ⟨rfl, hE, hk1⟩
      replace hbw := hE.b
      clear hk hE pv
      go_wp2_with fail
      refine (hm1.out _ (some ⟨w1.heap.size, 0, none⟩) 3 (RdI.of_blk (l := [3, 1, 2]) (blk_new w1 (.cells #[.int .i64 3, .int .i64 1, .int .i64 2] 3)) (by simp))).mono ?_
      rintro e w2 ⟨rfl, hb2⟩
      replace hk1 := bl_block hb2 (blk_alloc hk1 (.cells #[.int .i64 3, .int .i64 1, .int .i64 2] 3))
      replace hbw := bl_step (bl_alloc hbw (.cells #[.int .i64 3, .int .i64 1, .int .i64 2] 3)) hb2
      clear hb2 hm1
      go_wp2_with fail
      refine (hm2.out _ (some ⟨w2.heap.size, 0, none⟩) 4 (RdI.of_blk (l := [4, 1, 2, 3]) (blk_new w2 (.cells #[.int .i64 4, .int .i64 1, .int .i64 2, .int .i64 3] 3)) (by simp))).mono ?_
      rintro e w3 ⟨rfl, hb3⟩
      replace hk1 := bl_block hb3 (blk_alloc hk1 (.cells #[.int .i64 4, .int .i64 1, .int .i64 2, .int .i64 3] 3))
      replace hbw := bl_step (bl_alloc hbw (.cells #[.int .i64 4, .int .i64 1, .int .i64 2, .int .i64 3] 3)) hb3
      clear hb3 hm2
      go_wp2_with fail
      refine (pb.out _ hk1).mono ?_
      rintro e w4 ⟨rfl, hb4⟩
      replace hbw := bl_step hbw hb4
      clear hb4 hk1 pb
      go_wp2
      go_ret
      exact ⟨rfl, hbw⟩
set_option maxHeartbeats 8000000 in
set_option maxRecDepth 100000 in
theorem VNone_walk (i now x : Int) (w : World) :
    Calls Try.prog 8 #[.int .i64 i, .int .i64 now, .int .i64 x] w fun e w' => e = .returned (.bool true) ∧ Below w.heap.size w w' := by
  have hbw := Below.refl w.heap.size w
  go_enter Try.func8, Try.ntmps8
  go_upto_region 3 with fail
  have hk_gz := blk_new w (.cells #[.int .i64 0, .int .i64 0, .bool false, .bool false, .int .i64 0, .int .i64 0, .int .i64 0, .bool false, .bool false, .int .i64 0, .int .i64 0, .int .i64 0, .bool false, .bool false, .int .i64 0, .int .i64 0, .int .i64 0, .int .i64 0, .int .i64 0] 68)
  replace hbw := bl_alloc hbw (.cells #[.int .i64 0, .int .i64 0, .bool false, .bool false, .int .i64 0, .int .i64 0, .int .i64 0, .bool false, .bool false, .int .i64 0, .int .i64 0, .int .i64 0, .bool false, .bool false, .int .i64 0, .int .i64 0, .int .i64 0, .int .i64 0, .int .i64 0] 68)
  obtain ⟨W1, hW1⟩ : ∃ z, z = w.alloc (.cells #[.int .i64 0, .int .i64 0, .bool false, .bool false, .int .i64 0, .int .i64 0, .int .i64 0, .bool false, .bool false, .int .i64 0, .int .i64 0, .int .i64 0, .bool false, .bool false, .int .i64 0, .int .i64 0, .int .i64 0, .int .i64 0, .int .i64 0] 68) := ⟨_, rfl⟩
  rw [← hW1] at hk_gz hbw ⊢
  obtain ⟨gz, hgz⟩ : ∃ g, g = w.heap.size := ⟨_, rfl⟩
  rw [← hgz] at hk_gz ⊢
  clear hW1 hgz
  have hz := hidI (fun W (h : W.heap[gz]? = some (.cells #[.int .i64 0, .int .i64 0, .bool false, .bool false, .int .i64 0, .int .i64 0, .int .i64 0, .bool false, .bool false, .int .i64 0, .int .i64 0, .int .i64 0, .bool false, .bool false, .int .i64 0, .int .i64 0, .int .i64 0, .int .i64 0, .int .i64 0] 68 (0, 0))) => vNone_at gz 0 W (blk_cell h 17 (by rfl)))
  go_wp2_with fail
  refine (reset_none _ _ _ (vNone_nil _)).mono ?_
  rintro e w_ ⟨rfl, hw_⟩
  subst hw_
  go_wp2_with fail
  refine (reset_none _ _ _ (hz.out _ (blk_alloc hk_gz _))).mono ?_
  rintro e w1 ⟨rfl, hw1⟩
  replace hk_gz := blk_alloc hk_gz (.cells #[.int .i64 1] 3)
  replace hbw := bl_alloc hbw (.cells #[.int .i64 1] 3)
  rw [← hw1] at hk_gz hbw
  clear hw1
  go_wp2_with fail
  refine (vote_none _ _ _ (vNone_nil _)).mono ?_
  rintro e w_ ⟨rfl, hw_⟩
  subst hw_
  go_wp2_with fail
  refine (vote_none _ _ _ (hz.out _ hk_gz)).mono ?_
  rintro e w_ ⟨rfl, hw_⟩
  subst hw_
  go_wp2_with fail
  refine (chan_none _ _ _ _ (fun W _ => vNone_nil W)).mono ?_
  rintro e w2 ⟨rfl, hb_⟩
  replace hk_gz := bl_block hb_ hk_gz
  replace hbw := bl_step hbw hb_
  clear hb_
  go_upto_region 8 with fail
  replace hk_gz := blk_alloc hk_gz (.cells #[.int .i64 0, .int .i64 0, .bool false, .bool false] 40)
  replace hbw := bl_alloc hbw (.cells #[.int .i64 0, .int .i64 0, .bool false, .bool false] 40)
  generalize w2.alloc (.cells #[.int .i64 0, .int .i64 0, .bool false, .bool false] 40) = w3 at *
  go_wp2_with fail
  refine (chan_none _ _ _ _ (fun W h => hz.out W (bl_block h hk_gz))).mono ?_
  rintro e w4 ⟨rfl, hb_⟩
  replace hk_gz := bl_block hb_ hk_gz
  replace hbw := bl_step hbw hb_
  clear hb_
  go_upto_region 9 with fail
  replace hk_gz := blk_alloc hk_gz (.cells #[.int .i64 0, .int .i64 0, .bool false, .bool false] 40)
  replace hbw := bl_alloc hbw (.cells #[.int .i64 0, .int .i64 0, .bool false, .bool false] 40)
  generalize w4.alloc (.cells #[.int .i64 0, .int .i64 0, .bool false, .bool false] 40) = w5 at *
  go_wp2_with fail
  refine (alive22_calls _).mono ?_
  rintro e w6 ⟨rfl, hb_⟩
  replace hk_gz := bl_block hb_ hk_gz
  replace hbw := bl_step hbw hb_
  clear hb_
  go_wp2_with fail
  refine (put_none _ _ _ _ _ (vNone_nil _)).mono ?_
  rintro e w_ ⟨rfl, hw_⟩
  subst hw_
  go_wp2_with fail
  refine (put_none _ _ _ _ _ (hz.out _ hk_gz)).mono ?_
  rintro e w_ ⟨rfl, hw_⟩
  subst hw_
  go_wp2_with fail
  refine (bad_none _ _ (vNone_nil _)).mono ?_
  rintro e w_ ⟨rfl, hw_⟩
  subst hw_
  go_wp2_with fail
  refine (bad_none _ _ (hz.out _ hk_gz)).mono ?_
  rintro e w_ ⟨rfl, hw_⟩
  subst hw_
  go_wp2
  go_ret
  exact ⟨rfl, hbw⟩
end Go.Proofs.Ytggididnclfahaa
