/- Proved here: lemmas and contracts (what a function of the program computes) that the proofs of the laws of this seat lean on. Conditions: as each theorem states. -/
import Derived.Test.YtjidbjmekpholaaAdW
import Derived.Test.YtjidbjmekpholaaLin
set_option linter.unusedVariables false
set_option linter.unusedSimpArgs false
namespace Go.Proofs.Ytjidbjmekpholaa.AdY
open Go.RowKit Go.Pk Go.Pk.Ad Go.Proofs.Ytjidbjmekpholaa.GD Go.Proofs.Ytjidbjmekpholaa.AdW Go.Proofs.YtjidbjmekpholaaW.PrintMore
open Go.Proofs.YtjidbjmekpholaaW.PrintWords (bt bt_at results_list)
def TabV (r1 r2 r3 r4 : Int) (r5 : ByteArray) (e : Int) : Value := .tuple #[.agg #[.int .i64 r1, .int .i64 r2, .int .i64 r3, .int .i64 r4, .string r5], .int .i64 e]
theorem advGet_short (s : ByteArray) (w : World) (hs : ¬ (s.size : Int) = 9) : Calls Try.prog 22 #[.string s] w fun e w' => e = .returned (TabV 0 0 0 0 ⟨#[]⟩ 4) ∧ Below w.heap.size w w' := by
  have h1 : ((s.size : Int) != 9) = true := bne_iff_ne.mpr hs
  go_enter Try.func22, Try.ntmps22
  go_wp2
  have hk0 := blk_new w (.cells #[.int .i64 0, .int .i64 0, .int .i64 0, .int .i64 0, .string ⟨#[]⟩] 38)
  refine bodyPost_ret (results_list (rs := [.cell 2 38, .tmp 3]) rfl (by simp) (.cell w.heap.size 38 #[.int .i64 0, .int .i64 0, .int .i64 0, .int .i64 0, .string ⟨#[]⟩] (0, 0) _ rfl hk0 Try.underlying38 rfl (by kernel_rfl) (.tmp .nil))) rfl ?_
  exact ⟨rfl, bl_alloc (Below.refl _ _) _⟩
set_option maxHeartbeats 100000000 in
set_option maxRecDepth 100000 in
theorem advGet_long (k : Nat) (sb p : ByteArray) (r1 r2 r3 r4 r6 q : Int) (r5 : ByteArray) (w : World) (hs : sb.size = 9) (hM : advise_Make.f  (bt sb 0) (bt sb 1) (bt sb 2) (bt sb 3) = some (r1, r2, r3, r4, r5, r6)) (hP : r6 = 0 → advise_Put.f k r1 r2 r3 r4 r5 = some (p, q)) (V : Value) (hV1 : r6 = 0 → p.toList = sb.toList → V = TabV r1 r2 r3 r4 r5 0) (hV2 : (r6 = 0 → p.toList ≠ sb.toList) → V = TabV 0 0 0 0 ⟨#[]⟩ 4) :
    Calls Try.prog 22 #[.string sb] w fun e w' => e = .returned V ∧ Below w.heap.size w w' := by
  have hx0 : ∀ h : 0 < sb.size, ((sb[0]'h).toNat : Int) = bt sb 0 := bt_at sb 0
  have hx1 : ∀ h : 1 < sb.size, ((sb[1]'h).toNat : Int) = bt sb 1 := bt_at sb 1
  have hx2 : ∀ h : 2 < sb.size, ((sb[2]'h).toNat : Int) = bt sb 2 := bt_at sb 2
  have hx3 : ∀ h : 3 < sb.size, ((sb[3]'h).toNat : Int) = bt sb 3 := bt_at sb 3
  have q0 : wrap64 (bt sb 0) = bt sb 0 := by have := Go.Proofs.Ytjidbjmekpholaa.AdB.bt_rng sb 0; exact w64 (by omega) (by omega)
  have q1 : wrap64 (bt sb 1) = bt sb 1 := by have := Go.Proofs.Ytjidbjmekpholaa.AdB.bt_rng sb 1; exact w64 (by omega) (by omega)
  have q2 : wrap64 (bt sb 2) = bt sb 2 := by have := Go.Proofs.Ytjidbjmekpholaa.AdB.bt_rng sb 2; exact w64 (by omega) (by omega)
  have q3 : wrap64 (bt sb 3) = bt sb 3 := by have := Go.Proofs.Ytjidbjmekpholaa.AdB.bt_rng sb 3; exact w64 (by omega) (by omega)
  generalize bt sb 0 = b0 at *
  generalize bt sb 1 = b1 at *
  generalize bt sb 2 = b2 at *
  generalize bt sb 3 = b3 at *
  have h1 : ((sb.size : Int) != 9) = false := bne_eq_false_iff_eq.mpr (by omega)
  replace hM := hidI hM
  replace hP := hidI hP
  replace hV1 := hidI hV1
  replace hV2 := hidI hV2
  go_enter Try.func22, Try.ntmps22
  go_upto_region 3 with fail
  obtain ⟨g0, hg0⟩ : ∃ g0, w.heap.size = g0 := ⟨_, rfl⟩
  have hk_g0 := blk_new w (.cells #[.int .i64 0, .int .i64 0, .int .i64 0, .int .i64 0, .string ⟨#[]⟩] 38)
  have hbw := bl_alloc (Below.refl w.heap.size w) (.cells #[.int .i64 0, .int .i64 0, .int .i64 0, .int .i64 0, .string ⟨#[]⟩] 38)
  generalize w.alloc (.cells #[.int .i64 0, .int .i64 0, .int .i64 0, .int .i64 0, .string ⟨#[]⟩] 38) = W1 at *
  have hgw : w.heap.size ≤ g0 := by omega
  rw [hg0] at hk_g0
  try rw [hg0]
  obtain ⟨w0, hw0⟩ : ∃ z : World, z = w := ⟨_, rfl⟩
  rw [← hw0] at hbw hgw
  clear hg0
  obtain ⟨B0, hB0⟩ : ∃ B, B = W1.heap.size := ⟨_, rfl⟩
  have c0_hsz : B0 ≤ W1.heap.size := Nat.le_of_eq hB0
  have hw0B0 : w0.heap.size ≤ B0 := by rw [hB0]; exact hbw.size
  have c0_hle : W1.heap.size ≤ B0 := Nat.le_of_eq hB0.symm
  have c0_hk_g0 := blk_drew hk_g0
  have c0_lt_g0 : g0 < B0 := by rw [hB0]; exact blk_lt hk_g0
  have c0_hbw := bl_drew hbw
  clear hB0 hbw hk_g0
  refine region_lin (n := 19) (st := ?st1) { R := [0, 1, 3, 0, 8, 24, 0, 64, 192, 0, 512, 1536, 4095, 8191, 16383, 16383, 0, 98303, 262143], kill := [[], [], [], [], [], [], [], [], [], [], [], [], [], [], [], [], [17], [], []], cls := [0, 0, 0, 0, 0, 0, 0, 0, 0, 0, 0, 0, 0, 0, 0, 0, 0, 1, 0], dst := [some 13, some 14, some 15, some 16, some 17, some 18, some 19, some 20, some 21, some 22, some 23, some 24, some 25, some 12, some 26, some 27, some 4, none, some 5], pre := [[], [0], [1], [], [3], [4], [], [6], [7], [], [9], [10], [2, 5, 8, 11], [12], [13], [13], [], [16, 14], [15]], cov := [(0, 16), (0, 17)], fin := [17, 18], locs := [(16, 4)], tgt := [none, some 4], abt := [none, none, none, none, none, none, none, none, none, none, none, none, none, none, none, none, some 4, some 4, none] }
    [.v [13] (fun vs => (vs.getD 0 undef) = .string sb),
     .v [14] (fun vs => (vs.getD 0 undef) = .int .u8 b0),
     .v [15] (fun vs => (vs.getD 0 undef) = .int .i64 b0),
     .v [16] (fun vs => (vs.getD 0 undef) = .string sb),
     .v [17] (fun vs => (vs.getD 0 undef) = .int .u8 b1),
     .v [18] (fun vs => (vs.getD 0 undef) = .int .i64 b1),
     .v [19] (fun vs => (vs.getD 0 undef) = .string sb),
     .v [20] (fun vs => (vs.getD 0 undef) = .int .u8 b2),
     .v [21] (fun vs => (vs.getD 0 undef) = .int .i64 b2),
     .v [22] (fun vs => (vs.getD 0 undef) = .string sb),
     .v [23] (fun vs => (vs.getD 0 undef) = .int .u8 b3),
     .v [24] (fun vs => (vs.getD 0 undef) = .int .i64 b3),
     .v [25] (fun vs => (vs.getD 0 undef) = .tuple #[.agg #[.int .i64 r1, .int .i64 r2, .int .i64 r3, .int .i64 r4, .string r5], .int .i64 r6]),
     .v [12] (fun vs => (vs.getD 0 undef) = .tuple #[.agg #[.int .i64 r1, .int .i64 r2, .int .i64 r3, .int .i64 r4, .string r5], .int .i64 r6]),
     .v [26] (fun vs => (vs.getD 0 undef) = .agg #[.int .i64 r1, .int .i64 r2, .int .i64 r3, .int .i64 r4, .string r5]),
     .v [27] (fun vs => (vs.getD 0 undef) = .int .i64 r6),
     .w [4] (fun vs w => ∃ g16 : Nat, (vs.getD 0 undef) = .pointer (some ⟨g16, 0, none⟩) ∧ B0 ≤ g16 ∧ w.heap[g16]? = some (.cells #[.int .i64 0, .int .i64 0, .int .i64 0, .int .i64 0, .string ⟨#[]⟩] 38 (0, 0))),
     .w [4] (fun vs w => ∃ g16 : Nat, (vs.getD 0 undef) = .pointer (some ⟨g16, 0, none⟩) ∧ B0 ≤ g16 ∧ w.heap[g16]? = some (.cells #[.int .i64 r1, .int .i64 r2, .int .i64 r3, .int .i64 r4, .string r5] 38 (0, 0))),
     .v [5] (fun vs => (vs.getD 0 undef) = .int .i64 r6)]
    (fun w => B0 ≤ w.heap.size ∧ w.heap[g0]? = some (.cells #[.int .i64 0, .int .i64 0, .int .i64 0, .int .i64 0, .string ⟨#[]⟩] 38 (0, 0)) ∧ g0 < B0 ∧ Below w0.heap.size w0 w)
    (fun c => ([fun s w w' => Below w.heap.size w w', fun s w w' => w' = w ∨ ∃ g16 : Nat, s 4 = .pointer (some ⟨g16, 0, none⟩) ∧ B0 ≤ g16 ∧ (∀ k o, k ≠ g16 → w.heap[k]? = some o → w'.heap[k]? = some o) ∧ w'.heap.size = w.heap.size ∧ Below g16 w w'] : List ((Nat → Value) → World → World → Prop)).getD c (fun s w w' => w' = w))
    [4, 5, 12, 13, 14, 15, 16, 17, 18, 19, 20, 21, 22, 23, 24, 25, 26, 27] (by kernel_rfl) ⟨by kernel_rfl, by kernel_rfl, by kernel_rfl, by kernel_rfl, by kernel_rfl, by kernel_rfl, by kernel_rfl, by kernel_rfl⟩ (fun s => ?_) ?_ ?_ ?_ ?_ ?_ (fun s w hC hA => ?_)
  rotate_left
  · simp only [fillS, List.foldl, List.setIfInBounds_toArray, List.set_cons_zero, List.set_cons_succ]; rfl
  · exact ⟨c0_hsz, c0_hk_g0, c0_lt_g0, c0_hbw⟩
  · intro c s w w' hE
    match c, hE with
    | 0, hE => exact Below.size hE
    | 1, hE => replace hE : w' = w ∨ ∃ g16 : Nat, s 4 = .pointer (some ⟨g16, 0, none⟩) ∧ B0 ≤ g16 ∧ (∀ k o, k ≠ g16 → w.heap[k]? = some o → w'.heap[k]? = some o) ∧ w'.heap.size = w.heap.size ∧ Below g16 w w' := hE; rcases hE with hE | ⟨_, _, _, _, hE, _⟩; exact Nat.le_of_eq (by rw [hE]); exact Nat.le_of_eq hE.symm
    | c + 2, hE => cases hE; exact Nat.le_refl _
  · rintro c s w w' ⟨hsz, hk_g0, lt_g0, hbw⟩ hE
    match c, hE with
    | 0, hE => replace hE : Below w.heap.size w w' := hE; exact ⟨Nat.le_trans hsz hE.size, bl_block hE hk_g0, lt_g0, bl_step hbw hE⟩
    | 1, hE =>
      replace hE : w' = w ∨ ∃ g16 : Nat, s 4 = .pointer (some ⟨g16, 0, none⟩) ∧ B0 ≤ g16 ∧ (∀ k o, k ≠ g16 → w.heap[k]? = some o → w'.heap[k]? = some o) ∧ w'.heap.size = w.heap.size ∧ Below g16 w w' := hE
      rcases hE with rfl | ⟨g16, hs_, hg_, hkeep, hsz_, hBl⟩
      · exact ⟨hsz, hk_g0, lt_g0, hbw⟩
      · exact ⟨by omega, hkeep _ _ (by omega) hk_g0, lt_g0, hbw.trans (Below.mono hBl (Nat.le_trans hw0B0 hg_))⟩
    | c + 2, hE => cases hE; exact ⟨hsz, hk_g0, lt_g0, hbw⟩
  · refine ⟨?_, ?_, trivial⟩
    · intro s w w' hD hC hE hF
      replace hF : ∃ g16 : Nat, (s 4) = .pointer (some ⟨g16, 0, none⟩) ∧ B0 ≤ g16 ∧ w.heap[g16]? = some (.cells #[.int .i64 0, .int .i64 0, .int .i64 0, .int .i64 0, .string ⟨#[]⟩] 38 (0, 0)) := hF
      show ∃ g16 : Nat, (s 4) = .pointer (some ⟨g16, 0, none⟩) ∧ B0 ≤ g16 ∧ w'.heap[g16]? = some (.cells #[.int .i64 0, .int .i64 0, .int .i64 0, .int .i64 0, .string ⟨#[]⟩] 38 (0, 0))
      replace hE : Below w.heap.size w w' := hE
      obtain ⟨g16, h1, h2, h3⟩ := hF
      exact ⟨g16, h1, h2, bl_block hE h3⟩
    · intro s w w' hD hC hE hF
      replace hF : ∃ g16 : Nat, (s 4) = .pointer (some ⟨g16, 0, none⟩) ∧ B0 ≤ g16 ∧ w.heap[g16]? = some (.cells #[.int .i64 r1, .int .i64 r2, .int .i64 r3, .int .i64 r4, .string r5] 38 (0, 0)) := hF
      show ∃ g16 : Nat, (s 4) = .pointer (some ⟨g16, 0, none⟩) ∧ B0 ≤ g16 ∧ w'.heap[g16]? = some (.cells #[.int .i64 r1, .int .i64 r2, .int .i64 r3, .int .i64 r4, .string r5] 38 (0, 0))
      replace hE : Below w.heap.size w w' := hE
      obtain ⟨g16, h1, h2, h3⟩ := hF
      exact ⟨g16, h1, h2, bl_block hE h3⟩
  · skip
    refine StepsP.cons ?_ ?_
    · intro Q s w hC hA K hK
      clear hC
      clear hA
      refine guard_none (by rfl) ?_
      refine wp_value (v := .string sb) (w1 := w) ?_ (hK.out _ w (Below.refl _ _) rfl (fun h => by cases h))
      go_simp
      try (first | done | rfl | (simp; done))
    refine StepsP.cons ?_ ?_
    · intro Q s w hC hA K hK
      clear hC
      obtain ⟨f0, -⟩ := hA
      replace f0 : (s 13) = .string sb := f0
      refine guard_none (by rfl) ?_
      refine wp_value (v := .int .u8 b0) (w1 := w) ?_ (hK.out _ w (Below.refl _ _) rfl (fun h => by cases h))
      try simp only [f0]
      go_simp
      first | done | simp [hs, hx0]
    refine StepsP.cons ?_ ?_
    · intro Q s w hC hA K hK
      clear hC
      obtain ⟨f1, -⟩ := hA
      replace f1 : (s 14) = .int .u8 b0 := f1
      refine guard_none (by rfl) ?_
      refine wp_value (v := .int .i64 b0) (w1 := w) ?_ (hK.out _ w (Below.refl _ _) rfl (fun h => by cases h))
      try simp only [f1]
      go_simp
      first | done | exact (IntWalk.i64_left _).trans q0
    refine StepsP.cons ?_ ?_
    · intro Q s w hC hA K hK
      clear hC
      clear hA
      refine guard_none (by rfl) ?_
      refine wp_value (v := .string sb) (w1 := w) ?_ (hK.out _ w (Below.refl _ _) rfl (fun h => by cases h))
      go_simp
      try (first | done | rfl | (simp; done))
    refine StepsP.cons ?_ ?_
    · intro Q s w hC hA K hK
      clear hC
      obtain ⟨f3, -⟩ := hA
      replace f3 : (s 16) = .string sb := f3
      refine guard_none (by rfl) ?_
      refine wp_value (v := .int .u8 b1) (w1 := w) ?_ (hK.out _ w (Below.refl _ _) rfl (fun h => by cases h))
      try simp only [f3]
      go_simp
      first | done | simp [hs, hx1]
    refine StepsP.cons ?_ ?_
    · intro Q s w hC hA K hK
      clear hC
      obtain ⟨f4, -⟩ := hA
      replace f4 : (s 17) = .int .u8 b1 := f4
      refine guard_none (by rfl) ?_
      refine wp_value (v := .int .i64 b1) (w1 := w) ?_ (hK.out _ w (Below.refl _ _) rfl (fun h => by cases h))
      try simp only [f4]
      go_simp
      first | done | exact (IntWalk.i64_left _).trans q1
    refine StepsP.cons ?_ ?_
    · intro Q s w hC hA K hK
      clear hC
      clear hA
      refine guard_none (by rfl) ?_
      refine wp_value (v := .string sb) (w1 := w) ?_ (hK.out _ w (Below.refl _ _) rfl (fun h => by cases h))
      go_simp
      try (first | done | rfl | (simp; done))
    refine StepsP.cons ?_ ?_
    · intro Q s w hC hA K hK
      clear hC
      obtain ⟨f6, -⟩ := hA
      replace f6 : (s 19) = .string sb := f6
      refine guard_none (by rfl) ?_
      refine wp_value (v := .int .u8 b2) (w1 := w) ?_ (hK.out _ w (Below.refl _ _) rfl (fun h => by cases h))
      try simp only [f6]
      go_simp
      first | done | simp [hs, hx2]
    refine StepsP.cons ?_ ?_
    · intro Q s w hC hA K hK
      clear hC
      obtain ⟨f7, -⟩ := hA
      replace f7 : (s 20) = .int .u8 b2 := f7
      refine guard_none (by rfl) ?_
      refine wp_value (v := .int .i64 b2) (w1 := w) ?_ (hK.out _ w (Below.refl _ _) rfl (fun h => by cases h))
      try simp only [f7]
      go_simp
      first | done | exact (IntWalk.i64_left _).trans q2
    refine StepsP.cons ?_ ?_
    · intro Q s w hC hA K hK
      clear hC
      clear hA
      refine guard_none (by rfl) ?_
      refine wp_value (v := .string sb) (w1 := w) ?_ (hK.out _ w (Below.refl _ _) rfl (fun h => by cases h))
      go_simp
      try (first | done | rfl | (simp; done))
    refine StepsP.cons ?_ ?_
    · intro Q s w hC hA K hK
      clear hC
      obtain ⟨f9, -⟩ := hA
      replace f9 : (s 22) = .string sb := f9
      refine guard_none (by rfl) ?_
      refine wp_value (v := .int .u8 b3) (w1 := w) ?_ (hK.out _ w (Below.refl _ _) rfl (fun h => by cases h))
      try simp only [f9]
      go_simp
      first | done | simp [hs, hx3]
    refine StepsP.cons ?_ ?_
    · intro Q s w hC hA K hK
      clear hC
      obtain ⟨f10, -⟩ := hA
      replace f10 : (s 23) = .int .u8 b3 := f10
      refine guard_none (by rfl) ?_
      refine wp_value (v := .int .i64 b3) (w1 := w) ?_ (hK.out _ w (Below.refl _ _) rfl (fun h => by cases h))
      try simp only [f10]
      go_simp
      first | done | exact (IntWalk.i64_left _).trans q3
    refine StepsP.cons ?_ ?_
    · intro Q s w hC hA K hK
      obtain ⟨hsz, hk_g0, lt_g0, hbw⟩ := hC
      obtain ⟨f2, f5, f8, f11, -⟩ := hA
      replace f2 : (s 15) = .int .i64 b0 := f2
      replace f5 : (s 18) = .int .i64 b1 := f5
      replace f8 : (s 21) = .int .i64 b2 := f8
      replace f11 : (s 24) = .int .i64 b3 := f11
      refine guard_none (by rfl) ?_
      refine wp_call (N := some 25) (by rfl) Try.func18 (by kernel_rfl) #[.int .i64 b0, .int .i64 b1, .int .i64 b2, .int .i64 b3] rfl (by rfl) ?_ ?_
      · show [s 15, s 18, s 21, s 24] = [.int .i64 b0, .int .i64 b1, .int .i64 b2, .int .i64 b3]
        first | rfl | simp only [f2, f5, f8, f11]
      refine (advise_Make.calls  b0 b1 b2 b3 r1 r2 r3 r4 r5 r6 _ hM.out).mono ?_
      rintro e w1 ⟨rfl, hb⟩
      refine ⟨_, rfl, ?_⟩
      exact hK.out _ _ hb rfl (fun h => by cases h)
    refine StepsP.cons ?_ ?_
    · intro Q s w hC hA K hK
      clear hC
      obtain ⟨f12, -⟩ := hA
      replace f12 : (s 25) = .tuple #[.agg #[.int .i64 r1, .int .i64 r2, .int .i64 r3, .int .i64 r4, .string r5], .int .i64 r6] := f12
      refine guard_none (by rfl) ?_
      refine wp_value (v := .tuple #[.agg #[.int .i64 r1, .int .i64 r2, .int .i64 r3, .int .i64 r4, .string r5], .int .i64 r6]) (w1 := w) ?_ (hK.out _ w (Below.refl _ _) rfl (fun h => by cases h))
      try simp only [f12]
      go_simp
      try (first | done | rfl | (simp; done))
    refine StepsP.cons ?_ ?_
    · intro Q s w hC hA K hK
      clear hC
      obtain ⟨f13, -⟩ := hA
      replace f13 : (s 12) = .tuple #[.agg #[.int .i64 r1, .int .i64 r2, .int .i64 r3, .int .i64 r4, .string r5], .int .i64 r6] := f13
      refine guard_none (by rfl) ?_
      refine wp_value (v := .agg #[.int .i64 r1, .int .i64 r2, .int .i64 r3, .int .i64 r4, .string r5]) (w1 := w) ?_ (hK.out _ w (Below.refl _ _) rfl (fun h => by cases h))
      try simp only [f13]
      go_simp
      try (first | done | rfl | (simp; done))
    refine StepsP.cons ?_ ?_
    · intro Q s w hC hA K hK
      clear hC
      obtain ⟨f13, -⟩ := hA
      replace f13 : (s 12) = .tuple #[.agg #[.int .i64 r1, .int .i64 r2, .int .i64 r3, .int .i64 r4, .string r5], .int .i64 r6] := f13
      refine guard_none (by rfl) ?_
      refine wp_value (v := .int .i64 r6) (w1 := w) ?_ (hK.out _ w (Below.refl _ _) rfl (fun h => by cases h))
      try simp only [f13]
      go_simp
      try (first | done | rfl | (simp; done))
    refine StepsP.cons ?_ ?_
    · intro Q s w hC hA K hK
      obtain ⟨hsz, hk_g0, lt_g0, hbw⟩ := hC
      clear hA
      refine guard_none (by rfl) ?_
      refine wp_value (v := .pointer (some ⟨w.heap.size, 0, none⟩)) (w1 := w.alloc (.cells #[.int .i64 0, .int .i64 0, .int .i64 0, .int .i64 0, .string ⟨#[]⟩] 38)) ?_ (hK.out _ _ (bl_alloc (Below.refl _ _) _) ⟨w.heap.size, rfl, hsz, blk_new _ _⟩ (fun _ g h => fresh_alloc (by simpa [blkV] using h)))
      go_simp
      try rfl
    refine StepsP.cons ?_ ?_
    · intro Q s w hC hA K hK
      obtain ⟨hsz, hk_g0, lt_g0, hbw⟩ := hC
      obtain ⟨f16, f14, -⟩ := hA
      replace f16 : ∃ g16 : Nat, (s 4) = .pointer (some ⟨g16, 0, none⟩) ∧ B0 ≤ g16 ∧ w.heap[g16]? = some (.cells #[.int .i64 0, .int .i64 0, .int .i64 0, .int .i64 0, .string ⟨#[]⟩] 38 (0, 0)) := f16
      replace f14 : (s 26) = .agg #[.int .i64 r1, .int .i64 r2, .int .i64 r3, .int .i64 r4, .string r5] := f14
      refine guard_none (by rfl) ?_
      obtain ⟨g16, a_g16, c_g16, hk_g16⟩ := f16
      have m0_g16 : w.cell? ⟨g16, 0, none⟩ = some (.int .i64 0) := blk_cell hk_g16 0 (by rfl)
      have z0_g16 : w.frozen? ⟨g16, 0, none⟩ = false := blkf hk_g16 0
      have m1_g16 : w.cell? ⟨g16, 1, none⟩ = some (.int .i64 0) := blk_cell hk_g16 1 (by rfl)
      have z1_g16 : w.frozen? ⟨g16, 1, none⟩ = false := blkf hk_g16 1
      have m2_g16 : w.cell? ⟨g16, 2, none⟩ = some (.int .i64 0) := blk_cell hk_g16 2 (by rfl)
      have z2_g16 : w.frozen? ⟨g16, 2, none⟩ = false := blkf hk_g16 2
      have m3_g16 : w.cell? ⟨g16, 3, none⟩ = some (.int .i64 0) := blk_cell hk_g16 3 (by rfl)
      have z3_g16 : w.frozen? ⟨g16, 3, none⟩ = false := blkf hk_g16 3
      have m4_g16 : w.cell? ⟨g16, 4, none⟩ = some (.string ⟨#[]⟩) := blk_cell hk_g16 4 (by rfl)
      have z4_g16 : w.frozen? ⟨g16, 4, none⟩ = false := blkf hk_g16 4
      refine wp_skip_ (w1 := (((((w.setCell ⟨g16, 0, none⟩ (.int .i64 r1)).setCell ⟨g16, 1, none⟩ (.int .i64 r2)).setCell ⟨g16, 2, none⟩ (.int .i64 r3)).setCell ⟨g16, 3, none⟩ (.int .i64 r4)).setCell ⟨g16, 4, none⟩ (.string r5))) ?_ (hK.out undef _ (Or.inr ⟨g16, a_g16, c_g16, fun k_ o_ hne_ h_ => (blk_far (blk_far (blk_far (blk_far (blk_far h_ (a := ⟨g16, 0, none⟩) (Ne.symm hne_) (.int .i64 r1)) (a := ⟨g16, 1, none⟩) (Ne.symm hne_) (.int .i64 r2)) (a := ⟨g16, 2, none⟩) (Ne.symm hne_) (.int .i64 r3)) (a := ⟨g16, 3, none⟩) (Ne.symm hne_) (.int .i64 r4)) (a := ⟨g16, 4, none⟩) (Ne.symm hne_) (.string r5)), by simp [World.setCell], (Below.setCell (Below.setCell (Below.setCell (Below.setCell (Below.setCell (Below.refl _ _) (p := ⟨g16, 0, none⟩) (Nat.le_refl _) (.int .i64 r1)) (p := ⟨g16, 1, none⟩) (Nat.le_refl _) (.int .i64 r2)) (p := ⟨g16, 2, none⟩) (Nat.le_refl _) (.int .i64 r3)) (p := ⟨g16, 3, none⟩) (Nat.le_refl _) (.int .i64 r4)) (p := ⟨g16, 4, none⟩) (Nat.le_refl _) (.string r5))⟩) ⟨g16, a_g16, c_g16, (blk_set (blk_set (blk_set (blk_set (blk_set hk_g16 0 (.int .i64 r1)) 1 (.int .i64 r2)) 2 (.int .i64 r3)) 3 (.int .i64 r4)) 4 (.string r5))⟩ (fun h => by cases h))
      try simp only [a_g16, f14]
      go_simp
      try rfl
    refine StepsP.cons ?_ ?_
    · intro Q s w hC hA K hK
      clear hC
      obtain ⟨f15, -⟩ := hA
      replace f15 : (s 27) = .int .i64 r6 := f15
      refine guard_none (by rfl) ?_
      refine wp_value (v := .int .i64 r6) (w1 := w) ?_ (hK.out _ w (Below.refl _ _) rfl (fun h => by cases h))
      try simp only [f15]
      go_simp
      try (first | done | rfl | (simp; done))
    exact StepsP.nil
  obtain ⟨hsz, hk_g0, lt_g0, hbw⟩ := hC
  obtain ⟨f17, f18, -⟩ := hA
  replace f17 : ∃ g16 : Nat, (s 4) = .pointer (some ⟨g16, 0, none⟩) ∧ B0 ≤ g16 ∧ w.heap[g16]? = some (.cells #[.int .i64 r1, .int .i64 r2, .int .i64 r3, .int .i64 r4, .string r5] 38 (0, 0)) := f17
  replace f18 : (s 5) = .int .i64 r6 := f18
  obtain ⟨g16, a_g16, c_g16, hk_g16⟩ := f17
  refine act_eq (b' := ?b1) ?h1 ?q1
  case h1 => simp only [a_g16, f18]; rfl
  subst hw0
  clear f18 a_g16 c0_hk_g0 c0_lt_g0 c0_hbw c0_hsz hw0B0 lt_g0 hx0 hx1 hx2 hx3 hM
  clear hsz c_g16
  have gw : w0.heap.size ≤ g0 := hgw
  by_cases h6 : r6 = 0
  · have h6b : (r6 != 0) = false := bne_eq_false_iff_eq.mpr h6
    have y0 : w.cell? ⟨g16, 0, none⟩ = some (.int .i64 r1) := blk_cell hk_g16 0 (by rfl)
    have y1 : w.cell? ⟨g16, 1, none⟩ = some (.int .i64 r2) := blk_cell hk_g16 1 (by rfl)
    have y2 : w.cell? ⟨g16, 2, none⟩ = some (.int .i64 r3) := blk_cell hk_g16 2 (by rfl)
    have y3 : w.cell? ⟨g16, 3, none⟩ = some (.int .i64 r4) := blk_cell hk_g16 3 (by rfl)
    have y4 : w.cell? ⟨g16, 4, none⟩ = some (.string r5) := blk_cell hk_g16 4 (by rfl)
    go_upto_region 7 with (first | (go_at_call 20; refine (advise_Put.calls _ _ _ _ _ _ _ _ _ (hP.out h6)).mono ?_; rintro e w2 ⟨rfl, hb2⟩) | fail)
    replace hk_g0 := bl_block hb2 hk_g0
    replace hk_g16 := bl_block hb2 hk_g16
    replace hbw := bl_step hbw hb2
    clear y0 y1 y2 y3 y4 hb2 hP
    have x0 := blkf hk_g0 0
    have x1 := blkf hk_g0 1
    have x2 := blkf hk_g0 2
    have x3 := blkf hk_g0 3
    have x4 := blkf hk_g0 4
    have z0 : w2.cell? ⟨g0, 0, none⟩ = some (.int .i64 0) := blk_cell hk_g0 0 (by rfl)
    have z1 : w2.cell? ⟨g0, 1, none⟩ = some (.int .i64 0) := blk_cell hk_g0 1 (by rfl)
    have z2 : w2.cell? ⟨g0, 2, none⟩ = some (.int .i64 0) := blk_cell hk_g0 2 (by rfl)
    have z3 : w2.cell? ⟨g0, 3, none⟩ = some (.int .i64 0) := blk_cell hk_g0 3 (by rfl)
    have z4 : w2.cell? ⟨g0, 4, none⟩ = some (.string ⟨#[]⟩) := blk_cell hk_g0 4 (by rfl)
    by_cases hp : p.toList = sb.toList
    · have hpb : (p.toList != sb.toList) = false := bne_eq_false_iff_eq.mpr hp
      have y0 : w2.cell? ⟨g16, 0, none⟩ = some (.int .i64 r1) := blk_cell hk_g16 0 (by rfl)
      have y1 : w2.cell? ⟨g16, 1, none⟩ = some (.int .i64 r2) := blk_cell hk_g16 1 (by rfl)
      have y2 : w2.cell? ⟨g16, 2, none⟩ = some (.int .i64 r3) := blk_cell hk_g16 2 (by rfl)
      have y3 : w2.cell? ⟨g16, 3, none⟩ = some (.int .i64 r4) := blk_cell hk_g16 3 (by rfl)
      have y4 : w2.cell? ⟨g16, 4, none⟩ = some (.string r5) := blk_cell hk_g16 4 (by rfl)
      go_wp2
      have hF := blk_set (blk_set (blk_set (blk_set (blk_set hk_g0 0 (.int .i64 r1)) 1 (.int .i64 r2)) 2 (.int .i64 r3)) 3 (.int .i64 r4)) 4 (.string r5)
      refine bodyPost_ret (results_list (rs := [.cell 2 38, .tmp 3]) rfl (by simp) (.cell g0 38 #[.int .i64 r1, .int .i64 r2, .int .i64 r3, .int .i64 r4, .string r5] (0, 0) _ rfl (by simpa using hF) Try.underlying38 rfl (by kernel_rfl) (.tmp .nil))) rfl ?_
      exact ⟨by rw [hV1.out h6 hp]; rfl, bl_set (bl_set (bl_set (bl_set (bl_set hbw (p := ⟨g0, 0, none⟩) gw _) (p := ⟨g0, 1, none⟩) gw _) (p := ⟨g0, 2, none⟩) gw _) (p := ⟨g0, 3, none⟩) gw _) (p := ⟨g0, 4, none⟩) gw _⟩
    · have hpb : (p.toList != sb.toList) = true := bne_iff_ne.mpr hp
      have hpc : (p.toList == sb.toList) = false := beq_eq_false_iff_ne.mpr hp
      go_wp2
      have hF := blk_set (blk_set (blk_set (blk_set (blk_set hk_g0 0 (.int .i64 0)) 1 (.int .i64 0)) 2 (.int .i64 0)) 3 (.int .i64 0)) 4 (.string ⟨#[]⟩)
      refine bodyPost_ret (results_list (rs := [.cell 2 38, .tmp 3]) rfl (by simp) (.cell g0 38 #[.int .i64 0, .int .i64 0, .int .i64 0, .int .i64 0, .string ⟨#[]⟩] (0, 0) _ rfl (by first | exact hk_g0 | simpa using hF) Try.underlying38 rfl (by kernel_rfl) (.tmp .nil))) rfl ?_
      first | exact ⟨by rw [hV2.out (fun _ => hp)]; rfl, hbw⟩ | exact ⟨by rw [hV2.out (fun _ => hp)]; rfl, bl_set (bl_set (bl_set (bl_set (bl_set hbw (p := ⟨g0, 0, none⟩) gw _) (p := ⟨g0, 1, none⟩) gw _) (p := ⟨g0, 2, none⟩) gw _) (p := ⟨g0, 3, none⟩) gw _) (p := ⟨g0, 4, none⟩) gw _⟩
  · have h6b : (r6 != 0) = true := bne_iff_ne.mpr h6
    have x0 := blkf hk_g0 0
    have x1 := blkf hk_g0 1
    have x2 := blkf hk_g0 2
    have x3 := blkf hk_g0 3
    have x4 := blkf hk_g0 4
    have z0 : w.cell? ⟨g0, 0, none⟩ = some (.int .i64 0) := blk_cell hk_g0 0 (by rfl)
    have z1 : w.cell? ⟨g0, 1, none⟩ = some (.int .i64 0) := blk_cell hk_g0 1 (by rfl)
    have z2 : w.cell? ⟨g0, 2, none⟩ = some (.int .i64 0) := blk_cell hk_g0 2 (by rfl)
    have z3 : w.cell? ⟨g0, 3, none⟩ = some (.int .i64 0) := blk_cell hk_g0 3 (by rfl)
    have z4 : w.cell? ⟨g0, 4, none⟩ = some (.string ⟨#[]⟩) := blk_cell hk_g0 4 (by rfl)
    go_wp2
    have hF := blk_set (blk_set (blk_set (blk_set (blk_set hk_g0 0 (.int .i64 0)) 1 (.int .i64 0)) 2 (.int .i64 0)) 3 (.int .i64 0)) 4 (.string ⟨#[]⟩)
    refine bodyPost_ret (results_list (rs := [.cell 2 38, .tmp 3]) rfl (by simp) (.cell g0 38 #[.int .i64 0, .int .i64 0, .int .i64 0, .int .i64 0, .string ⟨#[]⟩] (0, 0) _ rfl (by first | exact hk_g0 | simpa using hF) Try.underlying38 rfl (by kernel_rfl) (.tmp .nil))) rfl ?_
    first | exact ⟨by rw [hV2.out (fun e => absurd e h6)]; rfl, hbw⟩ | exact ⟨by rw [hV2.out (fun e => absurd e h6)]; rfl, bl_set (bl_set (bl_set (bl_set (bl_set hbw (p := ⟨g0, 0, none⟩) gw _) (p := ⟨g0, 1, none⟩) gw _) (p := ⟨g0, 2, none⟩) gw _) (p := ⟨g0, 3, none⟩) gw _) (p := ⟨g0, 4, none⟩) gw _⟩
theorem refGet_short (s : ByteArray) (w : World) (hs : ¬ (s.size : Int) = 9) : Calls Try.prog 23 #[.string s] w fun e w' => e = .returned (TabV 0 0 0 0 ⟨#[]⟩ 4) ∧ Below w.heap.size w w' := by
  have h1 : ((s.size : Int) != 9) = true := bne_iff_ne.mpr hs
  go_enter Try.func23, Try.ntmps23
  go_wp2
  have hk0 := blk_new w (.cells #[.int .i64 0, .int .i64 0, .int .i64 0, .int .i64 0, .string ⟨#[]⟩] 38)
  refine bodyPost_ret (results_list (rs := [.cell 2 38, .tmp 3]) rfl (by simp) (.cell w.heap.size 38 #[.int .i64 0, .int .i64 0, .int .i64 0, .int .i64 0, .string ⟨#[]⟩] (0, 0) _ rfl hk0 Try.underlying38 rfl (by kernel_rfl) (.tmp .nil))) rfl ?_
  exact ⟨rfl, bl_alloc (Below.refl _ _) _⟩
set_option maxHeartbeats 100000000 in
set_option maxRecDepth 100000 in
theorem refGet_long (km : Nat)(k : Nat) (sb p : ByteArray) (r1 r2 r3 r4 r6 q : Int) (r5 : ByteArray) (w : World) (hs : sb.size = 9) (hM : picketref18_Make.f km (bt sb 0) (bt sb 1) (bt sb 2) (bt sb 3) = some (r1, r2, r3, r4, r5, r6)) (hP : r6 = 0 → picketref18_Put.f k r1 r2 r3 r4 r5 = some (p, q)) (V : Value) (hV1 : r6 = 0 → p.toList = sb.toList → V = TabV r1 r2 r3 r4 r5 0) (hV2 : (r6 = 0 → p.toList ≠ sb.toList) → V = TabV 0 0 0 0 ⟨#[]⟩ 4) :
    Calls Try.prog 23 #[.string sb] w fun e w' => e = .returned V ∧ Below w.heap.size w w' := by
  have hx0 : ∀ h : 0 < sb.size, ((sb[0]'h).toNat : Int) = bt sb 0 := bt_at sb 0
  have hx1 : ∀ h : 1 < sb.size, ((sb[1]'h).toNat : Int) = bt sb 1 := bt_at sb 1
  have hx2 : ∀ h : 2 < sb.size, ((sb[2]'h).toNat : Int) = bt sb 2 := bt_at sb 2
  have hx3 : ∀ h : 3 < sb.size, ((sb[3]'h).toNat : Int) = bt sb 3 := bt_at sb 3
  have q0 : wrap64 (bt sb 0) = bt sb 0 := by have := Go.Proofs.Ytjidbjmekpholaa.AdB.bt_rng sb 0; exact w64 (by omega) (by omega)
  have q1 : wrap64 (bt sb 1) = bt sb 1 := by have := Go.Proofs.Ytjidbjmekpholaa.AdB.bt_rng sb 1; exact w64 (by omega) (by omega)
  have q2 : wrap64 (bt sb 2) = bt sb 2 := by have := Go.Proofs.Ytjidbjmekpholaa.AdB.bt_rng sb 2; exact w64 (by omega) (by omega)
  have q3 : wrap64 (bt sb 3) = bt sb 3 := by have := Go.Proofs.Ytjidbjmekpholaa.AdB.bt_rng sb 3; exact w64 (by omega) (by omega)
  generalize bt sb 0 = b0 at *
  generalize bt sb 1 = b1 at *
  generalize bt sb 2 = b2 at *
  generalize bt sb 3 = b3 at *
  have h1 : ((sb.size : Int) != 9) = false := bne_eq_false_iff_eq.mpr (by omega)
  replace hM := hidI hM
  replace hP := hidI hP
  replace hV1 := hidI hV1
  replace hV2 := hidI hV2
  go_enter Try.func23, Try.ntmps23
  go_upto_region 3 with fail
  obtain ⟨g0, hg0⟩ : ∃ g0, w.heap.size = g0 := ⟨_, rfl⟩
  have hk_g0 := blk_new w (.cells #[.int .i64 0, .int .i64 0, .int .i64 0, .int .i64 0, .string ⟨#[]⟩] 38)
  have hbw := bl_alloc (Below.refl w.heap.size w) (.cells #[.int .i64 0, .int .i64 0, .int .i64 0, .int .i64 0, .string ⟨#[]⟩] 38)
  generalize w.alloc (.cells #[.int .i64 0, .int .i64 0, .int .i64 0, .int .i64 0, .string ⟨#[]⟩] 38) = W1 at *
  have hgw : w.heap.size ≤ g0 := by omega
  rw [hg0] at hk_g0
  try rw [hg0]
  obtain ⟨w0, hw0⟩ : ∃ z : World, z = w := ⟨_, rfl⟩
  rw [← hw0] at hbw hgw
  clear hg0
  obtain ⟨B0, hB0⟩ : ∃ B, B = W1.heap.size := ⟨_, rfl⟩
  have c0_hsz : B0 ≤ W1.heap.size := Nat.le_of_eq hB0
  have hw0B0 : w0.heap.size ≤ B0 := by rw [hB0]; exact hbw.size
  have c0_hle : W1.heap.size ≤ B0 := Nat.le_of_eq hB0.symm
  have c0_hk_g0 := blk_drew hk_g0
  have c0_lt_g0 : g0 < B0 := by rw [hB0]; exact blk_lt hk_g0
  have c0_hbw := bl_drew hbw
  clear hB0 hbw hk_g0
  refine region_lin (n := 19) (st := ?st2) { R := [0, 1, 3, 0, 8, 24, 0, 64, 192, 0, 512, 1536, 4095, 8191, 16383, 16383, 0, 98303, 262143], kill := [[], [], [], [], [], [], [], [], [], [], [], [], [], [], [], [], [17], [], []], cls := [0, 0, 0, 0, 0, 0, 0, 0, 0, 0, 0, 0, 0, 0, 0, 0, 0, 1, 0], dst := [some 13, some 14, some 15, some 16, some 17, some 18, some 19, some 20, some 21, some 22, some 23, some 24, some 25, some 12, some 26, some 27, some 4, none, some 5], pre := [[], [0], [1], [], [3], [4], [], [6], [7], [], [9], [10], [2, 5, 8, 11], [12], [13], [13], [], [16, 14], [15]], cov := [(0, 16), (0, 17)], fin := [17, 18], locs := [(16, 4)], tgt := [none, some 4], abt := [none, none, none, none, none, none, none, none, none, none, none, none, none, none, none, none, some 4, some 4, none] }
    [.v [13] (fun vs => (vs.getD 0 undef) = .string sb),
     .v [14] (fun vs => (vs.getD 0 undef) = .int .u8 b0),
     .v [15] (fun vs => (vs.getD 0 undef) = .int .i64 b0),
     .v [16] (fun vs => (vs.getD 0 undef) = .string sb),
     .v [17] (fun vs => (vs.getD 0 undef) = .int .u8 b1),
     .v [18] (fun vs => (vs.getD 0 undef) = .int .i64 b1),
     .v [19] (fun vs => (vs.getD 0 undef) = .string sb),
     .v [20] (fun vs => (vs.getD 0 undef) = .int .u8 b2),
     .v [21] (fun vs => (vs.getD 0 undef) = .int .i64 b2),
     .v [22] (fun vs => (vs.getD 0 undef) = .string sb),
     .v [23] (fun vs => (vs.getD 0 undef) = .int .u8 b3),
     .v [24] (fun vs => (vs.getD 0 undef) = .int .i64 b3),
     .v [25] (fun vs => (vs.getD 0 undef) = .tuple #[.agg #[.int .i64 r1, .int .i64 r2, .int .i64 r3, .int .i64 r4, .string r5], .int .i64 r6]),
     .v [12] (fun vs => (vs.getD 0 undef) = .tuple #[.agg #[.int .i64 r1, .int .i64 r2, .int .i64 r3, .int .i64 r4, .string r5], .int .i64 r6]),
     .v [26] (fun vs => (vs.getD 0 undef) = .agg #[.int .i64 r1, .int .i64 r2, .int .i64 r3, .int .i64 r4, .string r5]),
     .v [27] (fun vs => (vs.getD 0 undef) = .int .i64 r6),
     .w [4] (fun vs w => ∃ g16 : Nat, (vs.getD 0 undef) = .pointer (some ⟨g16, 0, none⟩) ∧ B0 ≤ g16 ∧ w.heap[g16]? = some (.cells #[.int .i64 0, .int .i64 0, .int .i64 0, .int .i64 0, .string ⟨#[]⟩] 38 (0, 0))),
     .w [4] (fun vs w => ∃ g16 : Nat, (vs.getD 0 undef) = .pointer (some ⟨g16, 0, none⟩) ∧ B0 ≤ g16 ∧ w.heap[g16]? = some (.cells #[.int .i64 r1, .int .i64 r2, .int .i64 r3, .int .i64 r4, .string r5] 38 (0, 0))),
     .v [5] (fun vs => (vs.getD 0 undef) = .int .i64 r6)]
    (fun w => B0 ≤ w.heap.size ∧ w.heap[g0]? = some (.cells #[.int .i64 0, .int .i64 0, .int .i64 0, .int .i64 0, .string ⟨#[]⟩] 38 (0, 0)) ∧ g0 < B0 ∧ Below w0.heap.size w0 w)
    (fun c => ([fun s w w' => Below w.heap.size w w', fun s w w' => w' = w ∨ ∃ g16 : Nat, s 4 = .pointer (some ⟨g16, 0, none⟩) ∧ B0 ≤ g16 ∧ (∀ k o, k ≠ g16 → w.heap[k]? = some o → w'.heap[k]? = some o) ∧ w'.heap.size = w.heap.size ∧ Below g16 w w'] : List ((Nat → Value) → World → World → Prop)).getD c (fun s w w' => w' = w))
    [4, 5, 12, 13, 14, 15, 16, 17, 18, 19, 20, 21, 22, 23, 24, 25, 26, 27] (by kernel_rfl) ⟨by kernel_rfl, by kernel_rfl, by kernel_rfl, by kernel_rfl, by kernel_rfl, by kernel_rfl, by kernel_rfl, by kernel_rfl⟩ (fun s => ?_) ?_ ?_ ?_ ?_ ?_ (fun s w hC hA => ?_)
  rotate_left
  · simp only [fillS, List.foldl, List.setIfInBounds_toArray, List.set_cons_zero, List.set_cons_succ]; rfl
  · exact ⟨c0_hsz, c0_hk_g0, c0_lt_g0, c0_hbw⟩
  · intro c s w w' hE
    match c, hE with
    | 0, hE => exact Below.size hE
    | 1, hE => replace hE : w' = w ∨ ∃ g16 : Nat, s 4 = .pointer (some ⟨g16, 0, none⟩) ∧ B0 ≤ g16 ∧ (∀ k o, k ≠ g16 → w.heap[k]? = some o → w'.heap[k]? = some o) ∧ w'.heap.size = w.heap.size ∧ Below g16 w w' := hE; rcases hE with hE | ⟨_, _, _, _, hE, _⟩; exact Nat.le_of_eq (by rw [hE]); exact Nat.le_of_eq hE.symm
    | c + 2, hE => cases hE; exact Nat.le_refl _
  · rintro c s w w' ⟨hsz, hk_g0, lt_g0, hbw⟩ hE
    match c, hE with
    | 0, hE => replace hE : Below w.heap.size w w' := hE; exact ⟨Nat.le_trans hsz hE.size, bl_block hE hk_g0, lt_g0, bl_step hbw hE⟩
    | 1, hE =>
      replace hE : w' = w ∨ ∃ g16 : Nat, s 4 = .pointer (some ⟨g16, 0, none⟩) ∧ B0 ≤ g16 ∧ (∀ k o, k ≠ g16 → w.heap[k]? = some o → w'.heap[k]? = some o) ∧ w'.heap.size = w.heap.size ∧ Below g16 w w' := hE
      rcases hE with rfl | ⟨g16, hs_, hg_, hkeep, hsz_, hBl⟩
      · exact ⟨hsz, hk_g0, lt_g0, hbw⟩
      · exact ⟨by omega, hkeep _ _ (by omega) hk_g0, lt_g0, hbw.trans (Below.mono hBl (Nat.le_trans hw0B0 hg_))⟩
    | c + 2, hE => cases hE; exact ⟨hsz, hk_g0, lt_g0, hbw⟩
  · refine ⟨?_, ?_, trivial⟩
    · intro s w w' hD hC hE hF
      replace hF : ∃ g16 : Nat, (s 4) = .pointer (some ⟨g16, 0, none⟩) ∧ B0 ≤ g16 ∧ w.heap[g16]? = some (.cells #[.int .i64 0, .int .i64 0, .int .i64 0, .int .i64 0, .string ⟨#[]⟩] 38 (0, 0)) := hF
      show ∃ g16 : Nat, (s 4) = .pointer (some ⟨g16, 0, none⟩) ∧ B0 ≤ g16 ∧ w'.heap[g16]? = some (.cells #[.int .i64 0, .int .i64 0, .int .i64 0, .int .i64 0, .string ⟨#[]⟩] 38 (0, 0))
      replace hE : Below w.heap.size w w' := hE
      obtain ⟨g16, h1, h2, h3⟩ := hF
      exact ⟨g16, h1, h2, bl_block hE h3⟩
    · intro s w w' hD hC hE hF
      replace hF : ∃ g16 : Nat, (s 4) = .pointer (some ⟨g16, 0, none⟩) ∧ B0 ≤ g16 ∧ w.heap[g16]? = some (.cells #[.int .i64 r1, .int .i64 r2, .int .i64 r3, .int .i64 r4, .string r5] 38 (0, 0)) := hF
      show ∃ g16 : Nat, (s 4) = .pointer (some ⟨g16, 0, none⟩) ∧ B0 ≤ g16 ∧ w'.heap[g16]? = some (.cells #[.int .i64 r1, .int .i64 r2, .int .i64 r3, .int .i64 r4, .string r5] 38 (0, 0))
      replace hE : Below w.heap.size w w' := hE
      obtain ⟨g16, h1, h2, h3⟩ := hF
      exact ⟨g16, h1, h2, bl_block hE h3⟩
  · skip
    refine StepsP.cons ?_ ?_
    · intro Q s w hC hA K hK
      clear hC
      clear hA
      refine guard_none (by rfl) ?_
      refine wp_value (v := .string sb) (w1 := w) ?_ (hK.out _ w (Below.refl _ _) rfl (fun h => by cases h))
      go_simp
      try (first | done | rfl | (simp; done))
    refine StepsP.cons ?_ ?_
    · intro Q s w hC hA K hK
      clear hC
      obtain ⟨f0, -⟩ := hA
      replace f0 : (s 13) = .string sb := f0
      refine guard_none (by rfl) ?_
      refine wp_value (v := .int .u8 b0) (w1 := w) ?_ (hK.out _ w (Below.refl _ _) rfl (fun h => by cases h))
      try simp only [f0]
      go_simp
      first | done | simp [hs, hx0]
    refine StepsP.cons ?_ ?_
    · intro Q s w hC hA K hK
      clear hC
      obtain ⟨f1, -⟩ := hA
      replace f1 : (s 14) = .int .u8 b0 := f1
      refine guard_none (by rfl) ?_
      refine wp_value (v := .int .i64 b0) (w1 := w) ?_ (hK.out _ w (Below.refl _ _) rfl (fun h => by cases h))
      try simp only [f1]
      go_simp
      first | done | exact (IntWalk.i64_left _).trans q0
    refine StepsP.cons ?_ ?_
    · intro Q s w hC hA K hK
      clear hC
      clear hA
      refine guard_none (by rfl) ?_
      refine wp_value (v := .string sb) (w1 := w) ?_ (hK.out _ w (Below.refl _ _) rfl (fun h => by cases h))
      go_simp
      try (first | done | rfl | (simp; done))
    refine StepsP.cons ?_ ?_
    · intro Q s w hC hA K hK
      clear hC
      obtain ⟨f3, -⟩ := hA
      replace f3 : (s 16) = .string sb := f3
      refine guard_none (by rfl) ?_
      refine wp_value (v := .int .u8 b1) (w1 := w) ?_ (hK.out _ w (Below.refl _ _) rfl (fun h => by cases h))
      try simp only [f3]
      go_simp
      first | done | simp [hs, hx1]
    refine StepsP.cons ?_ ?_
    · intro Q s w hC hA K hK
      clear hC
      obtain ⟨f4, -⟩ := hA
      replace f4 : (s 17) = .int .u8 b1 := f4
      refine guard_none (by rfl) ?_
      refine wp_value (v := .int .i64 b1) (w1 := w) ?_ (hK.out _ w (Below.refl _ _) rfl (fun h => by cases h))
      try simp only [f4]
      go_simp
      first | done | exact (IntWalk.i64_left _).trans q1
    refine StepsP.cons ?_ ?_
    · intro Q s w hC hA K hK
      clear hC
      clear hA
      refine guard_none (by rfl) ?_
      refine wp_value (v := .string sb) (w1 := w) ?_ (hK.out _ w (Below.refl _ _) rfl (fun h => by cases h))
      go_simp
      try (first | done | rfl | (simp; done))
    refine StepsP.cons ?_ ?_
    · intro Q s w hC hA K hK
      clear hC
      obtain ⟨f6, -⟩ := hA
      replace f6 : (s 19) = .string sb := f6
      refine guard_none (by rfl) ?_
      refine wp_value (v := .int .u8 b2) (w1 := w) ?_ (hK.out _ w (Below.refl _ _) rfl (fun h => by cases h))
      try simp only [f6]
      go_simp
      first | done | simp [hs, hx2]
    refine StepsP.cons ?_ ?_
    · intro Q s w hC hA K hK
      clear hC
      obtain ⟨f7, -⟩ := hA
      replace f7 : (s 20) = .int .u8 b2 := f7
      refine guard_none (by rfl) ?_
      refine wp_value (v := .int .i64 b2) (w1 := w) ?_ (hK.out _ w (Below.refl _ _) rfl (fun h => by cases h))
      try simp only [f7]
      go_simp
      first | done | exact (IntWalk.i64_left _).trans q2
    refine StepsP.cons ?_ ?_
    · intro Q s w hC hA K hK
      clear hC
      clear hA
      refine guard_none (by rfl) ?_
      refine wp_value (v := .string sb) (w1 := w) ?_ (hK.out _ w (Below.refl _ _) rfl (fun h => by cases h))
      go_simp
      try (first | done | rfl | (simp; done))
    refine StepsP.cons ?_ ?_
    · intro Q s w hC hA K hK
      clear hC
      obtain ⟨f9, -⟩ := hA
      replace f9 : (s 22) = .string sb := f9
      refine guard_none (by rfl) ?_
      refine wp_value (v := .int .u8 b3) (w1 := w) ?_ (hK.out _ w (Below.refl _ _) rfl (fun h => by cases h))
      try simp only [f9]
      go_simp
      first | done | simp [hs, hx3]
    refine StepsP.cons ?_ ?_
    · intro Q s w hC hA K hK
      clear hC
      obtain ⟨f10, -⟩ := hA
      replace f10 : (s 23) = .int .u8 b3 := f10
      refine guard_none (by rfl) ?_
      refine wp_value (v := .int .i64 b3) (w1 := w) ?_ (hK.out _ w (Below.refl _ _) rfl (fun h => by cases h))
      try simp only [f10]
      go_simp
      first | done | exact (IntWalk.i64_left _).trans q3
    refine StepsP.cons ?_ ?_
    · intro Q s w hC hA K hK
      obtain ⟨hsz, hk_g0, lt_g0, hbw⟩ := hC
      obtain ⟨f2, f5, f8, f11, -⟩ := hA
      replace f2 : (s 15) = .int .i64 b0 := f2
      replace f5 : (s 18) = .int .i64 b1 := f5
      replace f8 : (s 21) = .int .i64 b2 := f8
      replace f11 : (s 24) = .int .i64 b3 := f11
      refine guard_none (by rfl) ?_
      refine wp_call (N := some 25) (by rfl) Try.func19 (by kernel_rfl) #[.int .i64 b0, .int .i64 b1, .int .i64 b2, .int .i64 b3] rfl (by rfl) ?_ ?_
      · show [s 15, s 18, s 21, s 24] = [.int .i64 b0, .int .i64 b1, .int .i64 b2, .int .i64 b3]
        first | rfl | simp only [f2, f5, f8, f11]
      refine (picketref18_Make.calls km b0 b1 b2 b3 r1 r2 r3 r4 r5 r6 _ hM.out).mono ?_
      rintro e w1 ⟨rfl, hb⟩
      refine ⟨_, rfl, ?_⟩
      exact hK.out _ _ hb rfl (fun h => by cases h)
    refine StepsP.cons ?_ ?_
    · intro Q s w hC hA K hK
      clear hC
      obtain ⟨f12, -⟩ := hA
      replace f12 : (s 25) = .tuple #[.agg #[.int .i64 r1, .int .i64 r2, .int .i64 r3, .int .i64 r4, .string r5], .int .i64 r6] := f12
      refine guard_none (by rfl) ?_
      refine wp_value (v := .tuple #[.agg #[.int .i64 r1, .int .i64 r2, .int .i64 r3, .int .i64 r4, .string r5], .int .i64 r6]) (w1 := w) ?_ (hK.out _ w (Below.refl _ _) rfl (fun h => by cases h))
      try simp only [f12]
      go_simp
      try (first | done | rfl | (simp; done))
    refine StepsP.cons ?_ ?_
    · intro Q s w hC hA K hK
      clear hC
      obtain ⟨f13, -⟩ := hA
      replace f13 : (s 12) = .tuple #[.agg #[.int .i64 r1, .int .i64 r2, .int .i64 r3, .int .i64 r4, .string r5], .int .i64 r6] := f13
      refine guard_none (by rfl) ?_
      refine wp_value (v := .agg #[.int .i64 r1, .int .i64 r2, .int .i64 r3, .int .i64 r4, .string r5]) (w1 := w) ?_ (hK.out _ w (Below.refl _ _) rfl (fun h => by cases h))
      try simp only [f13]
      go_simp
      try (first | done | rfl | (simp; done))
    refine StepsP.cons ?_ ?_
    · intro Q s w hC hA K hK
      clear hC
      obtain ⟨f13, -⟩ := hA
      replace f13 : (s 12) = .tuple #[.agg #[.int .i64 r1, .int .i64 r2, .int .i64 r3, .int .i64 r4, .string r5], .int .i64 r6] := f13
      refine guard_none (by rfl) ?_
      refine wp_value (v := .int .i64 r6) (w1 := w) ?_ (hK.out _ w (Below.refl _ _) rfl (fun h => by cases h))
      try simp only [f13]
      go_simp
      try (first | done | rfl | (simp; done))
    refine StepsP.cons ?_ ?_
    · intro Q s w hC hA K hK
      obtain ⟨hsz, hk_g0, lt_g0, hbw⟩ := hC
      clear hA
      refine guard_none (by rfl) ?_
      refine wp_value (v := .pointer (some ⟨w.heap.size, 0, none⟩)) (w1 := w.alloc (.cells #[.int .i64 0, .int .i64 0, .int .i64 0, .int .i64 0, .string ⟨#[]⟩] 38)) ?_ (hK.out _ _ (bl_alloc (Below.refl _ _) _) ⟨w.heap.size, rfl, hsz, blk_new _ _⟩ (fun _ g h => fresh_alloc (by simpa [blkV] using h)))
      go_simp
      try rfl
    refine StepsP.cons ?_ ?_
    · intro Q s w hC hA K hK
      obtain ⟨hsz, hk_g0, lt_g0, hbw⟩ := hC
      obtain ⟨f16, f14, -⟩ := hA
      replace f16 : ∃ g16 : Nat, (s 4) = .pointer (some ⟨g16, 0, none⟩) ∧ B0 ≤ g16 ∧ w.heap[g16]? = some (.cells #[.int .i64 0, .int .i64 0, .int .i64 0, .int .i64 0, .string ⟨#[]⟩] 38 (0, 0)) := f16
      replace f14 : (s 26) = .agg #[.int .i64 r1, .int .i64 r2, .int .i64 r3, .int .i64 r4, .string r5] := f14
      refine guard_none (by rfl) ?_
      obtain ⟨g16, a_g16, c_g16, hk_g16⟩ := f16
      have m0_g16 : w.cell? ⟨g16, 0, none⟩ = some (.int .i64 0) := blk_cell hk_g16 0 (by rfl)
      have z0_g16 : w.frozen? ⟨g16, 0, none⟩ = false := blkf hk_g16 0
      have m1_g16 : w.cell? ⟨g16, 1, none⟩ = some (.int .i64 0) := blk_cell hk_g16 1 (by rfl)
      have z1_g16 : w.frozen? ⟨g16, 1, none⟩ = false := blkf hk_g16 1
      have m2_g16 : w.cell? ⟨g16, 2, none⟩ = some (.int .i64 0) := blk_cell hk_g16 2 (by rfl)
      have z2_g16 : w.frozen? ⟨g16, 2, none⟩ = false := blkf hk_g16 2
      have m3_g16 : w.cell? ⟨g16, 3, none⟩ = some (.int .i64 0) := blk_cell hk_g16 3 (by rfl)
      have z3_g16 : w.frozen? ⟨g16, 3, none⟩ = false := blkf hk_g16 3
      have m4_g16 : w.cell? ⟨g16, 4, none⟩ = some (.string ⟨#[]⟩) := blk_cell hk_g16 4 (by rfl)
      have z4_g16 : w.frozen? ⟨g16, 4, none⟩ = false := blkf hk_g16 4
      refine wp_skip_ (w1 := (((((w.setCell ⟨g16, 0, none⟩ (.int .i64 r1)).setCell ⟨g16, 1, none⟩ (.int .i64 r2)).setCell ⟨g16, 2, none⟩ (.int .i64 r3)).setCell ⟨g16, 3, none⟩ (.int .i64 r4)).setCell ⟨g16, 4, none⟩ (.string r5))) ?_ (hK.out undef _ (Or.inr ⟨g16, a_g16, c_g16, fun k_ o_ hne_ h_ => (blk_far (blk_far (blk_far (blk_far (blk_far h_ (a := ⟨g16, 0, none⟩) (Ne.symm hne_) (.int .i64 r1)) (a := ⟨g16, 1, none⟩) (Ne.symm hne_) (.int .i64 r2)) (a := ⟨g16, 2, none⟩) (Ne.symm hne_) (.int .i64 r3)) (a := ⟨g16, 3, none⟩) (Ne.symm hne_) (.int .i64 r4)) (a := ⟨g16, 4, none⟩) (Ne.symm hne_) (.string r5)), by simp [World.setCell], (Below.setCell (Below.setCell (Below.setCell (Below.setCell (Below.setCell (Below.refl _ _) (p := ⟨g16, 0, none⟩) (Nat.le_refl _) (.int .i64 r1)) (p := ⟨g16, 1, none⟩) (Nat.le_refl _) (.int .i64 r2)) (p := ⟨g16, 2, none⟩) (Nat.le_refl _) (.int .i64 r3)) (p := ⟨g16, 3, none⟩) (Nat.le_refl _) (.int .i64 r4)) (p := ⟨g16, 4, none⟩) (Nat.le_refl _) (.string r5))⟩) ⟨g16, a_g16, c_g16, (blk_set (blk_set (blk_set (blk_set (blk_set hk_g16 0 (.int .i64 r1)) 1 (.int .i64 r2)) 2 (.int .i64 r3)) 3 (.int .i64 r4)) 4 (.string r5))⟩ (fun h => by cases h))
      try simp only [a_g16, f14]
      go_simp
      try rfl
    refine StepsP.cons ?_ ?_
    · intro Q s w hC hA K hK
      clear hC
      obtain ⟨f15, -⟩ := hA
      replace f15 : (s 27) = .int .i64 r6 := f15
      refine guard_none (by rfl) ?_
      refine wp_value (v := .int .i64 r6) (w1 := w) ?_ (hK.out _ w (Below.refl _ _) rfl (fun h => by cases h))
      try simp only [f15]
      go_simp
      try (first | done | rfl | (simp; done))
    exact StepsP.nil
  obtain ⟨hsz, hk_g0, lt_g0, hbw⟩ := hC
  obtain ⟨f17, f18, -⟩ := hA
  replace f17 : ∃ g16 : Nat, (s 4) = .pointer (some ⟨g16, 0, none⟩) ∧ B0 ≤ g16 ∧ w.heap[g16]? = some (.cells #[.int .i64 r1, .int .i64 r2, .int .i64 r3, .int .i64 r4, .string r5] 38 (0, 0)) := f17
  replace f18 : (s 5) = .int .i64 r6 := f18
  obtain ⟨g16, a_g16, c_g16, hk_g16⟩ := f17
  refine act_eq (b' := ?b2) ?h2 ?q2
  case h2 => simp only [a_g16, f18]; rfl
  subst hw0
  clear f18 a_g16 c0_hk_g0 c0_lt_g0 c0_hbw c0_hsz hw0B0 lt_g0 hx0 hx1 hx2 hx3 hM
  clear hsz c_g16
  have gw : w0.heap.size ≤ g0 := hgw
  by_cases h6 : r6 = 0
  · have h6b : (r6 != 0) = false := bne_eq_false_iff_eq.mpr h6
    have y0 : w.cell? ⟨g16, 0, none⟩ = some (.int .i64 r1) := blk_cell hk_g16 0 (by rfl)
    have y1 : w.cell? ⟨g16, 1, none⟩ = some (.int .i64 r2) := blk_cell hk_g16 1 (by rfl)
    have y2 : w.cell? ⟨g16, 2, none⟩ = some (.int .i64 r3) := blk_cell hk_g16 2 (by rfl)
    have y3 : w.cell? ⟨g16, 3, none⟩ = some (.int .i64 r4) := blk_cell hk_g16 3 (by rfl)
    have y4 : w.cell? ⟨g16, 4, none⟩ = some (.string r5) := blk_cell hk_g16 4 (by rfl)
    go_upto_region 7 with (first | (go_at_call 21; refine (picketref18_Put.calls _ _ _ _ _ _ _ _ _ (hP.out h6)).mono ?_; rintro e w2 ⟨rfl, hb2⟩) | fail)
    replace hk_g0 := bl_block hb2 hk_g0
    replace hk_g16 := bl_block hb2 hk_g16
    replace hbw := bl_step hbw hb2
    clear y0 y1 y2 y3 y4 hb2 hP
    have x0 := blkf hk_g0 0
    have x1 := blkf hk_g0 1
    have x2 := blkf hk_g0 2
    have x3 := blkf hk_g0 3
    have x4 := blkf hk_g0 4
    have z0 : w2.cell? ⟨g0, 0, none⟩ = some (.int .i64 0) := blk_cell hk_g0 0 (by rfl)
    have z1 : w2.cell? ⟨g0, 1, none⟩ = some (.int .i64 0) := blk_cell hk_g0 1 (by rfl)
    have z2 : w2.cell? ⟨g0, 2, none⟩ = some (.int .i64 0) := blk_cell hk_g0 2 (by rfl)
    have z3 : w2.cell? ⟨g0, 3, none⟩ = some (.int .i64 0) := blk_cell hk_g0 3 (by rfl)
    have z4 : w2.cell? ⟨g0, 4, none⟩ = some (.string ⟨#[]⟩) := blk_cell hk_g0 4 (by rfl)
    by_cases hp : p.toList = sb.toList
    · have hpb : (p.toList != sb.toList) = false := bne_eq_false_iff_eq.mpr hp
      have y0 : w2.cell? ⟨g16, 0, none⟩ = some (.int .i64 r1) := blk_cell hk_g16 0 (by rfl)
      have y1 : w2.cell? ⟨g16, 1, none⟩ = some (.int .i64 r2) := blk_cell hk_g16 1 (by rfl)
      have y2 : w2.cell? ⟨g16, 2, none⟩ = some (.int .i64 r3) := blk_cell hk_g16 2 (by rfl)
      have y3 : w2.cell? ⟨g16, 3, none⟩ = some (.int .i64 r4) := blk_cell hk_g16 3 (by rfl)
      have y4 : w2.cell? ⟨g16, 4, none⟩ = some (.string r5) := blk_cell hk_g16 4 (by rfl)
      go_wp2
      have hF := blk_set (blk_set (blk_set (blk_set (blk_set hk_g0 0 (.int .i64 r1)) 1 (.int .i64 r2)) 2 (.int .i64 r3)) 3 (.int .i64 r4)) 4 (.string r5)
      refine bodyPost_ret (results_list (rs := [.cell 2 38, .tmp 3]) rfl (by simp) (.cell g0 38 #[.int .i64 r1, .int .i64 r2, .int .i64 r3, .int .i64 r4, .string r5] (0, 0) _ rfl (by simpa using hF) Try.underlying38 rfl (by kernel_rfl) (.tmp .nil))) rfl ?_
      exact ⟨by rw [hV1.out h6 hp]; rfl, bl_set (bl_set (bl_set (bl_set (bl_set hbw (p := ⟨g0, 0, none⟩) gw _) (p := ⟨g0, 1, none⟩) gw _) (p := ⟨g0, 2, none⟩) gw _) (p := ⟨g0, 3, none⟩) gw _) (p := ⟨g0, 4, none⟩) gw _⟩
    · have hpb : (p.toList != sb.toList) = true := bne_iff_ne.mpr hp
      have hpc : (p.toList == sb.toList) = false := beq_eq_false_iff_ne.mpr hp
      go_wp2
      have hF := blk_set (blk_set (blk_set (blk_set (blk_set hk_g0 0 (.int .i64 0)) 1 (.int .i64 0)) 2 (.int .i64 0)) 3 (.int .i64 0)) 4 (.string ⟨#[]⟩)
      refine bodyPost_ret (results_list (rs := [.cell 2 38, .tmp 3]) rfl (by simp) (.cell g0 38 #[.int .i64 0, .int .i64 0, .int .i64 0, .int .i64 0, .string ⟨#[]⟩] (0, 0) _ rfl (by first | exact hk_g0 | simpa using hF) Try.underlying38 rfl (by kernel_rfl) (.tmp .nil))) rfl ?_
      first | exact ⟨by rw [hV2.out (fun _ => hp)]; rfl, hbw⟩ | exact ⟨by rw [hV2.out (fun _ => hp)]; rfl, bl_set (bl_set (bl_set (bl_set (bl_set hbw (p := ⟨g0, 0, none⟩) gw _) (p := ⟨g0, 1, none⟩) gw _) (p := ⟨g0, 2, none⟩) gw _) (p := ⟨g0, 3, none⟩) gw _) (p := ⟨g0, 4, none⟩) gw _⟩
  · have h6b : (r6 != 0) = true := bne_iff_ne.mpr h6
    have x0 := blkf hk_g0 0
    have x1 := blkf hk_g0 1
    have x2 := blkf hk_g0 2
    have x3 := blkf hk_g0 3
    have x4 := blkf hk_g0 4
    have z0 : w.cell? ⟨g0, 0, none⟩ = some (.int .i64 0) := blk_cell hk_g0 0 (by rfl)
    have z1 : w.cell? ⟨g0, 1, none⟩ = some (.int .i64 0) := blk_cell hk_g0 1 (by rfl)
    have z2 : w.cell? ⟨g0, 2, none⟩ = some (.int .i64 0) := blk_cell hk_g0 2 (by rfl)
    have z3 : w.cell? ⟨g0, 3, none⟩ = some (.int .i64 0) := blk_cell hk_g0 3 (by rfl)
    have z4 : w.cell? ⟨g0, 4, none⟩ = some (.string ⟨#[]⟩) := blk_cell hk_g0 4 (by rfl)
    go_wp2
    have hF := blk_set (blk_set (blk_set (blk_set (blk_set hk_g0 0 (.int .i64 0)) 1 (.int .i64 0)) 2 (.int .i64 0)) 3 (.int .i64 0)) 4 (.string ⟨#[]⟩)
    refine bodyPost_ret (results_list (rs := [.cell 2 38, .tmp 3]) rfl (by simp) (.cell g0 38 #[.int .i64 0, .int .i64 0, .int .i64 0, .int .i64 0, .string ⟨#[]⟩] (0, 0) _ rfl (by first | exact hk_g0 | simpa using hF) Try.underlying38 rfl (by kernel_rfl) (.tmp .nil))) rfl ?_
    first | exact ⟨by rw [hV2.out (fun e => absurd e h6)]; rfl, hbw⟩ | exact ⟨by rw [hV2.out (fun e => absurd e h6)]; rfl, bl_set (bl_set (bl_set (bl_set (bl_set hbw (p := ⟨g0, 0, none⟩) gw _) (p := ⟨g0, 1, none⟩) gw _) (p := ⟨g0, 2, none⟩) gw _) (p := ⟨g0, 3, none⟩) gw _) (p := ⟨g0, 4, none⟩) gw _⟩
end Go.Proofs.Ytjidbjmekpholaa.AdY
