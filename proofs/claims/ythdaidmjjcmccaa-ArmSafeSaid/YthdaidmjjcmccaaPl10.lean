/- Proved here: lemmas and contracts (what a function of the program computes) that the proofs of the laws of this seat lean on. Conditions: as each theorem states. -/
import Derived.Test.YthdaidmjjcmccaaPl9
set_option linter.unusedVariables false
set_option linter.unusedSimpArgs false
namespace Go.Pk
open Go.RowKit
def nineP (p : Pl) : Bool := ((((decide (p.A.length ≤ 9) && decide (p.B.length ≤ 9)) && decide (p.W.length ≤ 9)) && decide (p.Inv.length ≤ 9)) && decide (p.Safe.length ≤ 9)) && decide (p.gain.length ≤ 9)
def tenP (p : Pl) : Prop := ∀ j, j < p.A.length → j < 10 → (p.A.getD j []).length ≤ 10
instance (p : Pl) : Decidable (tenP p) := decidable_of_iff (∀ j, j < p.A.length → (j < 10 → (p.A.getD j []).length ≤ 10)) Iff.rfl
/-- Is the plant light? -/
def lightP (p : Pl) : Bool := decide (tenP p) && nineP p
theorem lightP_yes {p : Pl} (h : tenP p) : lightP p = nineP p := by unfold lightP; rw [decide_eq_true h]; rfl
theorem lightP_no {p : Pl} (h : ¬ tenP p) : lightP p = false := by unfold lightP; rw [decide_eq_false h]; rfl
end Go.Pk
namespace Go.Proofs.Ythdaidmjjcmccaa
open Go.RowKit Go.Pk Go.Proofs.YthdaidmjjcmccaaW.PrintLast
set_option maxHeartbeats 8000000 in
set_option maxRecDepth 100000 in
theorem Light_calls (q : PA) (p : Pl) (w : World) (hq : q.rd w p) : Calls Try.prog 16 #[.agg (q.cells p).toArray] w fun e w' => e = .returned (.bool (lightP p)) ∧ Below w.heap.size w w' := by
  obtain ⟨aA, cA, aB, cB, aW, cW, aI, cI, aS, cS, aG, cG⟩ := q
  obtain ⟨hA, -, -, -, -, -, -, -, -, -, -, -⟩ := hq
  simp only [] at hA
  unfold PA.cells
  obtain ⟨il, hil⟩ : ∃ z, p.inp.lo = z := ⟨_, rfl⟩
  obtain ⟨ih, hih⟩ : ∃ z, p.inp.hi = z := ⟨_, rfl⟩
  obtain ⟨bi, hbi⟩ : ∃ z, p.bias = z := ⟨_, rfl⟩
  simp only [hil, hih, hbi]
  go_enter Try.func16, Try.ntmps16
  go_upto_region 1 with fail
  have hk_g1 := blk_new w (.cells #[.slice aA p.A.length cA, .slice aB p.B.length cB, .int .i64 il, .int .i64 ih, .slice aW p.W.length cW, .slice aI p.Inv.length cI, .slice aS p.Safe.length cS, .slice aG p.gain.length cG, .int .i64 bi] 28)
  have hbw := bl_alloc (Below.refl w.heap.size w) (.cells #[.slice aA p.A.length cA, .slice aB p.B.length cB, .int .i64 il, .int .i64 ih, .slice aW p.W.length cW, .slice aI p.Inv.length cI, .slice aS p.Safe.length cS, .slice aG p.gain.length cG, .int .i64 bi] 28)
  generalize w.alloc (.cells #[.slice aA p.A.length cA, .slice aB p.B.length cB, .int .i64 il, .int .i64 ih, .slice aW p.W.length cW, .slice aI p.Inv.length cI, .slice aS p.Safe.length cS, .slice aG p.gain.length cG, .int .i64 bi] 28) = W1 at *
  obtain ⟨w0, hw0⟩ : ∃ z : World, z = w := ⟨_, rfl⟩
  rw [← hw0] at hbw hA
  obtain ⟨g1, hg1⟩ : ∃ g, w.heap.size = g := ⟨_, rfl⟩
  rw [hg1] at hk_g1
  rw [hg1]
  clear hg1
  have y0 : W1.cell? ⟨g1, 0, none⟩ = some (.slice aA p.A.length cA) := blk_cell hk_g1 0 (by rfl)
  go_upto_region 2 with fail
  go_loopw [3] (fun x wr => ∃ i : Nat, i ≤ p.A.length ∧ i ≤ 10 ∧ x = .int .i64 i ∧ wr.heap[g1]? = some (.cells #[.slice aA p.A.length cA, .slice aB p.B.length cB, .int .i64 il, .int .i64 ih, .slice aW p.W.length cW, .slice aI p.Inv.length cI, .slice aS p.Safe.length cS, .slice aG p.gain.length cG, .int .i64 bi] 28 (0, 0)) ∧ Below w0.heap.size w0 wr ∧ Hid (∀ j, j < i → (p.A.getD j []).length ≤ 10)) (fun x _ => (p.A.length - intOf x).toNat)
  case atStart => exact ⟨0, by omega, by omega, rfl, hk_g1, hbw, fun j hj => by omega⟩
  case round =>
    clear hk_g1 hbw y0
    obtain ⟨i, hi, hi10, rfl, hk_g1, hbw, hall⟩ := hrel
    obtain ⟨b8, hb8⟩ : ∃ b, Hid (decide (i < p.A.length) = b) := ⟨_, rfl⟩
    obtain ⟨b11, hb11⟩ : ∃ b, Hid (decide ((i : Int) < (10 : Int)) = b) := ⟨_, rfl⟩
    obtain ⟨b12, hb12⟩ : ∃ b, Hid ((b8 && b11) = b) := ⟨_, rfl⟩
    go_upto_region 2 with fail
    obtain ⟨B0, hB0⟩ : ∃ B, B = wr.heap.size := ⟨_, rfl⟩
    have c0_hsz : B0 ≤ wr.heap.size := Nat.le_of_eq hB0
    have hw0B0 : w0.heap.size ≤ B0 := by rw [hB0]; exact hbw.size
    have c0_hle : wr.heap.size ≤ B0 := Nat.le_of_eq hB0.symm
    have c0_hk_g1 := hk_g1
    have c0_lt_g1 : g1 < B0 := by rw [hB0]; exact blk_lt hk_g1
    have c0_hbw := hbw
    clear hB0 hbw hk_g1
    refine region_lin (n := 9) (st := ?st18) { R := [0, 0, 2, 6, 15, 31, 63, 127, 255], kill := [[], [], [], [], [], [], [], [], []], cls := [0, 0, 0, 0, 0, 0, 0, 0, 0], dst := [some 4, some 5, some 6, some 7, some 8, some 9, some 10, some 11, some 12], pre := [[], [], [1], [2], [0, 3], [4], [5], [5, 6], [5, 7]], cov := [], fin := [8], locs := [], tgt := [none], abt := [none, none, none, none, none, none, none, none, none] }
      [.v [4] (fun vs => (vs.getD 0 undef) = .int .i64 (i : Int)),
       .v [5] (fun vs => (vs.getD 0 undef) = .pointer (some ⟨g1, 0, none⟩)),
       .v [6] (fun vs => (vs.getD 0 undef) = .slice aA p.A.length cA),
       .v [7] (fun vs => (vs.getD 0 undef) = .int .i64 (p.A.length : Int)),
       .v [8] (fun vs => (vs.getD 0 undef) = .bool b8),
       .v [9] (fun vs => (vs.getD 0 undef) = .bool b8),
       .v [10] (fun vs => (b8 = true → (vs.getD 0 undef) = .int .i64 (i : Int)) ∧ (b8 = false → (vs.getD 0 undef) = undef)),
       .v [11] (fun vs => (b8 = true → (vs.getD 0 undef) = .bool b11) ∧ (b8 = false → (vs.getD 0 undef) = undef)),
       .v [12] (fun vs => (vs.getD 0 undef) = .bool (b8 && b11))]
      (fun w => B0 ≤ w.heap.size ∧ w.heap[g1]? = some (.cells #[.slice aA p.A.length cA, .slice aB p.B.length cB, .int .i64 il, .int .i64 ih, .slice aW p.W.length cW, .slice aI p.Inv.length cI, .slice aS p.Safe.length cS, .slice aG p.gain.length cG, .int .i64 bi] 28 (0, 0)) ∧ g1 < B0 ∧ Below w0.heap.size w0 w)
      (fun c => ([fun s w w' => Below w.heap.size w w'] : List ((Nat → Value) → World → World → Prop)).getD c (fun s w w' => w' = w))
      [4, 5, 6, 7, 8, 9, 10, 11, 12] (by kernel_rfl) ⟨by kernel_rfl, by kernel_rfl, by kernel_rfl, by kernel_rfl, by kernel_rfl, by kernel_rfl, by kernel_rfl, by kernel_rfl⟩ (fun s => ?_) ?_ ?_ ?_ ?_ ?_ (fun s w hC hA => ?_)
    rotate_left
    · simp only [fillS, List.foldl, List.setIfInBounds_toArray, List.set_cons_zero, List.set_cons_succ]; rfl
    · exact ⟨c0_hsz, c0_hk_g1, c0_lt_g1, c0_hbw⟩
    · intro c s w w' hE
      match c, hE with
      | 0, hE => exact Below.size hE
      | c + 1, hE => cases hE; exact Nat.le_refl _
    · rintro c s w w' ⟨hsz, hk_g1, lt_g1, hbw⟩ hE
      match c, hE with
      | 0, hE => replace hE : Below w.heap.size w w' := hE; exact ⟨Nat.le_trans hsz hE.size, bl_block hE hk_g1, lt_g1, bl_step hbw hE⟩
      | c + 1, hE => cases hE; exact ⟨hsz, hk_g1, lt_g1, hbw⟩
    · exact trivial
    · skip
      refine StepsP.cons ?_ ?_
      · intro Q s w hC hA K hK
        clear hC
        clear hA
        refine guard_none (by rfl) ?_
        refine wp_value (v := .int .i64 (i : Int)) (w1 := w) ?_ (hK.out _ w (Below.refl _ _) rfl (fun h => by cases h))
        go_simp
        try (first | done | rfl | (simp; done))
      refine StepsP.cons ?_ ?_
      · intro Q s w hC hA K hK
        clear hC
        clear hA
        refine guard_none (by rfl) ?_
        refine wp_value (v := .pointer (some ⟨g1, 0, none⟩)) (w1 := w) ?_ (hK.out _ w (Below.refl _ _) rfl (fun h => by cases h))
        go_simp
        try (first | done | rfl | (simp; done))
      refine StepsP.cons ?_ ?_
      · intro Q s w hC hA K hK
        obtain ⟨hsz, hk_g1, lt_g1, hbw⟩ := hC
        obtain ⟨f1, -⟩ := hA
        replace f1 : (s 5) = .pointer (some ⟨g1, 0, none⟩) := f1
        refine guard_none (by rfl) ?_
        have m0_g1 : w.cell? ⟨g1, 0, none⟩ = some (.slice aA p.A.length cA) := blk_cell hk_g1 0 (by rfl)
        have m1_g1 : w.cell? ⟨g1, 1, none⟩ = some (.slice aB p.B.length cB) := blk_cell hk_g1 1 (by rfl)
        have m2_g1 : w.cell? ⟨g1, 2, none⟩ = some (.int .i64 il) := blk_cell hk_g1 2 (by rfl)
        have m3_g1 : w.cell? ⟨g1, 3, none⟩ = some (.int .i64 ih) := blk_cell hk_g1 3 (by rfl)
        have m4_g1 : w.cell? ⟨g1, 4, none⟩ = some (.slice aW p.W.length cW) := blk_cell hk_g1 4 (by rfl)
        have m5_g1 : w.cell? ⟨g1, 5, none⟩ = some (.slice aI p.Inv.length cI) := blk_cell hk_g1 5 (by rfl)
        have m6_g1 : w.cell? ⟨g1, 6, none⟩ = some (.slice aS p.Safe.length cS) := blk_cell hk_g1 6 (by rfl)
        have m7_g1 : w.cell? ⟨g1, 7, none⟩ = some (.slice aG p.gain.length cG) := blk_cell hk_g1 7 (by rfl)
        have m8_g1 : w.cell? ⟨g1, 8, none⟩ = some (.int .i64 bi) := blk_cell hk_g1 8 (by rfl)
        refine wp_value (v := .slice aA p.A.length cA) (w1 := w) ?_ (hK.out _ w (Below.refl _ _) rfl (fun h => by cases h))
        try simp only [f1]
        go_simp
        try (first | done | rfl | (simp; done))
      refine StepsP.cons ?_ ?_
      · intro Q s w hC hA K hK
        clear hC
        obtain ⟨f2, -⟩ := hA
        replace f2 : (s 6) = .slice aA p.A.length cA := f2
        refine guard_none (by rfl) ?_
        refine wp_value (v := .int .i64 (p.A.length : Int)) (w1 := w) ?_ (hK.out _ w (Below.refl _ _) rfl (fun h => by cases h))
        try simp only [f2]
        go_simp
        try (first | done | rfl | (simp; done))
      refine StepsP.cons ?_ ?_
      · intro Q s w hC hA K hK
        clear hC
        obtain ⟨f0, f3, -⟩ := hA
        replace f0 : (s 4) = .int .i64 (i : Int) := f0
        replace f3 : (s 7) = .int .i64 (p.A.length : Int) := f3
        refine guard_none (by rfl) ?_
        refine wp_value (v := .bool b8) (w1 := w) ?_ (hK.out _ w (Below.refl _ _) rfl (fun h => by cases h))
        try simp only [f0, f3]
        go_simp
        first | done | exact hb8.out | (simp [hb8.out]; done) | (rw [hb8.out]; done)
      refine StepsP.cons ?_ ?_
      · intro Q s w hC hA K hK
        clear hC
        obtain ⟨f4, -⟩ := hA
        replace f4 : (s 8) = .bool b8 := f4
        refine guard_none (by rfl) ?_
        refine wp_value (v := .bool b8) (w1 := w) ?_ (hK.out _ w (Below.refl _ _) rfl (fun h => by cases h))
        try simp only [f4]
        go_simp
        try (first | done | rfl | (simp; done))
      refine StepsP.cons ?_ ?_
      · intro Q s w hC hA K hK
        clear hC
        obtain ⟨f5, -⟩ := hA
        replace f5 : (s 9) = .bool b8 := f5
        cases hc : b8
        · refine guard_off (d := 9) (want := true) (by rfl) (by rfl) ?_ ?_
          · show s 9 ≠ .bool true
            · intro h_
              rw [f5] at h_; injection h_ with h_; rw [Bool.eq_false_iff] at hc; exact hc (by (first | (simp only [h_, Bool.and_true, Bool.true_and, Bool.not_true, Bool.not_false, Bool.and_self]; done) | simp_all))
          exact hK.out _ w (Below.refl _ _) ⟨fun h_ => (by rw [hc] at h_; cases h_), fun _ => rfl⟩ (fun _ g h => by cases h)
        · refine guard_on (d := 9) (want := true) (by rfl) (by rfl) ?_ ?_
          · exact (f5).trans (by rw [show b8 = true by (first | (simp only [Bool.and_eq_true, Bool.not_eq_true', Bool.not_eq_false'] at hc; simp only [hc, Bool.and_true, Bool.true_and, Bool.not_true, Bool.not_false, Bool.and_self]; done) | (simp only [hc, Bool.and_true, Bool.true_and, Bool.not_true, Bool.not_false, Bool.and_self]; done) | simp_all)])
          refine wp_value (v := .int .i64 (i : Int)) (w1 := w) ?_ (hK.out _ w (Below.refl _ _) ⟨fun _ => rfl, fun h_ => (by rw [hc] at h_; cases h_)⟩ (fun h => by cases h))
          try simp only [f5]
          go_simp
          try (first | done | rfl | (simp; done))
      refine StepsP.cons ?_ ?_
      · intro Q s w hC hA K hK
        clear hC
        obtain ⟨f5, f6, -⟩ := hA
        replace f5 : (s 9) = .bool b8 := f5
        replace f6 : (b8 = true → (s 10) = .int .i64 (i : Int)) ∧ (b8 = false → (s 10) = undef) := f6
        cases hc : b8
        · refine guard_off (d := 9) (want := true) (by rfl) (by rfl) ?_ ?_
          · show s 9 ≠ .bool true
            · intro h_
              rw [f5] at h_; injection h_ with h_; rw [Bool.eq_false_iff] at hc; exact hc (by (first | (simp only [h_, Bool.and_true, Bool.true_and, Bool.not_true, Bool.not_false, Bool.and_self]; done) | simp_all))
          exact hK.out _ w (Below.refl _ _) ⟨fun h_ => (by rw [hc] at h_; cases h_), fun _ => rfl⟩ (fun _ g h => by cases h)
        · refine guard_on (d := 9) (want := true) (by rfl) (by rfl) ?_ ?_
          · exact (f5).trans (by rw [show b8 = true by (first | (simp only [Bool.and_eq_true, Bool.not_eq_true', Bool.not_eq_false'] at hc; simp only [hc, Bool.and_true, Bool.true_and, Bool.not_true, Bool.not_false, Bool.and_self]; done) | (simp only [hc, Bool.and_true, Bool.true_and, Bool.not_true, Bool.not_false, Bool.and_self]; done) | simp_all)])
          replace f6 := f6.1 (by exact hc)
          refine wp_value (v := .bool b11) (w1 := w) ?_ (hK.out _ w (Below.refl _ _) ⟨fun _ => rfl, fun h_ => (by rw [hc] at h_; cases h_)⟩ (fun h => by cases h))
          try simp only [f5, f6]
          go_simp
          first | done | exact hb11.out | (simp [hb11.out]; done) | (rw [hb11.out]; done)
      refine StepsP.cons ?_ ?_
      · intro Q s w hC hA K hK
        clear hC
        obtain ⟨f5, f7, -⟩ := hA
        replace f5 : (s 9) = .bool b8 := f5
        replace f7 : (b8 = true → (s 11) = .bool b11) ∧ (b8 = false → (s 11) = undef) := f7
        refine guard_none (by rfl) ?_
        refine wp_value (v := .bool (b8 && b11)) (w1 := w) ?_ (hK.out _ w (Below.refl _ _) rfl (fun h => by cases h))
        cases ht : b8
        · skip
          have hct_ : s 9 = .bool false := by rw [f5, ht]
          simp only [hct_]
          go_simp
          try simp
        · have hy_ := f7.1 (by first | (simp only [Bool.and_eq_true, Bool.not_eq_true', Bool.not_eq_false'] at hc ht; simp only [hc, ht, Bool.and_true, Bool.true_and, Bool.not_true, Bool.not_false, Bool.and_self]; done) | (simp only [Bool.and_eq_true, Bool.not_eq_true', Bool.not_eq_false'] at ht; simp only [ht, Bool.and_true, Bool.true_and, Bool.not_true, Bool.not_false, Bool.and_self]; done) | (simp only [ht, Bool.and_true, Bool.true_and, Bool.not_true, Bool.not_false, Bool.and_self]; done) | simp_all)
          have hct_ : s 9 = .bool true := by rw [f5, ht]
          simp only [hct_, hy_]
          go_simp
          try simp
      exact StepsP.nil
    obtain ⟨hsz, hk_g1, lt_g1, hbw⟩ := hC
    obtain ⟨f8, -⟩ := hA
    replace f8 : (s 12) = .bool (b8 && b11) := f8
    refine act_eq (b' := ?b18) ?h18 ?q18
    case h18 => simp only [f8]; rfl
    rw [hb12.out]
    cases b12
    · have hten : Hid (tenP p) := fun j hj hj10 => by
        rcases Nat.lt_or_ge j i with h | h
        · exact hall.out j h
        · exfalso
          have e1 : b8 = true := by rw [← hb8.out]; exact decide_eq_true (by omega)
          have e2 : b11 = true := by rw [← hb11.out]; exact decide_eq_true (by omega)
          have e3 := hb12.out
          rw [e1, e2] at e3
          cases e3
      have hfin : (((((decide ((p.A.length : Int) ≤ (9 : Int)) && decide ((p.B.length : Int) ≤ (9 : Int))) && decide ((p.W.length : Int) ≤ (9 : Int))) && decide ((p.Inv.length : Int) ≤ (9 : Int))) && decide ((p.Safe.length : Int) ≤ (9 : Int))) && decide ((p.gain.length : Int) ≤ (9 : Int))) = lightP p := by
        rw [lightP_yes hten.out]
        unfold nineP
        have f : ∀ a : Nat, decide ((a : Int) ≤ (9 : Int)) = decide (a ≤ 9) := by intro a; rw [Bool.eq_iff_iff]; simp; omega
        rw [f, f, f, f, f, f]
      obtain ⟨d0, hd0⟩ : ∃ b, Hid (decide ((p.A.length : Int) ≤ (9 : Int)) = b) := ⟨_, rfl⟩
      obtain ⟨d1, hd1⟩ : ∃ b, Hid (decide ((p.B.length : Int) ≤ (9 : Int)) = b) := ⟨_, rfl⟩
      obtain ⟨d2, hd2⟩ : ∃ b, Hid (decide ((p.W.length : Int) ≤ (9 : Int)) = b) := ⟨_, rfl⟩
      obtain ⟨d3, hd3⟩ : ∃ b, Hid (decide ((p.Inv.length : Int) ≤ (9 : Int)) = b) := ⟨_, rfl⟩
      obtain ⟨d4, hd4⟩ : ∃ b, Hid (decide ((p.Safe.length : Int) ≤ (9 : Int)) = b) := ⟨_, rfl⟩
      obtain ⟨d5, hd5⟩ : ∃ b, Hid (decide ((p.gain.length : Int) ≤ (9 : Int)) = b) := ⟨_, rfl⟩
      rw [hd0.out, hd1.out, hd2.out, hd3.out, hd4.out, hd5.out] at hfin
      replace hfin := hidI hfin
      go_upto_region 6 with fail
      obtain ⟨B1, hB1⟩ : ∃ B, B = w.heap.size := ⟨_, rfl⟩
      have c0_hsz : B1 ≤ w.heap.size := Nat.le_of_eq hB1
      have hw0B1 : w0.heap.size ≤ B1 := by rw [hB1]; exact hbw.size
      have c0_hle : w.heap.size ≤ B1 := Nat.le_of_eq hB1.symm
      have c0_hk_g1 := hk_g1
      have c0_lt_g1 : g1 < B1 := by rw [hB1]; exact blk_lt hk_g1
      have c0_hbw := hbw
      clear hB1 hbw hk_g1
      refine region_lin (n := 35) (st := ?st19) { R := [0, 1, 3, 7, 15, 31, 63, 127, 255, 511, 1023, 2047, 4095, 8191, 16383, 32767, 65535, 131071, 262143, 524287, 1048575, 2097151, 4194303, 8388607, 16777215, 33554431, 67108863, 134217727, 268435455, 536870911, 1073741823, 2147483647, 4294967295, 8589934591, 17179869183], kill := [[], [], [], [], [], [], [], [], [], [], [], [], [], [], [], [], [], [], [], [], [], [], [], [], [], [], [], [], [], [], [], [], [], [], []], cls := [0, 0, 0, 0, 0, 0, 0, 0, 0, 0, 0, 0, 0, 0, 0, 0, 0, 0, 0, 0, 0, 0, 0, 0, 0, 0, 0, 0, 0, 0, 0, 0, 0, 0, 0], dst := [some 22, some 23, some 24, some 25, some 26, some 27, some 28, some 29, some 30, some 31, some 32, some 33, some 34, some 35, some 36, some 37, some 38, some 39, some 40, some 41, some 42, some 43, some 44, some 45, some 46, some 47, some 48, some 49, some 50, some 51, some 52, some 53, some 54, some 55, some 2], pre := [[], [0], [1], [2], [3], [4], [4, 5], [4, 6], [4, 7], [4, 8], [9], [10], [10, 11], [10, 12], [10, 13], [10, 14], [15], [16], [16, 17], [16, 18], [16, 19], [16, 20], [21], [22], [22, 23], [22, 24], [22, 25], [22, 26], [27], [28], [28, 29], [28, 30], [28, 31], [28, 32], [33]], cov := [], fin := [34], locs := [], tgt := [none], abt := [none, none, none, none, none, none, none, none, none, none, none, none, none, none, none, none, none, none, none, none, none, none, none, none, none, none, none, none, none, none, none, none, none, none, none] }
        [.v [22] (fun vs => (vs.getD 0 undef) = .pointer (some ⟨g1, 0, none⟩)),
         .v [23] (fun vs => (vs.getD 0 undef) = .slice aA p.A.length cA),
         .v [24] (fun vs => (vs.getD 0 undef) = .int .i64 (p.A.length : Int)),
         .v [25] (fun vs => (vs.getD 0 undef) = .bool d0),
         .v [26] (fun vs => (vs.getD 0 undef) = .bool d0),
         .v [27] (fun vs => (d0 = true → (vs.getD 0 undef) = .pointer (some ⟨g1, 1, none⟩)) ∧ (d0 = false → (vs.getD 0 undef) = undef)),
         .v [28] (fun vs => (d0 = true → (vs.getD 0 undef) = .slice aB p.B.length cB) ∧ (d0 = false → (vs.getD 0 undef) = undef)),
         .v [29] (fun vs => (d0 = true → (vs.getD 0 undef) = .int .i64 (p.B.length : Int)) ∧ (d0 = false → (vs.getD 0 undef) = undef)),
         .v [30] (fun vs => (d0 = true → (vs.getD 0 undef) = .bool d1) ∧ (d0 = false → (vs.getD 0 undef) = undef)),
         .v [31] (fun vs => (vs.getD 0 undef) = .bool (d0 && d1)),
         .v [32] (fun vs => (vs.getD 0 undef) = .bool (d0 && d1)),
         .v [33] (fun vs => ((d0 && d1) = true → (vs.getD 0 undef) = .pointer (some ⟨g1, 4, none⟩)) ∧ ((d0 && d1) = false → (vs.getD 0 undef) = undef)),
         .v [34] (fun vs => ((d0 && d1) = true → (vs.getD 0 undef) = .slice aW p.W.length cW) ∧ ((d0 && d1) = false → (vs.getD 0 undef) = undef)),
         .v [35] (fun vs => ((d0 && d1) = true → (vs.getD 0 undef) = .int .i64 (p.W.length : Int)) ∧ ((d0 && d1) = false → (vs.getD 0 undef) = undef)),
         .v [36] (fun vs => ((d0 && d1) = true → (vs.getD 0 undef) = .bool d2) ∧ ((d0 && d1) = false → (vs.getD 0 undef) = undef)),
         .v [37] (fun vs => (vs.getD 0 undef) = .bool ((d0 && d1) && d2)),
         .v [38] (fun vs => (vs.getD 0 undef) = .bool ((d0 && d1) && d2)),
         .v [39] (fun vs => (((d0 && d1) && d2) = true → (vs.getD 0 undef) = .pointer (some ⟨g1, 5, none⟩)) ∧ (((d0 && d1) && d2) = false → (vs.getD 0 undef) = undef)),
         .v [40] (fun vs => (((d0 && d1) && d2) = true → (vs.getD 0 undef) = .slice aI p.Inv.length cI) ∧ (((d0 && d1) && d2) = false → (vs.getD 0 undef) = undef)),
         .v [41] (fun vs => (((d0 && d1) && d2) = true → (vs.getD 0 undef) = .int .i64 (p.Inv.length : Int)) ∧ (((d0 && d1) && d2) = false → (vs.getD 0 undef) = undef)),
         .v [42] (fun vs => (((d0 && d1) && d2) = true → (vs.getD 0 undef) = .bool d3) ∧ (((d0 && d1) && d2) = false → (vs.getD 0 undef) = undef)),
         .v [43] (fun vs => (vs.getD 0 undef) = .bool (((d0 && d1) && d2) && d3)),
         .v [44] (fun vs => (vs.getD 0 undef) = .bool (((d0 && d1) && d2) && d3)),
         .v [45] (fun vs => ((((d0 && d1) && d2) && d3) = true → (vs.getD 0 undef) = .pointer (some ⟨g1, 6, none⟩)) ∧ ((((d0 && d1) && d2) && d3) = false → (vs.getD 0 undef) = undef)),
         .v [46] (fun vs => ((((d0 && d1) && d2) && d3) = true → (vs.getD 0 undef) = .slice aS p.Safe.length cS) ∧ ((((d0 && d1) && d2) && d3) = false → (vs.getD 0 undef) = undef)),
         .v [47] (fun vs => ((((d0 && d1) && d2) && d3) = true → (vs.getD 0 undef) = .int .i64 (p.Safe.length : Int)) ∧ ((((d0 && d1) && d2) && d3) = false → (vs.getD 0 undef) = undef)),
         .v [48] (fun vs => ((((d0 && d1) && d2) && d3) = true → (vs.getD 0 undef) = .bool d4) ∧ ((((d0 && d1) && d2) && d3) = false → (vs.getD 0 undef) = undef)),
         .v [49] (fun vs => (vs.getD 0 undef) = .bool ((((d0 && d1) && d2) && d3) && d4)),
         .v [50] (fun vs => (vs.getD 0 undef) = .bool ((((d0 && d1) && d2) && d3) && d4)),
         .v [51] (fun vs => (((((d0 && d1) && d2) && d3) && d4) = true → (vs.getD 0 undef) = .pointer (some ⟨g1, 7, none⟩)) ∧ (((((d0 && d1) && d2) && d3) && d4) = false → (vs.getD 0 undef) = undef)),
         .v [52] (fun vs => (((((d0 && d1) && d2) && d3) && d4) = true → (vs.getD 0 undef) = .slice aG p.gain.length cG) ∧ (((((d0 && d1) && d2) && d3) && d4) = false → (vs.getD 0 undef) = undef)),
         .v [53] (fun vs => (((((d0 && d1) && d2) && d3) && d4) = true → (vs.getD 0 undef) = .int .i64 (p.gain.length : Int)) ∧ (((((d0 && d1) && d2) && d3) && d4) = false → (vs.getD 0 undef) = undef)),
         .v [54] (fun vs => (((((d0 && d1) && d2) && d3) && d4) = true → (vs.getD 0 undef) = .bool d5) ∧ (((((d0 && d1) && d2) && d3) && d4) = false → (vs.getD 0 undef) = undef)),
         .v [55] (fun vs => (vs.getD 0 undef) = .bool (((((d0 && d1) && d2) && d3) && d4) && d5)),
         .v [2] (fun vs => (vs.getD 0 undef) = .bool (((((d0 && d1) && d2) && d3) && d4) && d5))]
        (fun w => B1 ≤ w.heap.size ∧ w.heap[g1]? = some (.cells #[.slice aA p.A.length cA, .slice aB p.B.length cB, .int .i64 il, .int .i64 ih, .slice aW p.W.length cW, .slice aI p.Inv.length cI, .slice aS p.Safe.length cS, .slice aG p.gain.length cG, .int .i64 bi] 28 (0, 0)) ∧ g1 < B1 ∧ Below w0.heap.size w0 w)
        (fun c => ([fun s w w' => Below w.heap.size w w'] : List ((Nat → Value) → World → World → Prop)).getD c (fun s w w' => w' = w))
        [2, 22, 23, 24, 25, 26, 27, 28, 29, 30, 31, 32, 33, 34, 35, 36, 37, 38, 39, 40, 41, 42, 43, 44, 45, 46, 47, 48, 49, 50, 51, 52, 53, 54, 55] (by kernel_rfl) ⟨by kernel_rfl, by kernel_rfl, by kernel_rfl, by kernel_rfl, by kernel_rfl, by kernel_rfl, by kernel_rfl, by kernel_rfl⟩ (fun s => ?_) ?_ ?_ ?_ ?_ ?_ (fun s w hC hA => ?_)
      rotate_left
      · simp only [fillS, List.foldl, List.setIfInBounds_toArray, List.set_cons_zero, List.set_cons_succ]; rfl
      · exact ⟨c0_hsz, c0_hk_g1, c0_lt_g1, c0_hbw⟩
      · intro c s w w' hE
        match c, hE with
        | 0, hE => exact Below.size hE
        | c + 1, hE => cases hE; exact Nat.le_refl _
      · rintro c s w w' ⟨hsz, hk_g1, lt_g1, hbw⟩ hE
        match c, hE with
        | 0, hE => replace hE : Below w.heap.size w w' := hE; exact ⟨Nat.le_trans hsz hE.size, bl_block hE hk_g1, lt_g1, bl_step hbw hE⟩
        | c + 1, hE => cases hE; exact ⟨hsz, hk_g1, lt_g1, hbw⟩
      · exact trivial
      · skip
        refine StepsP.cons ?_ ?_
        · intro Q s w hC hA K hK
          clear hC
          clear hA
          refine guard_none (by rfl) ?_
          refine wp_value (v := .pointer (some ⟨g1, 0, none⟩)) (w1 := w) ?_ (hK.out _ w (Below.refl _ _) rfl (fun h => by cases h))
          go_simp
          try (first | done | rfl | (simp; done))
        refine StepsP.cons ?_ ?_
        · intro Q s w hC hA K hK
          obtain ⟨hsz, hk_g1, lt_g1, hbw⟩ := hC
          obtain ⟨f0, -⟩ := hA
          replace f0 : (s 22) = .pointer (some ⟨g1, 0, none⟩) := f0
          refine guard_none (by rfl) ?_
          have m0_g1 : w.cell? ⟨g1, 0, none⟩ = some (.slice aA p.A.length cA) := blk_cell hk_g1 0 (by rfl)
          have m1_g1 : w.cell? ⟨g1, 1, none⟩ = some (.slice aB p.B.length cB) := blk_cell hk_g1 1 (by rfl)
          have m2_g1 : w.cell? ⟨g1, 2, none⟩ = some (.int .i64 il) := blk_cell hk_g1 2 (by rfl)
          have m3_g1 : w.cell? ⟨g1, 3, none⟩ = some (.int .i64 ih) := blk_cell hk_g1 3 (by rfl)
          have m4_g1 : w.cell? ⟨g1, 4, none⟩ = some (.slice aW p.W.length cW) := blk_cell hk_g1 4 (by rfl)
          have m5_g1 : w.cell? ⟨g1, 5, none⟩ = some (.slice aI p.Inv.length cI) := blk_cell hk_g1 5 (by rfl)
          have m6_g1 : w.cell? ⟨g1, 6, none⟩ = some (.slice aS p.Safe.length cS) := blk_cell hk_g1 6 (by rfl)
          have m7_g1 : w.cell? ⟨g1, 7, none⟩ = some (.slice aG p.gain.length cG) := blk_cell hk_g1 7 (by rfl)
          have m8_g1 : w.cell? ⟨g1, 8, none⟩ = some (.int .i64 bi) := blk_cell hk_g1 8 (by rfl)
          refine wp_value (v := .slice aA p.A.length cA) (w1 := w) ?_ (hK.out _ w (Below.refl _ _) rfl (fun h => by cases h))
          try simp only [f0]
          go_simp
          try (first | done | rfl | (simp; done))
        refine StepsP.cons ?_ ?_
        · intro Q s w hC hA K hK
          clear hC
          obtain ⟨f1, -⟩ := hA
          replace f1 : (s 23) = .slice aA p.A.length cA := f1
          refine guard_none (by rfl) ?_
          refine wp_value (v := .int .i64 (p.A.length : Int)) (w1 := w) ?_ (hK.out _ w (Below.refl _ _) rfl (fun h => by cases h))
          try simp only [f1]
          go_simp
          try (first | done | rfl | (simp; done))
        refine StepsP.cons ?_ ?_
        · intro Q s w hC hA K hK
          clear hC
          obtain ⟨f2, -⟩ := hA
          replace f2 : (s 24) = .int .i64 (p.A.length : Int) := f2
          refine guard_none (by rfl) ?_
          refine wp_value (v := .bool d0) (w1 := w) ?_ (hK.out _ w (Below.refl _ _) rfl (fun h => by cases h))
          try simp only [f2]
          go_simp
          first | done | exact hd0.out | (simp [hd0.out]; done) | (rw [hd0.out]; done)
        refine StepsP.cons ?_ ?_
        · intro Q s w hC hA K hK
          clear hC
          obtain ⟨f3, -⟩ := hA
          replace f3 : (s 25) = .bool d0 := f3
          refine guard_none (by rfl) ?_
          refine wp_value (v := .bool d0) (w1 := w) ?_ (hK.out _ w (Below.refl _ _) rfl (fun h => by cases h))
          try simp only [f3]
          go_simp
          try (first | done | rfl | (simp; done))
        refine StepsP.cons ?_ ?_
        · intro Q s w hC hA K hK
          clear hC
          obtain ⟨f4, -⟩ := hA
          replace f4 : (s 26) = .bool d0 := f4
          cases hc : d0
          · refine guard_off (d := 26) (want := true) (by rfl) (by rfl) ?_ ?_
            · show s 26 ≠ .bool true
              · intro h_
                rw [f4] at h_; injection h_ with h_; rw [Bool.eq_false_iff] at hc; exact hc (by (first | (simp only [h_, Bool.and_true, Bool.true_and, Bool.not_true, Bool.not_false, Bool.and_self]; done) | simp_all))
            exact hK.out _ w (Below.refl _ _) ⟨fun h_ => (by rw [hc] at h_; cases h_), fun _ => rfl⟩ (fun _ g h => by cases h)
          · refine guard_on (d := 26) (want := true) (by rfl) (by rfl) ?_ ?_
            · exact (f4).trans (by rw [show d0 = true by (first | (simp only [Bool.and_eq_true, Bool.not_eq_true', Bool.not_eq_false'] at hc; simp only [hc, Bool.and_true, Bool.true_and, Bool.not_true, Bool.not_false, Bool.and_self]; done) | (simp only [hc, Bool.and_true, Bool.true_and, Bool.not_true, Bool.not_false, Bool.and_self]; done) | simp_all)])
            refine wp_value (v := .pointer (some ⟨g1, 1, none⟩)) (w1 := w) ?_ (hK.out _ w (Below.refl _ _) ⟨fun _ => rfl, fun h_ => (by rw [hc] at h_; cases h_)⟩ (fun h => by cases h))
            try simp only [f4]
            go_simp
            try (first | done | rfl | (simp; done))
        refine StepsP.cons ?_ ?_
        · intro Q s w hC hA K hK
          obtain ⟨hsz, hk_g1, lt_g1, hbw⟩ := hC
          obtain ⟨f4, f5, -⟩ := hA
          replace f4 : (s 26) = .bool d0 := f4
          replace f5 : (d0 = true → (s 27) = .pointer (some ⟨g1, 1, none⟩)) ∧ (d0 = false → (s 27) = undef) := f5
          cases hc : d0
          · refine guard_off (d := 26) (want := true) (by rfl) (by rfl) ?_ ?_
            · show s 26 ≠ .bool true
              · intro h_
                rw [f4] at h_; injection h_ with h_; rw [Bool.eq_false_iff] at hc; exact hc (by (first | (simp only [h_, Bool.and_true, Bool.true_and, Bool.not_true, Bool.not_false, Bool.and_self]; done) | simp_all))
            exact hK.out _ w (Below.refl _ _) ⟨fun h_ => (by rw [hc] at h_; cases h_), fun _ => rfl⟩ (fun _ g h => by cases h)
          · refine guard_on (d := 26) (want := true) (by rfl) (by rfl) ?_ ?_
            · exact (f4).trans (by rw [show d0 = true by (first | (simp only [Bool.and_eq_true, Bool.not_eq_true', Bool.not_eq_false'] at hc; simp only [hc, Bool.and_true, Bool.true_and, Bool.not_true, Bool.not_false, Bool.and_self]; done) | (simp only [hc, Bool.and_true, Bool.true_and, Bool.not_true, Bool.not_false, Bool.and_self]; done) | simp_all)])
            replace f5 := f5.1 (by exact hc)
            have m0_g1 : w.cell? ⟨g1, 0, none⟩ = some (.slice aA p.A.length cA) := blk_cell hk_g1 0 (by rfl)
            have m1_g1 : w.cell? ⟨g1, 1, none⟩ = some (.slice aB p.B.length cB) := blk_cell hk_g1 1 (by rfl)
            have m2_g1 : w.cell? ⟨g1, 2, none⟩ = some (.int .i64 il) := blk_cell hk_g1 2 (by rfl)
            have m3_g1 : w.cell? ⟨g1, 3, none⟩ = some (.int .i64 ih) := blk_cell hk_g1 3 (by rfl)
            have m4_g1 : w.cell? ⟨g1, 4, none⟩ = some (.slice aW p.W.length cW) := blk_cell hk_g1 4 (by rfl)
            have m5_g1 : w.cell? ⟨g1, 5, none⟩ = some (.slice aI p.Inv.length cI) := blk_cell hk_g1 5 (by rfl)
            have m6_g1 : w.cell? ⟨g1, 6, none⟩ = some (.slice aS p.Safe.length cS) := blk_cell hk_g1 6 (by rfl)
            have m7_g1 : w.cell? ⟨g1, 7, none⟩ = some (.slice aG p.gain.length cG) := blk_cell hk_g1 7 (by rfl)
            have m8_g1 : w.cell? ⟨g1, 8, none⟩ = some (.int .i64 bi) := blk_cell hk_g1 8 (by rfl)
            refine wp_value (v := .slice aB p.B.length cB) (w1 := w) ?_ (hK.out _ w (Below.refl _ _) ⟨fun _ => rfl, fun h_ => (by rw [hc] at h_; cases h_)⟩ (fun h => by cases h))
            try simp only [f4, f5]
            go_simp
            try (first | done | rfl | (simp; done))
        refine StepsP.cons ?_ ?_
        · intro Q s w hC hA K hK
          clear hC
          obtain ⟨f4, f6, -⟩ := hA
          replace f4 : (s 26) = .bool d0 := f4
          replace f6 : (d0 = true → (s 28) = .slice aB p.B.length cB) ∧ (d0 = false → (s 28) = undef) := f6
          cases hc : d0
          · refine guard_off (d := 26) (want := true) (by rfl) (by rfl) ?_ ?_
            · show s 26 ≠ .bool true
              · intro h_
                rw [f4] at h_; injection h_ with h_; rw [Bool.eq_false_iff] at hc; exact hc (by (first | (simp only [h_, Bool.and_true, Bool.true_and, Bool.not_true, Bool.not_false, Bool.and_self]; done) | simp_all))
            exact hK.out _ w (Below.refl _ _) ⟨fun h_ => (by rw [hc] at h_; cases h_), fun _ => rfl⟩ (fun _ g h => by cases h)
          · refine guard_on (d := 26) (want := true) (by rfl) (by rfl) ?_ ?_
            · exact (f4).trans (by rw [show d0 = true by (first | (simp only [Bool.and_eq_true, Bool.not_eq_true', Bool.not_eq_false'] at hc; simp only [hc, Bool.and_true, Bool.true_and, Bool.not_true, Bool.not_false, Bool.and_self]; done) | (simp only [hc, Bool.and_true, Bool.true_and, Bool.not_true, Bool.not_false, Bool.and_self]; done) | simp_all)])
            replace f6 := f6.1 (by exact hc)
            refine wp_value (v := .int .i64 (p.B.length : Int)) (w1 := w) ?_ (hK.out _ w (Below.refl _ _) ⟨fun _ => rfl, fun h_ => (by rw [hc] at h_; cases h_)⟩ (fun h => by cases h))
            try simp only [f4, f6]
            go_simp
            try (first | done | rfl | (simp; done))
        refine StepsP.cons ?_ ?_
        · intro Q s w hC hA K hK
          clear hC
          obtain ⟨f4, f7, -⟩ := hA
          replace f4 : (s 26) = .bool d0 := f4
          replace f7 : (d0 = true → (s 29) = .int .i64 (p.B.length : Int)) ∧ (d0 = false → (s 29) = undef) := f7
          cases hc : d0
          · refine guard_off (d := 26) (want := true) (by rfl) (by rfl) ?_ ?_
            · show s 26 ≠ .bool true
              · intro h_
                rw [f4] at h_; injection h_ with h_; rw [Bool.eq_false_iff] at hc; exact hc (by (first | (simp only [h_, Bool.and_true, Bool.true_and, Bool.not_true, Bool.not_false, Bool.and_self]; done) | simp_all))
            exact hK.out _ w (Below.refl _ _) ⟨fun h_ => (by rw [hc] at h_; cases h_), fun _ => rfl⟩ (fun _ g h => by cases h)
          · refine guard_on (d := 26) (want := true) (by rfl) (by rfl) ?_ ?_
            · exact (f4).trans (by rw [show d0 = true by (first | (simp only [Bool.and_eq_true, Bool.not_eq_true', Bool.not_eq_false'] at hc; simp only [hc, Bool.and_true, Bool.true_and, Bool.not_true, Bool.not_false, Bool.and_self]; done) | (simp only [hc, Bool.and_true, Bool.true_and, Bool.not_true, Bool.not_false, Bool.and_self]; done) | simp_all)])
            replace f7 := f7.1 (by exact hc)
            refine wp_value (v := .bool d1) (w1 := w) ?_ (hK.out _ w (Below.refl _ _) ⟨fun _ => rfl, fun h_ => (by rw [hc] at h_; cases h_)⟩ (fun h => by cases h))
            try simp only [f4, f7]
            go_simp
            first | done | exact hd1.out | (simp [hd1.out]; done) | (rw [hd1.out]; done)
        refine StepsP.cons ?_ ?_
        · intro Q s w hC hA K hK
          clear hC
          obtain ⟨f4, f8, -⟩ := hA
          replace f4 : (s 26) = .bool d0 := f4
          replace f8 : (d0 = true → (s 30) = .bool d1) ∧ (d0 = false → (s 30) = undef) := f8
          refine guard_none (by rfl) ?_
          refine wp_value (v := .bool (d0 && d1)) (w1 := w) ?_ (hK.out _ w (Below.refl _ _) rfl (fun h => by cases h))
          cases ht : d0
          · skip
            have hct_ : s 26 = .bool false := by rw [f4, ht]
            simp only [hct_]
            go_simp
            try simp
          · have hy_ := f8.1 (by first | (simp only [Bool.and_eq_true, Bool.not_eq_true', Bool.not_eq_false'] at hc ht; simp only [hc, ht, Bool.and_true, Bool.true_and, Bool.not_true, Bool.not_false, Bool.and_self]; done) | (simp only [Bool.and_eq_true, Bool.not_eq_true', Bool.not_eq_false'] at ht; simp only [ht, Bool.and_true, Bool.true_and, Bool.not_true, Bool.not_false, Bool.and_self]; done) | (simp only [ht, Bool.and_true, Bool.true_and, Bool.not_true, Bool.not_false, Bool.and_self]; done) | simp_all)
            have hct_ : s 26 = .bool true := by rw [f4, ht]
            simp only [hct_, hy_]
            go_simp
            try simp
        refine StepsP.cons ?_ ?_
        · intro Q s w hC hA K hK
          clear hC
          obtain ⟨f9, -⟩ := hA
          replace f9 : (s 31) = .bool (d0 && d1) := f9
          refine guard_none (by rfl) ?_
          refine wp_value (v := .bool (d0 && d1)) (w1 := w) ?_ (hK.out _ w (Below.refl _ _) rfl (fun h => by cases h))
          try simp only [f9]
          go_simp
          try (first | done | rfl | (simp; done))
        refine StepsP.cons ?_ ?_
        · intro Q s w hC hA K hK
          clear hC
          obtain ⟨f10, -⟩ := hA
          replace f10 : (s 32) = .bool (d0 && d1) := f10
          cases hc : (d0 && d1)
          · refine guard_off (d := 32) (want := true) (by rfl) (by rfl) ?_ ?_
            · show s 32 ≠ .bool true
              · intro h_
                rw [f10] at h_; injection h_ with h_; rw [Bool.eq_false_iff] at hc; exact hc (by (first | (simp only [h_, Bool.and_true, Bool.true_and, Bool.not_true, Bool.not_false, Bool.and_self]; done) | simp_all))
            exact hK.out _ w (Below.refl _ _) ⟨fun h_ => (by rw [hc] at h_; cases h_), fun _ => rfl⟩ (fun _ g h => by cases h)
          · refine guard_on (d := 32) (want := true) (by rfl) (by rfl) ?_ ?_
            · exact (f10).trans (by rw [show (d0 && d1) = true by (first | (simp only [Bool.and_eq_true, Bool.not_eq_true', Bool.not_eq_false'] at hc; simp only [hc, Bool.and_true, Bool.true_and, Bool.not_true, Bool.not_false, Bool.and_self]; done) | (simp only [hc, Bool.and_true, Bool.true_and, Bool.not_true, Bool.not_false, Bool.and_self]; done) | simp_all)])
            refine wp_value (v := .pointer (some ⟨g1, 4, none⟩)) (w1 := w) ?_ (hK.out _ w (Below.refl _ _) ⟨fun _ => rfl, fun h_ => (by rw [hc] at h_; cases h_)⟩ (fun h => by cases h))
            try simp only [f10]
            go_simp
            try (first | done | rfl | (simp; done))
        refine StepsP.cons ?_ ?_
        · intro Q s w hC hA K hK
          obtain ⟨hsz, hk_g1, lt_g1, hbw⟩ := hC
          obtain ⟨f10, f11, -⟩ := hA
          replace f10 : (s 32) = .bool (d0 && d1) := f10
          replace f11 : ((d0 && d1) = true → (s 33) = .pointer (some ⟨g1, 4, none⟩)) ∧ ((d0 && d1) = false → (s 33) = undef) := f11
          cases hc : (d0 && d1)
          · refine guard_off (d := 32) (want := true) (by rfl) (by rfl) ?_ ?_
            · show s 32 ≠ .bool true
              · intro h_
                rw [f10] at h_; injection h_ with h_; rw [Bool.eq_false_iff] at hc; exact hc (by (first | (simp only [h_, Bool.and_true, Bool.true_and, Bool.not_true, Bool.not_false, Bool.and_self]; done) | simp_all))
            exact hK.out _ w (Below.refl _ _) ⟨fun h_ => (by rw [hc] at h_; cases h_), fun _ => rfl⟩ (fun _ g h => by cases h)
          · refine guard_on (d := 32) (want := true) (by rfl) (by rfl) ?_ ?_
            · exact (f10).trans (by rw [show (d0 && d1) = true by (first | (simp only [Bool.and_eq_true, Bool.not_eq_true', Bool.not_eq_false'] at hc; simp only [hc, Bool.and_true, Bool.true_and, Bool.not_true, Bool.not_false, Bool.and_self]; done) | (simp only [hc, Bool.and_true, Bool.true_and, Bool.not_true, Bool.not_false, Bool.and_self]; done) | simp_all)])
            replace f11 := f11.1 (by exact hc)
            have m0_g1 : w.cell? ⟨g1, 0, none⟩ = some (.slice aA p.A.length cA) := blk_cell hk_g1 0 (by rfl)
            have m1_g1 : w.cell? ⟨g1, 1, none⟩ = some (.slice aB p.B.length cB) := blk_cell hk_g1 1 (by rfl)
            have m2_g1 : w.cell? ⟨g1, 2, none⟩ = some (.int .i64 il) := blk_cell hk_g1 2 (by rfl)
            have m3_g1 : w.cell? ⟨g1, 3, none⟩ = some (.int .i64 ih) := blk_cell hk_g1 3 (by rfl)
            have m4_g1 : w.cell? ⟨g1, 4, none⟩ = some (.slice aW p.W.length cW) := blk_cell hk_g1 4 (by rfl)
            have m5_g1 : w.cell? ⟨g1, 5, none⟩ = some (.slice aI p.Inv.length cI) := blk_cell hk_g1 5 (by rfl)
            have m6_g1 : w.cell? ⟨g1, 6, none⟩ = some (.slice aS p.Safe.length cS) := blk_cell hk_g1 6 (by rfl)
            have m7_g1 : w.cell? ⟨g1, 7, none⟩ = some (.slice aG p.gain.length cG) := blk_cell hk_g1 7 (by rfl)
            have m8_g1 : w.cell? ⟨g1, 8, none⟩ = some (.int .i64 bi) := blk_cell hk_g1 8 (by rfl)
            refine wp_value (v := .slice aW p.W.length cW) (w1 := w) ?_ (hK.out _ w (Below.refl _ _) ⟨fun _ => rfl, fun h_ => (by rw [hc] at h_; cases h_)⟩ (fun h => by cases h))
            try simp only [f10, f11]
            go_simp
            try (first | done | rfl | (simp; done))
        refine StepsP.cons ?_ ?_
        · intro Q s w hC hA K hK
          clear hC
          obtain ⟨f10, f12, -⟩ := hA
          replace f10 : (s 32) = .bool (d0 && d1) := f10
          replace f12 : ((d0 && d1) = true → (s 34) = .slice aW p.W.length cW) ∧ ((d0 && d1) = false → (s 34) = undef) := f12
          cases hc : (d0 && d1)
          · refine guard_off (d := 32) (want := true) (by rfl) (by rfl) ?_ ?_
            · show s 32 ≠ .bool true
              · intro h_
                rw [f10] at h_; injection h_ with h_; rw [Bool.eq_false_iff] at hc; exact hc (by (first | (simp only [h_, Bool.and_true, Bool.true_and, Bool.not_true, Bool.not_false, Bool.and_self]; done) | simp_all))
            exact hK.out _ w (Below.refl _ _) ⟨fun h_ => (by rw [hc] at h_; cases h_), fun _ => rfl⟩ (fun _ g h => by cases h)
          · refine guard_on (d := 32) (want := true) (by rfl) (by rfl) ?_ ?_
            · exact (f10).trans (by rw [show (d0 && d1) = true by (first | (simp only [Bool.and_eq_true, Bool.not_eq_true', Bool.not_eq_false'] at hc; simp only [hc, Bool.and_true, Bool.true_and, Bool.not_true, Bool.not_false, Bool.and_self]; done) | (simp only [hc, Bool.and_true, Bool.true_and, Bool.not_true, Bool.not_false, Bool.and_self]; done) | simp_all)])
            replace f12 := f12.1 (by exact hc)
            refine wp_value (v := .int .i64 (p.W.length : Int)) (w1 := w) ?_ (hK.out _ w (Below.refl _ _) ⟨fun _ => rfl, fun h_ => (by rw [hc] at h_; cases h_)⟩ (fun h => by cases h))
            try simp only [f10, f12]
            go_simp
            try (first | done | rfl | (simp; done))
        refine StepsP.cons ?_ ?_
        · intro Q s w hC hA K hK
          clear hC
          obtain ⟨f10, f13, -⟩ := hA
          replace f10 : (s 32) = .bool (d0 && d1) := f10
          replace f13 : ((d0 && d1) = true → (s 35) = .int .i64 (p.W.length : Int)) ∧ ((d0 && d1) = false → (s 35) = undef) := f13
          cases hc : (d0 && d1)
          · refine guard_off (d := 32) (want := true) (by rfl) (by rfl) ?_ ?_
            · show s 32 ≠ .bool true
              · intro h_
                rw [f10] at h_; injection h_ with h_; rw [Bool.eq_false_iff] at hc; exact hc (by (first | (simp only [h_, Bool.and_true, Bool.true_and, Bool.not_true, Bool.not_false, Bool.and_self]; done) | simp_all))
            exact hK.out _ w (Below.refl _ _) ⟨fun h_ => (by rw [hc] at h_; cases h_), fun _ => rfl⟩ (fun _ g h => by cases h)
          · refine guard_on (d := 32) (want := true) (by rfl) (by rfl) ?_ ?_
            · exact (f10).trans (by rw [show (d0 && d1) = true by (first | (simp only [Bool.and_eq_true, Bool.not_eq_true', Bool.not_eq_false'] at hc; simp only [hc, Bool.and_true, Bool.true_and, Bool.not_true, Bool.not_false, Bool.and_self]; done) | (simp only [hc, Bool.and_true, Bool.true_and, Bool.not_true, Bool.not_false, Bool.and_self]; done) | simp_all)])
            replace f13 := f13.1 (by exact hc)
            refine wp_value (v := .bool d2) (w1 := w) ?_ (hK.out _ w (Below.refl _ _) ⟨fun _ => rfl, fun h_ => (by rw [hc] at h_; cases h_)⟩ (fun h => by cases h))
            try simp only [f10, f13]
            go_simp
            first | done | exact hd2.out | (simp [hd2.out]; done) | (rw [hd2.out]; done)
        refine StepsP.cons ?_ ?_
        · intro Q s w hC hA K hK
          clear hC
          obtain ⟨f10, f14, -⟩ := hA
          replace f10 : (s 32) = .bool (d0 && d1) := f10
          replace f14 : ((d0 && d1) = true → (s 36) = .bool d2) ∧ ((d0 && d1) = false → (s 36) = undef) := f14
          refine guard_none (by rfl) ?_
          refine wp_value (v := .bool ((d0 && d1) && d2)) (w1 := w) ?_ (hK.out _ w (Below.refl _ _) rfl (fun h => by cases h))
          cases ht : (d0 && d1)
          · skip
            have hct_ : s 32 = .bool false := by rw [f10, ht]
            simp only [hct_]
            go_simp
            try simp
          · have hy_ := f14.1 (by first | (simp only [Bool.and_eq_true, Bool.not_eq_true', Bool.not_eq_false'] at hc ht; simp only [hc, ht, Bool.and_true, Bool.true_and, Bool.not_true, Bool.not_false, Bool.and_self]; done) | (simp only [Bool.and_eq_true, Bool.not_eq_true', Bool.not_eq_false'] at ht; simp only [ht, Bool.and_true, Bool.true_and, Bool.not_true, Bool.not_false, Bool.and_self]; done) | (simp only [ht, Bool.and_true, Bool.true_and, Bool.not_true, Bool.not_false, Bool.and_self]; done) | simp_all)
            have hct_ : s 32 = .bool true := by rw [f10, ht]
            simp only [hct_, hy_]
            go_simp
            try simp
        refine StepsP.cons ?_ ?_
        · intro Q s w hC hA K hK
          clear hC
          obtain ⟨f15, -⟩ := hA
          replace f15 : (s 37) = .bool ((d0 && d1) && d2) := f15
          refine guard_none (by rfl) ?_
          refine wp_value (v := .bool ((d0 && d1) && d2)) (w1 := w) ?_ (hK.out _ w (Below.refl _ _) rfl (fun h => by cases h))
          try simp only [f15]
          go_simp
          try (first | done | rfl | (simp; done))
        refine StepsP.cons ?_ ?_
        · intro Q s w hC hA K hK
          clear hC
          obtain ⟨f16, -⟩ := hA
          replace f16 : (s 38) = .bool ((d0 && d1) && d2) := f16
          cases hc : ((d0 && d1) && d2)
          · refine guard_off (d := 38) (want := true) (by rfl) (by rfl) ?_ ?_
            · show s 38 ≠ .bool true
              · intro h_
                rw [f16] at h_; injection h_ with h_; rw [Bool.eq_false_iff] at hc; exact hc (by (first | (simp only [h_, Bool.and_true, Bool.true_and, Bool.not_true, Bool.not_false, Bool.and_self]; done) | simp_all))
            exact hK.out _ w (Below.refl _ _) ⟨fun h_ => (by rw [hc] at h_; cases h_), fun _ => rfl⟩ (fun _ g h => by cases h)
          · refine guard_on (d := 38) (want := true) (by rfl) (by rfl) ?_ ?_
            · exact (f16).trans (by rw [show ((d0 && d1) && d2) = true by (first | (simp only [Bool.and_eq_true, Bool.not_eq_true', Bool.not_eq_false'] at hc; simp only [hc, Bool.and_true, Bool.true_and, Bool.not_true, Bool.not_false, Bool.and_self]; done) | (simp only [hc, Bool.and_true, Bool.true_and, Bool.not_true, Bool.not_false, Bool.and_self]; done) | simp_all)])
            refine wp_value (v := .pointer (some ⟨g1, 5, none⟩)) (w1 := w) ?_ (hK.out _ w (Below.refl _ _) ⟨fun _ => rfl, fun h_ => (by rw [hc] at h_; cases h_)⟩ (fun h => by cases h))
            try simp only [f16]
            go_simp
            try (first | done | rfl | (simp; done))
        refine StepsP.cons ?_ ?_
        · intro Q s w hC hA K hK
          obtain ⟨hsz, hk_g1, lt_g1, hbw⟩ := hC
          obtain ⟨f16, f17, -⟩ := hA
          replace f16 : (s 38) = .bool ((d0 && d1) && d2) := f16
          replace f17 : (((d0 && d1) && d2) = true → (s 39) = .pointer (some ⟨g1, 5, none⟩)) ∧ (((d0 && d1) && d2) = false → (s 39) = undef) := f17
          cases hc : ((d0 && d1) && d2)
          · refine guard_off (d := 38) (want := true) (by rfl) (by rfl) ?_ ?_
            · show s 38 ≠ .bool true
              · intro h_
                rw [f16] at h_; injection h_ with h_; rw [Bool.eq_false_iff] at hc; exact hc (by (first | (simp only [h_, Bool.and_true, Bool.true_and, Bool.not_true, Bool.not_false, Bool.and_self]; done) | simp_all))
            exact hK.out _ w (Below.refl _ _) ⟨fun h_ => (by rw [hc] at h_; cases h_), fun _ => rfl⟩ (fun _ g h => by cases h)
          · refine guard_on (d := 38) (want := true) (by rfl) (by rfl) ?_ ?_
            · exact (f16).trans (by rw [show ((d0 && d1) && d2) = true by (first | (simp only [Bool.and_eq_true, Bool.not_eq_true', Bool.not_eq_false'] at hc; simp only [hc, Bool.and_true, Bool.true_and, Bool.not_true, Bool.not_false, Bool.and_self]; done) | (simp only [hc, Bool.and_true, Bool.true_and, Bool.not_true, Bool.not_false, Bool.and_self]; done) | simp_all)])
            replace f17 := f17.1 (by exact hc)
            have m0_g1 : w.cell? ⟨g1, 0, none⟩ = some (.slice aA p.A.length cA) := blk_cell hk_g1 0 (by rfl)
            have m1_g1 : w.cell? ⟨g1, 1, none⟩ = some (.slice aB p.B.length cB) := blk_cell hk_g1 1 (by rfl)
            have m2_g1 : w.cell? ⟨g1, 2, none⟩ = some (.int .i64 il) := blk_cell hk_g1 2 (by rfl)
            have m3_g1 : w.cell? ⟨g1, 3, none⟩ = some (.int .i64 ih) := blk_cell hk_g1 3 (by rfl)
            have m4_g1 : w.cell? ⟨g1, 4, none⟩ = some (.slice aW p.W.length cW) := blk_cell hk_g1 4 (by rfl)
            have m5_g1 : w.cell? ⟨g1, 5, none⟩ = some (.slice aI p.Inv.length cI) := blk_cell hk_g1 5 (by rfl)
            have m6_g1 : w.cell? ⟨g1, 6, none⟩ = some (.slice aS p.Safe.length cS) := blk_cell hk_g1 6 (by rfl)
            have m7_g1 : w.cell? ⟨g1, 7, none⟩ = some (.slice aG p.gain.length cG) := blk_cell hk_g1 7 (by rfl)
            have m8_g1 : w.cell? ⟨g1, 8, none⟩ = some (.int .i64 bi) := blk_cell hk_g1 8 (by rfl)
            refine wp_value (v := .slice aI p.Inv.length cI) (w1 := w) ?_ (hK.out _ w (Below.refl _ _) ⟨fun _ => rfl, fun h_ => (by rw [hc] at h_; cases h_)⟩ (fun h => by cases h))
            try simp only [f16, f17]
            go_simp
            try (first | done | rfl | (simp; done))
        refine StepsP.cons ?_ ?_
        · intro Q s w hC hA K hK
          clear hC
          obtain ⟨f16, f18, -⟩ := hA
          replace f16 : (s 38) = .bool ((d0 && d1) && d2) := f16
          replace f18 : (((d0 && d1) && d2) = true → (s 40) = .slice aI p.Inv.length cI) ∧ (((d0 && d1) && d2) = false → (s 40) = undef) := f18
          cases hc : ((d0 && d1) && d2)
          · refine guard_off (d := 38) (want := true) (by rfl) (by rfl) ?_ ?_
            · show s 38 ≠ .bool true
              · intro h_
                rw [f16] at h_; injection h_ with h_; rw [Bool.eq_false_iff] at hc; exact hc (by (first | (simp only [h_, Bool.and_true, Bool.true_and, Bool.not_true, Bool.not_false, Bool.and_self]; done) | simp_all))
            exact hK.out _ w (Below.refl _ _) ⟨fun h_ => (by rw [hc] at h_; cases h_), fun _ => rfl⟩ (fun _ g h => by cases h)
          · refine guard_on (d := 38) (want := true) (by rfl) (by rfl) ?_ ?_
            · exact (f16).trans (by rw [show ((d0 && d1) && d2) = true by (first | (simp only [Bool.and_eq_true, Bool.not_eq_true', Bool.not_eq_false'] at hc; simp only [hc, Bool.and_true, Bool.true_and, Bool.not_true, Bool.not_false, Bool.and_self]; done) | (simp only [hc, Bool.and_true, Bool.true_and, Bool.not_true, Bool.not_false, Bool.and_self]; done) | simp_all)])
            replace f18 := f18.1 (by exact hc)
            refine wp_value (v := .int .i64 (p.Inv.length : Int)) (w1 := w) ?_ (hK.out _ w (Below.refl _ _) ⟨fun _ => rfl, fun h_ => (by rw [hc] at h_; cases h_)⟩ (fun h => by cases h))
            try simp only [f16, f18]
            go_simp
            try (first | done | rfl | (simp; done))
        refine StepsP.cons ?_ ?_
        · intro Q s w hC hA K hK
          clear hC
          obtain ⟨f16, f19, -⟩ := hA
          replace f16 : (s 38) = .bool ((d0 && d1) && d2) := f16
          replace f19 : (((d0 && d1) && d2) = true → (s 41) = .int .i64 (p.Inv.length : Int)) ∧ (((d0 && d1) && d2) = false → (s 41) = undef) := f19
          cases hc : ((d0 && d1) && d2)
          · refine guard_off (d := 38) (want := true) (by rfl) (by rfl) ?_ ?_
            · show s 38 ≠ .bool true
              · intro h_
                rw [f16] at h_; injection h_ with h_; rw [Bool.eq_false_iff] at hc; exact hc (by (first | (simp only [h_, Bool.and_true, Bool.true_and, Bool.not_true, Bool.not_false, Bool.and_self]; done) | simp_all))
            exact hK.out _ w (Below.refl _ _) ⟨fun h_ => (by rw [hc] at h_; cases h_), fun _ => rfl⟩ (fun _ g h => by cases h)
          · refine guard_on (d := 38) (want := true) (by rfl) (by rfl) ?_ ?_
            · exact (f16).trans (by rw [show ((d0 && d1) && d2) = true by (first | (simp only [Bool.and_eq_true, Bool.not_eq_true', Bool.not_eq_false'] at hc; simp only [hc, Bool.and_true, Bool.true_and, Bool.not_true, Bool.not_false, Bool.and_self]; done) | (simp only [hc, Bool.and_true, Bool.true_and, Bool.not_true, Bool.not_false, Bool.and_self]; done) | simp_all)])
            replace f19 := f19.1 (by exact hc)
            refine wp_value (v := .bool d3) (w1 := w) ?_ (hK.out _ w (Below.refl _ _) ⟨fun _ => rfl, fun h_ => (by rw [hc] at h_; cases h_)⟩ (fun h => by cases h))
            try simp only [f16, f19]
            go_simp
            first | done | exact hd3.out | (simp [hd3.out]; done) | (rw [hd3.out]; done)
        refine StepsP.cons ?_ ?_
        · intro Q s w hC hA K hK
          clear hC
          obtain ⟨f16, f20, -⟩ := hA
          replace f16 : (s 38) = .bool ((d0 && d1) && d2) := f16
          replace f20 : (((d0 && d1) && d2) = true → (s 42) = .bool d3) ∧ (((d0 && d1) && d2) = false → (s 42) = undef) := f20
          refine guard_none (by rfl) ?_
          refine wp_value (v := .bool (((d0 && d1) && d2) && d3)) (w1 := w) ?_ (hK.out _ w (Below.refl _ _) rfl (fun h => by cases h))
          cases ht : ((d0 && d1) && d2)
          · skip
            have hct_ : s 38 = .bool false := by rw [f16, ht]
            simp only [hct_]
            go_simp
            try simp
          · have hy_ := f20.1 (by first | (simp only [Bool.and_eq_true, Bool.not_eq_true', Bool.not_eq_false'] at hc ht; simp only [hc, ht, Bool.and_true, Bool.true_and, Bool.not_true, Bool.not_false, Bool.and_self]; done) | (simp only [Bool.and_eq_true, Bool.not_eq_true', Bool.not_eq_false'] at ht; simp only [ht, Bool.and_true, Bool.true_and, Bool.not_true, Bool.not_false, Bool.and_self]; done) | (simp only [ht, Bool.and_true, Bool.true_and, Bool.not_true, Bool.not_false, Bool.and_self]; done) | simp_all)
            have hct_ : s 38 = .bool true := by rw [f16, ht]
            simp only [hct_, hy_]
            go_simp
            try simp
        refine StepsP.cons ?_ ?_
        · intro Q s w hC hA K hK
          clear hC
          obtain ⟨f21, -⟩ := hA
          replace f21 : (s 43) = .bool (((d0 && d1) && d2) && d3) := f21
          refine guard_none (by rfl) ?_
          refine wp_value (v := .bool (((d0 && d1) && d2) && d3)) (w1 := w) ?_ (hK.out _ w (Below.refl _ _) rfl (fun h => by cases h))
          try simp only [f21]
          go_simp
          try (first | done | rfl | (simp; done))
        refine StepsP.cons ?_ ?_
        · intro Q s w hC hA K hK
          clear hC
          obtain ⟨f22, -⟩ := hA
          replace f22 : (s 44) = .bool (((d0 && d1) && d2) && d3) := f22
          cases hc : (((d0 && d1) && d2) && d3)
          · refine guard_off (d := 44) (want := true) (by rfl) (by rfl) ?_ ?_
            · show s 44 ≠ .bool true
              · intro h_
                rw [f22] at h_; injection h_ with h_; rw [Bool.eq_false_iff] at hc; exact hc (by (first | (simp only [h_, Bool.and_true, Bool.true_and, Bool.not_true, Bool.not_false, Bool.and_self]; done) | simp_all))
            exact hK.out _ w (Below.refl _ _) ⟨fun h_ => (by rw [hc] at h_; cases h_), fun _ => rfl⟩ (fun _ g h => by cases h)
          · refine guard_on (d := 44) (want := true) (by rfl) (by rfl) ?_ ?_
            · exact (f22).trans (by rw [show (((d0 && d1) && d2) && d3) = true by (first | (simp only [Bool.and_eq_true, Bool.not_eq_true', Bool.not_eq_false'] at hc; simp only [hc, Bool.and_true, Bool.true_and, Bool.not_true, Bool.not_false, Bool.and_self]; done) | (simp only [hc, Bool.and_true, Bool.true_and, Bool.not_true, Bool.not_false, Bool.and_self]; done) | simp_all)])
            refine wp_value (v := .pointer (some ⟨g1, 6, none⟩)) (w1 := w) ?_ (hK.out _ w (Below.refl _ _) ⟨fun _ => rfl, fun h_ => (by rw [hc] at h_; cases h_)⟩ (fun h => by cases h))
            try simp only [f22]
            go_simp
            try (first | done | rfl | (simp; done))
        refine StepsP.cons ?_ ?_
        · intro Q s w hC hA K hK
          obtain ⟨hsz, hk_g1, lt_g1, hbw⟩ := hC
          obtain ⟨f22, f23, -⟩ := hA
          replace f22 : (s 44) = .bool (((d0 && d1) && d2) && d3) := f22
          replace f23 : ((((d0 && d1) && d2) && d3) = true → (s 45) = .pointer (some ⟨g1, 6, none⟩)) ∧ ((((d0 && d1) && d2) && d3) = false → (s 45) = undef) := f23
          cases hc : (((d0 && d1) && d2) && d3)
          · refine guard_off (d := 44) (want := true) (by rfl) (by rfl) ?_ ?_
            · show s 44 ≠ .bool true
              · intro h_
                rw [f22] at h_; injection h_ with h_; rw [Bool.eq_false_iff] at hc; exact hc (by (first | (simp only [h_, Bool.and_true, Bool.true_and, Bool.not_true, Bool.not_false, Bool.and_self]; done) | simp_all))
            exact hK.out _ w (Below.refl _ _) ⟨fun h_ => (by rw [hc] at h_; cases h_), fun _ => rfl⟩ (fun _ g h => by cases h)
          · refine guard_on (d := 44) (want := true) (by rfl) (by rfl) ?_ ?_
            · exact (f22).trans (by rw [show (((d0 && d1) && d2) && d3) = true by (first | (simp only [Bool.and_eq_true, Bool.not_eq_true', Bool.not_eq_false'] at hc; simp only [hc, Bool.and_true, Bool.true_and, Bool.not_true, Bool.not_false, Bool.and_self]; done) | (simp only [hc, Bool.and_true, Bool.true_and, Bool.not_true, Bool.not_false, Bool.and_self]; done) | simp_all)])
            replace f23 := f23.1 (by exact hc)
            have m0_g1 : w.cell? ⟨g1, 0, none⟩ = some (.slice aA p.A.length cA) := blk_cell hk_g1 0 (by rfl)
            have m1_g1 : w.cell? ⟨g1, 1, none⟩ = some (.slice aB p.B.length cB) := blk_cell hk_g1 1 (by rfl)
            have m2_g1 : w.cell? ⟨g1, 2, none⟩ = some (.int .i64 il) := blk_cell hk_g1 2 (by rfl)
            have m3_g1 : w.cell? ⟨g1, 3, none⟩ = some (.int .i64 ih) := blk_cell hk_g1 3 (by rfl)
            have m4_g1 : w.cell? ⟨g1, 4, none⟩ = some (.slice aW p.W.length cW) := blk_cell hk_g1 4 (by rfl)
            have m5_g1 : w.cell? ⟨g1, 5, none⟩ = some (.slice aI p.Inv.length cI) := blk_cell hk_g1 5 (by rfl)
            have m6_g1 : w.cell? ⟨g1, 6, none⟩ = some (.slice aS p.Safe.length cS) := blk_cell hk_g1 6 (by rfl)
            have m7_g1 : w.cell? ⟨g1, 7, none⟩ = some (.slice aG p.gain.length cG) := blk_cell hk_g1 7 (by rfl)
            have m8_g1 : w.cell? ⟨g1, 8, none⟩ = some (.int .i64 bi) := blk_cell hk_g1 8 (by rfl)
            refine wp_value (v := .slice aS p.Safe.length cS) (w1 := w) ?_ (hK.out _ w (Below.refl _ _) ⟨fun _ => rfl, fun h_ => (by rw [hc] at h_; cases h_)⟩ (fun h => by cases h))
            try simp only [f22, f23]
            go_simp
            try (first | done | rfl | (simp; done))
        refine StepsP.cons ?_ ?_
        · intro Q s w hC hA K hK
          clear hC
          obtain ⟨f22, f24, -⟩ := hA
          replace f22 : (s 44) = .bool (((d0 && d1) && d2) && d3) := f22
          replace f24 : ((((d0 && d1) && d2) && d3) = true → (s 46) = .slice aS p.Safe.length cS) ∧ ((((d0 && d1) && d2) && d3) = false → (s 46) = undef) := f24
          cases hc : (((d0 && d1) && d2) && d3)
          · refine guard_off (d := 44) (want := true) (by rfl) (by rfl) ?_ ?_
            · show s 44 ≠ .bool true
              · intro h_
                rw [f22] at h_; injection h_ with h_; rw [Bool.eq_false_iff] at hc; exact hc (by (first | (simp only [h_, Bool.and_true, Bool.true_and, Bool.not_true, Bool.not_false, Bool.and_self]; done) | simp_all))
            exact hK.out _ w (Below.refl _ _) ⟨fun h_ => (by rw [hc] at h_; cases h_), fun _ => rfl⟩ (fun _ g h => by cases h)
          · refine guard_on (d := 44) (want := true) (by rfl) (by rfl) ?_ ?_
            · exact (f22).trans (by rw [show (((d0 && d1) && d2) && d3) = true by (first | (simp only [Bool.and_eq_true, Bool.not_eq_true', Bool.not_eq_false'] at hc; simp only [hc, Bool.and_true, Bool.true_and, Bool.not_true, Bool.not_false, Bool.and_self]; done) | (simp only [hc, Bool.and_true, Bool.true_and, Bool.not_true, Bool.not_false, Bool.and_self]; done) | simp_all)])
            replace f24 := f24.1 (by exact hc)
            refine wp_value (v := .int .i64 (p.Safe.length : Int)) (w1 := w) ?_ (hK.out _ w (Below.refl _ _) ⟨fun _ => rfl, fun h_ => (by rw [hc] at h_; cases h_)⟩ (fun h => by cases h))
            try simp only [f22, f24]
            go_simp
            try (first | done | rfl | (simp; done))
        refine StepsP.cons ?_ ?_
        · intro Q s w hC hA K hK
          clear hC
          obtain ⟨f22, f25, -⟩ := hA
          replace f22 : (s 44) = .bool (((d0 && d1) && d2) && d3) := f22
          replace f25 : ((((d0 && d1) && d2) && d3) = true → (s 47) = .int .i64 (p.Safe.length : Int)) ∧ ((((d0 && d1) && d2) && d3) = false → (s 47) = undef) := f25
          cases hc : (((d0 && d1) && d2) && d3)
          · refine guard_off (d := 44) (want := true) (by rfl) (by rfl) ?_ ?_
            · show s 44 ≠ .bool true
              · intro h_
                rw [f22] at h_; injection h_ with h_; rw [Bool.eq_false_iff] at hc; exact hc (by (first | (simp only [h_, Bool.and_true, Bool.true_and, Bool.not_true, Bool.not_false, Bool.and_self]; done) | simp_all))
            exact hK.out _ w (Below.refl _ _) ⟨fun h_ => (by rw [hc] at h_; cases h_), fun _ => rfl⟩ (fun _ g h => by cases h)
          · refine guard_on (d := 44) (want := true) (by rfl) (by rfl) ?_ ?_
            · exact (f22).trans (by rw [show (((d0 && d1) && d2) && d3) = true by (first | (simp only [Bool.and_eq_true, Bool.not_eq_true', Bool.not_eq_false'] at hc; simp only [hc, Bool.and_true, Bool.true_and, Bool.not_true, Bool.not_false, Bool.and_self]; done) | (simp only [hc, Bool.and_true, Bool.true_and, Bool.not_true, Bool.not_false, Bool.and_self]; done) | simp_all)])
            replace f25 := f25.1 (by exact hc)
            refine wp_value (v := .bool d4) (w1 := w) ?_ (hK.out _ w (Below.refl _ _) ⟨fun _ => rfl, fun h_ => (by rw [hc] at h_; cases h_)⟩ (fun h => by cases h))
            try simp only [f22, f25]
            go_simp
            first | done | exact hd4.out | (simp [hd4.out]; done) | (rw [hd4.out]; done)
        refine StepsP.cons ?_ ?_
        · intro Q s w hC hA K hK
          clear hC
          obtain ⟨f22, f26, -⟩ := hA
          replace f22 : (s 44) = .bool (((d0 && d1) && d2) && d3) := f22
          replace f26 : ((((d0 && d1) && d2) && d3) = true → (s 48) = .bool d4) ∧ ((((d0 && d1) && d2) && d3) = false → (s 48) = undef) := f26
          refine guard_none (by rfl) ?_
          refine wp_value (v := .bool ((((d0 && d1) && d2) && d3) && d4)) (w1 := w) ?_ (hK.out _ w (Below.refl _ _) rfl (fun h => by cases h))
          cases ht : (((d0 && d1) && d2) && d3)
          · skip
            have hct_ : s 44 = .bool false := by rw [f22, ht]
            simp only [hct_]
            go_simp
            try simp
          · have hy_ := f26.1 (by first | (simp only [Bool.and_eq_true, Bool.not_eq_true', Bool.not_eq_false'] at hc ht; simp only [hc, ht, Bool.and_true, Bool.true_and, Bool.not_true, Bool.not_false, Bool.and_self]; done) | (simp only [Bool.and_eq_true, Bool.not_eq_true', Bool.not_eq_false'] at ht; simp only [ht, Bool.and_true, Bool.true_and, Bool.not_true, Bool.not_false, Bool.and_self]; done) | (simp only [ht, Bool.and_true, Bool.true_and, Bool.not_true, Bool.not_false, Bool.and_self]; done) | simp_all)
            have hct_ : s 44 = .bool true := by rw [f22, ht]
            simp only [hct_, hy_]
            go_simp
            try simp
        refine StepsP.cons ?_ ?_
        · intro Q s w hC hA K hK
          clear hC
          obtain ⟨f27, -⟩ := hA
          replace f27 : (s 49) = .bool ((((d0 && d1) && d2) && d3) && d4) := f27
          refine guard_none (by rfl) ?_
          refine wp_value (v := .bool ((((d0 && d1) && d2) && d3) && d4)) (w1 := w) ?_ (hK.out _ w (Below.refl _ _) rfl (fun h => by cases h))
          try simp only [f27]
          go_simp
          try (first | done | rfl | (simp; done))
        refine StepsP.cons ?_ ?_
        · intro Q s w hC hA K hK
          clear hC
          obtain ⟨f28, -⟩ := hA
          replace f28 : (s 50) = .bool ((((d0 && d1) && d2) && d3) && d4) := f28
          cases hc : ((((d0 && d1) && d2) && d3) && d4)
          · refine guard_off (d := 50) (want := true) (by rfl) (by rfl) ?_ ?_
            · show s 50 ≠ .bool true
              · intro h_
                rw [f28] at h_; injection h_ with h_; rw [Bool.eq_false_iff] at hc; exact hc (by (first | (simp only [h_, Bool.and_true, Bool.true_and, Bool.not_true, Bool.not_false, Bool.and_self]; done) | simp_all))
            exact hK.out _ w (Below.refl _ _) ⟨fun h_ => (by rw [hc] at h_; cases h_), fun _ => rfl⟩ (fun _ g h => by cases h)
          · refine guard_on (d := 50) (want := true) (by rfl) (by rfl) ?_ ?_
            · exact (f28).trans (by rw [show ((((d0 && d1) && d2) && d3) && d4) = true by (first | (simp only [Bool.and_eq_true, Bool.not_eq_true', Bool.not_eq_false'] at hc; simp only [hc, Bool.and_true, Bool.true_and, Bool.not_true, Bool.not_false, Bool.and_self]; done) | (simp only [hc, Bool.and_true, Bool.true_and, Bool.not_true, Bool.not_false, Bool.and_self]; done) | simp_all)])
            refine wp_value (v := .pointer (some ⟨g1, 7, none⟩)) (w1 := w) ?_ (hK.out _ w (Below.refl _ _) ⟨fun _ => rfl, fun h_ => (by rw [hc] at h_; cases h_)⟩ (fun h => by cases h))
            try simp only [f28]
            go_simp
            try (first | done | rfl | (simp; done))
        refine StepsP.cons ?_ ?_
        · intro Q s w hC hA K hK
          obtain ⟨hsz, hk_g1, lt_g1, hbw⟩ := hC
          obtain ⟨f28, f29, -⟩ := hA
          replace f28 : (s 50) = .bool ((((d0 && d1) && d2) && d3) && d4) := f28
          replace f29 : (((((d0 && d1) && d2) && d3) && d4) = true → (s 51) = .pointer (some ⟨g1, 7, none⟩)) ∧ (((((d0 && d1) && d2) && d3) && d4) = false → (s 51) = undef) := f29
          cases hc : ((((d0 && d1) && d2) && d3) && d4)
          · refine guard_off (d := 50) (want := true) (by rfl) (by rfl) ?_ ?_
            · show s 50 ≠ .bool true
              · intro h_
                rw [f28] at h_; injection h_ with h_; rw [Bool.eq_false_iff] at hc; exact hc (by (first | (simp only [h_, Bool.and_true, Bool.true_and, Bool.not_true, Bool.not_false, Bool.and_self]; done) | simp_all))
            exact hK.out _ w (Below.refl _ _) ⟨fun h_ => (by rw [hc] at h_; cases h_), fun _ => rfl⟩ (fun _ g h => by cases h)
          · refine guard_on (d := 50) (want := true) (by rfl) (by rfl) ?_ ?_
            · exact (f28).trans (by rw [show ((((d0 && d1) && d2) && d3) && d4) = true by (first | (simp only [Bool.and_eq_true, Bool.not_eq_true', Bool.not_eq_false'] at hc; simp only [hc, Bool.and_true, Bool.true_and, Bool.not_true, Bool.not_false, Bool.and_self]; done) | (simp only [hc, Bool.and_true, Bool.true_and, Bool.not_true, Bool.not_false, Bool.and_self]; done) | simp_all)])
            replace f29 := f29.1 (by exact hc)
            have m0_g1 : w.cell? ⟨g1, 0, none⟩ = some (.slice aA p.A.length cA) := blk_cell hk_g1 0 (by rfl)
            have m1_g1 : w.cell? ⟨g1, 1, none⟩ = some (.slice aB p.B.length cB) := blk_cell hk_g1 1 (by rfl)
            have m2_g1 : w.cell? ⟨g1, 2, none⟩ = some (.int .i64 il) := blk_cell hk_g1 2 (by rfl)
            have m3_g1 : w.cell? ⟨g1, 3, none⟩ = some (.int .i64 ih) := blk_cell hk_g1 3 (by rfl)
            have m4_g1 : w.cell? ⟨g1, 4, none⟩ = some (.slice aW p.W.length cW) := blk_cell hk_g1 4 (by rfl)
            have m5_g1 : w.cell? ⟨g1, 5, none⟩ = some (.slice aI p.Inv.length cI) := blk_cell hk_g1 5 (by rfl)
            have m6_g1 : w.cell? ⟨g1, 6, none⟩ = some (.slice aS p.Safe.length cS) := blk_cell hk_g1 6 (by rfl)
            have m7_g1 : w.cell? ⟨g1, 7, none⟩ = some (.slice aG p.gain.length cG) := blk_cell hk_g1 7 (by rfl)
            have m8_g1 : w.cell? ⟨g1, 8, none⟩ = some (.int .i64 bi) := blk_cell hk_g1 8 (by rfl)
            refine wp_value (v := .slice aG p.gain.length cG) (w1 := w) ?_ (hK.out _ w (Below.refl _ _) ⟨fun _ => rfl, fun h_ => (by rw [hc] at h_; cases h_)⟩ (fun h => by cases h))
            try simp only [f28, f29]
            go_simp
            try (first | done | rfl | (simp; done))
        refine StepsP.cons ?_ ?_
        · intro Q s w hC hA K hK
          clear hC
          obtain ⟨f28, f30, -⟩ := hA
          replace f28 : (s 50) = .bool ((((d0 && d1) && d2) && d3) && d4) := f28
          replace f30 : (((((d0 && d1) && d2) && d3) && d4) = true → (s 52) = .slice aG p.gain.length cG) ∧ (((((d0 && d1) && d2) && d3) && d4) = false → (s 52) = undef) := f30
          cases hc : ((((d0 && d1) && d2) && d3) && d4)
          · refine guard_off (d := 50) (want := true) (by rfl) (by rfl) ?_ ?_
            · show s 50 ≠ .bool true
              · intro h_
                rw [f28] at h_; injection h_ with h_; rw [Bool.eq_false_iff] at hc; exact hc (by (first | (simp only [h_, Bool.and_true, Bool.true_and, Bool.not_true, Bool.not_false, Bool.and_self]; done) | simp_all))
            exact hK.out _ w (Below.refl _ _) ⟨fun h_ => (by rw [hc] at h_; cases h_), fun _ => rfl⟩ (fun _ g h => by cases h)
          · refine guard_on (d := 50) (want := true) (by rfl) (by rfl) ?_ ?_
            · exact (f28).trans (by rw [show ((((d0 && d1) && d2) && d3) && d4) = true by (first | (simp only [Bool.and_eq_true, Bool.not_eq_true', Bool.not_eq_false'] at hc; simp only [hc, Bool.and_true, Bool.true_and, Bool.not_true, Bool.not_false, Bool.and_self]; done) | (simp only [hc, Bool.and_true, Bool.true_and, Bool.not_true, Bool.not_false, Bool.and_self]; done) | simp_all)])
            replace f30 := f30.1 (by exact hc)
            refine wp_value (v := .int .i64 (p.gain.length : Int)) (w1 := w) ?_ (hK.out _ w (Below.refl _ _) ⟨fun _ => rfl, fun h_ => (by rw [hc] at h_; cases h_)⟩ (fun h => by cases h))
            try simp only [f28, f30]
            go_simp
            try (first | done | rfl | (simp; done))
        refine StepsP.cons ?_ ?_
        · intro Q s w hC hA K hK
          clear hC
          obtain ⟨f28, f31, -⟩ := hA
          replace f28 : (s 50) = .bool ((((d0 && d1) && d2) && d3) && d4) := f28
          replace f31 : (((((d0 && d1) && d2) && d3) && d4) = true → (s 53) = .int .i64 (p.gain.length : Int)) ∧ (((((d0 && d1) && d2) && d3) && d4) = false → (s 53) = undef) := f31
          cases hc : ((((d0 && d1) && d2) && d3) && d4)
          · refine guard_off (d := 50) (want := true) (by rfl) (by rfl) ?_ ?_
            · show s 50 ≠ .bool true
              · intro h_
                rw [f28] at h_; injection h_ with h_; rw [Bool.eq_false_iff] at hc; exact hc (by (first | (simp only [h_, Bool.and_true, Bool.true_and, Bool.not_true, Bool.not_false, Bool.and_self]; done) | simp_all))
            exact hK.out _ w (Below.refl _ _) ⟨fun h_ => (by rw [hc] at h_; cases h_), fun _ => rfl⟩ (fun _ g h => by cases h)
          · refine guard_on (d := 50) (want := true) (by rfl) (by rfl) ?_ ?_
            · exact (f28).trans (by rw [show ((((d0 && d1) && d2) && d3) && d4) = true by (first | (simp only [Bool.and_eq_true, Bool.not_eq_true', Bool.not_eq_false'] at hc; simp only [hc, Bool.and_true, Bool.true_and, Bool.not_true, Bool.not_false, Bool.and_self]; done) | (simp only [hc, Bool.and_true, Bool.true_and, Bool.not_true, Bool.not_false, Bool.and_self]; done) | simp_all)])
            replace f31 := f31.1 (by exact hc)
            refine wp_value (v := .bool d5) (w1 := w) ?_ (hK.out _ w (Below.refl _ _) ⟨fun _ => rfl, fun h_ => (by rw [hc] at h_; cases h_)⟩ (fun h => by cases h))
            try simp only [f28, f31]
            go_simp
            first | done | exact hd5.out | (simp [hd5.out]; done) | (rw [hd5.out]; done)
        refine StepsP.cons ?_ ?_
        · intro Q s w hC hA K hK
          clear hC
          obtain ⟨f28, f32, -⟩ := hA
          replace f28 : (s 50) = .bool ((((d0 && d1) && d2) && d3) && d4) := f28
          replace f32 : (((((d0 && d1) && d2) && d3) && d4) = true → (s 54) = .bool d5) ∧ (((((d0 && d1) && d2) && d3) && d4) = false → (s 54) = undef) := f32
          refine guard_none (by rfl) ?_
          refine wp_value (v := .bool (((((d0 && d1) && d2) && d3) && d4) && d5)) (w1 := w) ?_ (hK.out _ w (Below.refl _ _) rfl (fun h => by cases h))
          cases ht : ((((d0 && d1) && d2) && d3) && d4)
          · skip
            have hct_ : s 50 = .bool false := by rw [f28, ht]
            simp only [hct_]
            go_simp
            try simp
          · have hy_ := f32.1 (by first | (simp only [Bool.and_eq_true, Bool.not_eq_true', Bool.not_eq_false'] at hc ht; simp only [hc, ht, Bool.and_true, Bool.true_and, Bool.not_true, Bool.not_false, Bool.and_self]; done) | (simp only [Bool.and_eq_true, Bool.not_eq_true', Bool.not_eq_false'] at ht; simp only [ht, Bool.and_true, Bool.true_and, Bool.not_true, Bool.not_false, Bool.and_self]; done) | (simp only [ht, Bool.and_true, Bool.true_and, Bool.not_true, Bool.not_false, Bool.and_self]; done) | simp_all)
            have hct_ : s 50 = .bool true := by rw [f28, ht]
            simp only [hct_, hy_]
            go_simp
            try simp
        refine StepsP.cons ?_ ?_
        · intro Q s w hC hA K hK
          clear hC
          obtain ⟨f33, -⟩ := hA
          replace f33 : (s 55) = .bool (((((d0 && d1) && d2) && d3) && d4) && d5) := f33
          refine guard_none (by rfl) ?_
          refine wp_value (v := .bool (((((d0 && d1) && d2) && d3) && d4) && d5)) (w1 := w) ?_ (hK.out _ w (Below.refl _ _) rfl (fun h => by cases h))
          try simp only [f33]
          go_simp
          try (first | done | rfl | (simp; done))
        exact StepsP.nil
      obtain ⟨hsz, hk_g1, lt_g1, hbw⟩ := hC
      obtain ⟨f34, -⟩ := hA
      replace f34 : (s 2) = .bool (((((d0 && d1) && d2) && d3) && d4) && d5) := f34
      refine act_eq (b' := ?b19) ?h19 ?q19
      case h19 => simp only [f34]; rfl
      subst hw0
      go_wp2
      go_ret
      exact ⟨by rw [← hfin.out]; rfl, hbw⟩
    · obtain ⟨hlt, h10⟩ : i < p.A.length ∧ i < 10 := by
        have e := hb12.out
        rw [Bool.and_eq_true, ← hb8.out, ← hb11.out] at e
        have e1 := of_decide_eq_true e.1
        have e2 := of_decide_eq_true e.2
        exact ⟨by omega, by omega⟩
      obtain ⟨b, off, B, c, rfl, hr1, hr2, hr3⟩ := (hA.below hbw).2 i hlt
      obtain ⟨k, hk⟩ : ∃ k, (p.A.getD i []).length = k := ⟨_, rfl⟩
      rw [hk] at hr1
      have y0 : w.cell? ⟨g1, 0, none⟩ = some (.slice (some ⟨b, off, none⟩) p.A.length cA) := blk_cell hk_g1 0 (by rfl)
      by_cases hbig : 10 < k
      · have hd3 : decide ((10 : Int) < (k : Int)) = true := decide_eq_true (by omega)
        have hno : lightP p = false := lightP_no (fun h => by have := h i hlt h10; omega)
        subst hw0
        go_wp2
        go_ret
        exact ⟨by rw [hno]; rfl, hbw⟩
      · have hd3 : decide ((10 : Int) < (k : Int)) = false := decide_eq_false (by omega)
        go_wp2
        go_roundw
        case rel =>
          refine ⟨i + 1, by omega, by omega, by go_num, hk_g1, hbw, fun j hj => ?_⟩
          by_cases hji : j < i
          · exact hall.out j hji
          · obtain rfl : j = i := by omega
            omega
        case measure => simp [intOf]; omega
end Go.Proofs.Ythdaidmjjcmccaa
