/- Proved here: lemmas and contracts (what a function of the program computes) that the proofs of the laws of this seat lean on. Conditions: as each theorem states. -/
import Derived.Test.YtjidbjmekpholaaAdQ
import Derived.Test.YtjidbjmekpholaaLin
set_option linter.unusedVariables false
set_option linter.unusedSimpArgs false
namespace Go.Proofs.Ytjidbjmekpholaa.AdQ
open Go.RowKit Go.Pk Go.Pk.Ad Go.Proofs.Ytjidbjmekpholaa.GA
theorem turn_law (high near climb : Int) (T : Nat) (hm : mayB high T near climb = true) (n m : Nat) (hn : n ≤ T) (hmh : (m : Int) ≤ high) :
    ∃ a b c, advise_Ask.f high T near climb (tbl high near climb T) m n = some a ∧ advise_Ask.f high T near climb (tbl high near climb T) (-(m : Int)) n = some b ∧ advise_Cost.f high T near climb (tbl high near climb T) m n [] = some c ∧ advise_Cost.f high T near climb (tbl high near climb T) (-(m : Int)) n [] = some c ∧ (a == 0) = (b == 0) ∧ (n = 0 → a = 0) ∧ (m = 0 → a ≠ 2) := by
  have hb := mayB_iff.1 hm
  have hk : (min (max (n : Int) 0) (T : Int)).toNat = n := by omega
  have hs1 : stayI (m : Int) high = m := by unfold stayI; omega
  have hs2 : stayI (-(m : Int)) high = -(m : Int) := by unfold stayI; omega
  have a1 := ask_tbl high near climb T (by omega) (by omega) (by omega) m n
  have a2 := ask_tbl high near climb T (by omega) (by omega) (by omega) (-(m : Int)) n
  have c1 := cost_nil high near climb T hm m n
  have c2 := cost_nil high near climb T hm (-(m : Int)) n
  rw [hk, hs1] at a1 c1
  rw [hk, hs2] at a2 c2
  rw [worth_turn (by omega) n m (by omega) hmh] at c2
  refine ⟨_, _, _, a1, a2, c1, c2, ?_⟩
  unfold tabA
  by_cases h0 : n = 0
  · simp only [h0, if_true]
    exact ⟨trivial, fun _ => trivial, fun _ => by omega⟩
  · rw [if_neg h0, if_neg h0]
    obtain ⟨-, h2, h3⟩ := best_turn (climb := climb) (W := worthK high near climb (n - 1)) (by omega) (fun x h0 h1 => worth_turn (by omega) (n - 1) x h0 h1) (m : Int)
    refine ⟨?_, fun h => absurd h h0, fun h => h3 (by omega)⟩
    rw [Bool.eq_iff_iff]
    simp only [beq_iff_eq]
    exact h2.symm
end Go.Proofs.Ytjidbjmekpholaa.AdQ
namespace Go.Proofs.Ytjidbjmekpholaa
open Go.RowKit Go.Pk Go.Pk.Ad Go.Proofs.Ytjidbjmekpholaa.AdQ Go.Proofs.Ytjidbjmekpholaa.GA Go.Proofs.YtjidbjmekpholaaW.PrintMore
set_option maxHeartbeats 100000000 in
set_option maxRecDepth 100000 in
theorem AdviseTurned_walk (high ticks near climb : Int) (w : World) :
    Calls Try.prog 10 #[.int .i64 high, .int .i64 ticks, .int .i64 near, .int .i64 climb] w fun e w' => e = .returned (.bool true) ∧ Below w.heap.size w w' := by
  obtain ⟨ka, hka⟩ := alive18
  replace hka := hidI hka
  by_cases hm : mayB high ticks near climb = true
  · have hb := mayB_iff.1 hm
    obtain ⟨T, hT⟩ := Int.eq_ofNat_of_zero_le (show 0 ≤ ticks by omega)
    obtain ⟨H, hH⟩ := Int.eq_ofNat_of_zero_le (show 0 ≤ high by omega)
    subst hT hH
    have hmk := hidI (make_tbl H near climb T hm)
    rw [Int.toNat_natCast] at hmk
    have HT := hidI (fun n m hn hmh => turn_law H near climb T hm n m hn hmh)
    generalize tbl H near climb T = S at *
    by_cases hc : H ≤ 20 ∧ T ≤ 20
    · have h1 : decide ((20 : Int) < H) = false := decide_eq_false (by omega)
      have h2 : decide ((20 : Int) < T) = false := decide_eq_false (by omega)
      go_enter Try.func10, Try.ntmps10
      go_upto_region 4 with (first | (go_at_call 18; refine (advise_Make.calls _ _ _ _ _ _ _ _ _ _ _ hmk.out).mono ?_; rintro e w1 ⟨rfl, hb1⟩) | fail)
      have hk1 := blk_new w1 (.cells #[.int .i64 H, .int .i64 T, .int .i64 near, .int .i64 climb, .string S] 38)
      have hbw := bl_alloc hb1 (.cells #[.int .i64 H, .int .i64 T, .int .i64 near, .int .i64 climb, .string S] 38)
      clear hb1
      generalize w1.alloc (.cells #[.int .i64 H, .int .i64 T, .int .i64 near, .int .i64 climb, .string S] 38) = W1 at *
      generalize w1.heap.size = g0 at *
      obtain ⟨w0, hw0⟩ : ∃ z : World, z = w := ⟨_, rfl⟩
      rw [← hw0] at hbw
      clear hmk
      go_wp2
      go_loopw [11, 12, 13, 14] (fun k p q r wr => ∃ n : Nat, n ≤ T + 1 ∧ k = .int .i64 n ∧ Below w0.heap.size w0 wr ∧ wr.heap[g0]? = some (.cells #[.int .i64 H, .int .i64 T, .int .i64 near, .int .i64 climb, .string S] 38 (0, 0))) (fun k _ _ _ _ => (T + 1 - intOf k).toNat)
      case atStart => exact ⟨0, by omega, rfl, hbw, hk1⟩
      case round =>
        clear hk1 hbw
        obtain ⟨n, hn, rfl, hbw, hk1⟩ := hrel
        by_cases hnT : n ≤ T
        · have hle : decide ((n : Int) ≤ T) = true := decide_eq_true (by omega)
          go_wp2
          obtain ⟨wo, hwo⟩ : ∃ wo : World, wo = wr := ⟨_, rfl⟩
          subst hwo
          go_loopw [12, 13, 14] (fun h p q wi => ∃ m : Nat, m ≤ H + 1 ∧ h = .int .i64 m ∧ Below w0.heap.size w0 wi ∧ wi.heap[g0]? = some (.cells #[.int .i64 H, .int .i64 T, .int .i64 near, .int .i64 climb, .string S] 38 (0, 0))) (fun h _ _ _ => (H + 1 - intOf h).toNat)
          case atStart => exact ⟨0, by omega, rfl, hbw, hk1⟩
          case round =>
            clear hk1 hbw
            obtain ⟨m, hmh, rfl, hbw, hk1⟩ := hrel
            by_cases hmH : m ≤ H
            · have hle2 : decide ((m : Int) ≤ H) = true := decide_eq_true (by omega)
              obtain ⟨a, b, c, A1, A2, C1, C2, hab, ha0, ha2⟩ := HT.out n m hnT (by omega)
              replace A1 := hidI A1
              replace A2 := hidI A2
              replace C1 := hidI C1
              replace C2 := hidI C2
              have hneg : IntKind.i64.wrap (-(m : Int)) = -(m : Int) := IntWalk.i64_in _ (by omega)
              go_upto_region 10 with fail
              have hk_g0 := hk1
              clear hk1
              obtain ⟨B0, hB0⟩ : ∃ B, B = wr.heap.size := ⟨_, rfl⟩
              have c0_hsz : B0 ≤ wr.heap.size := Nat.le_of_eq hB0
              have hw0B0 : w0.heap.size ≤ B0 := by rw [hB0]; exact hbw.size
              have c0_hk_g0 := blk_drew hk_g0
              have c0_lt_g0 : g0 < B0 := by rw [hB0]; exact blk_lt hk_g0
              have c0_hbw := bl_drew hbw
              clear hB0 hbw hk_g0
              refine region_lin (n := 11) (st := ?st1) { R := [0, 0, 0, 7, 0, 0, 32, 0, 255, 511, 1023], kill := [[], [], [], [], [], [], [], [], [], [], []], cls := [0, 0, 0, 0, 0, 0, 0, 0, 0, 0, 0], dst := [some 44, some 45, some 46, some 47, some 48, some 49, some 50, some 51, some 52, some 13, some 14], pre := [[], [], [], [0, 1, 2], [], [], [5], [], [4, 6, 7], [3], [8]], cov := [], fin := [9, 10], locs := [], tgt := [none], abt := [none, none, none, none, none, none, none, none, none, none, none] }
                [.v [44] (fun vs => (vs.getD 0 undef) = .agg #[.int .i64 (H : Int), .int .i64 (T : Int), .int .i64 near, .int .i64 climb, .string S]),
                 .v [45] (fun vs => (vs.getD 0 undef) = .int .i64 (m : Int)),
                 .v [46] (fun vs => (vs.getD 0 undef) = .int .i64 (n : Int)),
                 .v [47] (fun vs => (vs.getD 0 undef) = .int .i64 a),
                 .v [48] (fun vs => (vs.getD 0 undef) = .agg #[.int .i64 (H : Int), .int .i64 (T : Int), .int .i64 near, .int .i64 climb, .string S]),
                 .v [49] (fun vs => (vs.getD 0 undef) = .int .i64 (m : Int)),
                 .v [50] (fun vs => (vs.getD 0 undef) = .int .i64 (-(m : Int))),
                 .v [51] (fun vs => (vs.getD 0 undef) = .int .i64 (n : Int)),
                 .v [52] (fun vs => (vs.getD 0 undef) = .int .i64 b),
                 .v [13] (fun vs => (vs.getD 0 undef) = .int .i64 a),
                 .v [14] (fun vs => (vs.getD 0 undef) = .int .i64 b)]
                (fun w => B0 ≤ w.heap.size ∧ w.heap[g0]? = some (.cells #[.int .i64 (H : Int), .int .i64 (T : Int), .int .i64 near, .int .i64 climb, .string S] 38 (0, 0)) ∧ g0 < B0 ∧ Below w0.heap.size w0 w)
                (fun c => ([fun s w w' => Below w.heap.size w w'] : List ((Nat → Value) → World → World → Prop)).getD c (fun s w w' => w' = w))
                [13, 14, 44, 45, 46, 47, 48, 49, 50, 51, 52] (by kernel_rfl) ⟨by kernel_rfl, by kernel_rfl, by kernel_rfl, by kernel_rfl, by kernel_rfl, by kernel_rfl, by kernel_rfl, by kernel_rfl⟩ (fun s => ?_) ?_ ?_ ?_ ?_ ?_ (fun s w hC hA => ?_)
              rotate_left
              · simp only [fillS, List.foldl, List.setIfInBounds_toArray, List.set_cons_zero, List.set_cons_succ]; rfl
              · exact ⟨c0_hsz, c0_hk_g0, c0_lt_g0, c0_hbw⟩
              · intro c s w w' hE
                match c, hE with
                | 0, hE => exact Below.size hE
                | c + 1, hE => cases hE; exact Nat.le_refl _
              · rintro c s w w' ⟨hsz, hk_g0, lt_g0, hbw⟩ hE
                match c, hE with
                | 0, hE => replace hE : Below w.heap.size w w' := hE; exact ⟨Nat.le_trans hsz hE.size, bl_block hE hk_g0, lt_g0, bl_step hbw hE⟩
                | c + 1, hE => cases hE; exact ⟨hsz, hk_g0, lt_g0, hbw⟩
              · exact trivial
              · skip
                refine StepsP.cons ?_ ?_
                · intro Q s w hC hA K hK
                  obtain ⟨hsz, hk_g0, lt_g0, hbw⟩ := hC
                  clear hA
                  refine guard_none (by rfl) ?_
                  have m0_g0 : w.cell? ⟨g0, 0, none⟩ = some (.int .i64 (H : Int)) := blk_cell hk_g0 0 (by rfl)
                  have m1_g0 : w.cell? ⟨g0, 1, none⟩ = some (.int .i64 (T : Int)) := blk_cell hk_g0 1 (by rfl)
                  have m2_g0 : w.cell? ⟨g0, 2, none⟩ = some (.int .i64 near) := blk_cell hk_g0 2 (by rfl)
                  have m3_g0 : w.cell? ⟨g0, 3, none⟩ = some (.int .i64 climb) := blk_cell hk_g0 3 (by rfl)
                  have m4_g0 : w.cell? ⟨g0, 4, none⟩ = some (.string S) := blk_cell hk_g0 4 (by rfl)
                  refine wp_value (v := .agg #[.int .i64 (H : Int), .int .i64 (T : Int), .int .i64 near, .int .i64 climb, .string S]) (w1 := w) ?_ (hK.out _ w (Below.refl _ _) rfl (fun h => by cases h))
                  go_simp
                  try (first | done | rfl | (simp; done))
                refine StepsP.cons ?_ ?_
                · intro Q s w hC hA K hK
                  clear hC
                  clear hA
                  refine guard_none (by rfl) ?_
                  refine wp_value (v := .int .i64 (m : Int)) (w1 := w) ?_ (hK.out _ w (Below.refl _ _) rfl (fun h => by cases h))
                  go_simp
                  try (first | done | rfl | (simp; done))
                refine StepsP.cons ?_ ?_
                · intro Q s w hC hA K hK
                  clear hC
                  clear hA
                  refine guard_none (by rfl) ?_
                  refine wp_value (v := .int .i64 (n : Int)) (w1 := w) ?_ (hK.out _ w (Below.refl _ _) rfl (fun h => by cases h))
                  go_simp
                  try (first | done | rfl | (simp; done))
                refine StepsP.cons ?_ ?_
                · intro Q s w hC hA K hK
                  obtain ⟨hsz, hk_g0, lt_g0, hbw⟩ := hC
                  obtain ⟨f0, f1, f2, -⟩ := hA
                  replace f0 : (s 44) = .agg #[.int .i64 (H : Int), .int .i64 (T : Int), .int .i64 near, .int .i64 climb, .string S] := f0
                  replace f1 : (s 45) = .int .i64 (m : Int) := f1
                  replace f2 : (s 46) = .int .i64 (n : Int) := f2
                  refine guard_none (by rfl) ?_
                  refine wp_call (N := some 47) (by rfl) Try.func24 (by kernel_rfl) #[.agg #[.int .i64 (H : Int), .int .i64 (T : Int), .int .i64 near, .int .i64 climb, .string S], .int .i64 (m : Int), .int .i64 (n : Int)] rfl (by rfl) ?_ ?_
                  · show [s 44, s 45, s 46] = [.agg #[.int .i64 (H : Int), .int .i64 (T : Int), .int .i64 near, .int .i64 climb, .string S], .int .i64 (m : Int), .int .i64 (n : Int)]
                    first | rfl | simp only [f0, f1, f2]
                  refine (advise_Ask.calls _ _ _ _ _ _ _ a _ A1.out).mono ?_
                  rintro e w1 ⟨rfl, hb⟩
                  refine ⟨_, rfl, ?_⟩
                  exact hK.out _ _ hb rfl (fun h => by cases h)
                refine StepsP.cons ?_ ?_
                · intro Q s w hC hA K hK
                  obtain ⟨hsz, hk_g0, lt_g0, hbw⟩ := hC
                  clear hA
                  refine guard_none (by rfl) ?_
                  have m0_g0 : w.cell? ⟨g0, 0, none⟩ = some (.int .i64 (H : Int)) := blk_cell hk_g0 0 (by rfl)
                  have m1_g0 : w.cell? ⟨g0, 1, none⟩ = some (.int .i64 (T : Int)) := blk_cell hk_g0 1 (by rfl)
                  have m2_g0 : w.cell? ⟨g0, 2, none⟩ = some (.int .i64 near) := blk_cell hk_g0 2 (by rfl)
                  have m3_g0 : w.cell? ⟨g0, 3, none⟩ = some (.int .i64 climb) := blk_cell hk_g0 3 (by rfl)
                  have m4_g0 : w.cell? ⟨g0, 4, none⟩ = some (.string S) := blk_cell hk_g0 4 (by rfl)
                  refine wp_value (v := .agg #[.int .i64 (H : Int), .int .i64 (T : Int), .int .i64 near, .int .i64 climb, .string S]) (w1 := w) ?_ (hK.out _ w (Below.refl _ _) rfl (fun h => by cases h))
                  go_simp
                  try (first | done | rfl | (simp; done))
                refine StepsP.cons ?_ ?_
                · intro Q s w hC hA K hK
                  clear hC
                  clear hA
                  refine guard_none (by rfl) ?_
                  refine wp_value (v := .int .i64 (m : Int)) (w1 := w) ?_ (hK.out _ w (Below.refl _ _) rfl (fun h => by cases h))
                  go_simp
                  try (first | done | rfl | (simp; done))
                refine StepsP.cons ?_ ?_
                · intro Q s w hC hA K hK
                  clear hC
                  obtain ⟨f5, -⟩ := hA
                  replace f5 : (s 49) = .int .i64 (m : Int) := f5
                  refine guard_none (by rfl) ?_
                  refine wp_value (v := .int .i64 (-(m : Int))) (w1 := w) ?_ (hK.out _ w (Below.refl _ _) rfl (fun h => by cases h))
                  try simp only [f5]
                  go_simp
                  first | done | simp [hneg]
                refine StepsP.cons ?_ ?_
                · intro Q s w hC hA K hK
                  clear hC
                  clear hA
                  refine guard_none (by rfl) ?_
                  refine wp_value (v := .int .i64 (n : Int)) (w1 := w) ?_ (hK.out _ w (Below.refl _ _) rfl (fun h => by cases h))
                  go_simp
                  try (first | done | rfl | (simp; done))
                refine StepsP.cons ?_ ?_
                · intro Q s w hC hA K hK
                  obtain ⟨hsz, hk_g0, lt_g0, hbw⟩ := hC
                  obtain ⟨f4, f6, f7, -⟩ := hA
                  replace f4 : (s 48) = .agg #[.int .i64 (H : Int), .int .i64 (T : Int), .int .i64 near, .int .i64 climb, .string S] := f4
                  replace f6 : (s 50) = .int .i64 (-(m : Int)) := f6
                  replace f7 : (s 51) = .int .i64 (n : Int) := f7
                  refine guard_none (by rfl) ?_
                  refine wp_call (N := some 52) (by rfl) Try.func24 (by kernel_rfl) #[.agg #[.int .i64 (H : Int), .int .i64 (T : Int), .int .i64 near, .int .i64 climb, .string S], .int .i64 (-(m : Int)), .int .i64 (n : Int)] rfl (by rfl) ?_ ?_
                  · show [s 48, s 50, s 51] = [.agg #[.int .i64 (H : Int), .int .i64 (T : Int), .int .i64 near, .int .i64 climb, .string S], .int .i64 (-(m : Int)), .int .i64 (n : Int)]
                    first | rfl | simp only [f4, f6, f7]
                  refine (advise_Ask.calls _ _ _ _ _ _ _ b _ A2.out).mono ?_
                  rintro e w1 ⟨rfl, hb⟩
                  refine ⟨_, rfl, ?_⟩
                  exact hK.out _ _ hb rfl (fun h => by cases h)
                refine StepsP.cons ?_ ?_
                · intro Q s w hC hA K hK
                  clear hC
                  obtain ⟨f3, -⟩ := hA
                  replace f3 : (s 47) = .int .i64 a := f3
                  refine guard_none (by rfl) ?_
                  refine wp_value (v := .int .i64 a) (w1 := w) ?_ (hK.out _ w (Below.refl _ _) rfl (fun h => by cases h))
                  try simp only [f3]
                  go_simp
                  try (first | done | rfl | (simp; done))
                refine StepsP.cons ?_ ?_
                · intro Q s w hC hA K hK
                  clear hC
                  obtain ⟨f8, -⟩ := hA
                  replace f8 : (s 52) = .int .i64 b := f8
                  refine guard_none (by rfl) ?_
                  refine wp_value (v := .int .i64 b) (w1 := w) ?_ (hK.out _ w (Below.refl _ _) rfl (fun h => by cases h))
                  try simp only [f8]
                  go_simp
                  try (first | done | rfl | (simp; done))
                exact StepsP.nil
              obtain ⟨hsz, hk_g0, lt_g0, hbw⟩ := hC
              obtain ⟨f9, f10, -⟩ := hA
              replace f9 : (s 13) = .int .i64 a := f9
              replace f10 : (s 14) = .int .i64 b := f10
              refine act_eq (b' := ?b1) ?h1 ?q1
              case h1 => simp only [f9, f10]; rfl
              clear hsz lt_g0
              go_upto_region 11 with fail
              obtain ⟨B1, hB1⟩ : ∃ B, B = w.heap.size := ⟨_, rfl⟩
              have c0_hsz : B1 ≤ w.heap.size := Nat.le_of_eq hB1
              have hw0B1 : w0.heap.size ≤ B1 := by rw [hB1]; exact hbw.size
              have c0_hk_g0 := blk_drew hk_g0
              have c0_lt_g0 : g0 < B1 := by rw [hB1]; exact blk_lt hk_g0
              have c0_hbw := bl_drew hbw
              clear hB1 hbw hk_g0
              refine region_lin (n := 33) (st := ?st2) { R := [0, 0, 0, 7, 0, 0, 32, 0, 255, 511, 1023, 2047, 4095, 2047, 10239, 32767, 65535, 131071, 262143, 524287, 1048575, 2097151, 4194303, 8388607, 16777215, 33554431, 67108863, 134217727, 268435455, 536870911, 1073741823, 2147483647, 4294967295], kill := [[], [], [], [], [], [], [], [], [], [], [], [], [], [], [], [], [], [], [], [], [], [], [], [], [], [], [], [], [], [], [], [], []], cls := [0, 0, 0, 0, 0, 0, 0, 0, 0, 0, 0, 0, 0, 0, 0, 0, 0, 0, 0, 0, 0, 0, 0, 0, 0, 0, 0, 0, 0, 0, 0, 0, 0], dst := [some 53, some 54, some 55, some 56, some 57, some 58, some 59, some 60, some 61, some 62, some 63, some 64, some 65, some 66, some 67, some 68, some 69, some 70, some 71, some 72, some 73, some 74, some 75, some 76, some 77, some 78, some 79, some 80, some 81, some 82, some 83, some 84, some 85], pre := [[], [], [], [0, 1, 2], [], [], [5], [], [4, 6, 7], [3, 8], [9], [10], [10, 11], [10], [10, 13], [10, 12, 14], [10, 15], [16], [17], [17, 18], [17, 19], [20], [20, 21], [17, 20, 22], [17, 23], [24], [25], [25, 26], [25, 27], [28], [28, 29], [25, 28, 30], [25, 31]], cov := [], fin := [32], locs := [], tgt := [none], abt := [none, none, none, none, none, none, none, none, none, none, none, none, none, none, none, none, none, none, none, none, none, none, none, none, none, none, none, none, none, none, none, none, none] }
                [.v [53] (fun vs => (vs.getD 0 undef) = .agg #[.int .i64 (H : Int), .int .i64 (T : Int), .int .i64 near, .int .i64 climb, .string S]),
                 .v [54] (fun vs => (vs.getD 0 undef) = .int .i64 (m : Int)),
                 .v [55] (fun vs => (vs.getD 0 undef) = .int .i64 (n : Int)),
                 .v [56] (fun vs => (vs.getD 0 undef) = .int .i64 c),
                 .v [57] (fun vs => (vs.getD 0 undef) = .agg #[.int .i64 (H : Int), .int .i64 (T : Int), .int .i64 near, .int .i64 climb, .string S]),
                 .v [58] (fun vs => (vs.getD 0 undef) = .int .i64 (m : Int)),
                 .v [59] (fun vs => (vs.getD 0 undef) = .int .i64 (-(m : Int))),
                 .v [60] (fun vs => (vs.getD 0 undef) = .int .i64 (n : Int)),
                 .v [61] (fun vs => (vs.getD 0 undef) = .int .i64 c),
                 .v [62] (fun vs => (vs.getD 0 undef) = .bool false),
                 .v [63] (fun vs => (vs.getD 0 undef) = .bool false),
                 .v [64] (fun vs => (vs.getD 0 undef) = .int .i64 a),
                 .v [65] (fun vs => (vs.getD 0 undef) = .bool (a == 0)),
                 .v [66] (fun vs => (vs.getD 0 undef) = .int .i64 b),
                 .v [67] (fun vs => (vs.getD 0 undef) = .bool (b == 0)),
                 .v [68] (fun vs => (vs.getD 0 undef) = .bool false),
                 .v [69] (fun vs => (vs.getD 0 undef) = .bool false),
                 .v [70] (fun vs => (vs.getD 0 undef) = .bool false),
                 .v [71] (fun vs => (vs.getD 0 undef) = .int .i64 (n : Int)),
                 .v [72] (fun vs => (vs.getD 0 undef) = .bool ((n : Int) == 0)),
                 .v [73] (fun vs => (vs.getD 0 undef) = .bool ((n : Int) == 0)),
                 .v [74] (fun vs => (((n : Int) == 0) = true → (vs.getD 0 undef) = .int .i64 a) ∧ (((n : Int) == 0) = false → (vs.getD 0 undef) = undef)),
                 .v [75] (fun vs => (((n : Int) == 0) = true → (vs.getD 0 undef) = .bool (a != 0)) ∧ (((n : Int) == 0) = false → (vs.getD 0 undef) = undef)),
                 .v [76] (fun vs => (vs.getD 0 undef) = .bool false),
                 .v [77] (fun vs => (vs.getD 0 undef) = .bool false),
                 .v [78] (fun vs => (vs.getD 0 undef) = .bool false),
                 .v [79] (fun vs => (vs.getD 0 undef) = .int .i64 (m : Int)),
                 .v [80] (fun vs => (vs.getD 0 undef) = .bool ((m : Int) == 0)),
                 .v [81] (fun vs => (vs.getD 0 undef) = .bool ((m : Int) == 0)),
                 .v [82] (fun vs => (((m : Int) == 0) = true → (vs.getD 0 undef) = .int .i64 a) ∧ (((m : Int) == 0) = false → (vs.getD 0 undef) = undef)),
                 .v [83] (fun vs => (((m : Int) == 0) = true → (vs.getD 0 undef) = .bool (a == 2)) ∧ (((m : Int) == 0) = false → (vs.getD 0 undef) = undef)),
                 .v [84] (fun vs => (vs.getD 0 undef) = .bool false),
                 .v [85] (fun vs => (vs.getD 0 undef) = .bool false)]
                (fun w => B1 ≤ w.heap.size ∧ w.heap[g0]? = some (.cells #[.int .i64 (H : Int), .int .i64 (T : Int), .int .i64 near, .int .i64 climb, .string S] 38 (0, 0)) ∧ g0 < B1 ∧ Below w0.heap.size w0 w)
                (fun c => ([fun s w w' => Below w.heap.size w w'] : List ((Nat → Value) → World → World → Prop)).getD c (fun s w w' => w' = w))
                [53, 54, 55, 56, 57, 58, 59, 60, 61, 62, 63, 64, 65, 66, 67, 68, 69, 70, 71, 72, 73, 74, 75, 76, 77, 78, 79, 80, 81, 82, 83, 84, 85] (by kernel_rfl) ⟨by kernel_rfl, by kernel_rfl, by kernel_rfl, by kernel_rfl, by kernel_rfl, by kernel_rfl, by kernel_rfl, by kernel_rfl⟩ (fun s => ?_) ?_ ?_ ?_ ?_ ?_ (fun s w hC hA => ?_)
              rotate_left
              · simp only [fillS, List.foldl, List.setIfInBounds_toArray, List.set_cons_zero, List.set_cons_succ]; rfl
              · exact ⟨c0_hsz, c0_hk_g0, c0_lt_g0, c0_hbw⟩
              · intro c s w w' hE
                match c, hE with
                | 0, hE => exact Below.size hE
                | c + 1, hE => cases hE; exact Nat.le_refl _
              · rintro c s w w' ⟨hsz, hk_g0, lt_g0, hbw⟩ hE
                match c, hE with
                | 0, hE => replace hE : Below w.heap.size w w' := hE; exact ⟨Nat.le_trans hsz hE.size, bl_block hE hk_g0, lt_g0, bl_step hbw hE⟩
                | c + 1, hE => cases hE; exact ⟨hsz, hk_g0, lt_g0, hbw⟩
              · exact trivial
              · skip
                refine StepsP.cons ?_ ?_
                · intro Q s w hC hA K hK
                  obtain ⟨hsz, hk_g0, lt_g0, hbw⟩ := hC
                  clear hA
                  refine guard_none (by rfl) ?_
                  have m0_g0 : w.cell? ⟨g0, 0, none⟩ = some (.int .i64 (H : Int)) := blk_cell hk_g0 0 (by rfl)
                  have m1_g0 : w.cell? ⟨g0, 1, none⟩ = some (.int .i64 (T : Int)) := blk_cell hk_g0 1 (by rfl)
                  have m2_g0 : w.cell? ⟨g0, 2, none⟩ = some (.int .i64 near) := blk_cell hk_g0 2 (by rfl)
                  have m3_g0 : w.cell? ⟨g0, 3, none⟩ = some (.int .i64 climb) := blk_cell hk_g0 3 (by rfl)
                  have m4_g0 : w.cell? ⟨g0, 4, none⟩ = some (.string S) := blk_cell hk_g0 4 (by rfl)
                  refine wp_value (v := .agg #[.int .i64 (H : Int), .int .i64 (T : Int), .int .i64 near, .int .i64 climb, .string S]) (w1 := w) ?_ (hK.out _ w (Below.refl _ _) rfl (fun h => by cases h))
                  go_simp
                  try (first | done | rfl | (simp; done))
                refine StepsP.cons ?_ ?_
                · intro Q s w hC hA K hK
                  clear hC
                  clear hA
                  refine guard_none (by rfl) ?_
                  refine wp_value (v := .int .i64 (m : Int)) (w1 := w) ?_ (hK.out _ w (Below.refl _ _) rfl (fun h => by cases h))
                  go_simp
                  try (first | done | rfl | (simp; done))
                refine StepsP.cons ?_ ?_
                · intro Q s w hC hA K hK
                  clear hC
                  clear hA
                  refine guard_none (by rfl) ?_
                  refine wp_value (v := .int .i64 (n : Int)) (w1 := w) ?_ (hK.out _ w (Below.refl _ _) rfl (fun h => by cases h))
                  go_simp
                  try (first | done | rfl | (simp; done))
                refine StepsP.cons ?_ ?_
                · intro Q s w hC hA K hK
                  obtain ⟨hsz, hk_g0, lt_g0, hbw⟩ := hC
                  obtain ⟨f0, f1, f2, -⟩ := hA
                  replace f0 : (s 53) = .agg #[.int .i64 (H : Int), .int .i64 (T : Int), .int .i64 near, .int .i64 climb, .string S] := f0
                  replace f1 : (s 54) = .int .i64 (m : Int) := f1
                  replace f2 : (s 55) = .int .i64 (n : Int) := f2
                  refine guard_none (by rfl) ?_
                  refine wp_call (N := some 56) (by rfl) Try.func26 (by kernel_rfl) #[.agg #[.int .i64 (H : Int), .int .i64 (T : Int), .int .i64 near, .int .i64 climb, .string S], .int .i64 (m : Int), .int .i64 (n : Int), (Value.slice none 0 0)] rfl (by rfl) ?_ ?_
                  · show [s 53, s 54, s 55, (Value.slice none 0 0)] = [.agg #[.int .i64 (H : Int), .int .i64 (T : Int), .int .i64 near, .int .i64 climb, .string S], .int .i64 (m : Int), .int .i64 (n : Int), (Value.slice none 0 0)]
                    first | rfl | simp only [f0, f1, f2]
                  refine (advise_Cost.calls _ _ _ _ _ _ _ none 0 [] c _ (Go.Proofs.YtjidbjmekpholaaW.PrintWords.Kd.C_nil _ _) (Nat.le_refl _) C1.out).mono ?_
                  rintro e w1 ⟨rfl, hb⟩
                  refine ⟨_, rfl, ?_⟩
                  exact hK.out _ _ hb rfl (fun h => by cases h)
                refine StepsP.cons ?_ ?_
                · intro Q s w hC hA K hK
                  obtain ⟨hsz, hk_g0, lt_g0, hbw⟩ := hC
                  clear hA
                  refine guard_none (by rfl) ?_
                  have m0_g0 : w.cell? ⟨g0, 0, none⟩ = some (.int .i64 (H : Int)) := blk_cell hk_g0 0 (by rfl)
                  have m1_g0 : w.cell? ⟨g0, 1, none⟩ = some (.int .i64 (T : Int)) := blk_cell hk_g0 1 (by rfl)
                  have m2_g0 : w.cell? ⟨g0, 2, none⟩ = some (.int .i64 near) := blk_cell hk_g0 2 (by rfl)
                  have m3_g0 : w.cell? ⟨g0, 3, none⟩ = some (.int .i64 climb) := blk_cell hk_g0 3 (by rfl)
                  have m4_g0 : w.cell? ⟨g0, 4, none⟩ = some (.string S) := blk_cell hk_g0 4 (by rfl)
                  refine wp_value (v := .agg #[.int .i64 (H : Int), .int .i64 (T : Int), .int .i64 near, .int .i64 climb, .string S]) (w1 := w) ?_ (hK.out _ w (Below.refl _ _) rfl (fun h => by cases h))
                  go_simp
                  try (first | done | rfl | (simp; done))
                refine StepsP.cons ?_ ?_
                · intro Q s w hC hA K hK
                  clear hC
                  clear hA
                  refine guard_none (by rfl) ?_
                  refine wp_value (v := .int .i64 (m : Int)) (w1 := w) ?_ (hK.out _ w (Below.refl _ _) rfl (fun h => by cases h))
                  go_simp
                  try (first | done | rfl | (simp; done))
                refine StepsP.cons ?_ ?_
                · intro Q s w hC hA K hK
                  clear hC
                  obtain ⟨f5, -⟩ := hA
                  replace f5 : (s 58) = .int .i64 (m : Int) := f5
                  refine guard_none (by rfl) ?_
                  refine wp_value (v := .int .i64 (-(m : Int))) (w1 := w) ?_ (hK.out _ w (Below.refl _ _) rfl (fun h => by cases h))
                  try simp only [f5]
                  go_simp
                  first | done | simp [hneg]
                refine StepsP.cons ?_ ?_
                · intro Q s w hC hA K hK
                  clear hC
                  clear hA
                  refine guard_none (by rfl) ?_
                  refine wp_value (v := .int .i64 (n : Int)) (w1 := w) ?_ (hK.out _ w (Below.refl _ _) rfl (fun h => by cases h))
                  go_simp
                  try (first | done | rfl | (simp; done))
                refine StepsP.cons ?_ ?_
                · intro Q s w hC hA K hK
                  obtain ⟨hsz, hk_g0, lt_g0, hbw⟩ := hC
                  obtain ⟨f4, f6, f7, -⟩ := hA
                  replace f4 : (s 57) = .agg #[.int .i64 (H : Int), .int .i64 (T : Int), .int .i64 near, .int .i64 climb, .string S] := f4
                  replace f6 : (s 59) = .int .i64 (-(m : Int)) := f6
                  replace f7 : (s 60) = .int .i64 (n : Int) := f7
                  refine guard_none (by rfl) ?_
                  refine wp_call (N := some 61) (by rfl) Try.func26 (by kernel_rfl) #[.agg #[.int .i64 (H : Int), .int .i64 (T : Int), .int .i64 near, .int .i64 climb, .string S], .int .i64 (-(m : Int)), .int .i64 (n : Int), (Value.slice none 0 0)] rfl (by rfl) ?_ ?_
                  · show [s 57, s 59, s 60, (Value.slice none 0 0)] = [.agg #[.int .i64 (H : Int), .int .i64 (T : Int), .int .i64 near, .int .i64 climb, .string S], .int .i64 (-(m : Int)), .int .i64 (n : Int), (Value.slice none 0 0)]
                    first | rfl | simp only [f4, f6, f7]
                  refine (advise_Cost.calls _ _ _ _ _ _ _ none 0 [] c _ (Go.Proofs.YtjidbjmekpholaaW.PrintWords.Kd.C_nil _ _) (Nat.le_refl _) C2.out).mono ?_
                  rintro e w1 ⟨rfl, hb⟩
                  refine ⟨_, rfl, ?_⟩
                  exact hK.out _ _ hb rfl (fun h => by cases h)
                refine StepsP.cons ?_ ?_
                · intro Q s w hC hA K hK
                  clear hC
                  obtain ⟨f3, f8, -⟩ := hA
                  replace f3 : (s 56) = .int .i64 c := f3
                  replace f8 : (s 61) = .int .i64 c := f8
                  refine guard_none (by rfl) ?_
                  refine wp_value (v := .bool false) (w1 := w) ?_ (hK.out _ w (Below.refl _ _) rfl (fun h => by cases h))
                  try simp only [f3, f8]
                  go_simp
                  try (first | done | rfl | (simp; done))
                refine StepsP.cons ?_ ?_
                · intro Q s w hC hA K hK
                  clear hC
                  obtain ⟨f9, -⟩ := hA
                  replace f9 : (s 62) = .bool false := f9
                  refine guard_none (by rfl) ?_
                  refine wp_value (v := .bool false) (w1 := w) ?_ (hK.out _ w (Below.refl _ _) rfl (fun h => by cases h))
                  try simp only [f9]
                  go_simp
                  try (first | done | rfl | (simp; done))
                refine StepsP.cons ?_ ?_
                · intro Q s w hC hA K hK
                  clear hC
                  obtain ⟨f10, -⟩ := hA
                  replace f10 : (s 63) = .bool false := f10
                  refine guard_on (d := 63) (want := false) (by rfl) (by rfl) ?_ ?_
                  · exact f10
                  refine wp_value (v := .int .i64 a) (w1 := w) ?_ (hK.out _ w (Below.refl _ _) rfl (fun h => by cases h))
                  try simp only [f10]
                  go_simp
                  try (first | done | rfl | (simp; done))
                refine StepsP.cons ?_ ?_
                · intro Q s w hC hA K hK
                  clear hC
                  obtain ⟨f10, f11, -⟩ := hA
                  replace f10 : (s 63) = .bool false := f10
                  replace f11 : (s 64) = .int .i64 a := f11
                  refine guard_on (d := 63) (want := false) (by rfl) (by rfl) ?_ ?_
                  · exact f10
                  refine wp_value (v := .bool (a == 0)) (w1 := w) ?_ (hK.out _ w (Below.refl _ _) rfl (fun h => by cases h))
                  try simp only [f10, f11]
                  go_simp
                  try (first | done | rfl | (simp; done))
                refine StepsP.cons ?_ ?_
                · intro Q s w hC hA K hK
                  clear hC
                  obtain ⟨f10, -⟩ := hA
                  replace f10 : (s 63) = .bool false := f10
                  refine guard_on (d := 63) (want := false) (by rfl) (by rfl) ?_ ?_
                  · exact f10
                  refine wp_value (v := .int .i64 b) (w1 := w) ?_ (hK.out _ w (Below.refl _ _) rfl (fun h => by cases h))
                  try simp only [f10]
                  go_simp
                  try (first | done | rfl | (simp; done))
                refine StepsP.cons ?_ ?_
                · intro Q s w hC hA K hK
                  clear hC
                  obtain ⟨f10, f13, -⟩ := hA
                  replace f10 : (s 63) = .bool false := f10
                  replace f13 : (s 66) = .int .i64 b := f13
                  refine guard_on (d := 63) (want := false) (by rfl) (by rfl) ?_ ?_
                  · exact f10
                  refine wp_value (v := .bool (b == 0)) (w1 := w) ?_ (hK.out _ w (Below.refl _ _) rfl (fun h => by cases h))
                  try simp only [f10, f13]
                  go_simp
                  try (first | done | rfl | (simp; done))
                refine StepsP.cons ?_ ?_
                · intro Q s w hC hA K hK
                  clear hC
                  obtain ⟨f10, f12, f14, -⟩ := hA
                  replace f10 : (s 63) = .bool false := f10
                  replace f12 : (s 65) = .bool (a == 0) := f12
                  replace f14 : (s 67) = .bool (b == 0) := f14
                  refine guard_on (d := 63) (want := false) (by rfl) (by rfl) ?_ ?_
                  · exact f10
                  refine wp_value (v := .bool false) (w1 := w) ?_ (hK.out _ w (Below.refl _ _) rfl (fun h => by cases h))
                  try simp only [f12, f14]
                  go_simp
                  first | done | simp [hab]
                refine StepsP.cons ?_ ?_
                · intro Q s w hC hA K hK
                  clear hC
                  obtain ⟨f10, f15, -⟩ := hA
                  replace f10 : (s 63) = .bool false := f10
                  replace f15 : (s 68) = .bool false := f15
                  refine guard_none (by rfl) ?_
                  refine wp_value (v := .bool false) (w1 := w) ?_ (hK.out _ w (Below.refl _ _) rfl (fun h => by cases h))
                  try simp only [f10, f15]
                  go_simp
                  try (first | done | rfl | (simp; done))
                refine StepsP.cons ?_ ?_
                · intro Q s w hC hA K hK
                  clear hC
                  obtain ⟨f16, -⟩ := hA
                  replace f16 : (s 69) = .bool false := f16
                  refine guard_none (by rfl) ?_
                  refine wp_value (v := .bool false) (w1 := w) ?_ (hK.out _ w (Below.refl _ _) rfl (fun h => by cases h))
                  try simp only [f16]
                  go_simp
                  try (first | done | rfl | (simp; done))
                refine StepsP.cons ?_ ?_
                · intro Q s w hC hA K hK
                  clear hC
                  obtain ⟨f17, -⟩ := hA
                  replace f17 : (s 70) = .bool false := f17
                  refine guard_on (d := 70) (want := false) (by rfl) (by rfl) ?_ ?_
                  · exact f17
                  refine wp_value (v := .int .i64 (n : Int)) (w1 := w) ?_ (hK.out _ w (Below.refl _ _) rfl (fun h => by cases h))
                  try simp only [f17]
                  go_simp
                  try (first | done | rfl | (simp; done))
                refine StepsP.cons ?_ ?_
                · intro Q s w hC hA K hK
                  clear hC
                  obtain ⟨f17, f18, -⟩ := hA
                  replace f17 : (s 70) = .bool false := f17
                  replace f18 : (s 71) = .int .i64 (n : Int) := f18
                  refine guard_on (d := 70) (want := false) (by rfl) (by rfl) ?_ ?_
                  · exact f17
                  refine wp_value (v := .bool ((n : Int) == 0)) (w1 := w) ?_ (hK.out _ w (Below.refl _ _) rfl (fun h => by cases h))
                  try simp only [f17, f18]
                  go_simp
                  try (first | done | rfl | (simp; done))
                refine StepsP.cons ?_ ?_
                · intro Q s w hC hA K hK
                  clear hC
                  obtain ⟨f17, f19, -⟩ := hA
                  replace f17 : (s 70) = .bool false := f17
                  replace f19 : (s 72) = .bool ((n : Int) == 0) := f19
                  refine guard_on (d := 70) (want := false) (by rfl) (by rfl) ?_ ?_
                  · exact f17
                  refine wp_value (v := .bool ((n : Int) == 0)) (w1 := w) ?_ (hK.out _ w (Below.refl _ _) rfl (fun h => by cases h))
                  try simp only [f17, f19]
                  go_simp
                  try (first | done | rfl | (simp; done))
                refine StepsP.cons ?_ ?_
                · intro Q s w hC hA K hK
                  clear hC
                  obtain ⟨f20, -⟩ := hA
                  replace f20 : (s 73) = .bool ((n : Int) == 0) := f20
                  cases hc : ((n : Int) == 0)
                  · refine guard_off (d := 73) (want := true) (by rfl) (by rfl) ?_ ?_
                    · show s 73 ≠ .bool true
                      · intro h_
                        rw [f20] at h_; injection h_ with h_; rw [Bool.eq_false_iff] at hc; exact hc (by simp_all)
                    exact hK.out _ w (Below.refl _ _) ⟨fun h_ => (by rw [hc] at h_; cases h_), fun _ => rfl⟩ (fun _ g h => by cases h)
                  · refine guard_on (d := 73) (want := true) (by rfl) (by rfl) ?_ ?_
                    · exact (f20).trans (by rw [show ((n : Int) == 0) = true by simp_all])
                    refine wp_value (v := .int .i64 a) (w1 := w) ?_ (hK.out _ w (Below.refl _ _) ⟨fun _ => rfl, fun h_ => (by rw [hc] at h_; cases h_)⟩ (fun h => by cases h))
                    try simp only [f20]
                    go_simp
                    try (first | done | rfl | (simp; done))
                refine StepsP.cons ?_ ?_
                · intro Q s w hC hA K hK
                  clear hC
                  obtain ⟨f20, f21, -⟩ := hA
                  replace f20 : (s 73) = .bool ((n : Int) == 0) := f20
                  replace f21 : (((n : Int) == 0) = true → (s 74) = .int .i64 a) ∧ (((n : Int) == 0) = false → (s 74) = undef) := f21
                  cases hc : ((n : Int) == 0)
                  · refine guard_off (d := 73) (want := true) (by rfl) (by rfl) ?_ ?_
                    · show s 73 ≠ .bool true
                      · intro h_
                        rw [f20] at h_; injection h_ with h_; rw [Bool.eq_false_iff] at hc; exact hc (by simp_all)
                    exact hK.out _ w (Below.refl _ _) ⟨fun h_ => (by rw [hc] at h_; cases h_), fun _ => rfl⟩ (fun _ g h => by cases h)
                  · refine guard_on (d := 73) (want := true) (by rfl) (by rfl) ?_ ?_
                    · exact (f20).trans (by rw [show ((n : Int) == 0) = true by simp_all])
                    replace f21 := f21.1 (by exact hc)
                    refine wp_value (v := .bool (a != 0)) (w1 := w) ?_ (hK.out _ w (Below.refl _ _) ⟨fun _ => rfl, fun h_ => (by rw [hc] at h_; cases h_)⟩ (fun h => by cases h))
                    try simp only [f20, f21]
                    go_simp
                    try (first | done | rfl | (simp; done))
                refine StepsP.cons ?_ ?_
                · intro Q s w hC hA K hK
                  clear hC
                  obtain ⟨f17, f20, f22, -⟩ := hA
                  replace f17 : (s 70) = .bool false := f17
                  replace f20 : (s 73) = .bool ((n : Int) == 0) := f20
                  replace f22 : (((n : Int) == 0) = true → (s 75) = .bool (a != 0)) ∧ (((n : Int) == 0) = false → (s 75) = undef) := f22
                  refine guard_on (d := 70) (want := false) (by rfl) (by rfl) ?_ ?_
                  · exact f17
                  refine wp_value (v := .bool false) (w1 := w) ?_ (hK.out _ w (Below.refl _ _) rfl (fun h => by cases h))
                  cases ht : ((n : Int) == 0)
                  · skip
                    have hct_ : s 73 = .bool false := by rw [f20, ht]
                    simp only [hct_]
                    go_simp
                    first | done | (have q_ := ha0; simp_all)
                  · have hy_ := f22.1 (by simp_all)
                    have hct_ : s 73 = .bool true := by rw [f20, ht]
                    simp only [hct_, hy_]
                    go_simp
                    first | done | (have q_ := ha0; simp_all)
                refine StepsP.cons ?_ ?_
                · intro Q s w hC hA K hK
                  clear hC
                  obtain ⟨f17, f23, -⟩ := hA
                  replace f17 : (s 70) = .bool false := f17
                  replace f23 : (s 76) = .bool false := f23
                  refine guard_none (by rfl) ?_
                  refine wp_value (v := .bool false) (w1 := w) ?_ (hK.out _ w (Below.refl _ _) rfl (fun h => by cases h))
                  try simp only [f17, f23]
                  go_simp
                  try (first | done | rfl | (simp; done))
                refine StepsP.cons ?_ ?_
                · intro Q s w hC hA K hK
                  clear hC
                  obtain ⟨f24, -⟩ := hA
                  replace f24 : (s 77) = .bool false := f24
                  refine guard_none (by rfl) ?_
                  refine wp_value (v := .bool false) (w1 := w) ?_ (hK.out _ w (Below.refl _ _) rfl (fun h => by cases h))
                  try simp only [f24]
                  go_simp
                  try (first | done | rfl | (simp; done))
                refine StepsP.cons ?_ ?_
                · intro Q s w hC hA K hK
                  clear hC
                  obtain ⟨f25, -⟩ := hA
                  replace f25 : (s 78) = .bool false := f25
                  refine guard_on (d := 78) (want := false) (by rfl) (by rfl) ?_ ?_
                  · exact f25
                  refine wp_value (v := .int .i64 (m : Int)) (w1 := w) ?_ (hK.out _ w (Below.refl _ _) rfl (fun h => by cases h))
                  try simp only [f25]
                  go_simp
                  try (first | done | rfl | (simp; done))
                refine StepsP.cons ?_ ?_
                · intro Q s w hC hA K hK
                  clear hC
                  obtain ⟨f25, f26, -⟩ := hA
                  replace f25 : (s 78) = .bool false := f25
                  replace f26 : (s 79) = .int .i64 (m : Int) := f26
                  refine guard_on (d := 78) (want := false) (by rfl) (by rfl) ?_ ?_
                  · exact f25
                  refine wp_value (v := .bool ((m : Int) == 0)) (w1 := w) ?_ (hK.out _ w (Below.refl _ _) rfl (fun h => by cases h))
                  try simp only [f25, f26]
                  go_simp
                  try (first | done | rfl | (simp; done))
                refine StepsP.cons ?_ ?_
                · intro Q s w hC hA K hK
                  clear hC
                  obtain ⟨f25, f27, -⟩ := hA
                  replace f25 : (s 78) = .bool false := f25
                  replace f27 : (s 80) = .bool ((m : Int) == 0) := f27
                  refine guard_on (d := 78) (want := false) (by rfl) (by rfl) ?_ ?_
                  · exact f25
                  refine wp_value (v := .bool ((m : Int) == 0)) (w1 := w) ?_ (hK.out _ w (Below.refl _ _) rfl (fun h => by cases h))
                  try simp only [f25, f27]
                  go_simp
                  try (first | done | rfl | (simp; done))
                refine StepsP.cons ?_ ?_
                · intro Q s w hC hA K hK
                  clear hC
                  obtain ⟨f28, -⟩ := hA
                  replace f28 : (s 81) = .bool ((m : Int) == 0) := f28
                  cases hc : ((m : Int) == 0)
                  · refine guard_off (d := 81) (want := true) (by rfl) (by rfl) ?_ ?_
                    · show s 81 ≠ .bool true
                      · intro h_
                        rw [f28] at h_; injection h_ with h_; rw [Bool.eq_false_iff] at hc; exact hc (by simp_all)
                    exact hK.out _ w (Below.refl _ _) ⟨fun h_ => (by rw [hc] at h_; cases h_), fun _ => rfl⟩ (fun _ g h => by cases h)
                  · refine guard_on (d := 81) (want := true) (by rfl) (by rfl) ?_ ?_
                    · exact (f28).trans (by rw [show ((m : Int) == 0) = true by simp_all])
                    refine wp_value (v := .int .i64 a) (w1 := w) ?_ (hK.out _ w (Below.refl _ _) ⟨fun _ => rfl, fun h_ => (by rw [hc] at h_; cases h_)⟩ (fun h => by cases h))
                    try simp only [f28]
                    go_simp
                    try (first | done | rfl | (simp; done))
                refine StepsP.cons ?_ ?_
                · intro Q s w hC hA K hK
                  clear hC
                  obtain ⟨f28, f29, -⟩ := hA
                  replace f28 : (s 81) = .bool ((m : Int) == 0) := f28
                  replace f29 : (((m : Int) == 0) = true → (s 82) = .int .i64 a) ∧ (((m : Int) == 0) = false → (s 82) = undef) := f29
                  cases hc : ((m : Int) == 0)
                  · refine guard_off (d := 81) (want := true) (by rfl) (by rfl) ?_ ?_
                    · show s 81 ≠ .bool true
                      · intro h_
                        rw [f28] at h_; injection h_ with h_; rw [Bool.eq_false_iff] at hc; exact hc (by simp_all)
                    exact hK.out _ w (Below.refl _ _) ⟨fun h_ => (by rw [hc] at h_; cases h_), fun _ => rfl⟩ (fun _ g h => by cases h)
                  · refine guard_on (d := 81) (want := true) (by rfl) (by rfl) ?_ ?_
                    · exact (f28).trans (by rw [show ((m : Int) == 0) = true by simp_all])
                    replace f29 := f29.1 (by exact hc)
                    refine wp_value (v := .bool (a == 2)) (w1 := w) ?_ (hK.out _ w (Below.refl _ _) ⟨fun _ => rfl, fun h_ => (by rw [hc] at h_; cases h_)⟩ (fun h => by cases h))
                    try simp only [f28, f29]
                    go_simp
                    try (first | done | rfl | (simp; done))
                refine StepsP.cons ?_ ?_
                · intro Q s w hC hA K hK
                  clear hC
                  obtain ⟨f25, f28, f30, -⟩ := hA
                  replace f25 : (s 78) = .bool false := f25
                  replace f28 : (s 81) = .bool ((m : Int) == 0) := f28
                  replace f30 : (((m : Int) == 0) = true → (s 83) = .bool (a == 2)) ∧ (((m : Int) == 0) = false → (s 83) = undef) := f30
                  refine guard_on (d := 78) (want := false) (by rfl) (by rfl) ?_ ?_
                  · exact f25
                  refine wp_value (v := .bool false) (w1 := w) ?_ (hK.out _ w (Below.refl _ _) rfl (fun h => by cases h))
                  cases ht : ((m : Int) == 0)
                  · skip
                    have hct_ : s 81 = .bool false := by rw [f28, ht]
                    simp only [hct_]
                    go_simp
                    first | done | (have q_ := ha2; simp_all)
                  · have hy_ := f30.1 (by simp_all)
                    have hct_ : s 81 = .bool true := by rw [f28, ht]
                    simp only [hct_, hy_]
                    go_simp
                    first | done | (have q_ := ha2; simp_all)
                refine StepsP.cons ?_ ?_
                · intro Q s w hC hA K hK
                  clear hC
                  obtain ⟨f25, f31, -⟩ := hA
                  replace f25 : (s 78) = .bool false := f25
                  replace f31 : (s 84) = .bool false := f31
                  refine guard_none (by rfl) ?_
                  refine wp_value (v := .bool false) (w1 := w) ?_ (hK.out _ w (Below.refl _ _) rfl (fun h => by cases h))
                  try simp only [f25, f31]
                  go_simp
                  try (first | done | rfl | (simp; done))
                exact StepsP.nil
              obtain ⟨hsz, hk_g0, lt_g0, hbw⟩ := hC
              obtain ⟨f32, -⟩ := hA
              replace f32 : (s 85) = .bool false := f32
              refine act_eq (b' := ?b2) ?h2 ?q2
              case h2 => simp only [f32]; rfl
              have hk1 := hk_g0
              go_wp2
              go_roundw
              case rel => exact ⟨m + 1, by omega, by go_num, hbw, hk1⟩
              case measure => simp [intOf]; omega
            · have hle2 : decide ((m : Int) ≤ H) = false := decide_eq_false (by omega)
              go_wp2
              go_roundw
              case rel => exact ⟨n + 1, by omega, by go_num, hbw, hk1⟩
              case measure => simp [intOf]; omega
        · have hle : decide ((n : Int) ≤ T) = false := decide_eq_false (by omega)
          go_wp2_with fail
          refine (picketlaw18_alive.calls ka true _ hka.out).mono ?_
          rintro e w2 ⟨rfl, hb2⟩
          go_wp2
          go_ret
          subst hw0
          exact ⟨rfl, bl_step hbw hb2⟩
    · by_cases hH : (20 : Int) < H
      · have h1 : decide ((20 : Int) < H) = true := decide_eq_true hH
        go_enter Try.func10, Try.ntmps10
        go_wp2_with (first | (go_at_call 18; refine (advise_Make.calls _ _ _ _ _ _ _ _ _ _ _ hmk.out).mono ?_; rintro e w1 ⟨rfl, hb1⟩) | (go_at_call 17; refine (picketlaw18_alive.calls ka true _ hka.out).mono ?_; rintro e w2 ⟨rfl, hb2⟩) | fail)
        go_ret
        exact ⟨rfl, (by (repeat (first | with_reducible exact Below.refl _ _ | with_reducible assumption | with_reducible apply bl_alloc | with_reducible apply bl_drew | with_reducible apply bl_drewN | (with_reducible refine bl_set ?_ (by first | omega | (simp; done) | (simp; omega)) _) | (with_reducible refine bl_step ?_ (by assumption)) | (with_reducible refine bl_grown ?_ (by assumption) (by assumption)) | (with_reducible refine bl_own ?_ (by assumption) (by assumption)))))⟩
      · have h1 : decide ((20 : Int) < H) = false := decide_eq_false hH
        have h2 : decide ((20 : Int) < T) = true := decide_eq_true (by omega)
        go_enter Try.func10, Try.ntmps10
        go_wp2_with (first | (go_at_call 18; refine (advise_Make.calls _ _ _ _ _ _ _ _ _ _ _ hmk.out).mono ?_; rintro e w1 ⟨rfl, hb1⟩) | (go_at_call 17; refine (picketlaw18_alive.calls ka true _ hka.out).mono ?_; rintro e w2 ⟨rfl, hb2⟩) | fail)
        go_ret
        exact ⟨rfl, (by (repeat (first | with_reducible exact Below.refl _ _ | with_reducible assumption | with_reducible apply bl_alloc | with_reducible apply bl_drew | with_reducible apply bl_drewN | (with_reducible refine bl_set ?_ (by first | omega | (simp; done) | (simp; omega)) _) | (with_reducible refine bl_step ?_ (by assumption)) | (with_reducible refine bl_grown ?_ (by assumption) (by assumption)) | (with_reducible refine bl_own ?_ (by assumption) (by assumption)))))⟩
  · have hmk := hidI (make_no high near climb ticks hm)
    go_enter Try.func10, Try.ntmps10
    go_wp2_with (first | (go_at_call 18; refine (advise_Make.calls _ _ _ _ _ _ _ _ _ _ _ hmk.out).mono ?_; rintro e w1 ⟨rfl, hb1⟩) | (go_at_call 17; refine (picketlaw18_alive.calls ka true _ hka.out).mono ?_; rintro e w2 ⟨rfl, hb2⟩) | fail)
    go_ret
    exact ⟨rfl, (by (repeat (first | with_reducible exact Below.refl _ _ | with_reducible assumption | with_reducible apply bl_alloc | with_reducible apply bl_drew | with_reducible apply bl_drewN | (with_reducible refine bl_set ?_ (by first | omega | (simp; done) | (simp; omega)) _) | (with_reducible refine bl_step ?_ (by assumption)) | (with_reducible refine bl_grown ?_ (by assumption) (by assumption)) | (with_reducible refine bl_own ?_ (by assumption) (by assumption)))))⟩
end Go.Proofs.Ytjidbjmekpholaa
