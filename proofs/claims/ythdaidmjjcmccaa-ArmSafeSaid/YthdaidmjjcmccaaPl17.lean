/- Proved here: lemmas and contracts (what a function of the program computes) that the proofs of the laws of this seat lean on. Conditions: as each theorem states. -/
import Derived.Test.YthdaidmjjcmccaaPl16
import Derived.Test.YthdaidmjjcmccaaMp2
set_option linter.unusedVariables false
set_option linter.unusedSimpArgs false
namespace Go.Pk
open Go.RowKit
theorem AccAt.keep' {w w1 : World} {g b : Nat} {o : Bool} (h : AccAt w (some ⟨g, 0, none⟩) o) (hk : ∀ k o, k ≠ b → w.heap[k]? = some o → w1.heap[k]? = some o) (hn : g ≠ b) : AccAt w1 (some ⟨g, 0, none⟩) o := by
  obtain ⟨h1, h2⟩ := h
  cases hx : w.heap[g]? with
  | none => simp [World.cell?, hx] at h1
  | some q =>
    have h3 := hk g q hn hx
    refine ⟨?_, ?_⟩
    · simp only [World.cell?, hx, h3] at h1 ⊢; exact h1
    · simp only [World.frozen?, hx, h3] at h2 ⊢; exact h2
def negI (n : Int) : Bool := decide (n < 0)
/-- A look lies in block gl. -/
def LkAt (w : World) (gl TL TK : Nat) (p : Pl) (s : List Int) : Prop := ∃ g aS cS, w.heap[gl]? = some (.cells #[.pointer (some ⟨g, 0, none⟩), .slice aS s.length cS] TL (0, 0)) ∧ RdI w aS s ∧ s.length ≤ cS ∧ KitAt w g TK p
theorem LkAt.below {w W : World} {gl TL TK : Nat} {p : Pl} {s : List Int} (h : LkAt w gl TL TK p s) (hb : Below w.heap.size w W) : LkAt W gl TL TK p s := by
  obtain ⟨g, aS, cS, h1, h2, h3, h4⟩ := h
  exact ⟨g, aS, cS, bl_block hb h1, h2.below hb, h3, h4.below hb⟩
end Go.Pk
namespace Go.Proofs.Ythdaidmjjcmccaa
open Go.RowKit Go.Pk Go.Proofs.YthdaidmjjcmccaaW.PrintLast
set_option maxHeartbeats 8000000 in
set_option maxRecDepth 100000 in
theorem sWide_calls (a b n : Int) (w : World) (ha0 : -9223372036854775808 ≤ a) (ha1 : a ≤ 9223372036854775807) (hb0 : -9223372036854775808 ≤ b) (hb1 : b ≤ 9223372036854775807) (hn0 : -9223372036854775808 ≤ n) (hn1 : n ≤ 9223372036854775807) :
    Calls Try.prog 110 #[.agg #[.int .i64 (a), .int .i64 (b)], .int .i64 n] w fun e w' => e = .returned (.agg #[.int .i64 ((wideS ⟨a, b⟩ n).lo), .int .i64 ((wideS ⟨a, b⟩ n).hi)]) ∧ Below w.heap.size w w' := by
  by_cases h1 : b < a
  · have e1 : wideS ⟨a, b⟩ n = ⟨0, -1⟩ := by unfold wideS; rw [if_pos h1]
    rw [e1]
    clear e1
    have h2 : decide (b < a) = true := decide_eq_true h1
    go_enter Try.func110, Try.ntmps110
    go_wp2_with (first | (go_at_call 56; refine (Empty_calls _ _ _).mono ?_; rintro e w1 ⟨rfl, hb1⟩; rw [h2]) | fail)
    refine (none_calls _).mono ?_
    rintro e w2 ⟨rfl, hb2⟩
    have hk1 : w2.heap[w.heap.size + 1]? = some (.cells #[.int .i64 0, .int .i64 0] 25 (0, 0)) := (by (repeat (first | with_reducible assumption | with_reducible exact blk_new _ _ | with_reducible apply blk_drew | (with_reducible refine blk_newE ?_; (first | done | (simp; done))) | with_reducible apply blk_put2 | (with_reducible refine blk_far ?_ (by first | omega | (simp; done) | (simp; omega)) _) | with_reducible apply blk_alloc | (with_reducible refine bl_block (by assumption) ?_) | (with_reducible refine blk_grown ?_ (by assumption) (by assumption)) | (with_reducible refine blk_acc (by assumption) ?_ (by assumption)))))
    have m1 := blk_two hk1
    go_wp2
    refine bodyPost_ret (results_cell_row rfl _ _ (w.heap.size + 1) 25 #[.int .i64 (0), .int .i64 ((-1))] (0, 0) _ rfl (by (repeat (first | with_reducible assumption | with_reducible exact blk_new _ _ | with_reducible apply blk_drew | (with_reducible refine blk_newE ?_; (first | done | (simp; done))) | with_reducible apply blk_put2 | (with_reducible refine blk_far ?_ (by first | omega | (simp; done) | (simp; omega)) _) | with_reducible apply blk_alloc | (with_reducible refine bl_block (by assumption) ?_) | (with_reducible refine blk_grown ?_ (by assumption) (by assumption)) | (with_reducible refine blk_acc (by assumption) ?_ (by assumption))))) Try.underlying25 rfl (by kernel_rfl)) rfl ?_
    exact ⟨rfl, (by (repeat (first | with_reducible exact Below.refl _ _ | with_reducible assumption | with_reducible apply bl_alloc | with_reducible apply bl_drew | with_reducible apply bl_drewN | (with_reducible refine bl_set ?_ (by first | omega | (simp; done) | (simp; omega)) _) | (with_reducible refine bl_step ?_ (by assumption)) | (with_reducible refine bl_grown ?_ (by assumption) (by assumption)) | (with_reducible refine bl_own ?_ (by assumption) (by assumption)))))⟩
  · have h2 : decide (b < a) = false := decide_eq_false h1
    by_cases hn : n < 0
    · have e1 : wideS ⟨a, b⟩ n = ⟨clampI (a - 0), clampI (b + 0)⟩ := by unfold wideS mxI; rw [if_neg h1, if_pos hn]
      rw [e1]
      clear e1
      go_enter Try.func110, Try.ntmps110
      go_upto_region 1 with fail
      have hk_g2 := blk_alloc (blk_new w (.cells #[.int .i64 a, .int .i64 b] 25)) (.cells #[.int .i64 0, .int .i64 0] 25)
      have hk_g4 := blk_new (w.alloc (.cells #[.int .i64 a, .int .i64 b] 25)) (.cells #[.int .i64 0, .int .i64 0] 25)
      obtain ⟨w0, hw0⟩ : ∃ z : World, z = w := ⟨_, rfl⟩
      have hbw : Below w0.heap.size w0 ((w.alloc (.cells #[.int .i64 a, .int .i64 b] 25)).alloc (.cells #[.int .i64 0, .int .i64 0] 25)) := by rw [hw0]; exact bl_alloc (bl_alloc (Below.refl w.heap.size w) _) _
      have h24 : w0.heap.size ≤ w.heap.size := by rw [hw0]; omega
      have hsz : (w.alloc (.cells #[.int .i64 a, .int .i64 b] 25)).heap.size = w.heap.size + 1 := by simp
      rw [hsz] at hk_g4
      generalize (w.alloc (.cells #[.int .i64 a, .int .i64 b] 25)).alloc (.cells #[.int .i64 0, .int .i64 0] 25) = W1 at *
      obtain ⟨g2, hg2⟩ : ∃ g, w.heap.size = g := ⟨_, rfl⟩
      rw [hg2] at hk_g2 hk_g4 h24
      rw [hg2]
      obtain ⟨g4, hg4⟩ : ∃ g, g2 + 1 = g := ⟨_, rfl⟩
      rw [hg4] at hk_g4
      rw [hg4]
      have h4 : g2 < g4 := by omega
      clear hg2 hsz hg4
      have m2 := blk_two hk_g2
      go_wp2_with fail
      refine (Empty_calls _ _ _).mono ?_
      rintro e w1 ⟨rfl, hb1⟩
      rw [h2]
      replace hbw := bl_step hbw hb1
      replace hk_g2 := bl_block hb1 hk_g2
      replace hk_g4 := bl_block hb1 hk_g4
      clear m2 hb1
      go_upto_region 4 with fail
      have hbA := bl_alloc (Below.refl w1.heap.size w1) (.cells #[.bool false] 65)
      have ha_a := AccAt.blk (blk_new w1 (.cells #[.bool false] 65))
      have hlt4 := blk_lt hk_g4
      replace hbw := bl_step hbw hbA
      replace hk_g2 := bl_block hbA hk_g2
      replace hk_g4 := bl_block hbA hk_g4
      generalize w1.alloc (.cells #[.bool false] 65) = W2 at *
      obtain ⟨ga, hga⟩ : ∃ g, w1.heap.size = g := ⟨_, rfl⟩
      rw [hga] at ha_a hlt4
      rw [hga]
      clear hga hbA
      go_upto_region 5 with fail
      have hl_a : w0.heap.size ≤ (⟨ga, 0, none⟩ : Addr).block := by show w0.heap.size ≤ ga; omega
      have p_a_g2 : PNe (some ⟨ga, 0, none⟩) g2 := PNe.of (by show ga ≠ g2; omega)
      have p_a_g4 : PNe (some ⟨ga, 0, none⟩) g4 := PNe.of (by show ga ≠ g4; omega)
      have n_g2_g4 : g2 ≠ g4 := by omega
      have n_a_g4 : ga ≠ g4 := by omega
      have hle_g4 : w0.heap.size ≤ g4 := by omega
      have hInI : InI [b, 0] := by intro x hx; simp only [List.mem_cons, List.not_mem_nil, or_false] at hx; rcases hx with rfl | rfl <;> omega
      have hSub := hidI (fun W o (h : AccAt W (some ⟨ga, 0, none⟩) o) => Sub_calls (some ⟨ga, 0, none⟩) a 0 o W h ha0 ha1 (by omega) (by omega))
      have hAdd := hidI (fun W o A (h : AccAt W (some ⟨ga, 0, none⟩) o) (hl : RdI W A [b, 0]) => Add_calls (some ⟨ga, 0, none⟩) A [b, 0] 2 o W h hl hInI)
      rw [show sumI [b, 0] = b + 0 by simp [sumI]] at hAdd
      obtain ⟨v1, hv1⟩ : ∃ z, clampI (a - 0) = z := ⟨_, rfl⟩
      obtain ⟨v2, hv2⟩ : ∃ z, clampI (b + 0) = z := ⟨_, rfl⟩
      rw [hv1] at hSub
      rw [hv2] at hAdd
      clear ha0 ha1 hb0 hb1 hn0 hn1
      obtain ⟨B0, hB0⟩ : ∃ B, B = W2.heap.size := ⟨_, rfl⟩
      have c0_hsz : B0 ≤ W2.heap.size := Nat.le_of_eq hB0
      have hw0B0 : w0.heap.size ≤ B0 := by rw [hB0]; exact hbw.size
      have c0_hle : W2.heap.size ≤ B0 := Nat.le_of_eq hB0.symm
      have c0_hk_g2 := blk_drew hk_g2
      have c0_lt_g2 : g2 < B0 := by rw [hB0]; exact blk_lt hk_g2
      have c0_hk_g4 := blk_drew hk_g4
      have c0_lt_g4 : g4 < B0 := by rw [hB0]; exact blk_lt hk_g4
      have c0_ha_a : ∃ o, AccAt W2.drew (some ⟨ga, 0, none⟩) o := ⟨_, AccAt.below ha_a (bl_drew (Below.refl _ _))⟩
      have lt_acc_a : ga < B0 := by rw [hB0]; exact World.block_lt_of_cell? _ _ ha_a.1
      have c0_hbw := bl_drew hbw
      clear hB0 hbw hk_g2 hk_g4
      refine region_linM (n := 11) (st := ?st11) { R := [0, 1, 0, 7, 0, 16, 0, 112, 255, 511, 1023], kill := [[], [], [], [], [], [], [], [], [], [], [], [10]], cls := [0, 0, 0, 1, 0, 0, 0, 0, 1, 0, 2], dst := [some 11, some 12, some 13, some 14, some 15, some 16, some 17, some 18, some 19, some 20, none], pre := [[], [0], [], [1, 2], [], [4], [], [5, 6], [7], [3, 8], [9, 11]], cov := [(0, 7), (0, 11), (1, 7), (1, 11), (2, 7)], fin := [10], locs := [(7, 18)], tgt := [none, none, none], abt := [none, none, none, none, none, none, none, some 18, none, none, none], m := 1 }
        [.v [11] (fun vs => (vs.getD 0 undef) = .pointer (some ⟨g2, 0, none⟩)),
         .v [12] (fun vs => (vs.getD 0 undef) = .int .i64 a),
         .v [13] (fun vs => (vs.getD 0 undef) = .int .i64 0),
         .v [14] (fun vs => (vs.getD 0 undef) = .int .i64 v1),
         .v [15] (fun vs => (vs.getD 0 undef) = .pointer (some ⟨g2, 1, none⟩)),
         .v [16] (fun vs => (vs.getD 0 undef) = .int .i64 b),
         .v [17] (fun vs => (vs.getD 0 undef) = .int .i64 0),
         .w [18] (fun vs w => ∃ g7 : Nat, (vs.getD 0 undef) = .slice (some ⟨g7, 0, none⟩) 2 2 ∧ B0 ≤ g7 ∧ w.heap[g7]? = some (.cells #[.int .i64 b, .int .i64 0] 3 (0, 0))),
         .v [19] (fun vs => (vs.getD 0 undef) = .int .i64 v2),
         .v [20] (fun vs => (vs.getD 0 undef) = .agg #[.int .i64 v1, .int .i64 v2]),
         .w [] (fun vs w => w.heap[g4]? = some (.cells #[.int .i64 v1, .int .i64 v2] 25 (0, 0))),
         .w [] (fun vs w => w.heap[g4]? = some (.cells #[.int .i64 0, .int .i64 0] 25 (0, 0)))]
        (fun w => B0 ≤ w.heap.size ∧ w.heap[g2]? = some (.cells #[.int .i64 a, .int .i64 b] 25 (0, 0)) ∧ g2 < B0 ∧ g4 < B0 ∧ (∃ o, AccAt w (some ⟨ga, 0, none⟩) o) ∧ Below w0.heap.size w0 w)
        (fun c => ([fun s w w' => Below w.heap.size w w', fun s w w' => ∃ o, Below w.heap.size (orCell w (some ⟨ga, 0, none⟩) o) w', fun s w w' => w' = w ∨ ((∀ k o, k ≠ g4 → w.heap[k]? = some o → w'.heap[k]? = some o) ∧ w'.heap.size = w.heap.size ∧ Below g4 w w')] : List ((Nat → Value) → World → World → Prop)).getD c (fun s w w' => w' = w))
        [11, 12, 13, 14, 15, 16, 17, 18, 19, 20] (by kernel_rfl) ⟨by kernel_rfl, by kernel_rfl, by kernel_rfl, by kernel_rfl, by kernel_rfl, by kernel_rfl, by kernel_rfl, by kernel_rfl⟩ (fun s => ?_) ?_ ?_ ?_ ?_ ?_ ?_ (fun s w hC hA => ?_)
      rotate_left
      · simp only [fillS, List.foldl, List.setIfInBounds_toArray, List.set_cons_zero, List.set_cons_succ]; rfl
      · exact ⟨c0_hsz, c0_hk_g2, c0_lt_g2, c0_lt_g4, c0_ha_a, c0_hbw⟩
      · exact ⟨c0_hk_g4, trivial⟩
      · intro c s w w' hE
        match c, hE with
        | 0, hE => exact Below.size hE
        | 1, hE => replace hE : ∃ o, Below w.heap.size (orCell w (some ⟨ga, 0, none⟩) o) w' := hE; obtain ⟨o, hE⟩ := hE; have h_ := Below.size hE; rwa [orCell_size] at h_
        | 2, hE => replace hE : w' = w ∨ ((∀ k o, k ≠ g4 → w.heap[k]? = some o → w'.heap[k]? = some o) ∧ w'.heap.size = w.heap.size ∧ Below g4 w w') := hE; rcases hE with hE | ⟨_, hE, _⟩; exact Nat.le_of_eq (by rw [hE]); exact Nat.le_of_eq hE.symm
        | c + 3, hE => cases hE; exact Nat.le_refl _
      · rintro c s w w' ⟨hsz, hk_g2, lt_g2, lt_g4, ha_a, hbw⟩ hE
        match c, hE with
        | 0, hE => replace hE : Below w.heap.size w w' := hE; exact ⟨Nat.le_trans hsz hE.size, bl_block hE hk_g2, lt_g2, lt_g4, ha_a.imp fun _ h => h.below hE, bl_step hbw hE⟩
        | 1, hE => replace hE : ∃ o, Below w.heap.size (orCell w (some ⟨ga, 0, none⟩) o) w' := hE; obtain ⟨o, hE⟩ := hE; exact ⟨Nat.le_trans hsz (by have h_ := hE.size; rwa [orCell_size] at h_), blk_acc hE hk_g2 p_a_g2, lt_g2, lt_g4, (by obtain ⟨o2, h2⟩ := ha_a; exact ⟨_, h2.or hE⟩), bl_own hbw hl_a hE⟩
        | 2, hE =>
          replace hE : w' = w ∨ ((∀ k o, k ≠ g4 → w.heap[k]? = some o → w'.heap[k]? = some o) ∧ w'.heap.size = w.heap.size ∧ Below g4 w w') := hE
          rcases hE with rfl | ⟨hkeep, hsz_, hBl⟩
          · exact ⟨hsz, hk_g2, lt_g2, lt_g4, ha_a, hbw⟩
          · exact ⟨by omega, hkeep _ _ n_g2_g4 hk_g2, lt_g2, lt_g4, ha_a.imp fun _ h => AccAt.keep' h hkeep n_a_g4, hbw.trans (Below.mono hBl hle_g4)⟩
        | c + 3, hE => cases hE; exact ⟨hsz, hk_g2, lt_g2, lt_g4, ha_a, hbw⟩
      · refine ⟨?_, ?_, ?_, ?_, ?_, trivial⟩
        · intro s w w' hD hC hE hF
          replace hF : ∃ g7 : Nat, (s 18) = .slice (some ⟨g7, 0, none⟩) 2 2 ∧ B0 ≤ g7 ∧ w.heap[g7]? = some (.cells #[.int .i64 b, .int .i64 0] 3 (0, 0)) := hF
          show ∃ g7 : Nat, (s 18) = .slice (some ⟨g7, 0, none⟩) 2 2 ∧ B0 ≤ g7 ∧ w'.heap[g7]? = some (.cells #[.int .i64 b, .int .i64 0] 3 (0, 0))
          replace hE : Below w.heap.size w w' := hE
          obtain ⟨g7, h1, h2, h3⟩ := hF
          exact ⟨g7, h1, h2, bl_block hE h3⟩
        · intro s w w' hD hC hE hF
          replace hF : w.heap[g4]? = some (.cells #[.int .i64 0, .int .i64 0] 25 (0, 0)) := hF
          show w'.heap[g4]? = some (.cells #[.int .i64 0, .int .i64 0] 25 (0, 0))
          replace hE : Below w.heap.size w w' := hE
          exact bl_block hE (hF)
        · intro s w w' hD hC hE hF
          replace hF : ∃ g7 : Nat, (s 18) = .slice (some ⟨g7, 0, none⟩) 2 2 ∧ B0 ≤ g7 ∧ w.heap[g7]? = some (.cells #[.int .i64 b, .int .i64 0] 3 (0, 0)) := hF
          show ∃ g7 : Nat, (s 18) = .slice (some ⟨g7, 0, none⟩) 2 2 ∧ B0 ≤ g7 ∧ w'.heap[g7]? = some (.cells #[.int .i64 b, .int .i64 0] 3 (0, 0))
          replace hE : ∃ o, Below w.heap.size (orCell w (some ⟨ga, 0, none⟩) o) w' := hE
          obtain ⟨o, hE⟩ := hE
          obtain ⟨hsz, hk_g2, lt_g2, lt_g4, ha_a, hbw⟩ := hC
          obtain ⟨g7, h1, h2, h3⟩ := hF
          exact ⟨g7, h1, h2, blk_acc hE h3 (PNe.of (by have := lt_acc_a; simp only []; omega))⟩
        · intro s w w' hD hC hE hF
          replace hF : w.heap[g4]? = some (.cells #[.int .i64 0, .int .i64 0] 25 (0, 0)) := hF
          show w'.heap[g4]? = some (.cells #[.int .i64 0, .int .i64 0] 25 (0, 0))
          replace hE : ∃ o, Below w.heap.size (orCell w (some ⟨ga, 0, none⟩) o) w' := hE
          obtain ⟨o, hE⟩ := hE
          obtain ⟨hsz, hk_g2, lt_g2, lt_g4, ha_a, hbw⟩ := hC
          exact blk_acc hE (hF) p_a_g4
        · intro s w w' hD hC hE hF
          replace hF : ∃ g7 : Nat, (s 18) = .slice (some ⟨g7, 0, none⟩) 2 2 ∧ B0 ≤ g7 ∧ w.heap[g7]? = some (.cells #[.int .i64 b, .int .i64 0] 3 (0, 0)) := hF
          show ∃ g7 : Nat, (s 18) = .slice (some ⟨g7, 0, none⟩) 2 2 ∧ B0 ≤ g7 ∧ w'.heap[g7]? = some (.cells #[.int .i64 b, .int .i64 0] 3 (0, 0))
          replace hE : w' = w ∨ ((∀ k o, k ≠ g4 → w.heap[k]? = some o → w'.heap[k]? = some o) ∧ w'.heap.size = w.heap.size ∧ Below g4 w w') := hE
          rcases hE with rfl | ⟨hkeep, hsz_, hBl⟩
          · exact hF
          obtain ⟨g7, h1, h2, h3⟩ := hF
          exact ⟨g7, h1, h2, hkeep _ _ (by have := c0_lt_g4; omega) h3⟩
      · skip
        refine StepsP.cons ?_ ?_
        · intro Q s w hC hA K hK
          clear hC
          clear hA
          refine guard_none (by rfl) ?_
          refine wp_value (v := .pointer (some ⟨g2, 0, none⟩)) (w1 := w) ?_ (hK.out _ w (Below.refl _ _) rfl (fun h => by cases h))
          go_simp
          try (first | done | rfl | (simp; done))
        refine StepsP.cons ?_ ?_
        · intro Q s w hC hA K hK
          obtain ⟨hsz, hk_g2, lt_g2, lt_g4, ha_a, hbw⟩ := hC
          obtain ⟨f0, -⟩ := hA
          replace f0 : (s 11) = .pointer (some ⟨g2, 0, none⟩) := f0
          refine guard_none (by rfl) ?_
          have m0_g2 : w.cell? ⟨g2, 0, none⟩ = some (.int .i64 a) := blk_cell hk_g2 0 (by rfl)
          have m1_g2 : w.cell? ⟨g2, 1, none⟩ = some (.int .i64 b) := blk_cell hk_g2 1 (by rfl)
          refine wp_value (v := .int .i64 a) (w1 := w) ?_ (hK.out _ w (Below.refl _ _) rfl (fun h => by cases h))
          try simp only [f0]
          go_simp
          try (first | done | rfl | (simp; done))
        refine StepsP.cons ?_ ?_
        · intro Q s w hC hA K hK
          clear hC
          clear hA
          refine guard_none (by rfl) ?_
          refine wp_value (v := .int .i64 0) (w1 := w) ?_ (hK.out _ w (Below.refl _ _) rfl (fun h => by cases h))
          go_simp
          try (first | done | rfl | (simp; done))
        refine StepsP.cons ?_ ?_
        · intro Q s w hC hA K hK
          obtain ⟨hsz, hk_g2, lt_g2, lt_g4, ha_a, hbw⟩ := hC
          obtain ⟨f1, f2, -⟩ := hA
          replace f1 : (s 12) = .int .i64 a := f1
          replace f2 : (s 13) = .int .i64 0 := f2
          refine guard_none (by rfl) ?_
          obtain ⟨o_a, ho_a⟩ := ha_a
          refine wp_call (N := some 14) (by rfl) Try.func122 (by kernel_rfl) #[.pointer (some ⟨ga, 0, none⟩), .int .i64 a, .int .i64 0] rfl (by rfl) ?_ ?_
          · show [.pointer (some ⟨ga, 0, none⟩), s 12, s 13] = [.pointer (some ⟨ga, 0, none⟩), .int .i64 a, .int .i64 0]
            first | rfl | simp only [f1, f2]
          refine (hSub.out _ _ ho_a).mono ?_
          rintro e w1 ⟨rfl, hb⟩
          refine ⟨_, rfl, ?_⟩
          exact hK.out _ _ ⟨_, hb⟩ rfl (fun h => by cases h)
        refine StepsP.cons ?_ ?_
        · intro Q s w hC hA K hK
          clear hC
          clear hA
          refine guard_none (by rfl) ?_
          refine wp_value (v := .pointer (some ⟨g2, 1, none⟩)) (w1 := w) ?_ (hK.out _ w (Below.refl _ _) rfl (fun h => by cases h))
          go_simp
          try (first | done | rfl | (simp; done))
        refine StepsP.cons ?_ ?_
        · intro Q s w hC hA K hK
          obtain ⟨hsz, hk_g2, lt_g2, lt_g4, ha_a, hbw⟩ := hC
          obtain ⟨f4, -⟩ := hA
          replace f4 : (s 15) = .pointer (some ⟨g2, 1, none⟩) := f4
          refine guard_none (by rfl) ?_
          have m0_g2 : w.cell? ⟨g2, 0, none⟩ = some (.int .i64 a) := blk_cell hk_g2 0 (by rfl)
          have m1_g2 : w.cell? ⟨g2, 1, none⟩ = some (.int .i64 b) := blk_cell hk_g2 1 (by rfl)
          refine wp_value (v := .int .i64 b) (w1 := w) ?_ (hK.out _ w (Below.refl _ _) rfl (fun h => by cases h))
          try simp only [f4]
          go_simp
          try (first | done | rfl | (simp; done))
        refine StepsP.cons ?_ ?_
        · intro Q s w hC hA K hK
          clear hC
          clear hA
          refine guard_none (by rfl) ?_
          refine wp_value (v := .int .i64 0) (w1 := w) ?_ (hK.out _ w (Below.refl _ _) rfl (fun h => by cases h))
          go_simp
          try (first | done | rfl | (simp; done))
        refine StepsP.cons ?_ ?_
        · intro Q s w hC hA K hK
          obtain ⟨hsz, hk_g2, lt_g2, lt_g4, ha_a, hbw⟩ := hC
          obtain ⟨f5, f6, -⟩ := hA
          replace f5 : (s 16) = .int .i64 b := f5
          replace f6 : (s 17) = .int .i64 0 := f6
          refine guard_none (by rfl) ?_
          refine wp_value (v := .slice (some ⟨w.heap.size, 0, none⟩) 2 2) (w1 := w.alloc (.cells #[.int .i64 b, .int .i64 0] 3)) ?_ (hK.out _ _ (bl_alloc (Below.refl _ _) _) ⟨w.heap.size, rfl, hsz, blk_new _ _⟩ (fun _ g h => fresh_alloc (by simpa [blkV] using h)))
          try simp only [f5, f6]
          go_simp
          try rfl
        refine StepsP.cons ?_ ?_
        · intro Q s w hC hA K hK
          obtain ⟨hsz, hk_g2, lt_g2, lt_g4, ha_a, hbw⟩ := hC
          obtain ⟨f7, -⟩ := hA
          replace f7 : ∃ g7 : Nat, (s 18) = .slice (some ⟨g7, 0, none⟩) 2 2 ∧ B0 ≤ g7 ∧ w.heap[g7]? = some (.cells #[.int .i64 b, .int .i64 0] 3 (0, 0)) := f7
          refine guard_none (by rfl) ?_
          obtain ⟨g7, a_g7, c_g7, hk_g7⟩ := f7
          obtain ⟨o_a, ho_a⟩ := ha_a
          refine wp_call (N := some 19) (by rfl) Try.func34 (by kernel_rfl) #[.pointer (some ⟨ga, 0, none⟩), .slice (some ⟨g7, 0, none⟩) 2 2] rfl (by rfl) ?_ ?_
          · show [.pointer (some ⟨ga, 0, none⟩), s 18] = [.pointer (some ⟨ga, 0, none⟩), .slice (some ⟨g7, 0, none⟩) 2 2]
            first | rfl | simp only [a_g7]
          refine (hAdd.out _ _ _ ho_a (RdI.of_blk (l := [b, 0]) hk_g7 (by simp))).mono ?_
          rintro e w1 ⟨rfl, hb⟩
          refine ⟨_, rfl, ?_⟩
          exact hK.out _ _ ⟨_, hb⟩ rfl (fun h => by cases h)
        refine StepsP.cons ?_ ?_
        · intro Q s w hC hA K hK
          clear hC
          obtain ⟨f3, f8, -⟩ := hA
          replace f3 : (s 14) = .int .i64 v1 := f3
          replace f8 : (s 19) = .int .i64 v2 := f8
          refine guard_none (by rfl) ?_
          refine wp_value (v := .agg #[.int .i64 v1, .int .i64 v2]) (w1 := w) ?_ (hK.out _ w (Below.refl _ _) rfl (fun h => by cases h))
          try simp only [f3, f8]
          go_simp
          try (first | done | rfl | (simp; done))
        refine StepsP.cons ?_ ?_
        · intro Q s w hC hA K hK
          obtain ⟨hsz, hk_g2, lt_g2, lt_g4, ha_a, hbw⟩ := hC
          obtain ⟨f9, f11, -⟩ := hA
          replace f9 : (s 20) = .agg #[.int .i64 v1, .int .i64 v2] := f9
          replace f11 : w.heap[g4]? = some (.cells #[.int .i64 0, .int .i64 0] 25 (0, 0)) := f11
          refine guard_none (by rfl) ?_
          have hk_g4 := f11
          have m0_g4 : w.cell? ⟨g4, 0, none⟩ = some (.int .i64 0) := blk_cell hk_g4 0 (by rfl)
          have z0_g4 : w.frozen? ⟨g4, 0, none⟩ = false := blkf hk_g4 0
          have m1_g4 : w.cell? ⟨g4, 1, none⟩ = some (.int .i64 0) := blk_cell hk_g4 1 (by rfl)
          have z1_g4 : w.frozen? ⟨g4, 1, none⟩ = false := blkf hk_g4 1
          refine wp_skip_ (w1 := ((w.setCell ⟨g4, 0, none⟩ (.int .i64 v1)).setCell ⟨g4, 1, none⟩ (.int .i64 v2))) ?_ (hK.out undef _ (Or.inr ⟨fun k_ o_ hne_ h_ => (blk_far (blk_far h_ (a := ⟨g4, 0, none⟩) (Ne.symm hne_) (.int .i64 v1)) (a := ⟨g4, 1, none⟩) (Ne.symm hne_) (.int .i64 v2)), by simp [World.setCell], (Below.setCell (Below.setCell (Below.refl _ _) (p := ⟨g4, 0, none⟩) (Nat.le_refl _) (.int .i64 v1)) (p := ⟨g4, 1, none⟩) (Nat.le_refl _) (.int .i64 v2))⟩) (blk_set (blk_set hk_g4 0 (.int .i64 v1)) 1 (.int .i64 v2)) (fun h => by cases h))
          try simp only [f9]
          go_simp
          try rfl
        exact StepsP.nil
      obtain ⟨hsz, hk_g2, lt_g2, lt_g4, ha_a, hbw⟩ := hC
      obtain ⟨f10, -⟩ := hA
      replace f10 : w.heap[g4]? = some (.cells #[.int .i64 v1, .int .i64 v2] 25 (0, 0)) := f10
      have hk_g4 := f10
      go_wp2
      refine bodyPost_ret (results_cell_row rfl _ _ (g4) 25 #[.int .i64 (v1), .int .i64 (v2)] (0, 0) _ rfl (by (repeat (first | with_reducible assumption | with_reducible exact blk_new _ _ | with_reducible apply blk_drew | (with_reducible refine blk_newE ?_; (first | done | (simp; done))) | with_reducible apply blk_put2 | (with_reducible refine blk_far ?_ (by first | omega | (simp; done) | (simp; omega)) _) | with_reducible apply blk_alloc | (with_reducible refine bl_block (by assumption) ?_) | (with_reducible refine blk_grown ?_ (by assumption) (by assumption)) | (with_reducible refine blk_acc (by assumption) ?_ (by assumption))))) Try.underlying25 rfl (by kernel_rfl)) rfl ?_
      subst hw0
      first | exact ⟨rfl, hbw⟩ | exact ⟨by rw [← hv1, ← hv2, Int.sub_zero, Int.add_zero], hbw⟩
    · have e1 : wideS ⟨a, b⟩ n = ⟨clampI (a - n), clampI (b + n)⟩ := by unfold wideS mxI; rw [if_neg h1, if_neg hn]
      rw [e1]
      clear e1
      go_enter Try.func110, Try.ntmps110
      go_upto_region 1 with fail
      have hk_g2 := blk_alloc (blk_new w (.cells #[.int .i64 a, .int .i64 b] 25)) (.cells #[.int .i64 0, .int .i64 0] 25)
      have hk_g4 := blk_new (w.alloc (.cells #[.int .i64 a, .int .i64 b] 25)) (.cells #[.int .i64 0, .int .i64 0] 25)
      obtain ⟨w0, hw0⟩ : ∃ z : World, z = w := ⟨_, rfl⟩
      have hbw : Below w0.heap.size w0 ((w.alloc (.cells #[.int .i64 a, .int .i64 b] 25)).alloc (.cells #[.int .i64 0, .int .i64 0] 25)) := by rw [hw0]; exact bl_alloc (bl_alloc (Below.refl w.heap.size w) _) _
      have h24 : w0.heap.size ≤ w.heap.size := by rw [hw0]; omega
      have hsz : (w.alloc (.cells #[.int .i64 a, .int .i64 b] 25)).heap.size = w.heap.size + 1 := by simp
      rw [hsz] at hk_g4
      generalize (w.alloc (.cells #[.int .i64 a, .int .i64 b] 25)).alloc (.cells #[.int .i64 0, .int .i64 0] 25) = W1 at *
      obtain ⟨g2, hg2⟩ : ∃ g, w.heap.size = g := ⟨_, rfl⟩
      rw [hg2] at hk_g2 hk_g4 h24
      rw [hg2]
      obtain ⟨g4, hg4⟩ : ∃ g, g2 + 1 = g := ⟨_, rfl⟩
      rw [hg4] at hk_g4
      rw [hg4]
      have h4 : g2 < g4 := by omega
      clear hg2 hsz hg4
      have m2 := blk_two hk_g2
      go_wp2_with fail
      refine (Empty_calls _ _ _).mono ?_
      rintro e w1 ⟨rfl, hb1⟩
      rw [h2]
      replace hbw := bl_step hbw hb1
      replace hk_g2 := bl_block hb1 hk_g2
      replace hk_g4 := bl_block hb1 hk_g4
      clear m2 hb1
      go_upto_region 4 with fail
      have hbA := bl_alloc (Below.refl w1.heap.size w1) (.cells #[.bool false] 65)
      have ha_a := AccAt.blk (blk_new w1 (.cells #[.bool false] 65))
      have hlt4 := blk_lt hk_g4
      replace hbw := bl_step hbw hbA
      replace hk_g2 := bl_block hbA hk_g2
      replace hk_g4 := bl_block hbA hk_g4
      generalize w1.alloc (.cells #[.bool false] 65) = W2 at *
      obtain ⟨ga, hga⟩ : ∃ g, w1.heap.size = g := ⟨_, rfl⟩
      rw [hga] at ha_a hlt4
      rw [hga]
      clear hga hbA
      go_upto_region 5 with fail
      have hl_a : w0.heap.size ≤ (⟨ga, 0, none⟩ : Addr).block := by show w0.heap.size ≤ ga; omega
      have p_a_g2 : PNe (some ⟨ga, 0, none⟩) g2 := PNe.of (by show ga ≠ g2; omega)
      have p_a_g4 : PNe (some ⟨ga, 0, none⟩) g4 := PNe.of (by show ga ≠ g4; omega)
      have n_g2_g4 : g2 ≠ g4 := by omega
      have n_a_g4 : ga ≠ g4 := by omega
      have hle_g4 : w0.heap.size ≤ g4 := by omega
      have hInI : InI [b, n] := by intro x hx; simp only [List.mem_cons, List.not_mem_nil, or_false] at hx; rcases hx with rfl | rfl <;> omega
      have hSub := hidI (fun W o (h : AccAt W (some ⟨ga, 0, none⟩) o) => Sub_calls (some ⟨ga, 0, none⟩) a n o W h ha0 ha1 (by omega) (by omega))
      have hAdd := hidI (fun W o A (h : AccAt W (some ⟨ga, 0, none⟩) o) (hl : RdI W A [b, n]) => Add_calls (some ⟨ga, 0, none⟩) A [b, n] 2 o W h hl hInI)
      rw [show sumI [b, n] = b + n by simp [sumI]] at hAdd
      obtain ⟨v1, hv1⟩ : ∃ z, clampI (a - n) = z := ⟨_, rfl⟩
      obtain ⟨v2, hv2⟩ : ∃ z, clampI (b + n) = z := ⟨_, rfl⟩
      rw [hv1] at hSub
      rw [hv2] at hAdd
      clear ha0 ha1 hb0 hb1 hn0 hn1
      obtain ⟨B0, hB0⟩ : ∃ B, B = W2.heap.size := ⟨_, rfl⟩
      have c0_hsz : B0 ≤ W2.heap.size := Nat.le_of_eq hB0
      have hw0B0 : w0.heap.size ≤ B0 := by rw [hB0]; exact hbw.size
      have c0_hle : W2.heap.size ≤ B0 := Nat.le_of_eq hB0.symm
      have c0_hk_g2 := blk_drew hk_g2
      have c0_lt_g2 : g2 < B0 := by rw [hB0]; exact blk_lt hk_g2
      have c0_hk_g4 := blk_drew hk_g4
      have c0_lt_g4 : g4 < B0 := by rw [hB0]; exact blk_lt hk_g4
      have c0_ha_a : ∃ o, AccAt W2.drew (some ⟨ga, 0, none⟩) o := ⟨_, AccAt.below ha_a (bl_drew (Below.refl _ _))⟩
      have lt_acc_a : ga < B0 := by rw [hB0]; exact World.block_lt_of_cell? _ _ ha_a.1
      have c0_hbw := bl_drew hbw
      clear hB0 hbw hk_g2 hk_g4
      refine region_linM (n := 11) (st := ?st12) { R := [0, 1, 0, 7, 0, 16, 0, 112, 255, 511, 1023], kill := [[], [], [], [], [], [], [], [], [], [], [], [10]], cls := [0, 0, 0, 1, 0, 0, 0, 0, 1, 0, 2], dst := [some 11, some 12, some 13, some 14, some 15, some 16, some 17, some 18, some 19, some 20, none], pre := [[], [0], [], [1, 2], [], [4], [], [5, 6], [7], [3, 8], [9, 11]], cov := [(0, 7), (0, 11), (1, 7), (1, 11), (2, 7)], fin := [10], locs := [(7, 18)], tgt := [none, none, none], abt := [none, none, none, none, none, none, none, some 18, none, none, none], m := 1 }
        [.v [11] (fun vs => (vs.getD 0 undef) = .pointer (some ⟨g2, 0, none⟩)),
         .v [12] (fun vs => (vs.getD 0 undef) = .int .i64 a),
         .v [13] (fun vs => (vs.getD 0 undef) = .int .i64 n),
         .v [14] (fun vs => (vs.getD 0 undef) = .int .i64 v1),
         .v [15] (fun vs => (vs.getD 0 undef) = .pointer (some ⟨g2, 1, none⟩)),
         .v [16] (fun vs => (vs.getD 0 undef) = .int .i64 b),
         .v [17] (fun vs => (vs.getD 0 undef) = .int .i64 n),
         .w [18] (fun vs w => ∃ g7 : Nat, (vs.getD 0 undef) = .slice (some ⟨g7, 0, none⟩) 2 2 ∧ B0 ≤ g7 ∧ w.heap[g7]? = some (.cells #[.int .i64 b, .int .i64 n] 3 (0, 0))),
         .v [19] (fun vs => (vs.getD 0 undef) = .int .i64 v2),
         .v [20] (fun vs => (vs.getD 0 undef) = .agg #[.int .i64 v1, .int .i64 v2]),
         .w [] (fun vs w => w.heap[g4]? = some (.cells #[.int .i64 v1, .int .i64 v2] 25 (0, 0))),
         .w [] (fun vs w => w.heap[g4]? = some (.cells #[.int .i64 0, .int .i64 0] 25 (0, 0)))]
        (fun w => B0 ≤ w.heap.size ∧ w.heap[g2]? = some (.cells #[.int .i64 a, .int .i64 b] 25 (0, 0)) ∧ g2 < B0 ∧ g4 < B0 ∧ (∃ o, AccAt w (some ⟨ga, 0, none⟩) o) ∧ Below w0.heap.size w0 w)
        (fun c => ([fun s w w' => Below w.heap.size w w', fun s w w' => ∃ o, Below w.heap.size (orCell w (some ⟨ga, 0, none⟩) o) w', fun s w w' => w' = w ∨ ((∀ k o, k ≠ g4 → w.heap[k]? = some o → w'.heap[k]? = some o) ∧ w'.heap.size = w.heap.size ∧ Below g4 w w')] : List ((Nat → Value) → World → World → Prop)).getD c (fun s w w' => w' = w))
        [11, 12, 13, 14, 15, 16, 17, 18, 19, 20] (by kernel_rfl) ⟨by kernel_rfl, by kernel_rfl, by kernel_rfl, by kernel_rfl, by kernel_rfl, by kernel_rfl, by kernel_rfl, by kernel_rfl⟩ (fun s => ?_) ?_ ?_ ?_ ?_ ?_ ?_ (fun s w hC hA => ?_)
      rotate_left
      · simp only [fillS, List.foldl, List.setIfInBounds_toArray, List.set_cons_zero, List.set_cons_succ]; rfl
      · exact ⟨c0_hsz, c0_hk_g2, c0_lt_g2, c0_lt_g4, c0_ha_a, c0_hbw⟩
      · exact ⟨c0_hk_g4, trivial⟩
      · intro c s w w' hE
        match c, hE with
        | 0, hE => exact Below.size hE
        | 1, hE => replace hE : ∃ o, Below w.heap.size (orCell w (some ⟨ga, 0, none⟩) o) w' := hE; obtain ⟨o, hE⟩ := hE; have h_ := Below.size hE; rwa [orCell_size] at h_
        | 2, hE => replace hE : w' = w ∨ ((∀ k o, k ≠ g4 → w.heap[k]? = some o → w'.heap[k]? = some o) ∧ w'.heap.size = w.heap.size ∧ Below g4 w w') := hE; rcases hE with hE | ⟨_, hE, _⟩; exact Nat.le_of_eq (by rw [hE]); exact Nat.le_of_eq hE.symm
        | c + 3, hE => cases hE; exact Nat.le_refl _
      · rintro c s w w' ⟨hsz, hk_g2, lt_g2, lt_g4, ha_a, hbw⟩ hE
        match c, hE with
        | 0, hE => replace hE : Below w.heap.size w w' := hE; exact ⟨Nat.le_trans hsz hE.size, bl_block hE hk_g2, lt_g2, lt_g4, ha_a.imp fun _ h => h.below hE, bl_step hbw hE⟩
        | 1, hE => replace hE : ∃ o, Below w.heap.size (orCell w (some ⟨ga, 0, none⟩) o) w' := hE; obtain ⟨o, hE⟩ := hE; exact ⟨Nat.le_trans hsz (by have h_ := hE.size; rwa [orCell_size] at h_), blk_acc hE hk_g2 p_a_g2, lt_g2, lt_g4, (by obtain ⟨o2, h2⟩ := ha_a; exact ⟨_, h2.or hE⟩), bl_own hbw hl_a hE⟩
        | 2, hE =>
          replace hE : w' = w ∨ ((∀ k o, k ≠ g4 → w.heap[k]? = some o → w'.heap[k]? = some o) ∧ w'.heap.size = w.heap.size ∧ Below g4 w w') := hE
          rcases hE with rfl | ⟨hkeep, hsz_, hBl⟩
          · exact ⟨hsz, hk_g2, lt_g2, lt_g4, ha_a, hbw⟩
          · exact ⟨by omega, hkeep _ _ n_g2_g4 hk_g2, lt_g2, lt_g4, ha_a.imp fun _ h => AccAt.keep' h hkeep n_a_g4, hbw.trans (Below.mono hBl hle_g4)⟩
        | c + 3, hE => cases hE; exact ⟨hsz, hk_g2, lt_g2, lt_g4, ha_a, hbw⟩
      · refine ⟨?_, ?_, ?_, ?_, ?_, trivial⟩
        · intro s w w' hD hC hE hF
          replace hF : ∃ g7 : Nat, (s 18) = .slice (some ⟨g7, 0, none⟩) 2 2 ∧ B0 ≤ g7 ∧ w.heap[g7]? = some (.cells #[.int .i64 b, .int .i64 n] 3 (0, 0)) := hF
          show ∃ g7 : Nat, (s 18) = .slice (some ⟨g7, 0, none⟩) 2 2 ∧ B0 ≤ g7 ∧ w'.heap[g7]? = some (.cells #[.int .i64 b, .int .i64 n] 3 (0, 0))
          replace hE : Below w.heap.size w w' := hE
          obtain ⟨g7, h1, h2, h3⟩ := hF
          exact ⟨g7, h1, h2, bl_block hE h3⟩
        · intro s w w' hD hC hE hF
          replace hF : w.heap[g4]? = some (.cells #[.int .i64 0, .int .i64 0] 25 (0, 0)) := hF
          show w'.heap[g4]? = some (.cells #[.int .i64 0, .int .i64 0] 25 (0, 0))
          replace hE : Below w.heap.size w w' := hE
          exact bl_block hE (hF)
        · intro s w w' hD hC hE hF
          replace hF : ∃ g7 : Nat, (s 18) = .slice (some ⟨g7, 0, none⟩) 2 2 ∧ B0 ≤ g7 ∧ w.heap[g7]? = some (.cells #[.int .i64 b, .int .i64 n] 3 (0, 0)) := hF
          show ∃ g7 : Nat, (s 18) = .slice (some ⟨g7, 0, none⟩) 2 2 ∧ B0 ≤ g7 ∧ w'.heap[g7]? = some (.cells #[.int .i64 b, .int .i64 n] 3 (0, 0))
          replace hE : ∃ o, Below w.heap.size (orCell w (some ⟨ga, 0, none⟩) o) w' := hE
          obtain ⟨o, hE⟩ := hE
          obtain ⟨hsz, hk_g2, lt_g2, lt_g4, ha_a, hbw⟩ := hC
          obtain ⟨g7, h1, h2, h3⟩ := hF
          exact ⟨g7, h1, h2, blk_acc hE h3 (PNe.of (by have := lt_acc_a; simp only []; omega))⟩
        · intro s w w' hD hC hE hF
          replace hF : w.heap[g4]? = some (.cells #[.int .i64 0, .int .i64 0] 25 (0, 0)) := hF
          show w'.heap[g4]? = some (.cells #[.int .i64 0, .int .i64 0] 25 (0, 0))
          replace hE : ∃ o, Below w.heap.size (orCell w (some ⟨ga, 0, none⟩) o) w' := hE
          obtain ⟨o, hE⟩ := hE
          obtain ⟨hsz, hk_g2, lt_g2, lt_g4, ha_a, hbw⟩ := hC
          exact blk_acc hE (hF) p_a_g4
        · intro s w w' hD hC hE hF
          replace hF : ∃ g7 : Nat, (s 18) = .slice (some ⟨g7, 0, none⟩) 2 2 ∧ B0 ≤ g7 ∧ w.heap[g7]? = some (.cells #[.int .i64 b, .int .i64 n] 3 (0, 0)) := hF
          show ∃ g7 : Nat, (s 18) = .slice (some ⟨g7, 0, none⟩) 2 2 ∧ B0 ≤ g7 ∧ w'.heap[g7]? = some (.cells #[.int .i64 b, .int .i64 n] 3 (0, 0))
          replace hE : w' = w ∨ ((∀ k o, k ≠ g4 → w.heap[k]? = some o → w'.heap[k]? = some o) ∧ w'.heap.size = w.heap.size ∧ Below g4 w w') := hE
          rcases hE with rfl | ⟨hkeep, hsz_, hBl⟩
          · exact hF
          obtain ⟨g7, h1, h2, h3⟩ := hF
          exact ⟨g7, h1, h2, hkeep _ _ (by have := c0_lt_g4; omega) h3⟩
      · skip
        refine StepsP.cons ?_ ?_
        · intro Q s w hC hA K hK
          clear hC
          clear hA
          refine guard_none (by rfl) ?_
          refine wp_value (v := .pointer (some ⟨g2, 0, none⟩)) (w1 := w) ?_ (hK.out _ w (Below.refl _ _) rfl (fun h => by cases h))
          go_simp
          try (first | done | rfl | (simp; done))
        refine StepsP.cons ?_ ?_
        · intro Q s w hC hA K hK
          obtain ⟨hsz, hk_g2, lt_g2, lt_g4, ha_a, hbw⟩ := hC
          obtain ⟨f0, -⟩ := hA
          replace f0 : (s 11) = .pointer (some ⟨g2, 0, none⟩) := f0
          refine guard_none (by rfl) ?_
          have m0_g2 : w.cell? ⟨g2, 0, none⟩ = some (.int .i64 a) := blk_cell hk_g2 0 (by rfl)
          have m1_g2 : w.cell? ⟨g2, 1, none⟩ = some (.int .i64 b) := blk_cell hk_g2 1 (by rfl)
          refine wp_value (v := .int .i64 a) (w1 := w) ?_ (hK.out _ w (Below.refl _ _) rfl (fun h => by cases h))
          try simp only [f0]
          go_simp
          try (first | done | rfl | (simp; done))
        refine StepsP.cons ?_ ?_
        · intro Q s w hC hA K hK
          clear hC
          clear hA
          refine guard_none (by rfl) ?_
          refine wp_value (v := .int .i64 n) (w1 := w) ?_ (hK.out _ w (Below.refl _ _) rfl (fun h => by cases h))
          go_simp
          try (first | done | rfl | (simp; done))
        refine StepsP.cons ?_ ?_
        · intro Q s w hC hA K hK
          obtain ⟨hsz, hk_g2, lt_g2, lt_g4, ha_a, hbw⟩ := hC
          obtain ⟨f1, f2, -⟩ := hA
          replace f1 : (s 12) = .int .i64 a := f1
          replace f2 : (s 13) = .int .i64 n := f2
          refine guard_none (by rfl) ?_
          obtain ⟨o_a, ho_a⟩ := ha_a
          refine wp_call (N := some 14) (by rfl) Try.func122 (by kernel_rfl) #[.pointer (some ⟨ga, 0, none⟩), .int .i64 a, .int .i64 n] rfl (by rfl) ?_ ?_
          · show [.pointer (some ⟨ga, 0, none⟩), s 12, s 13] = [.pointer (some ⟨ga, 0, none⟩), .int .i64 a, .int .i64 n]
            first | rfl | simp only [f1, f2]
          refine (hSub.out _ _ ho_a).mono ?_
          rintro e w1 ⟨rfl, hb⟩
          refine ⟨_, rfl, ?_⟩
          exact hK.out _ _ ⟨_, hb⟩ rfl (fun h => by cases h)
        refine StepsP.cons ?_ ?_
        · intro Q s w hC hA K hK
          clear hC
          clear hA
          refine guard_none (by rfl) ?_
          refine wp_value (v := .pointer (some ⟨g2, 1, none⟩)) (w1 := w) ?_ (hK.out _ w (Below.refl _ _) rfl (fun h => by cases h))
          go_simp
          try (first | done | rfl | (simp; done))
        refine StepsP.cons ?_ ?_
        · intro Q s w hC hA K hK
          obtain ⟨hsz, hk_g2, lt_g2, lt_g4, ha_a, hbw⟩ := hC
          obtain ⟨f4, -⟩ := hA
          replace f4 : (s 15) = .pointer (some ⟨g2, 1, none⟩) := f4
          refine guard_none (by rfl) ?_
          have m0_g2 : w.cell? ⟨g2, 0, none⟩ = some (.int .i64 a) := blk_cell hk_g2 0 (by rfl)
          have m1_g2 : w.cell? ⟨g2, 1, none⟩ = some (.int .i64 b) := blk_cell hk_g2 1 (by rfl)
          refine wp_value (v := .int .i64 b) (w1 := w) ?_ (hK.out _ w (Below.refl _ _) rfl (fun h => by cases h))
          try simp only [f4]
          go_simp
          try (first | done | rfl | (simp; done))
        refine StepsP.cons ?_ ?_
        · intro Q s w hC hA K hK
          clear hC
          clear hA
          refine guard_none (by rfl) ?_
          refine wp_value (v := .int .i64 n) (w1 := w) ?_ (hK.out _ w (Below.refl _ _) rfl (fun h => by cases h))
          go_simp
          try (first | done | rfl | (simp; done))
        refine StepsP.cons ?_ ?_
        · intro Q s w hC hA K hK
          obtain ⟨hsz, hk_g2, lt_g2, lt_g4, ha_a, hbw⟩ := hC
          obtain ⟨f5, f6, -⟩ := hA
          replace f5 : (s 16) = .int .i64 b := f5
          replace f6 : (s 17) = .int .i64 n := f6
          refine guard_none (by rfl) ?_
          refine wp_value (v := .slice (some ⟨w.heap.size, 0, none⟩) 2 2) (w1 := w.alloc (.cells #[.int .i64 b, .int .i64 n] 3)) ?_ (hK.out _ _ (bl_alloc (Below.refl _ _) _) ⟨w.heap.size, rfl, hsz, blk_new _ _⟩ (fun _ g h => fresh_alloc (by simpa [blkV] using h)))
          try simp only [f5, f6]
          go_simp
          try rfl
        refine StepsP.cons ?_ ?_
        · intro Q s w hC hA K hK
          obtain ⟨hsz, hk_g2, lt_g2, lt_g4, ha_a, hbw⟩ := hC
          obtain ⟨f7, -⟩ := hA
          replace f7 : ∃ g7 : Nat, (s 18) = .slice (some ⟨g7, 0, none⟩) 2 2 ∧ B0 ≤ g7 ∧ w.heap[g7]? = some (.cells #[.int .i64 b, .int .i64 n] 3 (0, 0)) := f7
          refine guard_none (by rfl) ?_
          obtain ⟨g7, a_g7, c_g7, hk_g7⟩ := f7
          obtain ⟨o_a, ho_a⟩ := ha_a
          refine wp_call (N := some 19) (by rfl) Try.func34 (by kernel_rfl) #[.pointer (some ⟨ga, 0, none⟩), .slice (some ⟨g7, 0, none⟩) 2 2] rfl (by rfl) ?_ ?_
          · show [.pointer (some ⟨ga, 0, none⟩), s 18] = [.pointer (some ⟨ga, 0, none⟩), .slice (some ⟨g7, 0, none⟩) 2 2]
            first | rfl | simp only [a_g7]
          refine (hAdd.out _ _ _ ho_a (RdI.of_blk (l := [b, n]) hk_g7 (by simp))).mono ?_
          rintro e w1 ⟨rfl, hb⟩
          refine ⟨_, rfl, ?_⟩
          exact hK.out _ _ ⟨_, hb⟩ rfl (fun h => by cases h)
        refine StepsP.cons ?_ ?_
        · intro Q s w hC hA K hK
          clear hC
          obtain ⟨f3, f8, -⟩ := hA
          replace f3 : (s 14) = .int .i64 v1 := f3
          replace f8 : (s 19) = .int .i64 v2 := f8
          refine guard_none (by rfl) ?_
          refine wp_value (v := .agg #[.int .i64 v1, .int .i64 v2]) (w1 := w) ?_ (hK.out _ w (Below.refl _ _) rfl (fun h => by cases h))
          try simp only [f3, f8]
          go_simp
          try (first | done | rfl | (simp; done))
        refine StepsP.cons ?_ ?_
        · intro Q s w hC hA K hK
          obtain ⟨hsz, hk_g2, lt_g2, lt_g4, ha_a, hbw⟩ := hC
          obtain ⟨f9, f11, -⟩ := hA
          replace f9 : (s 20) = .agg #[.int .i64 v1, .int .i64 v2] := f9
          replace f11 : w.heap[g4]? = some (.cells #[.int .i64 0, .int .i64 0] 25 (0, 0)) := f11
          refine guard_none (by rfl) ?_
          have hk_g4 := f11
          have m0_g4 : w.cell? ⟨g4, 0, none⟩ = some (.int .i64 0) := blk_cell hk_g4 0 (by rfl)
          have z0_g4 : w.frozen? ⟨g4, 0, none⟩ = false := blkf hk_g4 0
          have m1_g4 : w.cell? ⟨g4, 1, none⟩ = some (.int .i64 0) := blk_cell hk_g4 1 (by rfl)
          have z1_g4 : w.frozen? ⟨g4, 1, none⟩ = false := blkf hk_g4 1
          refine wp_skip_ (w1 := ((w.setCell ⟨g4, 0, none⟩ (.int .i64 v1)).setCell ⟨g4, 1, none⟩ (.int .i64 v2))) ?_ (hK.out undef _ (Or.inr ⟨fun k_ o_ hne_ h_ => (blk_far (blk_far h_ (a := ⟨g4, 0, none⟩) (Ne.symm hne_) (.int .i64 v1)) (a := ⟨g4, 1, none⟩) (Ne.symm hne_) (.int .i64 v2)), by simp [World.setCell], (Below.setCell (Below.setCell (Below.refl _ _) (p := ⟨g4, 0, none⟩) (Nat.le_refl _) (.int .i64 v1)) (p := ⟨g4, 1, none⟩) (Nat.le_refl _) (.int .i64 v2))⟩) (blk_set (blk_set hk_g4 0 (.int .i64 v1)) 1 (.int .i64 v2)) (fun h => by cases h))
          try simp only [f9]
          go_simp
          try rfl
        exact StepsP.nil
      obtain ⟨hsz, hk_g2, lt_g2, lt_g4, ha_a, hbw⟩ := hC
      obtain ⟨f10, -⟩ := hA
      replace f10 : w.heap[g4]? = some (.cells #[.int .i64 v1, .int .i64 v2] 25 (0, 0)) := f10
      have hk_g4 := f10
      go_wp2
      refine bodyPost_ret (results_cell_row rfl _ _ (g4) 25 #[.int .i64 (v1), .int .i64 (v2)] (0, 0) _ rfl (by (repeat (first | with_reducible assumption | with_reducible exact blk_new _ _ | with_reducible apply blk_drew | (with_reducible refine blk_newE ?_; (first | done | (simp; done))) | with_reducible apply blk_put2 | (with_reducible refine blk_far ?_ (by first | omega | (simp; done) | (simp; omega)) _) | with_reducible apply blk_alloc | (with_reducible refine bl_block (by assumption) ?_) | (with_reducible refine blk_grown ?_ (by assumption) (by assumption)) | (with_reducible refine blk_acc (by assumption) ?_ (by assumption))))) Try.underlying25 rfl (by kernel_rfl)) rfl ?_
      subst hw0
      first | exact ⟨rfl, hbw⟩ | exact ⟨by rw [← hv1, ← hv2, Int.sub_zero, Int.add_zero], hbw⟩
set_option maxRecDepth 100000 in
theorem CloneS_own (A : Option Addr) (l : List Sp) (c : Nat) (w : World) (hl : RdS w A l) (hs : l.length ≤ 1000000) :
    Calls Try.prog 74 #[.slice A l.length c] w fun e w' => ∃ v, e = .returned v ∧ w'.ownsRow w.heap.size 25 2 v l.length (encS l) ∧ Below w.heap.size w w' := by
  have hR := hl.2
  have hvs : (encS l).length = l.length * 2 := encS_length l
  have h1 : ∀ u ∈ encS l, u.oneCell' = true := by intro u hu; unfold encS at hu; obtain ⟨x, _, hx⟩ := List.mem_flatMap.1 hu; simp at hx; rcases hx with rfl | rfl <;> rfl
  rcases A with _ | ad
  · obtain rfl : l = [] := by
      cases l with
      | nil => rfl
      | cons x l => obtain ⟨b, off, e, _⟩ := hR 0 _ (List.getElem?_eq_getElem (by rw [hvs]; simp)); cases e
    have hu := Try.underlying26
    go_enter Try.func74, Try.ntmps74
    go_wp2
    go_ret
    exact ⟨_, rfl, World.ownsRow_nil _ _ _ _, Below.refl _ _⟩
  · have hu := Try.underlying26
    obtain ⟨vs, hvE⟩ : ∃ z, z = encS l := ⟨_, rfl⟩
    rw [← hvE] at hR hvs h1
    replace hvE := hidI hvE
    go_enter Try.func74, Try.ntmps74
    go_upto_region 3 with fail
    go_wp2_with (first | (at_builtin; go_loud (refine list_appRd w.heap.size rfl (.tmp 5) (.tmp 6) 26 25 _ 2 _ rfl Try.underlying26 infoSp (by rfl) (by omega) (.slice (some ⟨w.heap.size, 0, none⟩) 0 0) 0 [] (some ad) l.length c vs rfl rfl (own_fresh (cs := #[]) (Nat.le_refl _) (blk_new _ _) (by rfl) (by omega)) (by rw [hvs]) (hR.below (bl_alloc (Below.refl _ _) _)) h1 (by omega) (by omega) (bl_alloc (Below.refl _ _) _).size ?_); intro v1 w1 ho1 hg1 ha1) | fail)
    have hbw : Below w.heap.size w w1 := bl_grown (bl_alloc (Below.refl _ _) _) hg1 (by intro k hk; simp [Value.ownBlock] at hk; omega)
    rw [List.nil_append, Nat.zero_add] at ho1
    go_ret
    exact ⟨_, rfl, by rw [← hvE.out]; exact ho1, hbw⟩
set_option maxRecDepth 100000 in
theorem CloneI_own (A : Option Addr) (l : List Int) (c : Nat) (w : World) (hl : RdI w A l) (hs : l.length ≤ 1000000) :
    Calls Try.prog 71 #[.slice A l.length c] w fun e w' => ∃ v, e = .returned v ∧ w'.ownsRow w.heap.size 3 1 v l.length (encI l) ∧ Below w.heap.size w w' := by
  have hR := hl.2
  have hvs : (encI l).length = l.length * 1 := by simp [encI]
  have h1 : ∀ u ∈ encI l, u.oneCell' = true := by intro u hu; unfold encI at hu; obtain ⟨x, _, rfl⟩ := List.mem_map.1 hu; rfl
  rcases A with _ | ad
  · obtain rfl : l = [] := by
      cases l with
      | nil => rfl
      | cons x l => obtain ⟨b, off, e, _⟩ := hR 0 _ (List.getElem?_eq_getElem (by rw [hvs]; simp)); cases e
    have hu := Try.underlying23
    go_enter Try.func71, Try.ntmps71
    go_wp2
    go_ret
    exact ⟨_, rfl, World.ownsRow_nil _ _ _ _, Below.refl _ _⟩
  · have hu := Try.underlying23
    obtain ⟨vs, hvE⟩ : ∃ z, z = encI l := ⟨_, rfl⟩
    rw [← hvE] at hR hvs h1
    replace hvE := hidI hvE
    go_enter Try.func71, Try.ntmps71
    go_upto_region 3 with fail
    go_wp2_with (first | (at_builtin; go_loud (refine list_appRd w.heap.size rfl (.tmp 5) (.tmp 6) 23 3 _ 1 _ rfl Try.underlying23 infoI (by rfl) (by omega) (.slice (some ⟨w.heap.size, 0, none⟩) 0 0) 0 [] (some ad) l.length c vs rfl rfl (own_fresh (cs := #[]) (Nat.le_refl _) (blk_new _ _) (by rfl) (by omega)) (by rw [hvs]) (hR.below (bl_alloc (Below.refl _ _) _)) h1 (by omega) (by omega) (bl_alloc (Below.refl _ _) _).size ?_); intro v1 w1 ho1 hg1 ha1) | fail)
    have hbw : Below w.heap.size w w1 := bl_grown (bl_alloc (Below.refl _ _) _) hg1 (by intro k hk; simp [Value.ownBlock] at hk; omega)
    rw [List.nil_append, Nat.zero_add] at ho1
    go_ret
    exact ⟨_, rfl, by rw [← hvE.out]; exact ho1, hbw⟩
theorem Reach_calls (g : Nat) (p : Pl) (u : Sp) (A : Option Addr) (l : List Sp) (c : Nat) (w : World) (hg : GoodP p) (hk : KitAt w g 116 p) (hl : RdS w A l) (hil : InS l) (hiu : InSp u) :
    Calls Try.prog 20 #[.pointer (some ⟨g, 0, none⟩), .agg #[.int .i64 (u.lo), .int .i64 (u.hi)], .slice A l.length c] w fun e w' => ∃ A' c', e = .returned (.tuple #[.slice A' (reachP p u l).1.length c', .bool (reachP p u l).2]) ∧ RdS w' A' (reachP p u l).1 ∧ Below w.heap.size w w' := by
  by_cases h : boxedP p l = true ∧ emptyB u = false
  · exact Reach_yes g p u A l c w hg hk hl hil hiu h.1 h.2
  · have e : reachP p u l = ([], false) := by unfold reachP; rw [if_neg h]
    rw [e]
    refine (Reach_no g p u A l c w hk hl h).mono ?_
    rintro e w' ⟨rfl, hb⟩
    exact ⟨none, 0, rfl, ⟨by simp, RdC.nil _ _⟩, hb⟩
theorem Command_calls (g : Nat) (p : Pl) (A : Option Addr) (l : List Sp) (c : Nat) (w : World) (hg : GoodP p) (hk : KitAt w g 116 p) (hl : RdS w A l) (hil : InS l) :
    Calls Try.prog 21 #[.pointer (some ⟨g, 0, none⟩), .slice A l.length c] w fun e w' => e = .returned (.tuple #[.agg #[.int .i64 ((commandP p l).1.lo), .int .i64 ((commandP p l).1.hi)], .bool (commandP p l).2]) ∧ Below w.heap.size w w' := by
  obtain ⟨h1, h2, h3, h4, h5, h6, h7, h8⟩ := hg.lens
  cases h : boxedP p l
  · have e : commandP p l = (⟨0, -1⟩, false) := by unfold commandP; rw [h]; rfl
    rw [e]
    exact Command_no g p A l c w hk hl h
  · exact Command_yes g p A l c w h8 h2 hg.2.2.2.2.2.2.2.2.1 hg.2.2.2.2.2.2.2.2.2 hk hl hil h
set_option maxHeartbeats 8000000 in
set_option maxRecDepth 100000 in
theorem Copy_calls (g : Nat) (p : Pl) (w : World) (hg : GoodP p) (hk : KitAt w g 116 p) :
    Calls Try.prog 79 #[.pointer (some ⟨g, 0, none⟩)] w fun e w' => ∃ q' : PA, e = .returned (.agg (q'.cells p).toArray) ∧ RdS w' q'.aI p.Inv ∧ p.Inv.length ≤ q'.cI ∧ Below w.heap.size w w' ∧ ∀ a, q'.aI = some a → w.heap.size ≤ a.block := by
  obtain ⟨h1, h2, h3, h4, h5, h6, h7, h8⟩ := hg.lens
  have hA2 : ∀ i, (p.A.getD i []).length ≤ 1000000 := fun i => by
    by_cases hi : i < p.B.length
    · have := (hg.row hi).1; omega
    · rw [List.getD_eq_getElem?_getD, List.getElem?_eq_none (by omega)]; simp
  obtain ⟨q1, q2, hkc, hr1, hr2⟩ := hk
  have hC := hidI (fun W (h : q2.rd W p) => copied_calls2 q2 p W h (by omega) hA2 (by omega) (by omega) (by omega) (by omega) (by omega))
  clear h1 h2 h3 h4 h5 h6 h7 h8 hA2
  obtain ⟨aA, cA, aB, cB, aW, cW, aI, cI, aS, cS, aG, cG⟩ := q2
  unfold PA.cells at hC ⊢
  simp only [] at hC
  go_enter Try.func79, Try.ntmps79
  go_upto_region 1 with fail
  have hk2 := blk_new w (.cells #[.slice none 0 0, .slice none 0 0, .int .i64 0, .int .i64 0, .slice none 0 0, .slice none 0 0, .slice none 0 0, .slice none 0 0, .int .i64 0] 28)
  have hbw := bl_alloc (Below.refl w.heap.size w) (.cells #[.slice none 0 0, .slice none 0 0, .int .i64 0, .int .i64 0, .slice none 0 0, .slice none 0 0, .slice none 0 0, .slice none 0 0, .int .i64 0] 28)
  have hr2' := hr2.below hbw
  replace hkc := bl_block hbw hkc
  clear hr1 hr2
  have hw2 : w.heap.size ≤ w.heap.size := Nat.le_refl _
  generalize w.alloc (.cells #[.slice none 0 0, .slice none 0 0, .int .i64 0, .int .i64 0, .slice none 0 0, .slice none 0 0, .slice none 0 0, .slice none 0 0, .int .i64 0] 28) = W1 at *
  obtain ⟨g2, hg2⟩ : ∃ z, w.heap.size = z := ⟨_, rfl⟩
  have hw2' : w.heap.size ≤ g2 := by omega
  rw [hg2] at hk2
  rw [hg2]
  clear hg2 hw2
  have y0 : W1.cell? ⟨g, 9, none⟩ = some (.slice aA p.A.length cA) := blk_cell hkc 9 (by rfl)
  have y1 : W1.cell? ⟨g, 10, none⟩ = some (.slice aB p.B.length cB) := blk_cell hkc 10 (by rfl)
  have y2 : W1.cell? ⟨g, 11, none⟩ = some (.int .i64 p.inp.lo) := blk_cell hkc 11 (by rfl)
  have y3 : W1.cell? ⟨g, 12, none⟩ = some (.int .i64 p.inp.hi) := blk_cell hkc 12 (by rfl)
  have y4 : W1.cell? ⟨g, 13, none⟩ = some (.slice aW p.W.length cW) := blk_cell hkc 13 (by rfl)
  have y5 : W1.cell? ⟨g, 14, none⟩ = some (.slice aI p.Inv.length cI) := blk_cell hkc 14 (by rfl)
  have y6 : W1.cell? ⟨g, 15, none⟩ = some (.slice aS p.Safe.length cS) := blk_cell hkc 15 (by rfl)
  have y7 : W1.cell? ⟨g, 16, none⟩ = some (.slice aG p.gain.length cG) := blk_cell hkc 16 (by rfl)
  have y8 : W1.cell? ⟨g, 17, none⟩ = some (.int .i64 p.bias) := blk_cell hkc 17 (by rfl)
  go_wp2_with fail
  refine (hC.out _ hr2').mono ?_
  rintro e w1 ⟨⟨aA', cA', aB', cB', aW', cW', aI', cI', aS', cS', aG', cG'⟩, rfl, hr3, hfI, hb1⟩
  obtain ⟨-, -, -, hI, -, -, -, -, -, kI, -, -⟩ := hr3
  simp only [] at hI hfI kI
  have hg2W := blk_lt hk2
  have hW0 := hbw.size
  replace hbw := bl_step hbw hb1
  replace hk2 := bl_block hb1 hk2
  clear y0 y1 y2 y3 y4 y5 y6 y7 y8 hkc hC hr2' hb1
  have y0 : w1.cell? ⟨g2, 0, none⟩ = some (.slice none 0 0) := blk_cell hk2 0 (by rfl)
  have z0 := blkf hk2 0
  have y1 : w1.cell? ⟨g2, 1, none⟩ = some (.slice none 0 0) := blk_cell hk2 1 (by rfl)
  have z1 := blkf hk2 1
  have y2 : w1.cell? ⟨g2, 2, none⟩ = some (.int .i64 0) := blk_cell hk2 2 (by rfl)
  have z2 := blkf hk2 2
  have y3 : w1.cell? ⟨g2, 3, none⟩ = some (.int .i64 0) := blk_cell hk2 3 (by rfl)
  have z3 := blkf hk2 3
  have y4 : w1.cell? ⟨g2, 4, none⟩ = some (.slice none 0 0) := blk_cell hk2 4 (by rfl)
  have z4 := blkf hk2 4
  have y5 : w1.cell? ⟨g2, 5, none⟩ = some (.slice none 0 0) := blk_cell hk2 5 (by rfl)
  have z5 := blkf hk2 5
  have y6 : w1.cell? ⟨g2, 6, none⟩ = some (.slice none 0 0) := blk_cell hk2 6 (by rfl)
  have z6 := blkf hk2 6
  have y7 : w1.cell? ⟨g2, 7, none⟩ = some (.slice none 0 0) := blk_cell hk2 7 (by rfl)
  have z7 := blkf hk2 7
  have y8 : w1.cell? ⟨g2, 8, none⟩ = some (.int .i64 0) := blk_cell hk2 8 (by rfl)
  have z8 := blkf hk2 8
  have hlt2 := blk_lt hk2
  go_wp2
  refine bodyPost_ret (results_cell_row rfl _ _ g2 28 #[.slice aA' p.A.length cA', .slice aB' p.B.length cB', .int .i64 p.inp.lo, .int .i64 p.inp.hi, .slice aW' p.W.length cW', .slice aI' p.Inv.length cI', .slice aS' p.Safe.length cS', .slice aG' p.gain.length cG', .int .i64 p.bias] (0, 0) _ rfl (blk_set (blk_set (blk_set (blk_set (blk_set (blk_set (blk_set (blk_set (blk_set hk2 0 (.slice aA' p.A.length cA')) 1 (.slice aB' p.B.length cB')) 2 (.int .i64 p.inp.lo)) 3 (.int .i64 p.inp.hi)) 4 (.slice aW' p.W.length cW')) 5 (.slice aI' p.Inv.length cI')) 6 (.slice aS' p.Safe.length cS')) 7 (.slice aG' p.gain.length cG')) 8 (.int .i64 p.bias)) Try.underlying28 rfl (by kernel_rfl)) rfl ?_
  exact ⟨⟨aA', cA', aB', cB', aW', cW', aI', cI', aS', cS', aG', cG'⟩, rfl, hI.keepX ((((((((((KeepX.refl (fun z => z = g2) w1).set (p := ⟨g2, 0, none⟩) rfl (.slice aA' p.A.length cA')).set (p := ⟨g2, 1, none⟩) rfl (.slice aB' p.B.length cB')).set (p := ⟨g2, 2, none⟩) rfl (.int .i64 p.inp.lo)).set (p := ⟨g2, 3, none⟩) rfl (.int .i64 p.inp.hi)).set (p := ⟨g2, 4, none⟩) rfl (.slice aW' p.W.length cW')).set (p := ⟨g2, 5, none⟩) rfl (.slice aI' p.Inv.length cI')).set (p := ⟨g2, 6, none⟩) rfl (.slice aS' p.Safe.length cS')).set (p := ⟨g2, 7, none⟩) rfl (.slice aG' p.gain.length cG')).set (p := ⟨g2, 8, none⟩) rfl (.int .i64 p.bias)) (fun _ a ha e => by have h1 := hfI a ha; have h2 : a.block = g2 := e; omega), kI, (bl_set (bl_set (bl_set (bl_set (bl_set (bl_set (bl_set (bl_set (bl_set hbw (p := ⟨g2, 0, none⟩) hw2' _) (p := ⟨g2, 1, none⟩) hw2' _) (p := ⟨g2, 2, none⟩) hw2' _) (p := ⟨g2, 3, none⟩) hw2' _) (p := ⟨g2, 4, none⟩) hw2' _) (p := ⟨g2, 5, none⟩) hw2' _) (p := ⟨g2, 6, none⟩) hw2' _) (p := ⟨g2, 7, none⟩) hw2' _) (p := ⟨g2, 8, none⟩) hw2' _), fun a ha => Nat.le_trans hW0 (hfI a ha)⟩
theorem plField4 (a0 a1 a2 a3 a4 a5 a6 a7 a8 : Value) (w : World) : (Instr.field 28 (.agg #[a0, a1, a2, a3, a4, a5, a6, a7, a8]) 4).run Try.prog w = .ok a5 w := by kernel_rfl
end Go.Proofs.Ythdaidmjjcmccaa
