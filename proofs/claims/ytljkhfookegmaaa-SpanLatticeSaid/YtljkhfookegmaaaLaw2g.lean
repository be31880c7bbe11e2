/- Proved here: lemmas and contracts (what a function of the program computes) that the proofs of the laws of this seat lean on. Conditions: as each theorem states. -/
import Derived.Test.YtljkhfookegmaaaSpan7
import Derived.Test.YtljkhfookegmaaaLaw2a
import Derived.Test.YtljkhfookegmaaaM2
import Derived.Test.YtljkhfookegmaaaLin
set_option linter.unusedVariables false
set_option linter.unusedSimpArgs false
namespace Go.Proofs.Ytljkhfookegmaaa
open Go.RowKit Go.Pk
set_option maxHeartbeats 100000000 in
set_option maxRecDepth 100000 in
theorem SpanLattice_walk (xl xh yl yh zl zh n : Int) (w0 : World) (hx0 : -9223372036854775808 ≤ xl) (hx1 : xl ≤ 9223372036854775807) (hx2 : -9223372036854775808 ≤ xh) (hx3 : xh ≤ 9223372036854775807) (hy0 : -9223372036854775808 ≤ yl) (hy3 : yh ≤ 9223372036854775807) :
    Calls Try.prog 4 #[.agg #[.int .i64 (xl), .int .i64 (xh)], .agg #[.int .i64 (yl), .int .i64 (yh)], .agg #[.int .i64 (zl), .int .i64 (zh)], .int .i64 n] w0 fun e w' => e = .returned (.bool true) ∧ Below w0.heap.size w0 w' := by
  have e1 := joinS2 ⟨xl, xh⟩ ⟨yl, yh⟩
  have e2 := meetS2 ⟨xl, xh⟩ ⟨yl, yh⟩ hx0 hx3
  have e3 := joinS2 ⟨yl, yh⟩ ⟨zl, zh⟩
  have e4 := meetS2 ⟨yl, yh⟩ ⟨zl, zh⟩ hy0 hy3
  have e5 := joinS2 ⟨xl, xh⟩ (jn ⟨yl, yh⟩ ⟨zl, zh⟩)
  have e6 := joinS3 ⟨xl, xh⟩ ⟨yl, yh⟩ ⟨zl, zh⟩
  have e7 := meetS2 ⟨xl, xh⟩ (mt ⟨yl, yh⟩ ⟨zl, zh⟩) hx0 hx3
  have e8 := meetS3 ⟨xl, xh⟩ ⟨yl, yh⟩ ⟨zl, zh⟩ hx0 hx3
  have e9 := joinS1 ⟨xl, xh⟩
  have e10 := meetS1 ⟨xl, xh⟩ hx0 hx3
  have i1 := jn_in1 ⟨xl, xh⟩ ⟨yl, yh⟩
  have i2 := jn_in2 ⟨xl, xh⟩ ⟨yl, yh⟩
  have i3 := mt_in1 ⟨xl, xh⟩ ⟨yl, yh⟩
  have i4 := mt_in2 ⟨xl, xh⟩ ⟨yl, yh⟩
  have i5 := jn_least ⟨xl, xh⟩ ⟨yl, yh⟩ ⟨zl, zh⟩
  have i6 := mt_great ⟨xl, xh⟩ ⟨yl, yh⟩ ⟨zl, zh⟩
  have i7 := mt_has ⟨xl, xh⟩ ⟨yl, yh⟩ n
  generalize jn ⟨xl, xh⟩ (jn ⟨yl, yh⟩ ⟨zl, zh⟩) = Q at *
  generalize jn ⟨yl, yh⟩ ⟨zl, zh⟩ = P at *
  generalize mt ⟨xl, xh⟩ (mt ⟨yl, yh⟩ ⟨zl, zh⟩) = R at *
  generalize mt ⟨yl, yh⟩ ⟨zl, zh⟩ = O at *
  generalize jn ⟨xl, xh⟩ ⟨yl, yh⟩ = J at *
  generalize mt ⟨xl, xh⟩ ⟨yl, yh⟩ = M at *
  generalize (if (⟨xl, xh⟩ : Sp).hi < (⟨xl, xh⟩ : Sp).lo then (⟨0, -1⟩ : Sp) else ⟨xl, xh⟩) = T at *
  obtain ⟨ql, qh⟩ := Q
  obtain ⟨pl, ph⟩ := P
  obtain ⟨rl, rh⟩ := R
  obtain ⟨ol, oh⟩ := O
  obtain ⟨jl, jh⟩ := J
  obtain ⟨ml, mh⟩ := M
  obtain ⟨tl, th⟩ := T
  replace e1 := hidI e1
  replace e2 := hidI e2
  replace e3 := hidI e3
  replace e4 := hidI e4
  replace e5 := hidI e5
  replace e6 := hidI e6
  replace e7 := hidI e7
  replace e8 := hidI e8
  replace e9 := hidI e9
  replace e10 := hidI e10
  replace i1 := hidI i1
  replace i2 := hidI i2
  replace i3 := hidI i3
  replace i4 := hidI i4
  replace i5 := hidI i5
  replace i6 := hidI i6
  replace i7 := hidI i7
  go_enter Try.func4, Try.ntmps4
  go_upto_region 1 with fail
  have hk_gx : (((w0.alloc (.cells #[.int .i64 xl, .int .i64 xh] 23)).alloc (.cells #[.int .i64 yl, .int .i64 yh] 23)).alloc (.cells #[.int .i64 zl, .int .i64 zh] 23)).heap[w0.heap.size]? = some (.cells #[.int .i64 xl, .int .i64 xh] 23 (0, 0)) := (by (repeat (first | with_reducible assumption | with_reducible exact blk_new _ _ | with_reducible apply blk_drew | (with_reducible refine blk_newE ?_; (first | done | (simp; done))) | with_reducible apply blk_put2 | (with_reducible refine blk_far ?_ (by first | omega | (simp; done) | (simp; omega)) _) | with_reducible apply blk_alloc | (with_reducible refine bl_block (by assumption) ?_) | (with_reducible refine blk_grown ?_ (by assumption) (by assumption)) | (with_reducible refine blk_acc (by assumption) ?_ (by assumption)))))
  have hk_gy : (((w0.alloc (.cells #[.int .i64 xl, .int .i64 xh] 23)).alloc (.cells #[.int .i64 yl, .int .i64 yh] 23)).alloc (.cells #[.int .i64 zl, .int .i64 zh] 23)).heap[w0.heap.size + 1]? = some (.cells #[.int .i64 yl, .int .i64 yh] 23 (0, 0)) := (by (repeat (first | with_reducible assumption | with_reducible exact blk_new _ _ | with_reducible apply blk_drew | (with_reducible refine blk_newE ?_; (first | done | (simp; done))) | with_reducible apply blk_put2 | (with_reducible refine blk_far ?_ (by first | omega | (simp; done) | (simp; omega)) _) | with_reducible apply blk_alloc | (with_reducible refine bl_block (by assumption) ?_) | (with_reducible refine blk_grown ?_ (by assumption) (by assumption)) | (with_reducible refine blk_acc (by assumption) ?_ (by assumption)))))
  have hk_gz : (((w0.alloc (.cells #[.int .i64 xl, .int .i64 xh] 23)).alloc (.cells #[.int .i64 yl, .int .i64 yh] 23)).alloc (.cells #[.int .i64 zl, .int .i64 zh] 23)).heap[w0.heap.size + 1 + 1]? = some (.cells #[.int .i64 zl, .int .i64 zh] 23 (0, 0)) := (by (repeat (first | with_reducible assumption | with_reducible exact blk_new _ _ | with_reducible apply blk_drew | (with_reducible refine blk_newE ?_; (first | done | (simp; done))) | with_reducible apply blk_put2 | (with_reducible refine blk_far ?_ (by first | omega | (simp; done) | (simp; omega)) _) | with_reducible apply blk_alloc | (with_reducible refine bl_block (by assumption) ?_) | (with_reducible refine blk_grown ?_ (by assumption) (by assumption)) | (with_reducible refine blk_acc (by assumption) ?_ (by assumption)))))
  have hbw : Below w0.heap.size w0 (((w0.alloc (.cells #[.int .i64 xl, .int .i64 xh] 23)).alloc (.cells #[.int .i64 yl, .int .i64 yh] 23)).alloc (.cells #[.int .i64 zl, .int .i64 zh] 23)) := (by (repeat (first | with_reducible exact Below.refl _ _ | with_reducible assumption | with_reducible apply bl_alloc | with_reducible apply bl_drew | with_reducible apply bl_drewN | (with_reducible refine bl_set ?_ (by first | omega | (simp; done) | (simp; omega)) _) | (with_reducible refine bl_step ?_ (by assumption)) | (with_reducible refine bl_grown ?_ (by assumption) (by assumption)) | (with_reducible refine bl_own ?_ (by assumption) (by assumption)))))
  generalize ((w0.alloc (.cells #[.int .i64 xl, .int .i64 xh] 23)).alloc (.cells #[.int .i64 yl, .int .i64 yh] 23)).alloc (.cells #[.int .i64 zl, .int .i64 zh] 23) = W at *
  generalize w0.heap.size + 1 + 1 = gz at *
  generalize w0.heap.size + 1 = gy at *
  obtain ⟨gx, hgx⟩ : ∃ g, g = w0.heap.size := ⟨_, rfl⟩
  rw [← hgx] at hk_gx ⊢
  clear hgx
  obtain ⟨B0, hB0⟩ : ∃ B, B = W.heap.size := ⟨_, rfl⟩
  have c0_hsz : B0 ≤ W.heap.size := Nat.le_of_eq hB0
  have hw0B0 : w0.heap.size ≤ B0 := by rw [hB0]; exact hbw.size
  have c0_hk_gx := blk_drew hk_gx
  have c0_lt_gx : gx < B0 := by rw [hB0]; exact blk_lt hk_gx
  have c0_hk_gy := blk_drew hk_gy
  have c0_lt_gy : gy < B0 := by rw [hB0]; exact blk_lt hk_gy
  have c0_hk_gz := blk_drew hk_gz
  have c0_lt_gz : gz < B0 := by rw [hB0]; exact blk_lt hk_gz
  have c0_hbw := bl_drew hbw
  clear hB0 hbw hk_gx hk_gy hk_gz
  refine region_lin (n := 12) (st := ?st1) { R := [0, 0, 3, 7, 0, 0, 48, 127, 0, 0, 1023, 2047], kill := [[], [], [], [], [], [], [], [], [10], [11], [], []], cls := [0, 0, 0, 0, 0, 0, 0, 0, 0, 0, 1, 2], dst := [some 11, some 12, some 13, some 14, some 15, some 16, some 17, some 18, some 9, some 10, none, none], pre := [[], [], [0, 1], [2], [], [], [4, 5], [6], [], [], [8, 3], [9, 7]], cov := [(0, 2), (0, 6), (0, 8), (0, 9), (1, 2), (1, 6), (1, 9), (2, 2), (2, 6), (2, 8), (2, 10)], fin := [10, 11], locs := [(2, 13), (6, 17), (8, 9), (9, 10)], tgt := [none, some 9, some 10], abt := [none, none, some 13, none, none, none, some 17, none, some 9, some 10, some 9, some 10] }
    [.v [11] (fun vs => (vs.getD 0 undef) = .agg #[.int .i64 xl, .int .i64 xh]),
     .v [12] (fun vs => (vs.getD 0 undef) = .agg #[.int .i64 yl, .int .i64 yh]),
     .w [13] (fun vs w => ∃ g2 : Nat, (vs.getD 0 undef) = .slice (some ⟨g2, 0, none⟩) 2 2 ∧ B0 ≤ g2 ∧ w.heap[g2]? = some (.cells #[.int .i64 xl, .int .i64 xh, .int .i64 yl, .int .i64 yh] 23 (0, 0))),
     .v [14] (fun vs => (vs.getD 0 undef) = .agg #[.int .i64 jl, .int .i64 jh]),
     .v [15] (fun vs => (vs.getD 0 undef) = .agg #[.int .i64 xl, .int .i64 xh]),
     .v [16] (fun vs => (vs.getD 0 undef) = .agg #[.int .i64 yl, .int .i64 yh]),
     .w [17] (fun vs w => ∃ g6 : Nat, (vs.getD 0 undef) = .slice (some ⟨g6, 0, none⟩) 2 2 ∧ B0 ≤ g6 ∧ w.heap[g6]? = some (.cells #[.int .i64 xl, .int .i64 xh, .int .i64 yl, .int .i64 yh] 23 (0, 0))),
     .v [18] (fun vs => (vs.getD 0 undef) = .agg #[.int .i64 ml, .int .i64 mh]),
     .w [9] (fun vs w => ∃ g8 : Nat, (vs.getD 0 undef) = .pointer (some ⟨g8, 0, none⟩) ∧ B0 ≤ g8 ∧ w.heap[g8]? = some (.cells #[.int .i64 0, .int .i64 0] 23 (0, 0))),
     .w [10] (fun vs w => ∃ g9 : Nat, (vs.getD 0 undef) = .pointer (some ⟨g9, 0, none⟩) ∧ B0 ≤ g9 ∧ w.heap[g9]? = some (.cells #[.int .i64 0, .int .i64 0] 23 (0, 0))),
     .w [9] (fun vs w => ∃ g8 : Nat, (vs.getD 0 undef) = .pointer (some ⟨g8, 0, none⟩) ∧ B0 ≤ g8 ∧ w.heap[g8]? = some (.cells #[.int .i64 jl, .int .i64 jh] 23 (0, 0))),
     .w [10] (fun vs w => ∃ g9 : Nat, (vs.getD 0 undef) = .pointer (some ⟨g9, 0, none⟩) ∧ B0 ≤ g9 ∧ w.heap[g9]? = some (.cells #[.int .i64 ml, .int .i64 mh] 23 (0, 0)))]
    (fun w => B0 ≤ w.heap.size ∧ w.heap[gx]? = some (.cells #[.int .i64 xl, .int .i64 xh] 23 (0, 0)) ∧ gx < B0 ∧ w.heap[gy]? = some (.cells #[.int .i64 yl, .int .i64 yh] 23 (0, 0)) ∧ gy < B0 ∧ w.heap[gz]? = some (.cells #[.int .i64 zl, .int .i64 zh] 23 (0, 0)) ∧ gz < B0 ∧ Below w0.heap.size w0 w)
    (fun c => ([fun s w w' => Below w.heap.size w w', fun s w w' => w' = w ∨ ∃ g8 : Nat, s 9 = .pointer (some ⟨g8, 0, none⟩) ∧ B0 ≤ g8 ∧ (∀ k o, k ≠ g8 → w.heap[k]? = some o → w'.heap[k]? = some o) ∧ w'.heap.size = w.heap.size ∧ Below g8 w w', fun s w w' => w' = w ∨ ∃ g9 : Nat, s 10 = .pointer (some ⟨g9, 0, none⟩) ∧ B0 ≤ g9 ∧ (∀ k o, k ≠ g9 → w.heap[k]? = some o → w'.heap[k]? = some o) ∧ w'.heap.size = w.heap.size ∧ Below g9 w w'] : List ((Nat → Value) → World → World → Prop)).getD c (fun s w w' => w' = w))
    [9, 10, 11, 12, 13, 14, 15, 16, 17, 18] (by kernel_rfl) ⟨by kernel_rfl, by kernel_rfl, by kernel_rfl, by kernel_rfl, by kernel_rfl, by kernel_rfl, by kernel_rfl, by kernel_rfl⟩ (fun s => ?_) ?_ ?_ ?_ ?_ ?_ (fun s w hC hA => ?_)
  rotate_left
  · simp only [fillS, List.foldl, List.setIfInBounds_toArray, List.set_cons_zero, List.set_cons_succ]; rfl
  · exact ⟨c0_hsz, c0_hk_gx, c0_lt_gx, c0_hk_gy, c0_lt_gy, c0_hk_gz, c0_lt_gz, c0_hbw⟩
  · intro c s w w' hE
    match c, hE with
    | 0, hE => exact Below.size hE
    | 1, hE => replace hE : w' = w ∨ ∃ g8 : Nat, s 9 = .pointer (some ⟨g8, 0, none⟩) ∧ B0 ≤ g8 ∧ (∀ k o, k ≠ g8 → w.heap[k]? = some o → w'.heap[k]? = some o) ∧ w'.heap.size = w.heap.size ∧ Below g8 w w' := hE; rcases hE with hE | ⟨_, _, _, _, hE, _⟩; exact Nat.le_of_eq (by rw [hE]); exact Nat.le_of_eq hE.symm
    | 2, hE => replace hE : w' = w ∨ ∃ g9 : Nat, s 10 = .pointer (some ⟨g9, 0, none⟩) ∧ B0 ≤ g9 ∧ (∀ k o, k ≠ g9 → w.heap[k]? = some o → w'.heap[k]? = some o) ∧ w'.heap.size = w.heap.size ∧ Below g9 w w' := hE; rcases hE with hE | ⟨_, _, _, _, hE, _⟩; exact Nat.le_of_eq (by rw [hE]); exact Nat.le_of_eq hE.symm
    | c + 3, hE => cases hE; exact Nat.le_refl _
  · rintro c s w w' ⟨hsz, hk_gx, lt_gx, hk_gy, lt_gy, hk_gz, lt_gz, hbw⟩ hE
    match c, hE with
    | 0, hE => replace hE : Below w.heap.size w w' := hE; exact ⟨Nat.le_trans hsz hE.size, bl_block hE hk_gx, lt_gx, bl_block hE hk_gy, lt_gy, bl_block hE hk_gz, lt_gz, bl_step hbw hE⟩
    | 1, hE =>
      replace hE : w' = w ∨ ∃ g8 : Nat, s 9 = .pointer (some ⟨g8, 0, none⟩) ∧ B0 ≤ g8 ∧ (∀ k o, k ≠ g8 → w.heap[k]? = some o → w'.heap[k]? = some o) ∧ w'.heap.size = w.heap.size ∧ Below g8 w w' := hE
      rcases hE with rfl | ⟨g8, hs_, hg_, hkeep, hsz_, hBl⟩
      · exact ⟨hsz, hk_gx, lt_gx, hk_gy, lt_gy, hk_gz, lt_gz, hbw⟩
      · exact ⟨by omega, hkeep _ _ (by omega) hk_gx, lt_gx, hkeep _ _ (by omega) hk_gy, lt_gy, hkeep _ _ (by omega) hk_gz, lt_gz, hbw.trans (Below.mono hBl (Nat.le_trans hw0B0 hg_))⟩
    | 2, hE =>
      replace hE : w' = w ∨ ∃ g9 : Nat, s 10 = .pointer (some ⟨g9, 0, none⟩) ∧ B0 ≤ g9 ∧ (∀ k o, k ≠ g9 → w.heap[k]? = some o → w'.heap[k]? = some o) ∧ w'.heap.size = w.heap.size ∧ Below g9 w w' := hE
      rcases hE with rfl | ⟨g9, hs_, hg_, hkeep, hsz_, hBl⟩
      · exact ⟨hsz, hk_gx, lt_gx, hk_gy, lt_gy, hk_gz, lt_gz, hbw⟩
      · exact ⟨by omega, hkeep _ _ (by omega) hk_gx, lt_gx, hkeep _ _ (by omega) hk_gy, lt_gy, hkeep _ _ (by omega) hk_gz, lt_gz, hbw.trans (Below.mono hBl (Nat.le_trans hw0B0 hg_))⟩
    | c + 3, hE => cases hE; exact ⟨hsz, hk_gx, lt_gx, hk_gy, lt_gy, hk_gz, lt_gz, hbw⟩
  · refine ⟨?_, ?_, ?_, ?_, ?_, ?_, ?_, ?_, ?_, ?_, ?_, trivial⟩
    · intro s w w' hD hC hE hF
      replace hF : ∃ g2 : Nat, (s 13) = .slice (some ⟨g2, 0, none⟩) 2 2 ∧ B0 ≤ g2 ∧ w.heap[g2]? = some (.cells #[.int .i64 xl, .int .i64 xh, .int .i64 yl, .int .i64 yh] 23 (0, 0)) := hF
      show ∃ g2 : Nat, (s 13) = .slice (some ⟨g2, 0, none⟩) 2 2 ∧ B0 ≤ g2 ∧ w'.heap[g2]? = some (.cells #[.int .i64 xl, .int .i64 xh, .int .i64 yl, .int .i64 yh] 23 (0, 0))
      replace hE : Below w.heap.size w w' := hE
      obtain ⟨g2, h1, h2, h3⟩ := hF
      exact ⟨g2, h1, h2, bl_block hE h3⟩
    · intro s w w' hD hC hE hF
      replace hF : ∃ g6 : Nat, (s 17) = .slice (some ⟨g6, 0, none⟩) 2 2 ∧ B0 ≤ g6 ∧ w.heap[g6]? = some (.cells #[.int .i64 xl, .int .i64 xh, .int .i64 yl, .int .i64 yh] 23 (0, 0)) := hF
      show ∃ g6 : Nat, (s 17) = .slice (some ⟨g6, 0, none⟩) 2 2 ∧ B0 ≤ g6 ∧ w'.heap[g6]? = some (.cells #[.int .i64 xl, .int .i64 xh, .int .i64 yl, .int .i64 yh] 23 (0, 0))
      replace hE : Below w.heap.size w w' := hE
      obtain ⟨g6, h1, h2, h3⟩ := hF
      exact ⟨g6, h1, h2, bl_block hE h3⟩
    · intro s w w' hD hC hE hF
      replace hF : ∃ g8 : Nat, (s 9) = .pointer (some ⟨g8, 0, none⟩) ∧ B0 ≤ g8 ∧ w.heap[g8]? = some (.cells #[.int .i64 0, .int .i64 0] 23 (0, 0)) := hF
      show ∃ g8 : Nat, (s 9) = .pointer (some ⟨g8, 0, none⟩) ∧ B0 ≤ g8 ∧ w'.heap[g8]? = some (.cells #[.int .i64 0, .int .i64 0] 23 (0, 0))
      replace hE : Below w.heap.size w w' := hE
      obtain ⟨g8, h1, h2, h3⟩ := hF
      exact ⟨g8, h1, h2, bl_block hE h3⟩
    · intro s w w' hD hC hE hF
      replace hF : ∃ g9 : Nat, (s 10) = .pointer (some ⟨g9, 0, none⟩) ∧ B0 ≤ g9 ∧ w.heap[g9]? = some (.cells #[.int .i64 0, .int .i64 0] 23 (0, 0)) := hF
      show ∃ g9 : Nat, (s 10) = .pointer (some ⟨g9, 0, none⟩) ∧ B0 ≤ g9 ∧ w'.heap[g9]? = some (.cells #[.int .i64 0, .int .i64 0] 23 (0, 0))
      replace hE : Below w.heap.size w w' := hE
      obtain ⟨g9, h1, h2, h3⟩ := hF
      exact ⟨g9, h1, h2, bl_block hE h3⟩
    · intro s w w' hD hC hE hF
      replace hF : ∃ g2 : Nat, (s 13) = .slice (some ⟨g2, 0, none⟩) 2 2 ∧ B0 ≤ g2 ∧ w.heap[g2]? = some (.cells #[.int .i64 xl, .int .i64 xh, .int .i64 yl, .int .i64 yh] 23 (0, 0)) := hF
      show ∃ g2 : Nat, (s 13) = .slice (some ⟨g2, 0, none⟩) 2 2 ∧ B0 ≤ g2 ∧ w'.heap[g2]? = some (.cells #[.int .i64 xl, .int .i64 xh, .int .i64 yl, .int .i64 yh] 23 (0, 0))
      replace hE : w' = w ∨ ∃ g8 : Nat, s 9 = .pointer (some ⟨g8, 0, none⟩) ∧ B0 ≤ g8 ∧ (∀ k o, k ≠ g8 → w.heap[k]? = some o → w'.heap[k]? = some o) ∧ w'.heap.size = w.heap.size ∧ Below g8 w w' := hE
      rcases hE with rfl | ⟨gt, hs_, hg_, hkeep, hsz_, hBl⟩
      · exact hF
      obtain ⟨g2, h1, h2, h3⟩ := hF
      exact ⟨g2, h1, h2, hkeep _ _ (fun e => hD _ _ rfl rfl (by decide) _ (by rw [hs_]; rfl) (by rw [h1, ← e]; rfl)) h3⟩
    · intro s w w' hD hC hE hF
      replace hF : ∃ g6 : Nat, (s 17) = .slice (some ⟨g6, 0, none⟩) 2 2 ∧ B0 ≤ g6 ∧ w.heap[g6]? = some (.cells #[.int .i64 xl, .int .i64 xh, .int .i64 yl, .int .i64 yh] 23 (0, 0)) := hF
      show ∃ g6 : Nat, (s 17) = .slice (some ⟨g6, 0, none⟩) 2 2 ∧ B0 ≤ g6 ∧ w'.heap[g6]? = some (.cells #[.int .i64 xl, .int .i64 xh, .int .i64 yl, .int .i64 yh] 23 (0, 0))
      replace hE : w' = w ∨ ∃ g8 : Nat, s 9 = .pointer (some ⟨g8, 0, none⟩) ∧ B0 ≤ g8 ∧ (∀ k o, k ≠ g8 → w.heap[k]? = some o → w'.heap[k]? = some o) ∧ w'.heap.size = w.heap.size ∧ Below g8 w w' := hE
      rcases hE with rfl | ⟨gt, hs_, hg_, hkeep, hsz_, hBl⟩
      · exact hF
      obtain ⟨g6, h1, h2, h3⟩ := hF
      exact ⟨g6, h1, h2, hkeep _ _ (fun e => hD _ _ rfl rfl (by decide) _ (by rw [hs_]; rfl) (by rw [h1, ← e]; rfl)) h3⟩
    · intro s w w' hD hC hE hF
      replace hF : ∃ g9 : Nat, (s 10) = .pointer (some ⟨g9, 0, none⟩) ∧ B0 ≤ g9 ∧ w.heap[g9]? = some (.cells #[.int .i64 0, .int .i64 0] 23 (0, 0)) := hF
      show ∃ g9 : Nat, (s 10) = .pointer (some ⟨g9, 0, none⟩) ∧ B0 ≤ g9 ∧ w'.heap[g9]? = some (.cells #[.int .i64 0, .int .i64 0] 23 (0, 0))
      replace hE : w' = w ∨ ∃ g8 : Nat, s 9 = .pointer (some ⟨g8, 0, none⟩) ∧ B0 ≤ g8 ∧ (∀ k o, k ≠ g8 → w.heap[k]? = some o → w'.heap[k]? = some o) ∧ w'.heap.size = w.heap.size ∧ Below g8 w w' := hE
      rcases hE with rfl | ⟨gt, hs_, hg_, hkeep, hsz_, hBl⟩
      · exact hF
      obtain ⟨g9, h1, h2, h3⟩ := hF
      exact ⟨g9, h1, h2, hkeep _ _ (fun e => hD _ _ rfl rfl (by decide) _ (by rw [hs_]; rfl) (by rw [h1, ← e]; rfl)) h3⟩
    · intro s w w' hD hC hE hF
      replace hF : ∃ g2 : Nat, (s 13) = .slice (some ⟨g2, 0, none⟩) 2 2 ∧ B0 ≤ g2 ∧ w.heap[g2]? = some (.cells #[.int .i64 xl, .int .i64 xh, .int .i64 yl, .int .i64 yh] 23 (0, 0)) := hF
      show ∃ g2 : Nat, (s 13) = .slice (some ⟨g2, 0, none⟩) 2 2 ∧ B0 ≤ g2 ∧ w'.heap[g2]? = some (.cells #[.int .i64 xl, .int .i64 xh, .int .i64 yl, .int .i64 yh] 23 (0, 0))
      replace hE : w' = w ∨ ∃ g9 : Nat, s 10 = .pointer (some ⟨g9, 0, none⟩) ∧ B0 ≤ g9 ∧ (∀ k o, k ≠ g9 → w.heap[k]? = some o → w'.heap[k]? = some o) ∧ w'.heap.size = w.heap.size ∧ Below g9 w w' := hE
      rcases hE with rfl | ⟨gt, hs_, hg_, hkeep, hsz_, hBl⟩
      · exact hF
      obtain ⟨g2, h1, h2, h3⟩ := hF
      exact ⟨g2, h1, h2, hkeep _ _ (fun e => hD _ _ rfl rfl (by decide) _ (by rw [hs_]; rfl) (by rw [h1, ← e]; rfl)) h3⟩
    · intro s w w' hD hC hE hF
      replace hF : ∃ g6 : Nat, (s 17) = .slice (some ⟨g6, 0, none⟩) 2 2 ∧ B0 ≤ g6 ∧ w.heap[g6]? = some (.cells #[.int .i64 xl, .int .i64 xh, .int .i64 yl, .int .i64 yh] 23 (0, 0)) := hF
      show ∃ g6 : Nat, (s 17) = .slice (some ⟨g6, 0, none⟩) 2 2 ∧ B0 ≤ g6 ∧ w'.heap[g6]? = some (.cells #[.int .i64 xl, .int .i64 xh, .int .i64 yl, .int .i64 yh] 23 (0, 0))
      replace hE : w' = w ∨ ∃ g9 : Nat, s 10 = .pointer (some ⟨g9, 0, none⟩) ∧ B0 ≤ g9 ∧ (∀ k o, k ≠ g9 → w.heap[k]? = some o → w'.heap[k]? = some o) ∧ w'.heap.size = w.heap.size ∧ Below g9 w w' := hE
      rcases hE with rfl | ⟨gt, hs_, hg_, hkeep, hsz_, hBl⟩
      · exact hF
      obtain ⟨g6, h1, h2, h3⟩ := hF
      exact ⟨g6, h1, h2, hkeep _ _ (fun e => hD _ _ rfl rfl (by decide) _ (by rw [hs_]; rfl) (by rw [h1, ← e]; rfl)) h3⟩
    · intro s w w' hD hC hE hF
      replace hF : ∃ g8 : Nat, (s 9) = .pointer (some ⟨g8, 0, none⟩) ∧ B0 ≤ g8 ∧ w.heap[g8]? = some (.cells #[.int .i64 0, .int .i64 0] 23 (0, 0)) := hF
      show ∃ g8 : Nat, (s 9) = .pointer (some ⟨g8, 0, none⟩) ∧ B0 ≤ g8 ∧ w'.heap[g8]? = some (.cells #[.int .i64 0, .int .i64 0] 23 (0, 0))
      replace hE : w' = w ∨ ∃ g9 : Nat, s 10 = .pointer (some ⟨g9, 0, none⟩) ∧ B0 ≤ g9 ∧ (∀ k o, k ≠ g9 → w.heap[k]? = some o → w'.heap[k]? = some o) ∧ w'.heap.size = w.heap.size ∧ Below g9 w w' := hE
      rcases hE with rfl | ⟨gt, hs_, hg_, hkeep, hsz_, hBl⟩
      · exact hF
      obtain ⟨g8, h1, h2, h3⟩ := hF
      exact ⟨g8, h1, h2, hkeep _ _ (fun e => hD _ _ rfl rfl (by decide) _ (by rw [hs_]; rfl) (by rw [h1, ← e]; rfl)) h3⟩
    · intro s w w' hD hC hE hF
      replace hF : ∃ g8 : Nat, (s 9) = .pointer (some ⟨g8, 0, none⟩) ∧ B0 ≤ g8 ∧ w.heap[g8]? = some (.cells #[.int .i64 jl, .int .i64 jh] 23 (0, 0)) := hF
      show ∃ g8 : Nat, (s 9) = .pointer (some ⟨g8, 0, none⟩) ∧ B0 ≤ g8 ∧ w'.heap[g8]? = some (.cells #[.int .i64 jl, .int .i64 jh] 23 (0, 0))
      replace hE : w' = w ∨ ∃ g9 : Nat, s 10 = .pointer (some ⟨g9, 0, none⟩) ∧ B0 ≤ g9 ∧ (∀ k o, k ≠ g9 → w.heap[k]? = some o → w'.heap[k]? = some o) ∧ w'.heap.size = w.heap.size ∧ Below g9 w w' := hE
      rcases hE with rfl | ⟨gt, hs_, hg_, hkeep, hsz_, hBl⟩
      · exact hF
      obtain ⟨g8, h1, h2, h3⟩ := hF
      exact ⟨g8, h1, h2, hkeep _ _ (fun e => hD _ _ rfl rfl (by decide) _ (by rw [hs_]; rfl) (by rw [h1, ← e]; rfl)) h3⟩
  · skip
    refine StepsP.cons ?_ ?_
    · intro Q s w hC hA K hK
      obtain ⟨hsz, hk_gx, lt_gx, hk_gy, lt_gy, hk_gz, lt_gz, hbw⟩ := hC
      clear hA
      refine guard_none (by rfl) ?_
      have m0_gx : w.cell? ⟨gx, 0, none⟩ = some (.int .i64 xl) := blk_cell hk_gx 0 (by rfl)
      have m1_gx : w.cell? ⟨gx, 1, none⟩ = some (.int .i64 xh) := blk_cell hk_gx 1 (by rfl)
      refine wp_value (v := .agg #[.int .i64 xl, .int .i64 xh]) (w1 := w) ?_ (hK.out _ w (Below.refl _ _) rfl (fun h => by cases h))
      go_simp
      try (first | done | rfl | (simp; done))
    refine StepsP.cons ?_ ?_
    · intro Q s w hC hA K hK
      obtain ⟨hsz, hk_gx, lt_gx, hk_gy, lt_gy, hk_gz, lt_gz, hbw⟩ := hC
      clear hA
      refine guard_none (by rfl) ?_
      have m0_gy : w.cell? ⟨gy, 0, none⟩ = some (.int .i64 yl) := blk_cell hk_gy 0 (by rfl)
      have m1_gy : w.cell? ⟨gy, 1, none⟩ = some (.int .i64 yh) := blk_cell hk_gy 1 (by rfl)
      refine wp_value (v := .agg #[.int .i64 yl, .int .i64 yh]) (w1 := w) ?_ (hK.out _ w (Below.refl _ _) rfl (fun h => by cases h))
      go_simp
      try (first | done | rfl | (simp; done))
    refine StepsP.cons ?_ ?_
    · intro Q s w hC hA K hK
      obtain ⟨hsz, hk_gx, lt_gx, hk_gy, lt_gy, hk_gz, lt_gz, hbw⟩ := hC
      obtain ⟨f0, f1, -⟩ := hA
      replace f0 : (s 11) = .agg #[.int .i64 xl, .int .i64 xh] := f0
      replace f1 : (s 12) = .agg #[.int .i64 yl, .int .i64 yh] := f1
      refine guard_none (by rfl) ?_
      refine wp_value (v := .slice (some ⟨w.heap.size, 0, none⟩) 2 2) (w1 := w.alloc (.cells #[.int .i64 xl, .int .i64 xh, .int .i64 yl, .int .i64 yh] 23)) ?_ (hK.out _ _ (bl_alloc (Below.refl _ _) _) ⟨w.heap.size, rfl, hsz, blk_new _ _⟩ (fun _ g h => fresh_alloc (by simpa [blkV] using h)))
      try simp only [f0, f1]
      go_simp
      try rfl
    refine StepsP.cons ?_ ?_
    · intro Q s w hC hA K hK
      obtain ⟨hsz, hk_gx, lt_gx, hk_gy, lt_gy, hk_gz, lt_gz, hbw⟩ := hC
      obtain ⟨f2, -⟩ := hA
      replace f2 : ∃ g2 : Nat, (s 13) = .slice (some ⟨g2, 0, none⟩) 2 2 ∧ B0 ≤ g2 ∧ w.heap[g2]? = some (.cells #[.int .i64 xl, .int .i64 xh, .int .i64 yl, .int .i64 yh] 23 (0, 0)) := f2
      refine guard_none (by rfl) ?_
      obtain ⟨g2, a_g2, c_g2, hk_g2⟩ := f2
      refine wp_call (N := some 14) (by rfl) Try.func20 (by kernel_rfl) #[.slice (some ⟨g2, 0, none⟩) 2 2] rfl (by rfl) ?_ ?_
      · show [s 13] = [.slice (some ⟨g2, 0, none⟩) 2 2]
        first | rfl | simp only [a_g2]
      refine (Join_calls (some ⟨g2, 0, none⟩) [⟨xl, xh⟩, ⟨yl, yh⟩] 2 _ (RdS.of_blk (l := [⟨xl, xh⟩, ⟨yl, yh⟩]) hk_g2 (by simp)) (by simp)).mono ?_
      rintro e w1 ⟨rfl, hb⟩
      refine ⟨_, rfl, ?_⟩
      rw [e1.out]
      exact hK.out _ _ hb rfl (fun h => by cases h)
    refine StepsP.cons ?_ ?_
    · intro Q s w hC hA K hK
      obtain ⟨hsz, hk_gx, lt_gx, hk_gy, lt_gy, hk_gz, lt_gz, hbw⟩ := hC
      clear hA
      refine guard_none (by rfl) ?_
      have m0_gx : w.cell? ⟨gx, 0, none⟩ = some (.int .i64 xl) := blk_cell hk_gx 0 (by rfl)
      have m1_gx : w.cell? ⟨gx, 1, none⟩ = some (.int .i64 xh) := blk_cell hk_gx 1 (by rfl)
      refine wp_value (v := .agg #[.int .i64 xl, .int .i64 xh]) (w1 := w) ?_ (hK.out _ w (Below.refl _ _) rfl (fun h => by cases h))
      go_simp
      try (first | done | rfl | (simp; done))
    refine StepsP.cons ?_ ?_
    · intro Q s w hC hA K hK
      obtain ⟨hsz, hk_gx, lt_gx, hk_gy, lt_gy, hk_gz, lt_gz, hbw⟩ := hC
      clear hA
      refine guard_none (by rfl) ?_
      have m0_gy : w.cell? ⟨gy, 0, none⟩ = some (.int .i64 yl) := blk_cell hk_gy 0 (by rfl)
      have m1_gy : w.cell? ⟨gy, 1, none⟩ = some (.int .i64 yh) := blk_cell hk_gy 1 (by rfl)
      refine wp_value (v := .agg #[.int .i64 yl, .int .i64 yh]) (w1 := w) ?_ (hK.out _ w (Below.refl _ _) rfl (fun h => by cases h))
      go_simp
      try (first | done | rfl | (simp; done))
    refine StepsP.cons ?_ ?_
    · intro Q s w hC hA K hK
      obtain ⟨hsz, hk_gx, lt_gx, hk_gy, lt_gy, hk_gz, lt_gz, hbw⟩ := hC
      obtain ⟨f4, f5, -⟩ := hA
      replace f4 : (s 15) = .agg #[.int .i64 xl, .int .i64 xh] := f4
      replace f5 : (s 16) = .agg #[.int .i64 yl, .int .i64 yh] := f5
      refine guard_none (by rfl) ?_
      refine wp_value (v := .slice (some ⟨w.heap.size, 0, none⟩) 2 2) (w1 := w.alloc (.cells #[.int .i64 xl, .int .i64 xh, .int .i64 yl, .int .i64 yh] 23)) ?_ (hK.out _ _ (bl_alloc (Below.refl _ _) _) ⟨w.heap.size, rfl, hsz, blk_new _ _⟩ (fun _ g h => fresh_alloc (by simpa [blkV] using h)))
      try simp only [f4, f5]
      go_simp
      try rfl
    refine StepsP.cons ?_ ?_
    · intro Q s w hC hA K hK
      obtain ⟨hsz, hk_gx, lt_gx, hk_gy, lt_gy, hk_gz, lt_gz, hbw⟩ := hC
      obtain ⟨f6, -⟩ := hA
      replace f6 : ∃ g6 : Nat, (s 17) = .slice (some ⟨g6, 0, none⟩) 2 2 ∧ B0 ≤ g6 ∧ w.heap[g6]? = some (.cells #[.int .i64 xl, .int .i64 xh, .int .i64 yl, .int .i64 yh] 23 (0, 0)) := f6
      refine guard_none (by rfl) ?_
      obtain ⟨g6, a_g6, c_g6, hk_g6⟩ := f6
      refine wp_call (N := some 18) (by rfl) Try.func21 (by kernel_rfl) #[.slice (some ⟨g6, 0, none⟩) 2 2] rfl (by rfl) ?_ ?_
      · show [s 17] = [.slice (some ⟨g6, 0, none⟩) 2 2]
        first | rfl | simp only [a_g6]
      refine (Meet_calls (some ⟨g6, 0, none⟩) [⟨xl, xh⟩, ⟨yl, yh⟩] 2 _ (RdS.of_blk (l := [⟨xl, xh⟩, ⟨yl, yh⟩]) hk_g6 (by simp)) (by simp)).mono ?_
      rintro e w1 ⟨rfl, hb⟩
      refine ⟨_, rfl, ?_⟩
      rw [e2.out]
      exact hK.out _ _ hb rfl (fun h => by cases h)
    refine StepsP.cons ?_ ?_
    · intro Q s w hC hA K hK
      obtain ⟨hsz, hk_gx, lt_gx, hk_gy, lt_gy, hk_gz, lt_gz, hbw⟩ := hC
      clear hA
      refine guard_none (by rfl) ?_
      refine wp_value (v := .pointer (some ⟨w.heap.size, 0, none⟩)) (w1 := w.alloc (.cells #[.int .i64 0, .int .i64 0] 23)) ?_ (hK.out _ _ (bl_alloc (Below.refl _ _) _) ⟨w.heap.size, rfl, hsz, blk_new _ _⟩ (fun _ g h => fresh_alloc (by simpa [blkV] using h)))
      go_simp
      try rfl
    refine StepsP.cons ?_ ?_
    · intro Q s w hC hA K hK
      obtain ⟨hsz, hk_gx, lt_gx, hk_gy, lt_gy, hk_gz, lt_gz, hbw⟩ := hC
      clear hA
      refine guard_none (by rfl) ?_
      refine wp_value (v := .pointer (some ⟨w.heap.size, 0, none⟩)) (w1 := w.alloc (.cells #[.int .i64 0, .int .i64 0] 23)) ?_ (hK.out _ _ (bl_alloc (Below.refl _ _) _) ⟨w.heap.size, rfl, hsz, blk_new _ _⟩ (fun _ g h => fresh_alloc (by simpa [blkV] using h)))
      go_simp
      try rfl
    refine StepsP.cons ?_ ?_
    · intro Q s w hC hA K hK
      obtain ⟨hsz, hk_gx, lt_gx, hk_gy, lt_gy, hk_gz, lt_gz, hbw⟩ := hC
      obtain ⟨f8, f3, -⟩ := hA
      replace f8 : ∃ g8 : Nat, (s 9) = .pointer (some ⟨g8, 0, none⟩) ∧ B0 ≤ g8 ∧ w.heap[g8]? = some (.cells #[.int .i64 0, .int .i64 0] 23 (0, 0)) := f8
      replace f3 : (s 14) = .agg #[.int .i64 jl, .int .i64 jh] := f3
      refine guard_none (by rfl) ?_
      obtain ⟨g8, a_g8, c_g8, hk_g8⟩ := f8
      have m0_g8 : w.cell? ⟨g8, 0, none⟩ = some (.int .i64 0) := blk_cell hk_g8 0 (by rfl)
      have z0_g8 : w.frozen? ⟨g8, 0, none⟩ = false := blkf hk_g8 0
      have m1_g8 : w.cell? ⟨g8, 1, none⟩ = some (.int .i64 0) := blk_cell hk_g8 1 (by rfl)
      have z1_g8 : w.frozen? ⟨g8, 1, none⟩ = false := blkf hk_g8 1
      refine wp_skip_ (w1 := ((w.setCell ⟨g8, 0, none⟩ (.int .i64 jl)).setCell ⟨g8, 1, none⟩ (.int .i64 jh))) ?_ (hK.out undef _ (Or.inr ⟨g8, a_g8, c_g8, fun k_ o_ hne_ h_ => (blk_far (blk_far h_ (a := ⟨g8, 0, none⟩) (Ne.symm hne_) (.int .i64 jl)) (a := ⟨g8, 1, none⟩) (Ne.symm hne_) (.int .i64 jh)), by simp [World.setCell], (Below.setCell (Below.setCell (Below.refl _ _) (p := ⟨g8, 0, none⟩) (Nat.le_refl _) (.int .i64 jl)) (p := ⟨g8, 1, none⟩) (Nat.le_refl _) (.int .i64 jh))⟩) ⟨g8, a_g8, c_g8, (blk_set (blk_set hk_g8 0 (.int .i64 jl)) 1 (.int .i64 jh))⟩ (fun h => by cases h))
      try simp only [a_g8, f3]
      go_simp
      try rfl
    refine StepsP.cons ?_ ?_
    · intro Q s w hC hA K hK
      obtain ⟨hsz, hk_gx, lt_gx, hk_gy, lt_gy, hk_gz, lt_gz, hbw⟩ := hC
      obtain ⟨f9, f7, -⟩ := hA
      replace f9 : ∃ g9 : Nat, (s 10) = .pointer (some ⟨g9, 0, none⟩) ∧ B0 ≤ g9 ∧ w.heap[g9]? = some (.cells #[.int .i64 0, .int .i64 0] 23 (0, 0)) := f9
      replace f7 : (s 18) = .agg #[.int .i64 ml, .int .i64 mh] := f7
      refine guard_none (by rfl) ?_
      obtain ⟨g9, a_g9, c_g9, hk_g9⟩ := f9
      have m0_g9 : w.cell? ⟨g9, 0, none⟩ = some (.int .i64 0) := blk_cell hk_g9 0 (by rfl)
      have z0_g9 : w.frozen? ⟨g9, 0, none⟩ = false := blkf hk_g9 0
      have m1_g9 : w.cell? ⟨g9, 1, none⟩ = some (.int .i64 0) := blk_cell hk_g9 1 (by rfl)
      have z1_g9 : w.frozen? ⟨g9, 1, none⟩ = false := blkf hk_g9 1
      refine wp_skip_ (w1 := ((w.setCell ⟨g9, 0, none⟩ (.int .i64 ml)).setCell ⟨g9, 1, none⟩ (.int .i64 mh))) ?_ (hK.out undef _ (Or.inr ⟨g9, a_g9, c_g9, fun k_ o_ hne_ h_ => (blk_far (blk_far h_ (a := ⟨g9, 0, none⟩) (Ne.symm hne_) (.int .i64 ml)) (a := ⟨g9, 1, none⟩) (Ne.symm hne_) (.int .i64 mh)), by simp [World.setCell], (Below.setCell (Below.setCell (Below.refl _ _) (p := ⟨g9, 0, none⟩) (Nat.le_refl _) (.int .i64 ml)) (p := ⟨g9, 1, none⟩) (Nat.le_refl _) (.int .i64 mh))⟩) ⟨g9, a_g9, c_g9, (blk_set (blk_set hk_g9 0 (.int .i64 ml)) 1 (.int .i64 mh))⟩ (fun h => by cases h))
      try simp only [a_g9, f7]
      go_simp
      try rfl
    exact StepsP.nil
  obtain ⟨hsz, hk_gx, lt_gx, hk_gy, lt_gy, hk_gz, lt_gz, hbw⟩ := hC
  obtain ⟨f10, f11, -⟩ := hA
  replace f10 : ∃ g8 : Nat, (s 9) = .pointer (some ⟨g8, 0, none⟩) ∧ B0 ≤ g8 ∧ w.heap[g8]? = some (.cells #[.int .i64 jl, .int .i64 jh] 23 (0, 0)) := f10
  replace f11 : ∃ g9 : Nat, (s 10) = .pointer (some ⟨g9, 0, none⟩) ∧ B0 ≤ g9 ∧ w.heap[g9]? = some (.cells #[.int .i64 ml, .int .i64 mh] 23 (0, 0)) := f11
  obtain ⟨g8, a_g8, c_g8, hk_g8⟩ := f10
  obtain ⟨g9, a_g9, c_g9, hk_g9⟩ := f11
  refine act_eq (b' := ?b1) ?h1 ?q1
  case h1 => simp only [a_g8, a_g9]; rfl
  clear hsz lt_gx lt_gy lt_gz c_g8 c_g9 a_g8 a_g9
  go_upto_region 2 with fail
  obtain ⟨B1, hB1⟩ : ∃ B, B = w.heap.size := ⟨_, rfl⟩
  have c0_hsz : B1 ≤ w.heap.size := Nat.le_of_eq hB1
  have hw0B1 : w0.heap.size ≤ B1 := by rw [hB1]; exact hbw.size
  have c0_hk_gx := hk_gx
  have c0_lt_gx : gx < B1 := by rw [hB1]; exact blk_lt hk_gx
  have c0_hk_gy := hk_gy
  have c0_lt_gy : gy < B1 := by rw [hB1]; exact blk_lt hk_gy
  have c0_hk_gz := hk_gz
  have c0_lt_gz : gz < B1 := by rw [hB1]; exact blk_lt hk_gz
  have c0_hk_g8 := hk_g8
  have c0_lt_g8 : g8 < B1 := by rw [hB1]; exact blk_lt hk_g8
  have c0_hk_g9 := hk_g9
  have c0_lt_g9 : g9 < B1 := by rw [hB1]; exact blk_lt hk_g9
  have c0_hbw := hbw
  clear hB1 hbw hk_gx hk_gy hk_gz hk_g8 hk_g9
  refine region_lin (n := 54) (st := ?st2) { R := [0, 0, 3, 7, 15, 31, 31, 127, 255, 511, 1023, 2047, 2047, 8191, 16383, 32767, 65535, 131071, 131071, 524287, 1048575, 2097151, 4194303, 8388607, 8388607, 33554431, 67108863, 134217727, 134217727, 536870911, 1073741823, 2147483647, 4294967295, 4294967295, 17179869183, 34359738367, 68719476735, 137438953471, 274877906943, 549755813887, 549755813887, 2199023255551, 4398046511103, 8796093022207, 8796093022207, 35184372088831, 70368744177663, 140737488355327, 281474976710655, 281474976710655, 1125899906842623, 2251799813685247, 4503599627370495, 9007199254740991], kill := [[], [], [], [], [], [], [], [], [], [], [], [], [], [], [], [], [], [], [], [], [], [], [], [], [], [], [], [], [], [], [], [], [], [], [], [], [], [], [], [], [], [], [], [], [], [], [], [], [], [], [], [], [], []], cls := [0, 0, 0, 0, 0, 0, 0, 0, 0, 0, 0, 0, 0, 0, 0, 0, 0, 0, 0, 0, 0, 0, 0, 0, 0, 0, 0, 0, 0, 0, 0, 0, 0, 0, 0, 0, 0, 0, 0, 0, 0, 0, 0, 0, 0, 0, 0, 0, 0, 0, 0, 0, 0, 0], dst := [some 19, some 20, some 21, some 22, some 23, some 24, some 25, some 26, some 27, some 28, some 29, some 30, some 31, some 32, some 33, some 34, some 35, some 36, some 37, some 38, some 39, some 40, some 41, some 42, some 43, some 44, some 45, some 46, some 47, some 48, some 49, some 50, some 51, some 52, some 53, some 54, some 55, some 56, some 57, some 58, some 59, some 60, some 61, some 62, some 63, some 64, some 65, some 66, some 67, some 68, some 69, some 70, some 71, some 72], pre := [[], [], [0, 1], [2], [3], [4], [4], [4, 5, 6], [4, 7], [4, 8], [9], [10], [10], [10, 11, 12], [10, 13], [10, 14], [15], [16], [16], [16, 17, 18], [16, 19], [16, 20], [21], [22], [22], [22, 23, 24], [22, 25], [26], [26], [26, 27, 28], [22, 26, 29], [22, 30], [31], [31], [31, 32, 33], [31, 34], [22, 31, 35], [22, 36], [37], [38], [38], [38, 39, 40], [38, 41], [42], [42], [42, 43, 44], [38, 42, 45], [38, 46], [47], [47], [47, 48, 49], [47, 50], [38, 47, 51], [38, 52]], cov := [], fin := [53], locs := [], tgt := [none], abt := [none, none, none, none, none, none, none, none, none, none, none, none, none, none, none, none, none, none, none, none, none, none, none, none, none, none, none, none, none, none, none, none, none, none, none, none, none, none, none, none, none, none, none, none, none, none, none, none, none, none, none, none, none, none] }
    [.v [19] (fun vs => (vs.getD 0 undef) = .agg #[.int .i64 xl, .int .i64 xh]),
     .v [20] (fun vs => (vs.getD 0 undef) = .agg #[.int .i64 jl, .int .i64 jh]),
     .v [21] (fun vs => (vs.getD 0 undef) = .bool true),
     .v [22] (fun vs => (vs.getD 0 undef) = .bool false),
     .v [23] (fun vs => (vs.getD 0 undef) = .bool false),
     .v [24] (fun vs => (vs.getD 0 undef) = .agg #[.int .i64 yl, .int .i64 yh]),
     .v [25] (fun vs => (vs.getD 0 undef) = .agg #[.int .i64 jl, .int .i64 jh]),
     .v [26] (fun vs => (vs.getD 0 undef) = .bool true),
     .v [27] (fun vs => (vs.getD 0 undef) = .bool false),
     .v [28] (fun vs => (vs.getD 0 undef) = .bool false),
     .v [29] (fun vs => (vs.getD 0 undef) = .bool false),
     .v [30] (fun vs => (vs.getD 0 undef) = .agg #[.int .i64 ml, .int .i64 mh]),
     .v [31] (fun vs => (vs.getD 0 undef) = .agg #[.int .i64 xl, .int .i64 xh]),
     .v [32] (fun vs => (vs.getD 0 undef) = .bool true),
     .v [33] (fun vs => (vs.getD 0 undef) = .bool false),
     .v [34] (fun vs => (vs.getD 0 undef) = .bool false),
     .v [35] (fun vs => (vs.getD 0 undef) = .bool false),
     .v [36] (fun vs => (vs.getD 0 undef) = .agg #[.int .i64 ml, .int .i64 mh]),
     .v [37] (fun vs => (vs.getD 0 undef) = .agg #[.int .i64 yl, .int .i64 yh]),
     .v [38] (fun vs => (vs.getD 0 undef) = .bool true),
     .v [39] (fun vs => (vs.getD 0 undef) = .bool false),
     .v [40] (fun vs => (vs.getD 0 undef) = .bool false),
     .v [41] (fun vs => (vs.getD 0 undef) = .bool false),
     .v [42] (fun vs => (vs.getD 0 undef) = .agg #[.int .i64 xl, .int .i64 xh]),
     .v [43] (fun vs => (vs.getD 0 undef) = .agg #[.int .i64 zl, .int .i64 zh]),
     .v [44] (fun vs => (vs.getD 0 undef) = .bool (inS ⟨xl, xh⟩ ⟨zl, zh⟩)),
     .v [45] (fun vs => (vs.getD 0 undef) = .bool (inS ⟨xl, xh⟩ ⟨zl, zh⟩)),
     .v [46] (fun vs => ((inS ⟨xl, xh⟩ ⟨zl, zh⟩) = true → (vs.getD 0 undef) = .agg #[.int .i64 yl, .int .i64 yh]) ∧ ((inS ⟨xl, xh⟩ ⟨zl, zh⟩) = false → (vs.getD 0 undef) = undef)),
     .v [47] (fun vs => ((inS ⟨xl, xh⟩ ⟨zl, zh⟩) = true → (vs.getD 0 undef) = .agg #[.int .i64 zl, .int .i64 zh]) ∧ ((inS ⟨xl, xh⟩ ⟨zl, zh⟩) = false → (vs.getD 0 undef) = undef)),
     .v [48] (fun vs => ((inS ⟨xl, xh⟩ ⟨zl, zh⟩) = true → (vs.getD 0 undef) = .bool (inS ⟨yl, yh⟩ ⟨zl, zh⟩)) ∧ ((inS ⟨xl, xh⟩ ⟨zl, zh⟩) = false → (vs.getD 0 undef) = undef)),
     .v [49] (fun vs => (vs.getD 0 undef) = .bool ((inS ⟨xl, xh⟩ ⟨zl, zh⟩) && (inS ⟨yl, yh⟩ ⟨zl, zh⟩))),
     .v [50] (fun vs => (vs.getD 0 undef) = .bool ((inS ⟨xl, xh⟩ ⟨zl, zh⟩) && (inS ⟨yl, yh⟩ ⟨zl, zh⟩))),
     .v [51] (fun vs => (((inS ⟨xl, xh⟩ ⟨zl, zh⟩) && (inS ⟨yl, yh⟩ ⟨zl, zh⟩)) = true → (vs.getD 0 undef) = .agg #[.int .i64 jl, .int .i64 jh]) ∧ (((inS ⟨xl, xh⟩ ⟨zl, zh⟩) && (inS ⟨yl, yh⟩ ⟨zl, zh⟩)) = false → (vs.getD 0 undef) = undef)),
     .v [52] (fun vs => (((inS ⟨xl, xh⟩ ⟨zl, zh⟩) && (inS ⟨yl, yh⟩ ⟨zl, zh⟩)) = true → (vs.getD 0 undef) = .agg #[.int .i64 zl, .int .i64 zh]) ∧ (((inS ⟨xl, xh⟩ ⟨zl, zh⟩) && (inS ⟨yl, yh⟩ ⟨zl, zh⟩)) = false → (vs.getD 0 undef) = undef)),
     .v [53] (fun vs => (((inS ⟨xl, xh⟩ ⟨zl, zh⟩) && (inS ⟨yl, yh⟩ ⟨zl, zh⟩)) = true → (vs.getD 0 undef) = .bool (inS ⟨jl, jh⟩ ⟨zl, zh⟩)) ∧ (((inS ⟨xl, xh⟩ ⟨zl, zh⟩) && (inS ⟨yl, yh⟩ ⟨zl, zh⟩)) = false → (vs.getD 0 undef) = undef)),
     .v [54] (fun vs => (((inS ⟨xl, xh⟩ ⟨zl, zh⟩) && (inS ⟨yl, yh⟩ ⟨zl, zh⟩)) = true → (vs.getD 0 undef) = .bool (!(inS ⟨jl, jh⟩ ⟨zl, zh⟩))) ∧ (((inS ⟨xl, xh⟩ ⟨zl, zh⟩) && (inS ⟨yl, yh⟩ ⟨zl, zh⟩)) = false → (vs.getD 0 undef) = undef)),
     .v [55] (fun vs => (vs.getD 0 undef) = .bool false),
     .v [56] (fun vs => (vs.getD 0 undef) = .bool false),
     .v [57] (fun vs => (vs.getD 0 undef) = .bool false),
     .v [58] (fun vs => (vs.getD 0 undef) = .agg #[.int .i64 zl, .int .i64 zh]),
     .v [59] (fun vs => (vs.getD 0 undef) = .agg #[.int .i64 xl, .int .i64 xh]),
     .v [60] (fun vs => (vs.getD 0 undef) = .bool (inS ⟨zl, zh⟩ ⟨xl, xh⟩)),
     .v [61] (fun vs => (vs.getD 0 undef) = .bool (inS ⟨zl, zh⟩ ⟨xl, xh⟩)),
     .v [62] (fun vs => ((inS ⟨zl, zh⟩ ⟨xl, xh⟩) = true → (vs.getD 0 undef) = .agg #[.int .i64 zl, .int .i64 zh]) ∧ ((inS ⟨zl, zh⟩ ⟨xl, xh⟩) = false → (vs.getD 0 undef) = undef)),
     .v [63] (fun vs => ((inS ⟨zl, zh⟩ ⟨xl, xh⟩) = true → (vs.getD 0 undef) = .agg #[.int .i64 yl, .int .i64 yh]) ∧ ((inS ⟨zl, zh⟩ ⟨xl, xh⟩) = false → (vs.getD 0 undef) = undef)),
     .v [64] (fun vs => ((inS ⟨zl, zh⟩ ⟨xl, xh⟩) = true → (vs.getD 0 undef) = .bool (inS ⟨zl, zh⟩ ⟨yl, yh⟩)) ∧ ((inS ⟨zl, zh⟩ ⟨xl, xh⟩) = false → (vs.getD 0 undef) = undef)),
     .v [65] (fun vs => (vs.getD 0 undef) = .bool ((inS ⟨zl, zh⟩ ⟨xl, xh⟩) && (inS ⟨zl, zh⟩ ⟨yl, yh⟩))),
     .v [66] (fun vs => (vs.getD 0 undef) = .bool ((inS ⟨zl, zh⟩ ⟨xl, xh⟩) && (inS ⟨zl, zh⟩ ⟨yl, yh⟩))),
     .v [67] (fun vs => (((inS ⟨zl, zh⟩ ⟨xl, xh⟩) && (inS ⟨zl, zh⟩ ⟨yl, yh⟩)) = true → (vs.getD 0 undef) = .agg #[.int .i64 zl, .int .i64 zh]) ∧ (((inS ⟨zl, zh⟩ ⟨xl, xh⟩) && (inS ⟨zl, zh⟩ ⟨yl, yh⟩)) = false → (vs.getD 0 undef) = undef)),
     .v [68] (fun vs => (((inS ⟨zl, zh⟩ ⟨xl, xh⟩) && (inS ⟨zl, zh⟩ ⟨yl, yh⟩)) = true → (vs.getD 0 undef) = .agg #[.int .i64 ml, .int .i64 mh]) ∧ (((inS ⟨zl, zh⟩ ⟨xl, xh⟩) && (inS ⟨zl, zh⟩ ⟨yl, yh⟩)) = false → (vs.getD 0 undef) = undef)),
     .v [69] (fun vs => (((inS ⟨zl, zh⟩ ⟨xl, xh⟩) && (inS ⟨zl, zh⟩ ⟨yl, yh⟩)) = true → (vs.getD 0 undef) = .bool (inS ⟨zl, zh⟩ ⟨ml, mh⟩)) ∧ (((inS ⟨zl, zh⟩ ⟨xl, xh⟩) && (inS ⟨zl, zh⟩ ⟨yl, yh⟩)) = false → (vs.getD 0 undef) = undef)),
     .v [70] (fun vs => (((inS ⟨zl, zh⟩ ⟨xl, xh⟩) && (inS ⟨zl, zh⟩ ⟨yl, yh⟩)) = true → (vs.getD 0 undef) = .bool (!(inS ⟨zl, zh⟩ ⟨ml, mh⟩))) ∧ (((inS ⟨zl, zh⟩ ⟨xl, xh⟩) && (inS ⟨zl, zh⟩ ⟨yl, yh⟩)) = false → (vs.getD 0 undef) = undef)),
     .v [71] (fun vs => (vs.getD 0 undef) = .bool false),
     .v [72] (fun vs => (vs.getD 0 undef) = .bool false)]
    (fun w => B1 ≤ w.heap.size ∧ w.heap[gx]? = some (.cells #[.int .i64 xl, .int .i64 xh] 23 (0, 0)) ∧ gx < B1 ∧ w.heap[gy]? = some (.cells #[.int .i64 yl, .int .i64 yh] 23 (0, 0)) ∧ gy < B1 ∧ w.heap[gz]? = some (.cells #[.int .i64 zl, .int .i64 zh] 23 (0, 0)) ∧ gz < B1 ∧ w.heap[g8]? = some (.cells #[.int .i64 jl, .int .i64 jh] 23 (0, 0)) ∧ g8 < B1 ∧ w.heap[g9]? = some (.cells #[.int .i64 ml, .int .i64 mh] 23 (0, 0)) ∧ g9 < B1 ∧ Below w0.heap.size w0 w)
    (fun c => ([fun s w w' => Below w.heap.size w w'] : List ((Nat → Value) → World → World → Prop)).getD c (fun s w w' => w' = w))
    [19, 20, 21, 22, 23, 24, 25, 26, 27, 28, 29, 30, 31, 32, 33, 34, 35, 36, 37, 38, 39, 40, 41, 42, 43, 44, 45, 46, 47, 48, 49, 50, 51, 52, 53, 54, 55, 56, 57, 58, 59, 60, 61, 62, 63, 64, 65, 66, 67, 68, 69, 70, 71, 72] (by kernel_rfl) ⟨by kernel_rfl, by kernel_rfl, by kernel_rfl, by kernel_rfl, by kernel_rfl, by kernel_rfl, by kernel_rfl, by kernel_rfl⟩ (fun s => ?_) ?_ ?_ ?_ ?_ ?_ (fun s w hC hA => ?_)
  rotate_left
  · simp only [fillS, List.foldl, List.setIfInBounds_toArray, List.set_cons_zero, List.set_cons_succ]; rfl
  · exact ⟨c0_hsz, c0_hk_gx, c0_lt_gx, c0_hk_gy, c0_lt_gy, c0_hk_gz, c0_lt_gz, c0_hk_g8, c0_lt_g8, c0_hk_g9, c0_lt_g9, c0_hbw⟩
  · intro c s w w' hE
    match c, hE with
    | 0, hE => exact Below.size hE
    | c + 1, hE => cases hE; exact Nat.le_refl _
  · rintro c s w w' ⟨hsz, hk_gx, lt_gx, hk_gy, lt_gy, hk_gz, lt_gz, hk_g8, lt_g8, hk_g9, lt_g9, hbw⟩ hE
    match c, hE with
    | 0, hE => replace hE : Below w.heap.size w w' := hE; exact ⟨Nat.le_trans hsz hE.size, bl_block hE hk_gx, lt_gx, bl_block hE hk_gy, lt_gy, bl_block hE hk_gz, lt_gz, bl_block hE hk_g8, lt_g8, bl_block hE hk_g9, lt_g9, bl_step hbw hE⟩
    | c + 1, hE => cases hE; exact ⟨hsz, hk_gx, lt_gx, hk_gy, lt_gy, hk_gz, lt_gz, hk_g8, lt_g8, hk_g9, lt_g9, hbw⟩
  · exact trivial
  · skip
    refine StepsP.cons ?_ ?_
    · intro Q s w hC hA K hK
      obtain ⟨hsz, hk_gx, lt_gx, hk_gy, lt_gy, hk_gz, lt_gz, hk_g8, lt_g8, hk_g9, lt_g9, hbw⟩ := hC
      clear hA
      refine guard_none (by rfl) ?_
      have m0_gx : w.cell? ⟨gx, 0, none⟩ = some (.int .i64 xl) := blk_cell hk_gx 0 (by rfl)
      have m1_gx : w.cell? ⟨gx, 1, none⟩ = some (.int .i64 xh) := blk_cell hk_gx 1 (by rfl)
      refine wp_value (v := .agg #[.int .i64 xl, .int .i64 xh]) (w1 := w) ?_ (hK.out _ w (Below.refl _ _) rfl (fun h => by cases h))
      go_simp
      try (first | done | rfl | (simp; done))
    refine StepsP.cons ?_ ?_
    · intro Q s w hC hA K hK
      obtain ⟨hsz, hk_gx, lt_gx, hk_gy, lt_gy, hk_gz, lt_gz, hk_g8, lt_g8, hk_g9, lt_g9, hbw⟩ := hC
      clear hA
      refine guard_none (by rfl) ?_
      have m0_g8 : w.cell? ⟨g8, 0, none⟩ = some (.int .i64 jl) := blk_cell hk_g8 0 (by rfl)
      have m1_g8 : w.cell? ⟨g8, 1, none⟩ = some (.int .i64 jh) := blk_cell hk_g8 1 (by rfl)
      refine wp_value (v := .agg #[.int .i64 jl, .int .i64 jh]) (w1 := w) ?_ (hK.out _ w (Below.refl _ _) rfl (fun h => by cases h))
      go_simp
      try (first | done | rfl | (simp; done))
    refine StepsP.cons ?_ ?_
    · intro Q s w hC hA K hK
      obtain ⟨hsz, hk_gx, lt_gx, hk_gy, lt_gy, hk_gz, lt_gz, hk_g8, lt_g8, hk_g9, lt_g9, hbw⟩ := hC
      obtain ⟨f0, f1, -⟩ := hA
      replace f0 : (s 19) = .agg #[.int .i64 xl, .int .i64 xh] := f0
      replace f1 : (s 20) = .agg #[.int .i64 jl, .int .i64 jh] := f1
      refine guard_none (by rfl) ?_
      refine wp_call (N := some 21) (by rfl) Try.func16 (by kernel_rfl) #[.agg #[.int .i64 xl, .int .i64 xh], .agg #[.int .i64 jl, .int .i64 jh]] rfl (by rfl) ?_ ?_
      · show [s 19, s 20] = [.agg #[.int .i64 xl, .int .i64 xh], .agg #[.int .i64 jl, .int .i64 jh]]
        first | rfl | simp only [f0, f1]
      refine (In_calls _ _ _ _ _).mono ?_
      rintro e w1 ⟨rfl, hb⟩
      refine ⟨_, rfl, ?_⟩
      rw [i1.out]
      exact hK.out _ _ hb rfl (fun h => by cases h)
    refine StepsP.cons ?_ ?_
    · intro Q s w hC hA K hK
      clear hC
      obtain ⟨f2, -⟩ := hA
      replace f2 : (s 21) = .bool true := f2
      refine guard_none (by rfl) ?_
      refine wp_value (v := .bool false) (w1 := w) ?_ (hK.out _ w (Below.refl _ _) rfl (fun h => by cases h))
      try simp only [f2]
      go_simp
      try (first | done | rfl | (simp; done))
    refine StepsP.cons ?_ ?_
    · intro Q s w hC hA K hK
      clear hC
      obtain ⟨f3, -⟩ := hA
      replace f3 : (s 22) = .bool false := f3
      refine guard_none (by rfl) ?_
      refine wp_value (v := .bool false) (w1 := w) ?_ (hK.out _ w (Below.refl _ _) rfl (fun h => by cases h))
      try simp only [f3]
      go_simp
      try (first | done | rfl | (simp; done))
    refine StepsP.cons ?_ ?_
    · intro Q s w hC hA K hK
      obtain ⟨hsz, hk_gx, lt_gx, hk_gy, lt_gy, hk_gz, lt_gz, hk_g8, lt_g8, hk_g9, lt_g9, hbw⟩ := hC
      obtain ⟨f4, -⟩ := hA
      replace f4 : (s 23) = .bool false := f4
      refine guard_on (d := 23) (want := false) (by rfl) (by rfl) ?_ ?_
      · exact f4
      have m0_gy : w.cell? ⟨gy, 0, none⟩ = some (.int .i64 yl) := blk_cell hk_gy 0 (by rfl)
      have m1_gy : w.cell? ⟨gy, 1, none⟩ = some (.int .i64 yh) := blk_cell hk_gy 1 (by rfl)
      refine wp_value (v := .agg #[.int .i64 yl, .int .i64 yh]) (w1 := w) ?_ (hK.out _ w (Below.refl _ _) rfl (fun h => by cases h))
      try simp only [f4]
      go_simp
      try (first | done | rfl | (simp; done))
    refine StepsP.cons ?_ ?_
    · intro Q s w hC hA K hK
      obtain ⟨hsz, hk_gx, lt_gx, hk_gy, lt_gy, hk_gz, lt_gz, hk_g8, lt_g8, hk_g9, lt_g9, hbw⟩ := hC
      obtain ⟨f4, -⟩ := hA
      replace f4 : (s 23) = .bool false := f4
      refine guard_on (d := 23) (want := false) (by rfl) (by rfl) ?_ ?_
      · exact f4
      have m0_g8 : w.cell? ⟨g8, 0, none⟩ = some (.int .i64 jl) := blk_cell hk_g8 0 (by rfl)
      have m1_g8 : w.cell? ⟨g8, 1, none⟩ = some (.int .i64 jh) := blk_cell hk_g8 1 (by rfl)
      refine wp_value (v := .agg #[.int .i64 jl, .int .i64 jh]) (w1 := w) ?_ (hK.out _ w (Below.refl _ _) rfl (fun h => by cases h))
      try simp only [f4]
      go_simp
      try (first | done | rfl | (simp; done))
    refine StepsP.cons ?_ ?_
    · intro Q s w hC hA K hK
      obtain ⟨hsz, hk_gx, lt_gx, hk_gy, lt_gy, hk_gz, lt_gz, hk_g8, lt_g8, hk_g9, lt_g9, hbw⟩ := hC
      obtain ⟨f4, f5, f6, -⟩ := hA
      replace f4 : (s 23) = .bool false := f4
      replace f5 : (s 24) = .agg #[.int .i64 yl, .int .i64 yh] := f5
      replace f6 : (s 25) = .agg #[.int .i64 jl, .int .i64 jh] := f6
      refine guard_on (d := 23) (want := false) (by rfl) (by rfl) ?_ ?_
      · exact f4
      refine wp_call (N := some 26) (by rfl) Try.func16 (by kernel_rfl) #[.agg #[.int .i64 yl, .int .i64 yh], .agg #[.int .i64 jl, .int .i64 jh]] rfl (by rfl) ?_ ?_
      · show [s 24, s 25] = [.agg #[.int .i64 yl, .int .i64 yh], .agg #[.int .i64 jl, .int .i64 jh]]
        first | rfl | simp only [f4, f5, f6]
      refine (In_calls _ _ _ _ _).mono ?_
      rintro e w1 ⟨rfl, hb⟩
      refine ⟨_, rfl, ?_⟩
      rw [i2.out]
      exact hK.out _ _ hb rfl (fun h => by cases h)
    refine StepsP.cons ?_ ?_
    · intro Q s w hC hA K hK
      clear hC
      obtain ⟨f4, f7, -⟩ := hA
      replace f4 : (s 23) = .bool false := f4
      replace f7 : (s 26) = .bool true := f7
      refine guard_on (d := 23) (want := false) (by rfl) (by rfl) ?_ ?_
      · exact f4
      refine wp_value (v := .bool false) (w1 := w) ?_ (hK.out _ w (Below.refl _ _) rfl (fun h => by cases h))
      try simp only [f4, f7]
      go_simp
      try (first | done | rfl | (simp; done))
    refine StepsP.cons ?_ ?_
    · intro Q s w hC hA K hK
      clear hC
      obtain ⟨f4, f8, -⟩ := hA
      replace f4 : (s 23) = .bool false := f4
      replace f8 : (s 27) = .bool false := f8
      refine guard_none (by rfl) ?_
      refine wp_value (v := .bool false) (w1 := w) ?_ (hK.out _ w (Below.refl _ _) rfl (fun h => by cases h))
      try simp only [f4, f8]
      go_simp
      try (first | done | rfl | (simp; done))
    refine StepsP.cons ?_ ?_
    · intro Q s w hC hA K hK
      clear hC
      obtain ⟨f9, -⟩ := hA
      replace f9 : (s 28) = .bool false := f9
      refine guard_none (by rfl) ?_
      refine wp_value (v := .bool false) (w1 := w) ?_ (hK.out _ w (Below.refl _ _) rfl (fun h => by cases h))
      try simp only [f9]
      go_simp
      try (first | done | rfl | (simp; done))
    refine StepsP.cons ?_ ?_
    · intro Q s w hC hA K hK
      obtain ⟨hsz, hk_gx, lt_gx, hk_gy, lt_gy, hk_gz, lt_gz, hk_g8, lt_g8, hk_g9, lt_g9, hbw⟩ := hC
      obtain ⟨f10, -⟩ := hA
      replace f10 : (s 29) = .bool false := f10
      refine guard_on (d := 29) (want := false) (by rfl) (by rfl) ?_ ?_
      · exact f10
      have m0_g9 : w.cell? ⟨g9, 0, none⟩ = some (.int .i64 ml) := blk_cell hk_g9 0 (by rfl)
      have m1_g9 : w.cell? ⟨g9, 1, none⟩ = some (.int .i64 mh) := blk_cell hk_g9 1 (by rfl)
      refine wp_value (v := .agg #[.int .i64 ml, .int .i64 mh]) (w1 := w) ?_ (hK.out _ w (Below.refl _ _) rfl (fun h => by cases h))
      try simp only [f10]
      go_simp
      try (first | done | rfl | (simp; done))
    refine StepsP.cons ?_ ?_
    · intro Q s w hC hA K hK
      obtain ⟨hsz, hk_gx, lt_gx, hk_gy, lt_gy, hk_gz, lt_gz, hk_g8, lt_g8, hk_g9, lt_g9, hbw⟩ := hC
      obtain ⟨f10, -⟩ := hA
      replace f10 : (s 29) = .bool false := f10
      refine guard_on (d := 29) (want := false) (by rfl) (by rfl) ?_ ?_
      · exact f10
      have m0_gx : w.cell? ⟨gx, 0, none⟩ = some (.int .i64 xl) := blk_cell hk_gx 0 (by rfl)
      have m1_gx : w.cell? ⟨gx, 1, none⟩ = some (.int .i64 xh) := blk_cell hk_gx 1 (by rfl)
      refine wp_value (v := .agg #[.int .i64 xl, .int .i64 xh]) (w1 := w) ?_ (hK.out _ w (Below.refl _ _) rfl (fun h => by cases h))
      try simp only [f10]
      go_simp
      try (first | done | rfl | (simp; done))
    refine StepsP.cons ?_ ?_
    · intro Q s w hC hA K hK
      obtain ⟨hsz, hk_gx, lt_gx, hk_gy, lt_gy, hk_gz, lt_gz, hk_g8, lt_g8, hk_g9, lt_g9, hbw⟩ := hC
      obtain ⟨f10, f11, f12, -⟩ := hA
      replace f10 : (s 29) = .bool false := f10
      replace f11 : (s 30) = .agg #[.int .i64 ml, .int .i64 mh] := f11
      replace f12 : (s 31) = .agg #[.int .i64 xl, .int .i64 xh] := f12
      refine guard_on (d := 29) (want := false) (by rfl) (by rfl) ?_ ?_
      · exact f10
      refine wp_call (N := some 32) (by rfl) Try.func16 (by kernel_rfl) #[.agg #[.int .i64 ml, .int .i64 mh], .agg #[.int .i64 xl, .int .i64 xh]] rfl (by rfl) ?_ ?_
      · show [s 30, s 31] = [.agg #[.int .i64 ml, .int .i64 mh], .agg #[.int .i64 xl, .int .i64 xh]]
        first | rfl | simp only [f10, f11, f12]
      refine (In_calls _ _ _ _ _).mono ?_
      rintro e w1 ⟨rfl, hb⟩
      refine ⟨_, rfl, ?_⟩
      rw [i3.out]
      exact hK.out _ _ hb rfl (fun h => by cases h)
    refine StepsP.cons ?_ ?_
    · intro Q s w hC hA K hK
      clear hC
      obtain ⟨f10, f13, -⟩ := hA
      replace f10 : (s 29) = .bool false := f10
      replace f13 : (s 32) = .bool true := f13
      refine guard_on (d := 29) (want := false) (by rfl) (by rfl) ?_ ?_
      · exact f10
      refine wp_value (v := .bool false) (w1 := w) ?_ (hK.out _ w (Below.refl _ _) rfl (fun h => by cases h))
      try simp only [f10, f13]
      go_simp
      try (first | done | rfl | (simp; done))
    refine StepsP.cons ?_ ?_
    · intro Q s w hC hA K hK
      clear hC
      obtain ⟨f10, f14, -⟩ := hA
      replace f10 : (s 29) = .bool false := f10
      replace f14 : (s 33) = .bool false := f14
      refine guard_none (by rfl) ?_
      refine wp_value (v := .bool false) (w1 := w) ?_ (hK.out _ w (Below.refl _ _) rfl (fun h => by cases h))
      try simp only [f10, f14]
      go_simp
      try (first | done | rfl | (simp; done))
    refine StepsP.cons ?_ ?_
    · intro Q s w hC hA K hK
      clear hC
      obtain ⟨f15, -⟩ := hA
      replace f15 : (s 34) = .bool false := f15
      refine guard_none (by rfl) ?_
      refine wp_value (v := .bool false) (w1 := w) ?_ (hK.out _ w (Below.refl _ _) rfl (fun h => by cases h))
      try simp only [f15]
      go_simp
      try (first | done | rfl | (simp; done))
    refine StepsP.cons ?_ ?_
    · intro Q s w hC hA K hK
      obtain ⟨hsz, hk_gx, lt_gx, hk_gy, lt_gy, hk_gz, lt_gz, hk_g8, lt_g8, hk_g9, lt_g9, hbw⟩ := hC
      obtain ⟨f16, -⟩ := hA
      replace f16 : (s 35) = .bool false := f16
      refine guard_on (d := 35) (want := false) (by rfl) (by rfl) ?_ ?_
      · exact f16
      have m0_g9 : w.cell? ⟨g9, 0, none⟩ = some (.int .i64 ml) := blk_cell hk_g9 0 (by rfl)
      have m1_g9 : w.cell? ⟨g9, 1, none⟩ = some (.int .i64 mh) := blk_cell hk_g9 1 (by rfl)
      refine wp_value (v := .agg #[.int .i64 ml, .int .i64 mh]) (w1 := w) ?_ (hK.out _ w (Below.refl _ _) rfl (fun h => by cases h))
      try simp only [f16]
      go_simp
      try (first | done | rfl | (simp; done))
    refine StepsP.cons ?_ ?_
    · intro Q s w hC hA K hK
      obtain ⟨hsz, hk_gx, lt_gx, hk_gy, lt_gy, hk_gz, lt_gz, hk_g8, lt_g8, hk_g9, lt_g9, hbw⟩ := hC
      obtain ⟨f16, -⟩ := hA
      replace f16 : (s 35) = .bool false := f16
      refine guard_on (d := 35) (want := false) (by rfl) (by rfl) ?_ ?_
      · exact f16
      have m0_gy : w.cell? ⟨gy, 0, none⟩ = some (.int .i64 yl) := blk_cell hk_gy 0 (by rfl)
      have m1_gy : w.cell? ⟨gy, 1, none⟩ = some (.int .i64 yh) := blk_cell hk_gy 1 (by rfl)
      refine wp_value (v := .agg #[.int .i64 yl, .int .i64 yh]) (w1 := w) ?_ (hK.out _ w (Below.refl _ _) rfl (fun h => by cases h))
      try simp only [f16]
      go_simp
      try (first | done | rfl | (simp; done))
    refine StepsP.cons ?_ ?_
    · intro Q s w hC hA K hK
      obtain ⟨hsz, hk_gx, lt_gx, hk_gy, lt_gy, hk_gz, lt_gz, hk_g8, lt_g8, hk_g9, lt_g9, hbw⟩ := hC
      obtain ⟨f16, f17, f18, -⟩ := hA
      replace f16 : (s 35) = .bool false := f16
      replace f17 : (s 36) = .agg #[.int .i64 ml, .int .i64 mh] := f17
      replace f18 : (s 37) = .agg #[.int .i64 yl, .int .i64 yh] := f18
      refine guard_on (d := 35) (want := false) (by rfl) (by rfl) ?_ ?_
      · exact f16
      refine wp_call (N := some 38) (by rfl) Try.func16 (by kernel_rfl) #[.agg #[.int .i64 ml, .int .i64 mh], .agg #[.int .i64 yl, .int .i64 yh]] rfl (by rfl) ?_ ?_
      · show [s 36, s 37] = [.agg #[.int .i64 ml, .int .i64 mh], .agg #[.int .i64 yl, .int .i64 yh]]
        first | rfl | simp only [f16, f17, f18]
      refine (In_calls _ _ _ _ _).mono ?_
      rintro e w1 ⟨rfl, hb⟩
      refine ⟨_, rfl, ?_⟩
      rw [i4.out]
      exact hK.out _ _ hb rfl (fun h => by cases h)
    refine StepsP.cons ?_ ?_
    · intro Q s w hC hA K hK
      clear hC
      obtain ⟨f16, f19, -⟩ := hA
      replace f16 : (s 35) = .bool false := f16
      replace f19 : (s 38) = .bool true := f19
      refine guard_on (d := 35) (want := false) (by rfl) (by rfl) ?_ ?_
      · exact f16
      refine wp_value (v := .bool false) (w1 := w) ?_ (hK.out _ w (Below.refl _ _) rfl (fun h => by cases h))
      try simp only [f16, f19]
      go_simp
      try (first | done | rfl | (simp; done))
    refine StepsP.cons ?_ ?_
    · intro Q s w hC hA K hK
      clear hC
      obtain ⟨f16, f20, -⟩ := hA
      replace f16 : (s 35) = .bool false := f16
      replace f20 : (s 39) = .bool false := f20
      refine guard_none (by rfl) ?_
      refine wp_value (v := .bool false) (w1 := w) ?_ (hK.out _ w (Below.refl _ _) rfl (fun h => by cases h))
      try simp only [f16, f20]
      go_simp
      try (first | done | rfl | (simp; done))
    refine StepsP.cons ?_ ?_
    · intro Q s w hC hA K hK
      clear hC
      obtain ⟨f21, -⟩ := hA
      replace f21 : (s 40) = .bool false := f21
      refine guard_none (by rfl) ?_
      refine wp_value (v := .bool false) (w1 := w) ?_ (hK.out _ w (Below.refl _ _) rfl (fun h => by cases h))
      try simp only [f21]
      go_simp
      try (first | done | rfl | (simp; done))
    refine StepsP.cons ?_ ?_
    · intro Q s w hC hA K hK
      obtain ⟨hsz, hk_gx, lt_gx, hk_gy, lt_gy, hk_gz, lt_gz, hk_g8, lt_g8, hk_g9, lt_g9, hbw⟩ := hC
      obtain ⟨f22, -⟩ := hA
      replace f22 : (s 41) = .bool false := f22
      refine guard_on (d := 41) (want := false) (by rfl) (by rfl) ?_ ?_
      · exact f22
      have m0_gx : w.cell? ⟨gx, 0, none⟩ = some (.int .i64 xl) := blk_cell hk_gx 0 (by rfl)
      have m1_gx : w.cell? ⟨gx, 1, none⟩ = some (.int .i64 xh) := blk_cell hk_gx 1 (by rfl)
      refine wp_value (v := .agg #[.int .i64 xl, .int .i64 xh]) (w1 := w) ?_ (hK.out _ w (Below.refl _ _) rfl (fun h => by cases h))
      try simp only [f22]
      go_simp
      try (first | done | rfl | (simp; done))
    refine StepsP.cons ?_ ?_
    · intro Q s w hC hA K hK
      obtain ⟨hsz, hk_gx, lt_gx, hk_gy, lt_gy, hk_gz, lt_gz, hk_g8, lt_g8, hk_g9, lt_g9, hbw⟩ := hC
      obtain ⟨f22, -⟩ := hA
      replace f22 : (s 41) = .bool false := f22
      refine guard_on (d := 41) (want := false) (by rfl) (by rfl) ?_ ?_
      · exact f22
      have m0_gz : w.cell? ⟨gz, 0, none⟩ = some (.int .i64 zl) := blk_cell hk_gz 0 (by rfl)
      have m1_gz : w.cell? ⟨gz, 1, none⟩ = some (.int .i64 zh) := blk_cell hk_gz 1 (by rfl)
      refine wp_value (v := .agg #[.int .i64 zl, .int .i64 zh]) (w1 := w) ?_ (hK.out _ w (Below.refl _ _) rfl (fun h => by cases h))
      try simp only [f22]
      go_simp
      try (first | done | rfl | (simp; done))
    refine StepsP.cons ?_ ?_
    · intro Q s w hC hA K hK
      obtain ⟨hsz, hk_gx, lt_gx, hk_gy, lt_gy, hk_gz, lt_gz, hk_g8, lt_g8, hk_g9, lt_g9, hbw⟩ := hC
      obtain ⟨f22, f23, f24, -⟩ := hA
      replace f22 : (s 41) = .bool false := f22
      replace f23 : (s 42) = .agg #[.int .i64 xl, .int .i64 xh] := f23
      replace f24 : (s 43) = .agg #[.int .i64 zl, .int .i64 zh] := f24
      refine guard_on (d := 41) (want := false) (by rfl) (by rfl) ?_ ?_
      · exact f22
      refine wp_call (N := some 44) (by rfl) Try.func16 (by kernel_rfl) #[.agg #[.int .i64 xl, .int .i64 xh], .agg #[.int .i64 zl, .int .i64 zh]] rfl (by rfl) ?_ ?_
      · show [s 42, s 43] = [.agg #[.int .i64 xl, .int .i64 xh], .agg #[.int .i64 zl, .int .i64 zh]]
        first | rfl | simp only [f22, f23, f24]
      refine (In_calls _ _ _ _ _).mono ?_
      rintro e w1 ⟨rfl, hb⟩
      refine ⟨_, rfl, ?_⟩
      exact hK.out _ _ hb rfl (fun h => by cases h)
    refine StepsP.cons ?_ ?_
    · intro Q s w hC hA K hK
      clear hC
      obtain ⟨f22, f25, -⟩ := hA
      replace f22 : (s 41) = .bool false := f22
      replace f25 : (s 44) = .bool (inS ⟨xl, xh⟩ ⟨zl, zh⟩) := f25
      refine guard_on (d := 41) (want := false) (by rfl) (by rfl) ?_ ?_
      · exact f22
      refine wp_value (v := .bool (inS ⟨xl, xh⟩ ⟨zl, zh⟩)) (w1 := w) ?_ (hK.out _ w (Below.refl _ _) rfl (fun h => by cases h))
      try simp only [f22, f25]
      go_simp
      try (first | done | rfl | (simp; done))
    refine StepsP.cons ?_ ?_
    · intro Q s w hC hA K hK
      obtain ⟨hsz, hk_gx, lt_gx, hk_gy, lt_gy, hk_gz, lt_gz, hk_g8, lt_g8, hk_g9, lt_g9, hbw⟩ := hC
      obtain ⟨f26, -⟩ := hA
      replace f26 : (s 45) = .bool (inS ⟨xl, xh⟩ ⟨zl, zh⟩) := f26
      cases hc : (inS ⟨xl, xh⟩ ⟨zl, zh⟩)
      · refine guard_off (d := 45) (want := true) (by rfl) (by rfl) ?_ ?_
        · show s 45 ≠ .bool true
          · intro h_
            rw [f26] at h_; injection h_ with h_; rw [Bool.eq_false_iff] at hc; exact hc (by simp_all)
        exact hK.out _ w (Below.refl _ _) ⟨fun h_ => (by rw [hc] at h_; cases h_), fun _ => rfl⟩ (fun _ g h => by cases h)
      · refine guard_on (d := 45) (want := true) (by rfl) (by rfl) ?_ ?_
        · exact (f26).trans (by rw [show (inS ⟨xl, xh⟩ ⟨zl, zh⟩) = true by simp_all])
        have m0_gy : w.cell? ⟨gy, 0, none⟩ = some (.int .i64 yl) := blk_cell hk_gy 0 (by rfl)
        have m1_gy : w.cell? ⟨gy, 1, none⟩ = some (.int .i64 yh) := blk_cell hk_gy 1 (by rfl)
        refine wp_value (v := .agg #[.int .i64 yl, .int .i64 yh]) (w1 := w) ?_ (hK.out _ w (Below.refl _ _) ⟨fun _ => rfl, fun h_ => (by rw [hc] at h_; cases h_)⟩ (fun h => by cases h))
        try simp only [f26]
        go_simp
        try (first | done | rfl | (simp; done))
    refine StepsP.cons ?_ ?_
    · intro Q s w hC hA K hK
      obtain ⟨hsz, hk_gx, lt_gx, hk_gy, lt_gy, hk_gz, lt_gz, hk_g8, lt_g8, hk_g9, lt_g9, hbw⟩ := hC
      obtain ⟨f26, -⟩ := hA
      replace f26 : (s 45) = .bool (inS ⟨xl, xh⟩ ⟨zl, zh⟩) := f26
      cases hc : (inS ⟨xl, xh⟩ ⟨zl, zh⟩)
      · refine guard_off (d := 45) (want := true) (by rfl) (by rfl) ?_ ?_
        · show s 45 ≠ .bool true
          · intro h_
            rw [f26] at h_; injection h_ with h_; rw [Bool.eq_false_iff] at hc; exact hc (by simp_all)
        exact hK.out _ w (Below.refl _ _) ⟨fun h_ => (by rw [hc] at h_; cases h_), fun _ => rfl⟩ (fun _ g h => by cases h)
      · refine guard_on (d := 45) (want := true) (by rfl) (by rfl) ?_ ?_
        · exact (f26).trans (by rw [show (inS ⟨xl, xh⟩ ⟨zl, zh⟩) = true by simp_all])
        have m0_gz : w.cell? ⟨gz, 0, none⟩ = some (.int .i64 zl) := blk_cell hk_gz 0 (by rfl)
        have m1_gz : w.cell? ⟨gz, 1, none⟩ = some (.int .i64 zh) := blk_cell hk_gz 1 (by rfl)
        refine wp_value (v := .agg #[.int .i64 zl, .int .i64 zh]) (w1 := w) ?_ (hK.out _ w (Below.refl _ _) ⟨fun _ => rfl, fun h_ => (by rw [hc] at h_; cases h_)⟩ (fun h => by cases h))
        try simp only [f26]
        go_simp
        try (first | done | rfl | (simp; done))
    refine StepsP.cons ?_ ?_
    · intro Q s w hC hA K hK
      obtain ⟨hsz, hk_gx, lt_gx, hk_gy, lt_gy, hk_gz, lt_gz, hk_g8, lt_g8, hk_g9, lt_g9, hbw⟩ := hC
      obtain ⟨f26, f27, f28, -⟩ := hA
      replace f26 : (s 45) = .bool (inS ⟨xl, xh⟩ ⟨zl, zh⟩) := f26
      replace f27 : ((inS ⟨xl, xh⟩ ⟨zl, zh⟩) = true → (s 46) = .agg #[.int .i64 yl, .int .i64 yh]) ∧ ((inS ⟨xl, xh⟩ ⟨zl, zh⟩) = false → (s 46) = undef) := f27
      replace f28 : ((inS ⟨xl, xh⟩ ⟨zl, zh⟩) = true → (s 47) = .agg #[.int .i64 zl, .int .i64 zh]) ∧ ((inS ⟨xl, xh⟩ ⟨zl, zh⟩) = false → (s 47) = undef) := f28
      cases hc : (inS ⟨xl, xh⟩ ⟨zl, zh⟩)
      · refine guard_off (d := 45) (want := true) (by rfl) (by rfl) ?_ ?_
        · show s 45 ≠ .bool true
          · intro h_
            rw [f26] at h_; injection h_ with h_; rw [Bool.eq_false_iff] at hc; exact hc (by simp_all)
        exact hK.out _ w (Below.refl _ _) ⟨fun h_ => (by rw [hc] at h_; cases h_), fun _ => rfl⟩ (fun _ g h => by cases h)
      · refine guard_on (d := 45) (want := true) (by rfl) (by rfl) ?_ ?_
        · exact (f26).trans (by rw [show (inS ⟨xl, xh⟩ ⟨zl, zh⟩) = true by simp_all])
        replace f27 := f27.1 (by exact hc)
        replace f28 := f28.1 (by exact hc)
        refine wp_call (N := some 48) (by rfl) Try.func16 (by kernel_rfl) #[.agg #[.int .i64 yl, .int .i64 yh], .agg #[.int .i64 zl, .int .i64 zh]] rfl (by rfl) ?_ ?_
        · show [s 46, s 47] = [.agg #[.int .i64 yl, .int .i64 yh], .agg #[.int .i64 zl, .int .i64 zh]]
          first | rfl | simp only [f26, f27, f28]
        refine (In_calls _ _ _ _ _).mono ?_
        rintro e w1 ⟨rfl, hb⟩
        refine ⟨_, rfl, ?_⟩
        exact hK.out _ _ hb ⟨fun _ => rfl, fun h_ => (by rw [hc] at h_; cases h_)⟩ (fun h => by cases h)
    refine StepsP.cons ?_ ?_
    · intro Q s w hC hA K hK
      clear hC
      obtain ⟨f22, f26, f29, -⟩ := hA
      replace f22 : (s 41) = .bool false := f22
      replace f26 : (s 45) = .bool (inS ⟨xl, xh⟩ ⟨zl, zh⟩) := f26
      replace f29 : ((inS ⟨xl, xh⟩ ⟨zl, zh⟩) = true → (s 48) = .bool (inS ⟨yl, yh⟩ ⟨zl, zh⟩)) ∧ ((inS ⟨xl, xh⟩ ⟨zl, zh⟩) = false → (s 48) = undef) := f29
      refine guard_on (d := 41) (want := false) (by rfl) (by rfl) ?_ ?_
      · exact f22
      refine wp_value (v := .bool ((inS ⟨xl, xh⟩ ⟨zl, zh⟩) && (inS ⟨yl, yh⟩ ⟨zl, zh⟩))) (w1 := w) ?_ (hK.out _ w (Below.refl _ _) rfl (fun h => by cases h))
      cases ht : inS ⟨xl, xh⟩ ⟨zl, zh⟩
      · skip
        have hct_ : s 45 = .bool false := by rw [f26, ht]
        simp only [hct_]
        go_simp
        try simp
      · have hy_ := f29.1 (by simp_all)
        have hct_ : s 45 = .bool true := by rw [f26, ht]
        simp only [hct_, hy_]
        go_simp
        try simp
    refine StepsP.cons ?_ ?_
    · intro Q s w hC hA K hK
      clear hC
      obtain ⟨f22, f30, -⟩ := hA
      replace f22 : (s 41) = .bool false := f22
      replace f30 : (s 49) = .bool ((inS ⟨xl, xh⟩ ⟨zl, zh⟩) && (inS ⟨yl, yh⟩ ⟨zl, zh⟩)) := f30
      refine guard_on (d := 41) (want := false) (by rfl) (by rfl) ?_ ?_
      · exact f22
      refine wp_value (v := .bool ((inS ⟨xl, xh⟩ ⟨zl, zh⟩) && (inS ⟨yl, yh⟩ ⟨zl, zh⟩))) (w1 := w) ?_ (hK.out _ w (Below.refl _ _) rfl (fun h => by cases h))
      try simp only [f22, f30]
      go_simp
      try (first | done | rfl | (simp; done))
    refine StepsP.cons ?_ ?_
    · intro Q s w hC hA K hK
      obtain ⟨hsz, hk_gx, lt_gx, hk_gy, lt_gy, hk_gz, lt_gz, hk_g8, lt_g8, hk_g9, lt_g9, hbw⟩ := hC
      obtain ⟨f31, -⟩ := hA
      replace f31 : (s 50) = .bool ((inS ⟨xl, xh⟩ ⟨zl, zh⟩) && (inS ⟨yl, yh⟩ ⟨zl, zh⟩)) := f31
      cases hc : ((inS ⟨xl, xh⟩ ⟨zl, zh⟩) && (inS ⟨yl, yh⟩ ⟨zl, zh⟩))
      · refine guard_off (d := 50) (want := true) (by rfl) (by rfl) ?_ ?_
        · show s 50 ≠ .bool true
          · intro h_
            rw [f31] at h_; injection h_ with h_; rw [Bool.eq_false_iff] at hc; exact hc (by simp_all)
        exact hK.out _ w (Below.refl _ _) ⟨fun h_ => (by rw [hc] at h_; cases h_), fun _ => rfl⟩ (fun _ g h => by cases h)
      · refine guard_on (d := 50) (want := true) (by rfl) (by rfl) ?_ ?_
        · exact (f31).trans (by rw [show ((inS ⟨xl, xh⟩ ⟨zl, zh⟩) && (inS ⟨yl, yh⟩ ⟨zl, zh⟩)) = true by simp_all])
        have m0_g8 : w.cell? ⟨g8, 0, none⟩ = some (.int .i64 jl) := blk_cell hk_g8 0 (by rfl)
        have m1_g8 : w.cell? ⟨g8, 1, none⟩ = some (.int .i64 jh) := blk_cell hk_g8 1 (by rfl)
        refine wp_value (v := .agg #[.int .i64 jl, .int .i64 jh]) (w1 := w) ?_ (hK.out _ w (Below.refl _ _) ⟨fun _ => rfl, fun h_ => (by rw [hc] at h_; cases h_)⟩ (fun h => by cases h))
        try simp only [f31]
        go_simp
        try (first | done | rfl | (simp; done))
    refine StepsP.cons ?_ ?_
    · intro Q s w hC hA K hK
      obtain ⟨hsz, hk_gx, lt_gx, hk_gy, lt_gy, hk_gz, lt_gz, hk_g8, lt_g8, hk_g9, lt_g9, hbw⟩ := hC
      obtain ⟨f31, -⟩ := hA
      replace f31 : (s 50) = .bool ((inS ⟨xl, xh⟩ ⟨zl, zh⟩) && (inS ⟨yl, yh⟩ ⟨zl, zh⟩)) := f31
      cases hc : ((inS ⟨xl, xh⟩ ⟨zl, zh⟩) && (inS ⟨yl, yh⟩ ⟨zl, zh⟩))
      · refine guard_off (d := 50) (want := true) (by rfl) (by rfl) ?_ ?_
        · show s 50 ≠ .bool true
          · intro h_
            rw [f31] at h_; injection h_ with h_; rw [Bool.eq_false_iff] at hc; exact hc (by simp_all)
        exact hK.out _ w (Below.refl _ _) ⟨fun h_ => (by rw [hc] at h_; cases h_), fun _ => rfl⟩ (fun _ g h => by cases h)
      · refine guard_on (d := 50) (want := true) (by rfl) (by rfl) ?_ ?_
        · exact (f31).trans (by rw [show ((inS ⟨xl, xh⟩ ⟨zl, zh⟩) && (inS ⟨yl, yh⟩ ⟨zl, zh⟩)) = true by simp_all])
        have m0_gz : w.cell? ⟨gz, 0, none⟩ = some (.int .i64 zl) := blk_cell hk_gz 0 (by rfl)
        have m1_gz : w.cell? ⟨gz, 1, none⟩ = some (.int .i64 zh) := blk_cell hk_gz 1 (by rfl)
        refine wp_value (v := .agg #[.int .i64 zl, .int .i64 zh]) (w1 := w) ?_ (hK.out _ w (Below.refl _ _) ⟨fun _ => rfl, fun h_ => (by rw [hc] at h_; cases h_)⟩ (fun h => by cases h))
        try simp only [f31]
        go_simp
        try (first | done | rfl | (simp; done))
    refine StepsP.cons ?_ ?_
    · intro Q s w hC hA K hK
      obtain ⟨hsz, hk_gx, lt_gx, hk_gy, lt_gy, hk_gz, lt_gz, hk_g8, lt_g8, hk_g9, lt_g9, hbw⟩ := hC
      obtain ⟨f31, f32, f33, -⟩ := hA
      replace f31 : (s 50) = .bool ((inS ⟨xl, xh⟩ ⟨zl, zh⟩) && (inS ⟨yl, yh⟩ ⟨zl, zh⟩)) := f31
      replace f32 : (((inS ⟨xl, xh⟩ ⟨zl, zh⟩) && (inS ⟨yl, yh⟩ ⟨zl, zh⟩)) = true → (s 51) = .agg #[.int .i64 jl, .int .i64 jh]) ∧ (((inS ⟨xl, xh⟩ ⟨zl, zh⟩) && (inS ⟨yl, yh⟩ ⟨zl, zh⟩)) = false → (s 51) = undef) := f32
      replace f33 : (((inS ⟨xl, xh⟩ ⟨zl, zh⟩) && (inS ⟨yl, yh⟩ ⟨zl, zh⟩)) = true → (s 52) = .agg #[.int .i64 zl, .int .i64 zh]) ∧ (((inS ⟨xl, xh⟩ ⟨zl, zh⟩) && (inS ⟨yl, yh⟩ ⟨zl, zh⟩)) = false → (s 52) = undef) := f33
      cases hc : ((inS ⟨xl, xh⟩ ⟨zl, zh⟩) && (inS ⟨yl, yh⟩ ⟨zl, zh⟩))
      · refine guard_off (d := 50) (want := true) (by rfl) (by rfl) ?_ ?_
        · show s 50 ≠ .bool true
          · intro h_
            rw [f31] at h_; injection h_ with h_; rw [Bool.eq_false_iff] at hc; exact hc (by simp_all)
        exact hK.out _ w (Below.refl _ _) ⟨fun h_ => (by rw [hc] at h_; cases h_), fun _ => rfl⟩ (fun _ g h => by cases h)
      · refine guard_on (d := 50) (want := true) (by rfl) (by rfl) ?_ ?_
        · exact (f31).trans (by rw [show ((inS ⟨xl, xh⟩ ⟨zl, zh⟩) && (inS ⟨yl, yh⟩ ⟨zl, zh⟩)) = true by simp_all])
        replace f32 := f32.1 (by exact hc)
        replace f33 := f33.1 (by exact hc)
        refine wp_call (N := some 53) (by rfl) Try.func16 (by kernel_rfl) #[.agg #[.int .i64 jl, .int .i64 jh], .agg #[.int .i64 zl, .int .i64 zh]] rfl (by rfl) ?_ ?_
        · show [s 51, s 52] = [.agg #[.int .i64 jl, .int .i64 jh], .agg #[.int .i64 zl, .int .i64 zh]]
          first | rfl | simp only [f31, f32, f33]
        refine (In_calls _ _ _ _ _).mono ?_
        rintro e w1 ⟨rfl, hb⟩
        refine ⟨_, rfl, ?_⟩
        exact hK.out _ _ hb ⟨fun _ => rfl, fun h_ => (by rw [hc] at h_; cases h_)⟩ (fun h => by cases h)
    refine StepsP.cons ?_ ?_
    · intro Q s w hC hA K hK
      clear hC
      obtain ⟨f31, f34, -⟩ := hA
      replace f31 : (s 50) = .bool ((inS ⟨xl, xh⟩ ⟨zl, zh⟩) && (inS ⟨yl, yh⟩ ⟨zl, zh⟩)) := f31
      replace f34 : (((inS ⟨xl, xh⟩ ⟨zl, zh⟩) && (inS ⟨yl, yh⟩ ⟨zl, zh⟩)) = true → (s 53) = .bool (inS ⟨jl, jh⟩ ⟨zl, zh⟩)) ∧ (((inS ⟨xl, xh⟩ ⟨zl, zh⟩) && (inS ⟨yl, yh⟩ ⟨zl, zh⟩)) = false → (s 53) = undef) := f34
      cases hc : ((inS ⟨xl, xh⟩ ⟨zl, zh⟩) && (inS ⟨yl, yh⟩ ⟨zl, zh⟩))
      · refine guard_off (d := 50) (want := true) (by rfl) (by rfl) ?_ ?_
        · show s 50 ≠ .bool true
          · intro h_
            rw [f31] at h_; injection h_ with h_; rw [Bool.eq_false_iff] at hc; exact hc (by simp_all)
        exact hK.out _ w (Below.refl _ _) ⟨fun h_ => (by rw [hc] at h_; cases h_), fun _ => rfl⟩ (fun _ g h => by cases h)
      · refine guard_on (d := 50) (want := true) (by rfl) (by rfl) ?_ ?_
        · exact (f31).trans (by rw [show ((inS ⟨xl, xh⟩ ⟨zl, zh⟩) && (inS ⟨yl, yh⟩ ⟨zl, zh⟩)) = true by simp_all])
        replace f34 := f34.1 (by exact hc)
        refine wp_value (v := .bool (!(inS ⟨jl, jh⟩ ⟨zl, zh⟩))) (w1 := w) ?_ (hK.out _ w (Below.refl _ _) ⟨fun _ => rfl, fun h_ => (by rw [hc] at h_; cases h_)⟩ (fun h => by cases h))
        try simp only [f31, f34]
        go_simp
        try (first | done | rfl | (simp; done))
    refine StepsP.cons ?_ ?_
    · intro Q s w hC hA K hK
      clear hC
      obtain ⟨f22, f31, f35, -⟩ := hA
      replace f22 : (s 41) = .bool false := f22
      replace f31 : (s 50) = .bool ((inS ⟨xl, xh⟩ ⟨zl, zh⟩) && (inS ⟨yl, yh⟩ ⟨zl, zh⟩)) := f31
      replace f35 : (((inS ⟨xl, xh⟩ ⟨zl, zh⟩) && (inS ⟨yl, yh⟩ ⟨zl, zh⟩)) = true → (s 54) = .bool (!(inS ⟨jl, jh⟩ ⟨zl, zh⟩))) ∧ (((inS ⟨xl, xh⟩ ⟨zl, zh⟩) && (inS ⟨yl, yh⟩ ⟨zl, zh⟩)) = false → (s 54) = undef) := f35
      refine guard_on (d := 41) (want := false) (by rfl) (by rfl) ?_ ?_
      · exact f22
      refine wp_value (v := .bool false) (w1 := w) ?_ (hK.out _ w (Below.refl _ _) rfl (fun h => by cases h))
      cases ht : ((inS ⟨xl, xh⟩ ⟨zl, zh⟩) && (inS ⟨yl, yh⟩ ⟨zl, zh⟩))
      · skip
        have hct_ : s 50 = .bool false := by rw [f31, ht]
        simp only [hct_]
        go_simp
        first | done | (have q_ := i5.out; simp_all)
      · have hy_ := f35.1 (by simp_all)
        have hct_ : s 50 = .bool true := by rw [f31, ht]
        simp only [hct_, hy_]
        go_simp
        first | done | (have q_ := i5.out; simp_all)
    refine StepsP.cons ?_ ?_
    · intro Q s w hC hA K hK
      clear hC
      obtain ⟨f22, f36, -⟩ := hA
      replace f22 : (s 41) = .bool false := f22
      replace f36 : (s 55) = .bool false := f36
      refine guard_none (by rfl) ?_
      refine wp_value (v := .bool false) (w1 := w) ?_ (hK.out _ w (Below.refl _ _) rfl (fun h => by cases h))
      try simp only [f22, f36]
      go_simp
      try (first | done | rfl | (simp; done))
    refine StepsP.cons ?_ ?_
    · intro Q s w hC hA K hK
      clear hC
      obtain ⟨f37, -⟩ := hA
      replace f37 : (s 56) = .bool false := f37
      refine guard_none (by rfl) ?_
      refine wp_value (v := .bool false) (w1 := w) ?_ (hK.out _ w (Below.refl _ _) rfl (fun h => by cases h))
      try simp only [f37]
      go_simp
      try (first | done | rfl | (simp; done))
    refine StepsP.cons ?_ ?_
    · intro Q s w hC hA K hK
      obtain ⟨hsz, hk_gx, lt_gx, hk_gy, lt_gy, hk_gz, lt_gz, hk_g8, lt_g8, hk_g9, lt_g9, hbw⟩ := hC
      obtain ⟨f38, -⟩ := hA
      replace f38 : (s 57) = .bool false := f38
      refine guard_on (d := 57) (want := false) (by rfl) (by rfl) ?_ ?_
      · exact f38
      have m0_gz : w.cell? ⟨gz, 0, none⟩ = some (.int .i64 zl) := blk_cell hk_gz 0 (by rfl)
      have m1_gz : w.cell? ⟨gz, 1, none⟩ = some (.int .i64 zh) := blk_cell hk_gz 1 (by rfl)
      refine wp_value (v := .agg #[.int .i64 zl, .int .i64 zh]) (w1 := w) ?_ (hK.out _ w (Below.refl _ _) rfl (fun h => by cases h))
      try simp only [f38]
      go_simp
      try (first | done | rfl | (simp; done))
    refine StepsP.cons ?_ ?_
    · intro Q s w hC hA K hK
      obtain ⟨hsz, hk_gx, lt_gx, hk_gy, lt_gy, hk_gz, lt_gz, hk_g8, lt_g8, hk_g9, lt_g9, hbw⟩ := hC
      obtain ⟨f38, -⟩ := hA
      replace f38 : (s 57) = .bool false := f38
      refine guard_on (d := 57) (want := false) (by rfl) (by rfl) ?_ ?_
      · exact f38
      have m0_gx : w.cell? ⟨gx, 0, none⟩ = some (.int .i64 xl) := blk_cell hk_gx 0 (by rfl)
      have m1_gx : w.cell? ⟨gx, 1, none⟩ = some (.int .i64 xh) := blk_cell hk_gx 1 (by rfl)
      refine wp_value (v := .agg #[.int .i64 xl, .int .i64 xh]) (w1 := w) ?_ (hK.out _ w (Below.refl _ _) rfl (fun h => by cases h))
      try simp only [f38]
      go_simp
      try (first | done | rfl | (simp; done))
    refine StepsP.cons ?_ ?_
    · intro Q s w hC hA K hK
      obtain ⟨hsz, hk_gx, lt_gx, hk_gy, lt_gy, hk_gz, lt_gz, hk_g8, lt_g8, hk_g9, lt_g9, hbw⟩ := hC
      obtain ⟨f38, f39, f40, -⟩ := hA
      replace f38 : (s 57) = .bool false := f38
      replace f39 : (s 58) = .agg #[.int .i64 zl, .int .i64 zh] := f39
      replace f40 : (s 59) = .agg #[.int .i64 xl, .int .i64 xh] := f40
      refine guard_on (d := 57) (want := false) (by rfl) (by rfl) ?_ ?_
      · exact f38
      refine wp_call (N := some 60) (by rfl) Try.func16 (by kernel_rfl) #[.agg #[.int .i64 zl, .int .i64 zh], .agg #[.int .i64 xl, .int .i64 xh]] rfl (by rfl) ?_ ?_
      · show [s 58, s 59] = [.agg #[.int .i64 zl, .int .i64 zh], .agg #[.int .i64 xl, .int .i64 xh]]
        first | rfl | simp only [f38, f39, f40]
      refine (In_calls _ _ _ _ _).mono ?_
      rintro e w1 ⟨rfl, hb⟩
      refine ⟨_, rfl, ?_⟩
      exact hK.out _ _ hb rfl (fun h => by cases h)
    refine StepsP.cons ?_ ?_
    · intro Q s w hC hA K hK
      clear hC
      obtain ⟨f38, f41, -⟩ := hA
      replace f38 : (s 57) = .bool false := f38
      replace f41 : (s 60) = .bool (inS ⟨zl, zh⟩ ⟨xl, xh⟩) := f41
      refine guard_on (d := 57) (want := false) (by rfl) (by rfl) ?_ ?_
      · exact f38
      refine wp_value (v := .bool (inS ⟨zl, zh⟩ ⟨xl, xh⟩)) (w1 := w) ?_ (hK.out _ w (Below.refl _ _) rfl (fun h => by cases h))
      try simp only [f38, f41]
      go_simp
      try (first | done | rfl | (simp; done))
    refine StepsP.cons ?_ ?_
    · intro Q s w hC hA K hK
      obtain ⟨hsz, hk_gx, lt_gx, hk_gy, lt_gy, hk_gz, lt_gz, hk_g8, lt_g8, hk_g9, lt_g9, hbw⟩ := hC
      obtain ⟨f42, -⟩ := hA
      replace f42 : (s 61) = .bool (inS ⟨zl, zh⟩ ⟨xl, xh⟩) := f42
      cases hc : (inS ⟨zl, zh⟩ ⟨xl, xh⟩)
      · refine guard_off (d := 61) (want := true) (by rfl) (by rfl) ?_ ?_
        · show s 61 ≠ .bool true
          · intro h_
            rw [f42] at h_; injection h_ with h_; rw [Bool.eq_false_iff] at hc; exact hc (by simp_all)
        exact hK.out _ w (Below.refl _ _) ⟨fun h_ => (by rw [hc] at h_; cases h_), fun _ => rfl⟩ (fun _ g h => by cases h)
      · refine guard_on (d := 61) (want := true) (by rfl) (by rfl) ?_ ?_
        · exact (f42).trans (by rw [show (inS ⟨zl, zh⟩ ⟨xl, xh⟩) = true by simp_all])
        have m0_gz : w.cell? ⟨gz, 0, none⟩ = some (.int .i64 zl) := blk_cell hk_gz 0 (by rfl)
        have m1_gz : w.cell? ⟨gz, 1, none⟩ = some (.int .i64 zh) := blk_cell hk_gz 1 (by rfl)
        refine wp_value (v := .agg #[.int .i64 zl, .int .i64 zh]) (w1 := w) ?_ (hK.out _ w (Below.refl _ _) ⟨fun _ => rfl, fun h_ => (by rw [hc] at h_; cases h_)⟩ (fun h => by cases h))
        try simp only [f42]
        go_simp
        try (first | done | rfl | (simp; done))
    refine StepsP.cons ?_ ?_
    · intro Q s w hC hA K hK
      obtain ⟨hsz, hk_gx, lt_gx, hk_gy, lt_gy, hk_gz, lt_gz, hk_g8, lt_g8, hk_g9, lt_g9, hbw⟩ := hC
      obtain ⟨f42, -⟩ := hA
      replace f42 : (s 61) = .bool (inS ⟨zl, zh⟩ ⟨xl, xh⟩) := f42
      cases hc : (inS ⟨zl, zh⟩ ⟨xl, xh⟩)
      · refine guard_off (d := 61) (want := true) (by rfl) (by rfl) ?_ ?_
        · show s 61 ≠ .bool true
          · intro h_
            rw [f42] at h_; injection h_ with h_; rw [Bool.eq_false_iff] at hc; exact hc (by simp_all)
        exact hK.out _ w (Below.refl _ _) ⟨fun h_ => (by rw [hc] at h_; cases h_), fun _ => rfl⟩ (fun _ g h => by cases h)
      · refine guard_on (d := 61) (want := true) (by rfl) (by rfl) ?_ ?_
        · exact (f42).trans (by rw [show (inS ⟨zl, zh⟩ ⟨xl, xh⟩) = true by simp_all])
        have m0_gy : w.cell? ⟨gy, 0, none⟩ = some (.int .i64 yl) := blk_cell hk_gy 0 (by rfl)
        have m1_gy : w.cell? ⟨gy, 1, none⟩ = some (.int .i64 yh) := blk_cell hk_gy 1 (by rfl)
        refine wp_value (v := .agg #[.int .i64 yl, .int .i64 yh]) (w1 := w) ?_ (hK.out _ w (Below.refl _ _) ⟨fun _ => rfl, fun h_ => (by rw [hc] at h_; cases h_)⟩ (fun h => by cases h))
        try simp only [f42]
        go_simp
        try (first | done | rfl | (simp; done))
    refine StepsP.cons ?_ ?_
    · intro Q s w hC hA K hK
      obtain ⟨hsz, hk_gx, lt_gx, hk_gy, lt_gy, hk_gz, lt_gz, hk_g8, lt_g8, hk_g9, lt_g9, hbw⟩ := hC
      obtain ⟨f42, f43, f44, -⟩ := hA
      replace f42 : (s 61) = .bool (inS ⟨zl, zh⟩ ⟨xl, xh⟩) := f42
      replace f43 : ((inS ⟨zl, zh⟩ ⟨xl, xh⟩) = true → (s 62) = .agg #[.int .i64 zl, .int .i64 zh]) ∧ ((inS ⟨zl, zh⟩ ⟨xl, xh⟩) = false → (s 62) = undef) := f43
      replace f44 : ((inS ⟨zl, zh⟩ ⟨xl, xh⟩) = true → (s 63) = .agg #[.int .i64 yl, .int .i64 yh]) ∧ ((inS ⟨zl, zh⟩ ⟨xl, xh⟩) = false → (s 63) = undef) := f44
      cases hc : (inS ⟨zl, zh⟩ ⟨xl, xh⟩)
      · refine guard_off (d := 61) (want := true) (by rfl) (by rfl) ?_ ?_
        · show s 61 ≠ .bool true
          · intro h_
            rw [f42] at h_; injection h_ with h_; rw [Bool.eq_false_iff] at hc; exact hc (by simp_all)
        exact hK.out _ w (Below.refl _ _) ⟨fun h_ => (by rw [hc] at h_; cases h_), fun _ => rfl⟩ (fun _ g h => by cases h)
      · refine guard_on (d := 61) (want := true) (by rfl) (by rfl) ?_ ?_
        · exact (f42).trans (by rw [show (inS ⟨zl, zh⟩ ⟨xl, xh⟩) = true by simp_all])
        replace f43 := f43.1 (by exact hc)
        replace f44 := f44.1 (by exact hc)
        refine wp_call (N := some 64) (by rfl) Try.func16 (by kernel_rfl) #[.agg #[.int .i64 zl, .int .i64 zh], .agg #[.int .i64 yl, .int .i64 yh]] rfl (by rfl) ?_ ?_
        · show [s 62, s 63] = [.agg #[.int .i64 zl, .int .i64 zh], .agg #[.int .i64 yl, .int .i64 yh]]
          first | rfl | simp only [f42, f43, f44]
        refine (In_calls _ _ _ _ _).mono ?_
        rintro e w1 ⟨rfl, hb⟩
        refine ⟨_, rfl, ?_⟩
        exact hK.out _ _ hb ⟨fun _ => rfl, fun h_ => (by rw [hc] at h_; cases h_)⟩ (fun h => by cases h)
    refine StepsP.cons ?_ ?_
    · intro Q s w hC hA K hK
      clear hC
      obtain ⟨f38, f42, f45, -⟩ := hA
      replace f38 : (s 57) = .bool false := f38
      replace f42 : (s 61) = .bool (inS ⟨zl, zh⟩ ⟨xl, xh⟩) := f42
      replace f45 : ((inS ⟨zl, zh⟩ ⟨xl, xh⟩) = true → (s 64) = .bool (inS ⟨zl, zh⟩ ⟨yl, yh⟩)) ∧ ((inS ⟨zl, zh⟩ ⟨xl, xh⟩) = false → (s 64) = undef) := f45
      refine guard_on (d := 57) (want := false) (by rfl) (by rfl) ?_ ?_
      · exact f38
      refine wp_value (v := .bool ((inS ⟨zl, zh⟩ ⟨xl, xh⟩) && (inS ⟨zl, zh⟩ ⟨yl, yh⟩))) (w1 := w) ?_ (hK.out _ w (Below.refl _ _) rfl (fun h => by cases h))
      cases ht : inS ⟨zl, zh⟩ ⟨xl, xh⟩
      · skip
        have hct_ : s 61 = .bool false := by rw [f42, ht]
        simp only [hct_]
        go_simp
        try simp
      · have hy_ := f45.1 (by simp_all)
        have hct_ : s 61 = .bool true := by rw [f42, ht]
        simp only [hct_, hy_]
        go_simp
        try simp
    refine StepsP.cons ?_ ?_
    · intro Q s w hC hA K hK
      clear hC
      obtain ⟨f38, f46, -⟩ := hA
      replace f38 : (s 57) = .bool false := f38
      replace f46 : (s 65) = .bool ((inS ⟨zl, zh⟩ ⟨xl, xh⟩) && (inS ⟨zl, zh⟩ ⟨yl, yh⟩)) := f46
      refine guard_on (d := 57) (want := false) (by rfl) (by rfl) ?_ ?_
      · exact f38
      refine wp_value (v := .bool ((inS ⟨zl, zh⟩ ⟨xl, xh⟩) && (inS ⟨zl, zh⟩ ⟨yl, yh⟩))) (w1 := w) ?_ (hK.out _ w (Below.refl _ _) rfl (fun h => by cases h))
      try simp only [f38, f46]
      go_simp
      try (first | done | rfl | (simp; done))
    refine StepsP.cons ?_ ?_
    · intro Q s w hC hA K hK
      obtain ⟨hsz, hk_gx, lt_gx, hk_gy, lt_gy, hk_gz, lt_gz, hk_g8, lt_g8, hk_g9, lt_g9, hbw⟩ := hC
      obtain ⟨f47, -⟩ := hA
      replace f47 : (s 66) = .bool ((inS ⟨zl, zh⟩ ⟨xl, xh⟩) && (inS ⟨zl, zh⟩ ⟨yl, yh⟩)) := f47
      cases hc : ((inS ⟨zl, zh⟩ ⟨xl, xh⟩) && (inS ⟨zl, zh⟩ ⟨yl, yh⟩))
      · refine guard_off (d := 66) (want := true) (by rfl) (by rfl) ?_ ?_
        · show s 66 ≠ .bool true
          · intro h_
            rw [f47] at h_; injection h_ with h_; rw [Bool.eq_false_iff] at hc; exact hc (by simp_all)
        exact hK.out _ w (Below.refl _ _) ⟨fun h_ => (by rw [hc] at h_; cases h_), fun _ => rfl⟩ (fun _ g h => by cases h)
      · refine guard_on (d := 66) (want := true) (by rfl) (by rfl) ?_ ?_
        · exact (f47).trans (by rw [show ((inS ⟨zl, zh⟩ ⟨xl, xh⟩) && (inS ⟨zl, zh⟩ ⟨yl, yh⟩)) = true by simp_all])
        have m0_gz : w.cell? ⟨gz, 0, none⟩ = some (.int .i64 zl) := blk_cell hk_gz 0 (by rfl)
        have m1_gz : w.cell? ⟨gz, 1, none⟩ = some (.int .i64 zh) := blk_cell hk_gz 1 (by rfl)
        refine wp_value (v := .agg #[.int .i64 zl, .int .i64 zh]) (w1 := w) ?_ (hK.out _ w (Below.refl _ _) ⟨fun _ => rfl, fun h_ => (by rw [hc] at h_; cases h_)⟩ (fun h => by cases h))
        try simp only [f47]
        go_simp
        try (first | done | rfl | (simp; done))
    refine StepsP.cons ?_ ?_
    · intro Q s w hC hA K hK
      obtain ⟨hsz, hk_gx, lt_gx, hk_gy, lt_gy, hk_gz, lt_gz, hk_g8, lt_g8, hk_g9, lt_g9, hbw⟩ := hC
      obtain ⟨f47, -⟩ := hA
      replace f47 : (s 66) = .bool ((inS ⟨zl, zh⟩ ⟨xl, xh⟩) && (inS ⟨zl, zh⟩ ⟨yl, yh⟩)) := f47
      cases hc : ((inS ⟨zl, zh⟩ ⟨xl, xh⟩) && (inS ⟨zl, zh⟩ ⟨yl, yh⟩))
      · refine guard_off (d := 66) (want := true) (by rfl) (by rfl) ?_ ?_
        · show s 66 ≠ .bool true
          · intro h_
            rw [f47] at h_; injection h_ with h_; rw [Bool.eq_false_iff] at hc; exact hc (by simp_all)
        exact hK.out _ w (Below.refl _ _) ⟨fun h_ => (by rw [hc] at h_; cases h_), fun _ => rfl⟩ (fun _ g h => by cases h)
      · refine guard_on (d := 66) (want := true) (by rfl) (by rfl) ?_ ?_
        · exact (f47).trans (by rw [show ((inS ⟨zl, zh⟩ ⟨xl, xh⟩) && (inS ⟨zl, zh⟩ ⟨yl, yh⟩)) = true by simp_all])
        have m0_g9 : w.cell? ⟨g9, 0, none⟩ = some (.int .i64 ml) := blk_cell hk_g9 0 (by rfl)
        have m1_g9 : w.cell? ⟨g9, 1, none⟩ = some (.int .i64 mh) := blk_cell hk_g9 1 (by rfl)
        refine wp_value (v := .agg #[.int .i64 ml, .int .i64 mh]) (w1 := w) ?_ (hK.out _ w (Below.refl _ _) ⟨fun _ => rfl, fun h_ => (by rw [hc] at h_; cases h_)⟩ (fun h => by cases h))
        try simp only [f47]
        go_simp
        try (first | done | rfl | (simp; done))
    refine StepsP.cons ?_ ?_
    · intro Q s w hC hA K hK
      obtain ⟨hsz, hk_gx, lt_gx, hk_gy, lt_gy, hk_gz, lt_gz, hk_g8, lt_g8, hk_g9, lt_g9, hbw⟩ := hC
      obtain ⟨f47, f48, f49, -⟩ := hA
      replace f47 : (s 66) = .bool ((inS ⟨zl, zh⟩ ⟨xl, xh⟩) && (inS ⟨zl, zh⟩ ⟨yl, yh⟩)) := f47
      replace f48 : (((inS ⟨zl, zh⟩ ⟨xl, xh⟩) && (inS ⟨zl, zh⟩ ⟨yl, yh⟩)) = true → (s 67) = .agg #[.int .i64 zl, .int .i64 zh]) ∧ (((inS ⟨zl, zh⟩ ⟨xl, xh⟩) && (inS ⟨zl, zh⟩ ⟨yl, yh⟩)) = false → (s 67) = undef) := f48
      replace f49 : (((inS ⟨zl, zh⟩ ⟨xl, xh⟩) && (inS ⟨zl, zh⟩ ⟨yl, yh⟩)) = true → (s 68) = .agg #[.int .i64 ml, .int .i64 mh]) ∧ (((inS ⟨zl, zh⟩ ⟨xl, xh⟩) && (inS ⟨zl, zh⟩ ⟨yl, yh⟩)) = false → (s 68) = undef) := f49
      cases hc : ((inS ⟨zl, zh⟩ ⟨xl, xh⟩) && (inS ⟨zl, zh⟩ ⟨yl, yh⟩))
      · refine guard_off (d := 66) (want := true) (by rfl) (by rfl) ?_ ?_
        · show s 66 ≠ .bool true
          · intro h_
            rw [f47] at h_; injection h_ with h_; rw [Bool.eq_false_iff] at hc; exact hc (by simp_all)
        exact hK.out _ w (Below.refl _ _) ⟨fun h_ => (by rw [hc] at h_; cases h_), fun _ => rfl⟩ (fun _ g h => by cases h)
      · refine guard_on (d := 66) (want := true) (by rfl) (by rfl) ?_ ?_
        · exact (f47).trans (by rw [show ((inS ⟨zl, zh⟩ ⟨xl, xh⟩) && (inS ⟨zl, zh⟩ ⟨yl, yh⟩)) = true by simp_all])
        replace f48 := f48.1 (by exact hc)
        replace f49 := f49.1 (by exact hc)
        refine wp_call (N := some 69) (by rfl) Try.func16 (by kernel_rfl) #[.agg #[.int .i64 zl, .int .i64 zh], .agg #[.int .i64 ml, .int .i64 mh]] rfl (by rfl) ?_ ?_
        · show [s 67, s 68] = [.agg #[.int .i64 zl, .int .i64 zh], .agg #[.int .i64 ml, .int .i64 mh]]
          first | rfl | simp only [f47, f48, f49]
        refine (In_calls _ _ _ _ _).mono ?_
        rintro e w1 ⟨rfl, hb⟩
        refine ⟨_, rfl, ?_⟩
        exact hK.out _ _ hb ⟨fun _ => rfl, fun h_ => (by rw [hc] at h_; cases h_)⟩ (fun h => by cases h)
    refine StepsP.cons ?_ ?_
    · intro Q s w hC hA K hK
      clear hC
      obtain ⟨f47, f50, -⟩ := hA
      replace f47 : (s 66) = .bool ((inS ⟨zl, zh⟩ ⟨xl, xh⟩) && (inS ⟨zl, zh⟩ ⟨yl, yh⟩)) := f47
      replace f50 : (((inS ⟨zl, zh⟩ ⟨xl, xh⟩) && (inS ⟨zl, zh⟩ ⟨yl, yh⟩)) = true → (s 69) = .bool (inS ⟨zl, zh⟩ ⟨ml, mh⟩)) ∧ (((inS ⟨zl, zh⟩ ⟨xl, xh⟩) && (inS ⟨zl, zh⟩ ⟨yl, yh⟩)) = false → (s 69) = undef) := f50
      cases hc : ((inS ⟨zl, zh⟩ ⟨xl, xh⟩) && (inS ⟨zl, zh⟩ ⟨yl, yh⟩))
      · refine guard_off (d := 66) (want := true) (by rfl) (by rfl) ?_ ?_
        · show s 66 ≠ .bool true
          · intro h_
            rw [f47] at h_; injection h_ with h_; rw [Bool.eq_false_iff] at hc; exact hc (by simp_all)
        exact hK.out _ w (Below.refl _ _) ⟨fun h_ => (by rw [hc] at h_; cases h_), fun _ => rfl⟩ (fun _ g h => by cases h)
      · refine guard_on (d := 66) (want := true) (by rfl) (by rfl) ?_ ?_
        · exact (f47).trans (by rw [show ((inS ⟨zl, zh⟩ ⟨xl, xh⟩) && (inS ⟨zl, zh⟩ ⟨yl, yh⟩)) = true by simp_all])
        replace f50 := f50.1 (by exact hc)
        refine wp_value (v := .bool (!(inS ⟨zl, zh⟩ ⟨ml, mh⟩))) (w1 := w) ?_ (hK.out _ w (Below.refl _ _) ⟨fun _ => rfl, fun h_ => (by rw [hc] at h_; cases h_)⟩ (fun h => by cases h))
        try simp only [f47, f50]
        go_simp
        try (first | done | rfl | (simp; done))
    refine StepsP.cons ?_ ?_
    · intro Q s w hC hA K hK
      clear hC
      obtain ⟨f38, f47, f51, -⟩ := hA
      replace f38 : (s 57) = .bool false := f38
      replace f47 : (s 66) = .bool ((inS ⟨zl, zh⟩ ⟨xl, xh⟩) && (inS ⟨zl, zh⟩ ⟨yl, yh⟩)) := f47
      replace f51 : (((inS ⟨zl, zh⟩ ⟨xl, xh⟩) && (inS ⟨zl, zh⟩ ⟨yl, yh⟩)) = true → (s 70) = .bool (!(inS ⟨zl, zh⟩ ⟨ml, mh⟩))) ∧ (((inS ⟨zl, zh⟩ ⟨xl, xh⟩) && (inS ⟨zl, zh⟩ ⟨yl, yh⟩)) = false → (s 70) = undef) := f51
      refine guard_on (d := 57) (want := false) (by rfl) (by rfl) ?_ ?_
      · exact f38
      refine wp_value (v := .bool false) (w1 := w) ?_ (hK.out _ w (Below.refl _ _) rfl (fun h => by cases h))
      cases ht : ((inS ⟨zl, zh⟩ ⟨xl, xh⟩) && (inS ⟨zl, zh⟩ ⟨yl, yh⟩))
      · skip
        have hct_ : s 66 = .bool false := by rw [f47, ht]
        simp only [hct_]
        go_simp
        first | done | (have q_ := i6.out; simp_all)
      · have hy_ := f51.1 (by simp_all)
        have hct_ : s 66 = .bool true := by rw [f47, ht]
        simp only [hct_, hy_]
        go_simp
        first | done | (have q_ := i6.out; simp_all)
    refine StepsP.cons ?_ ?_
    · intro Q s w hC hA K hK
      clear hC
      obtain ⟨f38, f52, -⟩ := hA
      replace f38 : (s 57) = .bool false := f38
      replace f52 : (s 71) = .bool false := f52
      refine guard_none (by rfl) ?_
      refine wp_value (v := .bool false) (w1 := w) ?_ (hK.out _ w (Below.refl _ _) rfl (fun h => by cases h))
      try simp only [f38, f52]
      go_simp
      try (first | done | rfl | (simp; done))
    exact StepsP.nil
  obtain ⟨hsz, hk_gx, lt_gx, hk_gy, lt_gy, hk_gz, lt_gz, hk_g8, lt_g8, hk_g9, lt_g9, hbw⟩ := hC
  obtain ⟨f53, -⟩ := hA
  replace f53 : (s 72) = .bool false := f53
  refine act_eq (b' := ?b2) ?h2 ?q2
  case h2 => simp only [f53]; rfl
  clear hsz lt_gx lt_gy lt_gz lt_g8 lt_g9
  go_upto_region 4 with fail
  obtain ⟨B2, hB2⟩ : ∃ B, B = w.heap.size := ⟨_, rfl⟩
  have c0_hsz : B2 ≤ w.heap.size := Nat.le_of_eq hB2
  have hw0B2 : w0.heap.size ≤ B2 := by rw [hB2]; exact hbw.size
  have c0_hk_gx := blk_drew hk_gx
  have c0_lt_gx : gx < B2 := by rw [hB2]; exact blk_lt hk_gx
  have c0_hk_gy := blk_drew hk_gy
  have c0_lt_gy : gy < B2 := by rw [hB2]; exact blk_lt hk_gy
  have c0_hk_gz := blk_drew hk_gz
  have c0_lt_gz : gz < B2 := by rw [hB2]; exact blk_lt hk_gz
  have c0_hk_g8 := blk_drew hk_g8
  have c0_lt_g8 : g8 < B2 := by rw [hB2]; exact blk_lt hk_g8
  have c0_hk_g9 := blk_drew hk_g9
  have c0_lt_g9 : g9 < B2 := by rw [hB2]; exact blk_lt hk_g9
  have c0_hbw := bl_drew hbw
  clear hB2 hbw hk_gx hk_gy hk_gz hk_g8 hk_g9
  refine region_lin (n := 55) (st := ?st3) { R := [0, 1, 3, 3, 15, 3, 3, 127, 255, 511, 511, 2047, 4095, 8191, 16383, 32767, 65535, 65535, 65535, 458751, 983039, 2097151, 4194303, 65535, 65535, 65535, 58785791, 134217727, 268435455, 536870911, 1073741823, 2147483647, 2147483647, 2147483647, 15032385535, 32212254719, 68719476735, 137438953471, 2147483647, 2147483647, 2147483647, 1926292832255, 4398046511103, 8796093022207, 17592186044415, 35184372088831, 70368744177663, 140737488355327, 281474976710655, 70368744177663, 633318697598975, 2251799813685247, 4503599627370495, 9007199254740991, 18014398509481983], kill := [[], [], [], [], [], [], [], [], [], [], [], [], [], [], [], [], [], [], [], [], [], [], [], [], [], [], [], [], [], [], [], [], [], [], [], [], [], [], [], [], [], [], [], [], [], [], [], [], [], [], [], [], [], [], []], cls := [0, 0, 0, 0, 0, 0, 0, 0, 0, 0, 0, 0, 0, 0, 0, 0, 0, 0, 0, 0, 0, 0, 0, 0, 0, 0, 0, 0, 0, 0, 0, 0, 0, 0, 0, 0, 0, 0, 0, 0, 0, 0, 0, 0, 0, 0, 0, 0, 0, 0, 0, 0, 0, 0, 0], dst := [some 73, some 74, some 75, some 76, some 77, some 78, some 79, some 80, some 81, some 82, some 83, some 84, some 85, some 86, some 87, some 88, some 89, some 90, some 91, some 92, some 93, some 94, some 95, some 96, some 97, some 98, some 99, some 100, some 101, some 102, some 103, some 104, some 105, some 106, some 107, some 108, some 109, some 110, some 111, some 112, some 113, some 114, some 115, some 116, some 117, some 118, some 119, some 120, some 121, some 122, some 123, some 124, some 125, some 126, some 8], pre := [[], [0], [1], [1], [1, 2, 3], [1], [1], [1, 5, 6], [1, 7], [8], [8], [8, 9, 10], [1, 8, 11], [1, 4, 12], [1, 13], [14], [15], [15], [15], [15, 17, 18], [15, 19], [15, 16, 20], [15, 21], [15], [15], [15], [15, 23, 24, 25], [15, 26], [15, 22, 27], [15, 28], [29], [30], [30], [30], [30, 32, 33], [30, 34], [30, 31, 35], [30, 36], [30], [30], [30], [30, 38, 39, 40], [30, 41], [30, 37, 42], [30, 43], [44], [45], [45, 46], [45, 47], [45], [45, 49], [45, 50], [45, 48, 51], [45, 52], [53]], cov := [(0, 19), (0, 21), (0, 26), (0, 34), (0, 36), (0, 41), (0, 47), (0, 50)], fin := [54], locs := [(19, 92), (21, 94), (26, 99), (34, 107), (36, 109), (41, 114), (47, 120), (50, 123)], tgt := [none], abt := [none, none, none, none, none, none, none, none, none, none, none, none, none, none, none, none, none, none, none, some 92, none, some 94, none, none, none, none, some 99, none, none, none, none, none, none, none, some 107, none, some 109, none, none, none, none, some 114, none, none, none, none, none, some 120, none, none, some 123, none, none, none, none] }
    [.v [73] (fun vs => (vs.getD 0 undef) = .bool true),
     .v [74] (fun vs => (vs.getD 0 undef) = .bool true),
     .v [75] (fun vs => (vs.getD 0 undef) = .agg #[.int .i64 ml, .int .i64 mh]),
     .v [76] (fun vs => (vs.getD 0 undef) = .int .i64 n),
     .v [77] (fun vs => (vs.getD 0 undef) = .bool (hasS ⟨ml, mh⟩ n)),
     .v [78] (fun vs => (vs.getD 0 undef) = .agg #[.int .i64 xl, .int .i64 xh]),
     .v [79] (fun vs => (vs.getD 0 undef) = .int .i64 n),
     .v [80] (fun vs => (vs.getD 0 undef) = .bool (hasS ⟨xl, xh⟩ n)),
     .v [81] (fun vs => (vs.getD 0 undef) = .bool (hasS ⟨xl, xh⟩ n)),
     .v [82] (fun vs => ((hasS ⟨xl, xh⟩ n) = true → (vs.getD 0 undef) = .agg #[.int .i64 yl, .int .i64 yh]) ∧ ((hasS ⟨xl, xh⟩ n) = false → (vs.getD 0 undef) = undef)),
     .v [83] (fun vs => ((hasS ⟨xl, xh⟩ n) = true → (vs.getD 0 undef) = .int .i64 n) ∧ ((hasS ⟨xl, xh⟩ n) = false → (vs.getD 0 undef) = undef)),
     .v [84] (fun vs => ((hasS ⟨xl, xh⟩ n) = true → (vs.getD 0 undef) = .bool (hasS ⟨yl, yh⟩ n)) ∧ ((hasS ⟨xl, xh⟩ n) = false → (vs.getD 0 undef) = undef)),
     .v [85] (fun vs => (vs.getD 0 undef) = .bool ((hasS ⟨xl, xh⟩ n) && (hasS ⟨yl, yh⟩ n))),
     .v [86] (fun vs => (vs.getD 0 undef) = .bool true),
     .v [87] (fun vs => (vs.getD 0 undef) = .bool true),
     .v [88] (fun vs => (vs.getD 0 undef) = .bool true),
     .v [89] (fun vs => (vs.getD 0 undef) = .agg #[.int .i64 xl, .int .i64 xh]),
     .v [90] (fun vs => (vs.getD 0 undef) = .agg #[.int .i64 yl, .int .i64 yh]),
     .v [91] (fun vs => (vs.getD 0 undef) = .agg #[.int .i64 zl, .int .i64 zh]),
     .w [92] (fun vs w => ∃ g19 : Nat, (vs.getD 0 undef) = .slice (some ⟨g19, 0, none⟩) 2 2 ∧ B2 ≤ g19 ∧ w.heap[g19]? = some (.cells #[.int .i64 yl, .int .i64 yh, .int .i64 zl, .int .i64 zh] 23 (0, 0))),
     .v [93] (fun vs => (vs.getD 0 undef) = .agg #[.int .i64 pl, .int .i64 ph]),
     .w [94] (fun vs w => ∃ g21 : Nat, (vs.getD 0 undef) = .slice (some ⟨g21, 0, none⟩) 2 2 ∧ B2 ≤ g21 ∧ w.heap[g21]? = some (.cells #[.int .i64 xl, .int .i64 xh, .int .i64 pl, .int .i64 ph] 23 (0, 0))),
     .v [95] (fun vs => (vs.getD 0 undef) = .agg #[.int .i64 ql, .int .i64 qh]),
     .v [96] (fun vs => (vs.getD 0 undef) = .agg #[.int .i64 xl, .int .i64 xh]),
     .v [97] (fun vs => (vs.getD 0 undef) = .agg #[.int .i64 yl, .int .i64 yh]),
     .v [98] (fun vs => (vs.getD 0 undef) = .agg #[.int .i64 zl, .int .i64 zh]),
     .w [99] (fun vs w => ∃ g26 : Nat, (vs.getD 0 undef) = .slice (some ⟨g26, 0, none⟩) 3 3 ∧ B2 ≤ g26 ∧ w.heap[g26]? = some (.cells #[.int .i64 xl, .int .i64 xh, .int .i64 yl, .int .i64 yh, .int .i64 zl, .int .i64 zh] 23 (0, 0))),
     .v [100] (fun vs => (vs.getD 0 undef) = .agg #[.int .i64 ql, .int .i64 qh]),
     .v [101] (fun vs => (vs.getD 0 undef) = .bool true),
     .v [102] (fun vs => (vs.getD 0 undef) = .bool true),
     .v [103] (fun vs => (vs.getD 0 undef) = .bool true),
     .v [104] (fun vs => (vs.getD 0 undef) = .agg #[.int .i64 xl, .int .i64 xh]),
     .v [105] (fun vs => (vs.getD 0 undef) = .agg #[.int .i64 yl, .int .i64 yh]),
     .v [106] (fun vs => (vs.getD 0 undef) = .agg #[.int .i64 zl, .int .i64 zh]),
     .w [107] (fun vs w => ∃ g34 : Nat, (vs.getD 0 undef) = .slice (some ⟨g34, 0, none⟩) 2 2 ∧ B2 ≤ g34 ∧ w.heap[g34]? = some (.cells #[.int .i64 yl, .int .i64 yh, .int .i64 zl, .int .i64 zh] 23 (0, 0))),
     .v [108] (fun vs => (vs.getD 0 undef) = .agg #[.int .i64 ol, .int .i64 oh]),
     .w [109] (fun vs w => ∃ g36 : Nat, (vs.getD 0 undef) = .slice (some ⟨g36, 0, none⟩) 2 2 ∧ B2 ≤ g36 ∧ w.heap[g36]? = some (.cells #[.int .i64 xl, .int .i64 xh, .int .i64 ol, .int .i64 oh] 23 (0, 0))),
     .v [110] (fun vs => (vs.getD 0 undef) = .agg #[.int .i64 rl, .int .i64 rh]),
     .v [111] (fun vs => (vs.getD 0 undef) = .agg #[.int .i64 xl, .int .i64 xh]),
     .v [112] (fun vs => (vs.getD 0 undef) = .agg #[.int .i64 yl, .int .i64 yh]),
     .v [113] (fun vs => (vs.getD 0 undef) = .agg #[.int .i64 zl, .int .i64 zh]),
     .w [114] (fun vs w => ∃ g41 : Nat, (vs.getD 0 undef) = .slice (some ⟨g41, 0, none⟩) 3 3 ∧ B2 ≤ g41 ∧ w.heap[g41]? = some (.cells #[.int .i64 xl, .int .i64 xh, .int .i64 yl, .int .i64 yh, .int .i64 zl, .int .i64 zh] 23 (0, 0))),
     .v [115] (fun vs => (vs.getD 0 undef) = .agg #[.int .i64 rl, .int .i64 rh]),
     .v [116] (fun vs => (vs.getD 0 undef) = .bool true),
     .v [117] (fun vs => (vs.getD 0 undef) = .bool true),
     .v [118] (fun vs => (vs.getD 0 undef) = .bool true),
     .v [119] (fun vs => (vs.getD 0 undef) = .agg #[.int .i64 xl, .int .i64 xh]),
     .w [120] (fun vs w => ∃ g47 : Nat, (vs.getD 0 undef) = .slice (some ⟨g47, 0, none⟩) 1 1 ∧ B2 ≤ g47 ∧ w.heap[g47]? = some (.cells #[.int .i64 xl, .int .i64 xh] 23 (0, 0))),
     .v [121] (fun vs => (vs.getD 0 undef) = .agg #[.int .i64 tl, .int .i64 th]),
     .v [122] (fun vs => (vs.getD 0 undef) = .agg #[.int .i64 xl, .int .i64 xh]),
     .w [123] (fun vs w => ∃ g50 : Nat, (vs.getD 0 undef) = .slice (some ⟨g50, 0, none⟩) 1 1 ∧ B2 ≤ g50 ∧ w.heap[g50]? = some (.cells #[.int .i64 xl, .int .i64 xh] 23 (0, 0))),
     .v [124] (fun vs => (vs.getD 0 undef) = .agg #[.int .i64 tl, .int .i64 th]),
     .v [125] (fun vs => (vs.getD 0 undef) = .bool true),
     .v [126] (fun vs => (vs.getD 0 undef) = .bool true),
     .v [8] (fun vs => (vs.getD 0 undef) = .bool true)]
    (fun w => B2 ≤ w.heap.size ∧ w.heap[gx]? = some (.cells #[.int .i64 xl, .int .i64 xh] 23 (0, 0)) ∧ gx < B2 ∧ w.heap[gy]? = some (.cells #[.int .i64 yl, .int .i64 yh] 23 (0, 0)) ∧ gy < B2 ∧ w.heap[gz]? = some (.cells #[.int .i64 zl, .int .i64 zh] 23 (0, 0)) ∧ gz < B2 ∧ w.heap[g8]? = some (.cells #[.int .i64 jl, .int .i64 jh] 23 (0, 0)) ∧ g8 < B2 ∧ w.heap[g9]? = some (.cells #[.int .i64 ml, .int .i64 mh] 23 (0, 0)) ∧ g9 < B2 ∧ Below w0.heap.size w0 w)
    (fun c => ([fun s w w' => Below w.heap.size w w'] : List ((Nat → Value) → World → World → Prop)).getD c (fun s w w' => w' = w))
    [8, 73, 74, 75, 76, 77, 78, 79, 80, 81, 82, 83, 84, 85, 86, 87, 88, 89, 90, 91, 92, 93, 94, 95, 96, 97, 98, 99, 100, 101, 102, 103, 104, 105, 106, 107, 108, 109, 110, 111, 112, 113, 114, 115, 116, 117, 118, 119, 120, 121, 122, 123, 124, 125, 126] (by kernel_rfl) ⟨by kernel_rfl, by kernel_rfl, by kernel_rfl, by kernel_rfl, by kernel_rfl, by kernel_rfl, by kernel_rfl, by kernel_rfl⟩ (fun s => ?_) ?_ ?_ ?_ ?_ ?_ (fun s w hC hA => ?_)
  rotate_left
  · simp only [fillS, List.foldl, List.setIfInBounds_toArray, List.set_cons_zero, List.set_cons_succ]; rfl
  · exact ⟨c0_hsz, c0_hk_gx, c0_lt_gx, c0_hk_gy, c0_lt_gy, c0_hk_gz, c0_lt_gz, c0_hk_g8, c0_lt_g8, c0_hk_g9, c0_lt_g9, c0_hbw⟩
  · intro c s w w' hE
    match c, hE with
    | 0, hE => exact Below.size hE
    | c + 1, hE => cases hE; exact Nat.le_refl _
  · rintro c s w w' ⟨hsz, hk_gx, lt_gx, hk_gy, lt_gy, hk_gz, lt_gz, hk_g8, lt_g8, hk_g9, lt_g9, hbw⟩ hE
    match c, hE with
    | 0, hE => replace hE : Below w.heap.size w w' := hE; exact ⟨Nat.le_trans hsz hE.size, bl_block hE hk_gx, lt_gx, bl_block hE hk_gy, lt_gy, bl_block hE hk_gz, lt_gz, bl_block hE hk_g8, lt_g8, bl_block hE hk_g9, lt_g9, bl_step hbw hE⟩
    | c + 1, hE => cases hE; exact ⟨hsz, hk_gx, lt_gx, hk_gy, lt_gy, hk_gz, lt_gz, hk_g8, lt_g8, hk_g9, lt_g9, hbw⟩
  · refine ⟨?_, ?_, ?_, ?_, ?_, ?_, ?_, ?_, trivial⟩
    · intro s w w' hD hC hE hF
      replace hF : ∃ g19 : Nat, (s 92) = .slice (some ⟨g19, 0, none⟩) 2 2 ∧ B2 ≤ g19 ∧ w.heap[g19]? = some (.cells #[.int .i64 yl, .int .i64 yh, .int .i64 zl, .int .i64 zh] 23 (0, 0)) := hF
      show ∃ g19 : Nat, (s 92) = .slice (some ⟨g19, 0, none⟩) 2 2 ∧ B2 ≤ g19 ∧ w'.heap[g19]? = some (.cells #[.int .i64 yl, .int .i64 yh, .int .i64 zl, .int .i64 zh] 23 (0, 0))
      replace hE : Below w.heap.size w w' := hE
      obtain ⟨g19, h1, h2, h3⟩ := hF
      exact ⟨g19, h1, h2, bl_block hE h3⟩
    · intro s w w' hD hC hE hF
      replace hF : ∃ g21 : Nat, (s 94) = .slice (some ⟨g21, 0, none⟩) 2 2 ∧ B2 ≤ g21 ∧ w.heap[g21]? = some (.cells #[.int .i64 xl, .int .i64 xh, .int .i64 pl, .int .i64 ph] 23 (0, 0)) := hF
      show ∃ g21 : Nat, (s 94) = .slice (some ⟨g21, 0, none⟩) 2 2 ∧ B2 ≤ g21 ∧ w'.heap[g21]? = some (.cells #[.int .i64 xl, .int .i64 xh, .int .i64 pl, .int .i64 ph] 23 (0, 0))
      replace hE : Below w.heap.size w w' := hE
      obtain ⟨g21, h1, h2, h3⟩ := hF
      exact ⟨g21, h1, h2, bl_block hE h3⟩
    · intro s w w' hD hC hE hF
      replace hF : ∃ g26 : Nat, (s 99) = .slice (some ⟨g26, 0, none⟩) 3 3 ∧ B2 ≤ g26 ∧ w.heap[g26]? = some (.cells #[.int .i64 xl, .int .i64 xh, .int .i64 yl, .int .i64 yh, .int .i64 zl, .int .i64 zh] 23 (0, 0)) := hF
      show ∃ g26 : Nat, (s 99) = .slice (some ⟨g26, 0, none⟩) 3 3 ∧ B2 ≤ g26 ∧ w'.heap[g26]? = some (.cells #[.int .i64 xl, .int .i64 xh, .int .i64 yl, .int .i64 yh, .int .i64 zl, .int .i64 zh] 23 (0, 0))
      replace hE : Below w.heap.size w w' := hE
      obtain ⟨g26, h1, h2, h3⟩ := hF
      exact ⟨g26, h1, h2, bl_block hE h3⟩
    · intro s w w' hD hC hE hF
      replace hF : ∃ g34 : Nat, (s 107) = .slice (some ⟨g34, 0, none⟩) 2 2 ∧ B2 ≤ g34 ∧ w.heap[g34]? = some (.cells #[.int .i64 yl, .int .i64 yh, .int .i64 zl, .int .i64 zh] 23 (0, 0)) := hF
      show ∃ g34 : Nat, (s 107) = .slice (some ⟨g34, 0, none⟩) 2 2 ∧ B2 ≤ g34 ∧ w'.heap[g34]? = some (.cells #[.int .i64 yl, .int .i64 yh, .int .i64 zl, .int .i64 zh] 23 (0, 0))
      replace hE : Below w.heap.size w w' := hE
      obtain ⟨g34, h1, h2, h3⟩ := hF
      exact ⟨g34, h1, h2, bl_block hE h3⟩
    · intro s w w' hD hC hE hF
      replace hF : ∃ g36 : Nat, (s 109) = .slice (some ⟨g36, 0, none⟩) 2 2 ∧ B2 ≤ g36 ∧ w.heap[g36]? = some (.cells #[.int .i64 xl, .int .i64 xh, .int .i64 ol, .int .i64 oh] 23 (0, 0)) := hF
      show ∃ g36 : Nat, (s 109) = .slice (some ⟨g36, 0, none⟩) 2 2 ∧ B2 ≤ g36 ∧ w'.heap[g36]? = some (.cells #[.int .i64 xl, .int .i64 xh, .int .i64 ol, .int .i64 oh] 23 (0, 0))
      replace hE : Below w.heap.size w w' := hE
      obtain ⟨g36, h1, h2, h3⟩ := hF
      exact ⟨g36, h1, h2, bl_block hE h3⟩
    · intro s w w' hD hC hE hF
      replace hF : ∃ g41 : Nat, (s 114) = .slice (some ⟨g41, 0, none⟩) 3 3 ∧ B2 ≤ g41 ∧ w.heap[g41]? = some (.cells #[.int .i64 xl, .int .i64 xh, .int .i64 yl, .int .i64 yh, .int .i64 zl, .int .i64 zh] 23 (0, 0)) := hF
      show ∃ g41 : Nat, (s 114) = .slice (some ⟨g41, 0, none⟩) 3 3 ∧ B2 ≤ g41 ∧ w'.heap[g41]? = some (.cells #[.int .i64 xl, .int .i64 xh, .int .i64 yl, .int .i64 yh, .int .i64 zl, .int .i64 zh] 23 (0, 0))
      replace hE : Below w.heap.size w w' := hE
      obtain ⟨g41, h1, h2, h3⟩ := hF
      exact ⟨g41, h1, h2, bl_block hE h3⟩
    · intro s w w' hD hC hE hF
      replace hF : ∃ g47 : Nat, (s 120) = .slice (some ⟨g47, 0, none⟩) 1 1 ∧ B2 ≤ g47 ∧ w.heap[g47]? = some (.cells #[.int .i64 xl, .int .i64 xh] 23 (0, 0)) := hF
      show ∃ g47 : Nat, (s 120) = .slice (some ⟨g47, 0, none⟩) 1 1 ∧ B2 ≤ g47 ∧ w'.heap[g47]? = some (.cells #[.int .i64 xl, .int .i64 xh] 23 (0, 0))
      replace hE : Below w.heap.size w w' := hE
      obtain ⟨g47, h1, h2, h3⟩ := hF
      exact ⟨g47, h1, h2, bl_block hE h3⟩
    · intro s w w' hD hC hE hF
      replace hF : ∃ g50 : Nat, (s 123) = .slice (some ⟨g50, 0, none⟩) 1 1 ∧ B2 ≤ g50 ∧ w.heap[g50]? = some (.cells #[.int .i64 xl, .int .i64 xh] 23 (0, 0)) := hF
      show ∃ g50 : Nat, (s 123) = .slice (some ⟨g50, 0, none⟩) 1 1 ∧ B2 ≤ g50 ∧ w'.heap[g50]? = some (.cells #[.int .i64 xl, .int .i64 xh] 23 (0, 0))
      replace hE : Below w.heap.size w w' := hE
      obtain ⟨g50, h1, h2, h3⟩ := hF
      exact ⟨g50, h1, h2, bl_block hE h3⟩
  · skip
    refine StepsP.cons ?_ ?_
    · intro Q s w hC hA K hK
      obtain ⟨hsz, hk_gx, lt_gx, hk_gy, lt_gy, hk_gz, lt_gz, hk_g8, lt_g8, hk_g9, lt_g9, hbw⟩ := hC
      clear hA
      refine guard_none (by rfl) ?_
      refine wp_call (N := some 73) (by rfl) Try.func15 (by kernel_rfl) #[] rfl (by rfl) ?_ ?_
      · show [] = []
        first | rfl | simp only []
      refine (alive_calls _).mono ?_
      rintro e w1 ⟨rfl, hb⟩
      refine ⟨_, rfl, ?_⟩
      exact hK.out _ _ hb rfl (fun h => by cases h)
    refine StepsP.cons ?_ ?_
    · intro Q s w hC hA K hK
      clear hC
      obtain ⟨f0, -⟩ := hA
      replace f0 : (s 73) = .bool true := f0
      refine guard_none (by rfl) ?_
      refine wp_value (v := .bool true) (w1 := w) ?_ (hK.out _ w (Below.refl _ _) rfl (fun h => by cases h))
      try simp only [f0]
      go_simp
      try (first | done | rfl | (simp; done))
    refine StepsP.cons ?_ ?_
    · intro Q s w hC hA K hK
      obtain ⟨hsz, hk_gx, lt_gx, hk_gy, lt_gy, hk_gz, lt_gz, hk_g8, lt_g8, hk_g9, lt_g9, hbw⟩ := hC
      obtain ⟨f1, -⟩ := hA
      replace f1 : (s 74) = .bool true := f1
      refine guard_on (d := 74) (want := true) (by rfl) (by rfl) ?_ ?_
      · exact f1
      have m0_g9 : w.cell? ⟨g9, 0, none⟩ = some (.int .i64 ml) := blk_cell hk_g9 0 (by rfl)
      have m1_g9 : w.cell? ⟨g9, 1, none⟩ = some (.int .i64 mh) := blk_cell hk_g9 1 (by rfl)
      refine wp_value (v := .agg #[.int .i64 ml, .int .i64 mh]) (w1 := w) ?_ (hK.out _ w (Below.refl _ _) rfl (fun h => by cases h))
      try simp only [f1]
      go_simp
      try (first | done | rfl | (simp; done))
    refine StepsP.cons ?_ ?_
    · intro Q s w hC hA K hK
      clear hC
      obtain ⟨f1, -⟩ := hA
      replace f1 : (s 74) = .bool true := f1
      refine guard_on (d := 74) (want := true) (by rfl) (by rfl) ?_ ?_
      · exact f1
      refine wp_value (v := .int .i64 n) (w1 := w) ?_ (hK.out _ w (Below.refl _ _) rfl (fun h => by cases h))
      try simp only [f1]
      go_simp
      try (first | done | rfl | (simp; done))
    refine StepsP.cons ?_ ?_
    · intro Q s w hC hA K hK
      obtain ⟨hsz, hk_gx, lt_gx, hk_gy, lt_gy, hk_gz, lt_gz, hk_g8, lt_g8, hk_g9, lt_g9, hbw⟩ := hC
      obtain ⟨f1, f2, f3, -⟩ := hA
      replace f1 : (s 74) = .bool true := f1
      replace f2 : (s 75) = .agg #[.int .i64 ml, .int .i64 mh] := f2
      replace f3 : (s 76) = .int .i64 n := f3
      refine guard_on (d := 74) (want := true) (by rfl) (by rfl) ?_ ?_
      · exact f1
      refine wp_call (N := some 77) (by rfl) Try.func12 (by kernel_rfl) #[.agg #[.int .i64 ml, .int .i64 mh], .int .i64 n] rfl (by rfl) ?_ ?_
      · show [s 75, s 76] = [.agg #[.int .i64 ml, .int .i64 mh], .int .i64 n]
        first | rfl | simp only [f1, f2, f3]
      refine (Has_calls _ _ _ _).mono ?_
      rintro e w1 ⟨rfl, hb⟩
      refine ⟨_, rfl, ?_⟩
      exact hK.out _ _ hb rfl (fun h => by cases h)
    refine StepsP.cons ?_ ?_
    · intro Q s w hC hA K hK
      obtain ⟨hsz, hk_gx, lt_gx, hk_gy, lt_gy, hk_gz, lt_gz, hk_g8, lt_g8, hk_g9, lt_g9, hbw⟩ := hC
      obtain ⟨f1, -⟩ := hA
      replace f1 : (s 74) = .bool true := f1
      refine guard_on (d := 74) (want := true) (by rfl) (by rfl) ?_ ?_
      · exact f1
      have m0_gx : w.cell? ⟨gx, 0, none⟩ = some (.int .i64 xl) := blk_cell hk_gx 0 (by rfl)
      have m1_gx : w.cell? ⟨gx, 1, none⟩ = some (.int .i64 xh) := blk_cell hk_gx 1 (by rfl)
      refine wp_value (v := .agg #[.int .i64 xl, .int .i64 xh]) (w1 := w) ?_ (hK.out _ w (Below.refl _ _) rfl (fun h => by cases h))
      try simp only [f1]
      go_simp
      try (first | done | rfl | (simp; done))
    refine StepsP.cons ?_ ?_
    · intro Q s w hC hA K hK
      clear hC
      obtain ⟨f1, -⟩ := hA
      replace f1 : (s 74) = .bool true := f1
      refine guard_on (d := 74) (want := true) (by rfl) (by rfl) ?_ ?_
      · exact f1
      refine wp_value (v := .int .i64 n) (w1 := w) ?_ (hK.out _ w (Below.refl _ _) rfl (fun h => by cases h))
      try simp only [f1]
      go_simp
      try (first | done | rfl | (simp; done))
    refine StepsP.cons ?_ ?_
    · intro Q s w hC hA K hK
      obtain ⟨hsz, hk_gx, lt_gx, hk_gy, lt_gy, hk_gz, lt_gz, hk_g8, lt_g8, hk_g9, lt_g9, hbw⟩ := hC
      obtain ⟨f1, f5, f6, -⟩ := hA
      replace f1 : (s 74) = .bool true := f1
      replace f5 : (s 78) = .agg #[.int .i64 xl, .int .i64 xh] := f5
      replace f6 : (s 79) = .int .i64 n := f6
      refine guard_on (d := 74) (want := true) (by rfl) (by rfl) ?_ ?_
      · exact f1
      refine wp_call (N := some 80) (by rfl) Try.func12 (by kernel_rfl) #[.agg #[.int .i64 xl, .int .i64 xh], .int .i64 n] rfl (by rfl) ?_ ?_
      · show [s 78, s 79] = [.agg #[.int .i64 xl, .int .i64 xh], .int .i64 n]
        first | rfl | simp only [f1, f5, f6]
      refine (Has_calls _ _ _ _).mono ?_
      rintro e w1 ⟨rfl, hb⟩
      refine ⟨_, rfl, ?_⟩
      exact hK.out _ _ hb rfl (fun h => by cases h)
    refine StepsP.cons ?_ ?_
    · intro Q s w hC hA K hK
      clear hC
      obtain ⟨f1, f7, -⟩ := hA
      replace f1 : (s 74) = .bool true := f1
      replace f7 : (s 80) = .bool (hasS ⟨xl, xh⟩ n) := f7
      refine guard_on (d := 74) (want := true) (by rfl) (by rfl) ?_ ?_
      · exact f1
      refine wp_value (v := .bool (hasS ⟨xl, xh⟩ n)) (w1 := w) ?_ (hK.out _ w (Below.refl _ _) rfl (fun h => by cases h))
      try simp only [f1, f7]
      go_simp
      try (first | done | rfl | (simp; done))
    refine StepsP.cons ?_ ?_
    · intro Q s w hC hA K hK
      obtain ⟨hsz, hk_gx, lt_gx, hk_gy, lt_gy, hk_gz, lt_gz, hk_g8, lt_g8, hk_g9, lt_g9, hbw⟩ := hC
      obtain ⟨f8, -⟩ := hA
      replace f8 : (s 81) = .bool (hasS ⟨xl, xh⟩ n) := f8
      cases hc : (hasS ⟨xl, xh⟩ n)
      · refine guard_off (d := 81) (want := true) (by rfl) (by rfl) ?_ ?_
        · show s 81 ≠ .bool true
          · intro h_
            rw [f8] at h_; injection h_ with h_; rw [Bool.eq_false_iff] at hc; exact hc (by simp_all)
        exact hK.out _ w (Below.refl _ _) ⟨fun h_ => (by rw [hc] at h_; cases h_), fun _ => rfl⟩ (fun _ g h => by cases h)
      · refine guard_on (d := 81) (want := true) (by rfl) (by rfl) ?_ ?_
        · exact (f8).trans (by rw [show (hasS ⟨xl, xh⟩ n) = true by simp_all])
        have m0_gy : w.cell? ⟨gy, 0, none⟩ = some (.int .i64 yl) := blk_cell hk_gy 0 (by rfl)
        have m1_gy : w.cell? ⟨gy, 1, none⟩ = some (.int .i64 yh) := blk_cell hk_gy 1 (by rfl)
        refine wp_value (v := .agg #[.int .i64 yl, .int .i64 yh]) (w1 := w) ?_ (hK.out _ w (Below.refl _ _) ⟨fun _ => rfl, fun h_ => (by rw [hc] at h_; cases h_)⟩ (fun h => by cases h))
        try simp only [f8]
        go_simp
        try (first | done | rfl | (simp; done))
    refine StepsP.cons ?_ ?_
    · intro Q s w hC hA K hK
      clear hC
      obtain ⟨f8, -⟩ := hA
      replace f8 : (s 81) = .bool (hasS ⟨xl, xh⟩ n) := f8
      cases hc : (hasS ⟨xl, xh⟩ n)
      · refine guard_off (d := 81) (want := true) (by rfl) (by rfl) ?_ ?_
        · show s 81 ≠ .bool true
          · intro h_
            rw [f8] at h_; injection h_ with h_; rw [Bool.eq_false_iff] at hc; exact hc (by simp_all)
        exact hK.out _ w (Below.refl _ _) ⟨fun h_ => (by rw [hc] at h_; cases h_), fun _ => rfl⟩ (fun _ g h => by cases h)
      · refine guard_on (d := 81) (want := true) (by rfl) (by rfl) ?_ ?_
        · exact (f8).trans (by rw [show (hasS ⟨xl, xh⟩ n) = true by simp_all])
        refine wp_value (v := .int .i64 n) (w1 := w) ?_ (hK.out _ w (Below.refl _ _) ⟨fun _ => rfl, fun h_ => (by rw [hc] at h_; cases h_)⟩ (fun h => by cases h))
        try simp only [f8]
        go_simp
        try (first | done | rfl | (simp; done))
    refine StepsP.cons ?_ ?_
    · intro Q s w hC hA K hK
      obtain ⟨hsz, hk_gx, lt_gx, hk_gy, lt_gy, hk_gz, lt_gz, hk_g8, lt_g8, hk_g9, lt_g9, hbw⟩ := hC
      obtain ⟨f8, f9, f10, -⟩ := hA
      replace f8 : (s 81) = .bool (hasS ⟨xl, xh⟩ n) := f8
      replace f9 : ((hasS ⟨xl, xh⟩ n) = true → (s 82) = .agg #[.int .i64 yl, .int .i64 yh]) ∧ ((hasS ⟨xl, xh⟩ n) = false → (s 82) = undef) := f9
      replace f10 : ((hasS ⟨xl, xh⟩ n) = true → (s 83) = .int .i64 n) ∧ ((hasS ⟨xl, xh⟩ n) = false → (s 83) = undef) := f10
      cases hc : (hasS ⟨xl, xh⟩ n)
      · refine guard_off (d := 81) (want := true) (by rfl) (by rfl) ?_ ?_
        · show s 81 ≠ .bool true
          · intro h_
            rw [f8] at h_; injection h_ with h_; rw [Bool.eq_false_iff] at hc; exact hc (by simp_all)
        exact hK.out _ w (Below.refl _ _) ⟨fun h_ => (by rw [hc] at h_; cases h_), fun _ => rfl⟩ (fun _ g h => by cases h)
      · refine guard_on (d := 81) (want := true) (by rfl) (by rfl) ?_ ?_
        · exact (f8).trans (by rw [show (hasS ⟨xl, xh⟩ n) = true by simp_all])
        replace f9 := f9.1 (by exact hc)
        replace f10 := f10.1 (by exact hc)
        refine wp_call (N := some 84) (by rfl) Try.func12 (by kernel_rfl) #[.agg #[.int .i64 yl, .int .i64 yh], .int .i64 n] rfl (by rfl) ?_ ?_
        · show [s 82, s 83] = [.agg #[.int .i64 yl, .int .i64 yh], .int .i64 n]
          first | rfl | simp only [f8, f9, f10]
        refine (Has_calls _ _ _ _).mono ?_
        rintro e w1 ⟨rfl, hb⟩
        refine ⟨_, rfl, ?_⟩
        exact hK.out _ _ hb ⟨fun _ => rfl, fun h_ => (by rw [hc] at h_; cases h_)⟩ (fun h => by cases h)
    refine StepsP.cons ?_ ?_
    · intro Q s w hC hA K hK
      clear hC
      obtain ⟨f1, f8, f11, -⟩ := hA
      replace f1 : (s 74) = .bool true := f1
      replace f8 : (s 81) = .bool (hasS ⟨xl, xh⟩ n) := f8
      replace f11 : ((hasS ⟨xl, xh⟩ n) = true → (s 84) = .bool (hasS ⟨yl, yh⟩ n)) ∧ ((hasS ⟨xl, xh⟩ n) = false → (s 84) = undef) := f11
      refine guard_on (d := 74) (want := true) (by rfl) (by rfl) ?_ ?_
      · exact f1
      refine wp_value (v := .bool ((hasS ⟨xl, xh⟩ n) && (hasS ⟨yl, yh⟩ n))) (w1 := w) ?_ (hK.out _ w (Below.refl _ _) rfl (fun h => by cases h))
      cases ht : hasS ⟨xl, xh⟩ n
      · skip
        have hct_ : s 81 = .bool false := by rw [f8, ht]
        simp only [hct_]
        go_simp
        try simp
      · have hy_ := f11.1 (by simp_all)
        have hct_ : s 81 = .bool true := by rw [f8, ht]
        simp only [hct_, hy_]
        go_simp
        try simp
    refine StepsP.cons ?_ ?_
    · intro Q s w hC hA K hK
      clear hC
      obtain ⟨f1, f4, f12, -⟩ := hA
      replace f1 : (s 74) = .bool true := f1
      replace f4 : (s 77) = .bool (hasS ⟨ml, mh⟩ n) := f4
      replace f12 : (s 85) = .bool ((hasS ⟨xl, xh⟩ n) && (hasS ⟨yl, yh⟩ n)) := f12
      refine guard_on (d := 74) (want := true) (by rfl) (by rfl) ?_ ?_
      · exact f1
      refine wp_value (v := .bool true) (w1 := w) ?_ (hK.out _ w (Below.refl _ _) rfl (fun h => by cases h))
      try simp only [f4, f12]
      go_simp
      first | done | (rw [i7.out]; simp) | simp [i7.out]
    refine StepsP.cons ?_ ?_
    · intro Q s w hC hA K hK
      clear hC
      obtain ⟨f1, f13, -⟩ := hA
      replace f1 : (s 74) = .bool true := f1
      replace f13 : (s 86) = .bool true := f13
      refine guard_none (by rfl) ?_
      refine wp_value (v := .bool true) (w1 := w) ?_ (hK.out _ w (Below.refl _ _) rfl (fun h => by cases h))
      try simp only [f1, f13]
      go_simp
      try (first | done | rfl | (simp; done))
    refine StepsP.cons ?_ ?_
    · intro Q s w hC hA K hK
      clear hC
      obtain ⟨f14, -⟩ := hA
      replace f14 : (s 87) = .bool true := f14
      refine guard_none (by rfl) ?_
      refine wp_value (v := .bool true) (w1 := w) ?_ (hK.out _ w (Below.refl _ _) rfl (fun h => by cases h))
      try simp only [f14]
      go_simp
      try (first | done | rfl | (simp; done))
    refine StepsP.cons ?_ ?_
    · intro Q s w hC hA K hK
      obtain ⟨hsz, hk_gx, lt_gx, hk_gy, lt_gy, hk_gz, lt_gz, hk_g8, lt_g8, hk_g9, lt_g9, hbw⟩ := hC
      obtain ⟨f15, -⟩ := hA
      replace f15 : (s 88) = .bool true := f15
      refine guard_on (d := 88) (want := true) (by rfl) (by rfl) ?_ ?_
      · exact f15
      have m0_gx : w.cell? ⟨gx, 0, none⟩ = some (.int .i64 xl) := blk_cell hk_gx 0 (by rfl)
      have m1_gx : w.cell? ⟨gx, 1, none⟩ = some (.int .i64 xh) := blk_cell hk_gx 1 (by rfl)
      refine wp_value (v := .agg #[.int .i64 xl, .int .i64 xh]) (w1 := w) ?_ (hK.out _ w (Below.refl _ _) rfl (fun h => by cases h))
      try simp only [f15]
      go_simp
      try (first | done | rfl | (simp; done))
    refine StepsP.cons ?_ ?_
    · intro Q s w hC hA K hK
      obtain ⟨hsz, hk_gx, lt_gx, hk_gy, lt_gy, hk_gz, lt_gz, hk_g8, lt_g8, hk_g9, lt_g9, hbw⟩ := hC
      obtain ⟨f15, -⟩ := hA
      replace f15 : (s 88) = .bool true := f15
      refine guard_on (d := 88) (want := true) (by rfl) (by rfl) ?_ ?_
      · exact f15
      have m0_gy : w.cell? ⟨gy, 0, none⟩ = some (.int .i64 yl) := blk_cell hk_gy 0 (by rfl)
      have m1_gy : w.cell? ⟨gy, 1, none⟩ = some (.int .i64 yh) := blk_cell hk_gy 1 (by rfl)
      refine wp_value (v := .agg #[.int .i64 yl, .int .i64 yh]) (w1 := w) ?_ (hK.out _ w (Below.refl _ _) rfl (fun h => by cases h))
      try simp only [f15]
      go_simp
      try (first | done | rfl | (simp; done))
    refine StepsP.cons ?_ ?_
    · intro Q s w hC hA K hK
      obtain ⟨hsz, hk_gx, lt_gx, hk_gy, lt_gy, hk_gz, lt_gz, hk_g8, lt_g8, hk_g9, lt_g9, hbw⟩ := hC
      obtain ⟨f15, -⟩ := hA
      replace f15 : (s 88) = .bool true := f15
      refine guard_on (d := 88) (want := true) (by rfl) (by rfl) ?_ ?_
      · exact f15
      have m0_gz : w.cell? ⟨gz, 0, none⟩ = some (.int .i64 zl) := blk_cell hk_gz 0 (by rfl)
      have m1_gz : w.cell? ⟨gz, 1, none⟩ = some (.int .i64 zh) := blk_cell hk_gz 1 (by rfl)
      refine wp_value (v := .agg #[.int .i64 zl, .int .i64 zh]) (w1 := w) ?_ (hK.out _ w (Below.refl _ _) rfl (fun h => by cases h))
      try simp only [f15]
      go_simp
      try (first | done | rfl | (simp; done))
    refine StepsP.cons ?_ ?_
    · intro Q s w hC hA K hK
      obtain ⟨hsz, hk_gx, lt_gx, hk_gy, lt_gy, hk_gz, lt_gz, hk_g8, lt_g8, hk_g9, lt_g9, hbw⟩ := hC
      obtain ⟨f15, f17, f18, -⟩ := hA
      replace f15 : (s 88) = .bool true := f15
      replace f17 : (s 90) = .agg #[.int .i64 yl, .int .i64 yh] := f17
      replace f18 : (s 91) = .agg #[.int .i64 zl, .int .i64 zh] := f18
      refine guard_on (d := 88) (want := true) (by rfl) (by rfl) ?_ ?_
      · exact f15
      refine wp_value (v := .slice (some ⟨w.heap.size, 0, none⟩) 2 2) (w1 := w.alloc (.cells #[.int .i64 yl, .int .i64 yh, .int .i64 zl, .int .i64 zh] 23)) ?_ (hK.out _ _ (bl_alloc (Below.refl _ _) _) ⟨w.heap.size, rfl, hsz, blk_new _ _⟩ (fun _ g h => fresh_alloc (by simpa [blkV] using h)))
      try simp only [f15, f17, f18]
      go_simp
      try rfl
    refine StepsP.cons ?_ ?_
    · intro Q s w hC hA K hK
      obtain ⟨hsz, hk_gx, lt_gx, hk_gy, lt_gy, hk_gz, lt_gz, hk_g8, lt_g8, hk_g9, lt_g9, hbw⟩ := hC
      obtain ⟨f15, f19, -⟩ := hA
      replace f15 : (s 88) = .bool true := f15
      replace f19 : ∃ g19 : Nat, (s 92) = .slice (some ⟨g19, 0, none⟩) 2 2 ∧ B2 ≤ g19 ∧ w.heap[g19]? = some (.cells #[.int .i64 yl, .int .i64 yh, .int .i64 zl, .int .i64 zh] 23 (0, 0)) := f19
      refine guard_on (d := 88) (want := true) (by rfl) (by rfl) ?_ ?_
      · exact f15
      obtain ⟨g19, a_g19, c_g19, hk_g19⟩ := f19
      refine wp_call (N := some 93) (by rfl) Try.func20 (by kernel_rfl) #[.slice (some ⟨g19, 0, none⟩) 2 2] rfl (by rfl) ?_ ?_
      · show [s 92] = [.slice (some ⟨g19, 0, none⟩) 2 2]
        first | rfl | simp only [f15, a_g19]
      refine (Join_calls (some ⟨g19, 0, none⟩) [⟨yl, yh⟩, ⟨zl, zh⟩] 2 _ (RdS.of_blk (l := [⟨yl, yh⟩, ⟨zl, zh⟩]) hk_g19 (by simp)) (by simp)).mono ?_
      rintro e w1 ⟨rfl, hb⟩
      refine ⟨_, rfl, ?_⟩
      rw [e3.out]
      exact hK.out _ _ hb rfl (fun h => by cases h)
    refine StepsP.cons ?_ ?_
    · intro Q s w hC hA K hK
      obtain ⟨hsz, hk_gx, lt_gx, hk_gy, lt_gy, hk_gz, lt_gz, hk_g8, lt_g8, hk_g9, lt_g9, hbw⟩ := hC
      obtain ⟨f15, f16, f20, -⟩ := hA
      replace f15 : (s 88) = .bool true := f15
      replace f16 : (s 89) = .agg #[.int .i64 xl, .int .i64 xh] := f16
      replace f20 : (s 93) = .agg #[.int .i64 pl, .int .i64 ph] := f20
      refine guard_on (d := 88) (want := true) (by rfl) (by rfl) ?_ ?_
      · exact f15
      refine wp_value (v := .slice (some ⟨w.heap.size, 0, none⟩) 2 2) (w1 := w.alloc (.cells #[.int .i64 xl, .int .i64 xh, .int .i64 pl, .int .i64 ph] 23)) ?_ (hK.out _ _ (bl_alloc (Below.refl _ _) _) ⟨w.heap.size, rfl, hsz, blk_new _ _⟩ (fun _ g h => fresh_alloc (by simpa [blkV] using h)))
      try simp only [f15, f16, f20]
      go_simp
      try rfl
    refine StepsP.cons ?_ ?_
    · intro Q s w hC hA K hK
      obtain ⟨hsz, hk_gx, lt_gx, hk_gy, lt_gy, hk_gz, lt_gz, hk_g8, lt_g8, hk_g9, lt_g9, hbw⟩ := hC
      obtain ⟨f15, f21, -⟩ := hA
      replace f15 : (s 88) = .bool true := f15
      replace f21 : ∃ g21 : Nat, (s 94) = .slice (some ⟨g21, 0, none⟩) 2 2 ∧ B2 ≤ g21 ∧ w.heap[g21]? = some (.cells #[.int .i64 xl, .int .i64 xh, .int .i64 pl, .int .i64 ph] 23 (0, 0)) := f21
      refine guard_on (d := 88) (want := true) (by rfl) (by rfl) ?_ ?_
      · exact f15
      obtain ⟨g21, a_g21, c_g21, hk_g21⟩ := f21
      refine wp_call (N := some 95) (by rfl) Try.func20 (by kernel_rfl) #[.slice (some ⟨g21, 0, none⟩) 2 2] rfl (by rfl) ?_ ?_
      · show [s 94] = [.slice (some ⟨g21, 0, none⟩) 2 2]
        first | rfl | simp only [f15, a_g21]
      refine (Join_calls (some ⟨g21, 0, none⟩) [⟨xl, xh⟩, ⟨pl, ph⟩] 2 _ (RdS.of_blk (l := [⟨xl, xh⟩, ⟨pl, ph⟩]) hk_g21 (by simp)) (by simp)).mono ?_
      rintro e w1 ⟨rfl, hb⟩
      refine ⟨_, rfl, ?_⟩
      rw [e5.out]
      exact hK.out _ _ hb rfl (fun h => by cases h)
    refine StepsP.cons ?_ ?_
    · intro Q s w hC hA K hK
      obtain ⟨hsz, hk_gx, lt_gx, hk_gy, lt_gy, hk_gz, lt_gz, hk_g8, lt_g8, hk_g9, lt_g9, hbw⟩ := hC
      obtain ⟨f15, -⟩ := hA
      replace f15 : (s 88) = .bool true := f15
      refine guard_on (d := 88) (want := true) (by rfl) (by rfl) ?_ ?_
      · exact f15
      have m0_gx : w.cell? ⟨gx, 0, none⟩ = some (.int .i64 xl) := blk_cell hk_gx 0 (by rfl)
      have m1_gx : w.cell? ⟨gx, 1, none⟩ = some (.int .i64 xh) := blk_cell hk_gx 1 (by rfl)
      refine wp_value (v := .agg #[.int .i64 xl, .int .i64 xh]) (w1 := w) ?_ (hK.out _ w (Below.refl _ _) rfl (fun h => by cases h))
      try simp only [f15]
      go_simp
      try (first | done | rfl | (simp; done))
    refine StepsP.cons ?_ ?_
    · intro Q s w hC hA K hK
      obtain ⟨hsz, hk_gx, lt_gx, hk_gy, lt_gy, hk_gz, lt_gz, hk_g8, lt_g8, hk_g9, lt_g9, hbw⟩ := hC
      obtain ⟨f15, -⟩ := hA
      replace f15 : (s 88) = .bool true := f15
      refine guard_on (d := 88) (want := true) (by rfl) (by rfl) ?_ ?_
      · exact f15
      have m0_gy : w.cell? ⟨gy, 0, none⟩ = some (.int .i64 yl) := blk_cell hk_gy 0 (by rfl)
      have m1_gy : w.cell? ⟨gy, 1, none⟩ = some (.int .i64 yh) := blk_cell hk_gy 1 (by rfl)
      refine wp_value (v := .agg #[.int .i64 yl, .int .i64 yh]) (w1 := w) ?_ (hK.out _ w (Below.refl _ _) rfl (fun h => by cases h))
      try simp only [f15]
      go_simp
      try (first | done | rfl | (simp; done))
    refine StepsP.cons ?_ ?_
    · intro Q s w hC hA K hK
      obtain ⟨hsz, hk_gx, lt_gx, hk_gy, lt_gy, hk_gz, lt_gz, hk_g8, lt_g8, hk_g9, lt_g9, hbw⟩ := hC
      obtain ⟨f15, -⟩ := hA
      replace f15 : (s 88) = .bool true := f15
      refine guard_on (d := 88) (want := true) (by rfl) (by rfl) ?_ ?_
      · exact f15
      have m0_gz : w.cell? ⟨gz, 0, none⟩ = some (.int .i64 zl) := blk_cell hk_gz 0 (by rfl)
      have m1_gz : w.cell? ⟨gz, 1, none⟩ = some (.int .i64 zh) := blk_cell hk_gz 1 (by rfl)
      refine wp_value (v := .agg #[.int .i64 zl, .int .i64 zh]) (w1 := w) ?_ (hK.out _ w (Below.refl _ _) rfl (fun h => by cases h))
      try simp only [f15]
      go_simp
      try (first | done | rfl | (simp; done))
    refine StepsP.cons ?_ ?_
    · intro Q s w hC hA K hK
      obtain ⟨hsz, hk_gx, lt_gx, hk_gy, lt_gy, hk_gz, lt_gz, hk_g8, lt_g8, hk_g9, lt_g9, hbw⟩ := hC
      obtain ⟨f15, f23, f24, f25, -⟩ := hA
      replace f15 : (s 88) = .bool true := f15
      replace f23 : (s 96) = .agg #[.int .i64 xl, .int .i64 xh] := f23
      replace f24 : (s 97) = .agg #[.int .i64 yl, .int .i64 yh] := f24
      replace f25 : (s 98) = .agg #[.int .i64 zl, .int .i64 zh] := f25
      refine guard_on (d := 88) (want := true) (by rfl) (by rfl) ?_ ?_
      · exact f15
      refine wp_value (v := .slice (some ⟨w.heap.size, 0, none⟩) 3 3) (w1 := w.alloc (.cells #[.int .i64 xl, .int .i64 xh, .int .i64 yl, .int .i64 yh, .int .i64 zl, .int .i64 zh] 23)) ?_ (hK.out _ _ (bl_alloc (Below.refl _ _) _) ⟨w.heap.size, rfl, hsz, blk_new _ _⟩ (fun _ g h => fresh_alloc (by simpa [blkV] using h)))
      try simp only [f15, f23, f24, f25]
      go_simp
      try rfl
    refine StepsP.cons ?_ ?_
    · intro Q s w hC hA K hK
      obtain ⟨hsz, hk_gx, lt_gx, hk_gy, lt_gy, hk_gz, lt_gz, hk_g8, lt_g8, hk_g9, lt_g9, hbw⟩ := hC
      obtain ⟨f15, f26, -⟩ := hA
      replace f15 : (s 88) = .bool true := f15
      replace f26 : ∃ g26 : Nat, (s 99) = .slice (some ⟨g26, 0, none⟩) 3 3 ∧ B2 ≤ g26 ∧ w.heap[g26]? = some (.cells #[.int .i64 xl, .int .i64 xh, .int .i64 yl, .int .i64 yh, .int .i64 zl, .int .i64 zh] 23 (0, 0)) := f26
      refine guard_on (d := 88) (want := true) (by rfl) (by rfl) ?_ ?_
      · exact f15
      obtain ⟨g26, a_g26, c_g26, hk_g26⟩ := f26
      refine wp_call (N := some 100) (by rfl) Try.func20 (by kernel_rfl) #[.slice (some ⟨g26, 0, none⟩) 3 3] rfl (by rfl) ?_ ?_
      · show [s 99] = [.slice (some ⟨g26, 0, none⟩) 3 3]
        first | rfl | simp only [f15, a_g26]
      refine (Join_calls (some ⟨g26, 0, none⟩) [⟨xl, xh⟩, ⟨yl, yh⟩, ⟨zl, zh⟩] 3 _ (RdS.of_blk (l := [⟨xl, xh⟩, ⟨yl, yh⟩, ⟨zl, zh⟩]) hk_g26 (by simp)) (by simp)).mono ?_
      rintro e w1 ⟨rfl, hb⟩
      refine ⟨_, rfl, ?_⟩
      rw [e6.out]
      exact hK.out _ _ hb rfl (fun h => by cases h)
    refine StepsP.cons ?_ ?_
    · intro Q s w hC hA K hK
      clear hC
      obtain ⟨f15, f22, f27, -⟩ := hA
      replace f15 : (s 88) = .bool true := f15
      replace f22 : (s 95) = .agg #[.int .i64 ql, .int .i64 qh] := f22
      replace f27 : (s 100) = .agg #[.int .i64 ql, .int .i64 qh] := f27
      refine guard_on (d := 88) (want := true) (by rfl) (by rfl) ?_ ?_
      · exact f15
      refine wp_value (v := .bool true) (w1 := w) ?_ (hK.out _ w (Below.refl _ _) rfl (fun h => by cases h))
      try simp only [f15, f22, f27]
      go_simp
      try (first | done | rfl | (simp; done))
    refine StepsP.cons ?_ ?_
    · intro Q s w hC hA K hK
      clear hC
      obtain ⟨f15, f28, -⟩ := hA
      replace f15 : (s 88) = .bool true := f15
      replace f28 : (s 101) = .bool true := f28
      refine guard_none (by rfl) ?_
      refine wp_value (v := .bool true) (w1 := w) ?_ (hK.out _ w (Below.refl _ _) rfl (fun h => by cases h))
      try simp only [f15, f28]
      go_simp
      try (first | done | rfl | (simp; done))
    refine StepsP.cons ?_ ?_
    · intro Q s w hC hA K hK
      clear hC
      obtain ⟨f29, -⟩ := hA
      replace f29 : (s 102) = .bool true := f29
      refine guard_none (by rfl) ?_
      refine wp_value (v := .bool true) (w1 := w) ?_ (hK.out _ w (Below.refl _ _) rfl (fun h => by cases h))
      try simp only [f29]
      go_simp
      try (first | done | rfl | (simp; done))
    refine StepsP.cons ?_ ?_
    · intro Q s w hC hA K hK
      obtain ⟨hsz, hk_gx, lt_gx, hk_gy, lt_gy, hk_gz, lt_gz, hk_g8, lt_g8, hk_g9, lt_g9, hbw⟩ := hC
      obtain ⟨f30, -⟩ := hA
      replace f30 : (s 103) = .bool true := f30
      refine guard_on (d := 103) (want := true) (by rfl) (by rfl) ?_ ?_
      · exact f30
      have m0_gx : w.cell? ⟨gx, 0, none⟩ = some (.int .i64 xl) := blk_cell hk_gx 0 (by rfl)
      have m1_gx : w.cell? ⟨gx, 1, none⟩ = some (.int .i64 xh) := blk_cell hk_gx 1 (by rfl)
      refine wp_value (v := .agg #[.int .i64 xl, .int .i64 xh]) (w1 := w) ?_ (hK.out _ w (Below.refl _ _) rfl (fun h => by cases h))
      try simp only [f30]
      go_simp
      try (first | done | rfl | (simp; done))
    refine StepsP.cons ?_ ?_
    · intro Q s w hC hA K hK
      obtain ⟨hsz, hk_gx, lt_gx, hk_gy, lt_gy, hk_gz, lt_gz, hk_g8, lt_g8, hk_g9, lt_g9, hbw⟩ := hC
      obtain ⟨f30, -⟩ := hA
      replace f30 : (s 103) = .bool true := f30
      refine guard_on (d := 103) (want := true) (by rfl) (by rfl) ?_ ?_
      · exact f30
      have m0_gy : w.cell? ⟨gy, 0, none⟩ = some (.int .i64 yl) := blk_cell hk_gy 0 (by rfl)
      have m1_gy : w.cell? ⟨gy, 1, none⟩ = some (.int .i64 yh) := blk_cell hk_gy 1 (by rfl)
      refine wp_value (v := .agg #[.int .i64 yl, .int .i64 yh]) (w1 := w) ?_ (hK.out _ w (Below.refl _ _) rfl (fun h => by cases h))
      try simp only [f30]
      go_simp
      try (first | done | rfl | (simp; done))
    refine StepsP.cons ?_ ?_
    · intro Q s w hC hA K hK
      obtain ⟨hsz, hk_gx, lt_gx, hk_gy, lt_gy, hk_gz, lt_gz, hk_g8, lt_g8, hk_g9, lt_g9, hbw⟩ := hC
      obtain ⟨f30, -⟩ := hA
      replace f30 : (s 103) = .bool true := f30
      refine guard_on (d := 103) (want := true) (by rfl) (by rfl) ?_ ?_
      · exact f30
      have m0_gz : w.cell? ⟨gz, 0, none⟩ = some (.int .i64 zl) := blk_cell hk_gz 0 (by rfl)
      have m1_gz : w.cell? ⟨gz, 1, none⟩ = some (.int .i64 zh) := blk_cell hk_gz 1 (by rfl)
      refine wp_value (v := .agg #[.int .i64 zl, .int .i64 zh]) (w1 := w) ?_ (hK.out _ w (Below.refl _ _) rfl (fun h => by cases h))
      try simp only [f30]
      go_simp
      try (first | done | rfl | (simp; done))
    refine StepsP.cons ?_ ?_
    · intro Q s w hC hA K hK
      obtain ⟨hsz, hk_gx, lt_gx, hk_gy, lt_gy, hk_gz, lt_gz, hk_g8, lt_g8, hk_g9, lt_g9, hbw⟩ := hC
      obtain ⟨f30, f32, f33, -⟩ := hA
      replace f30 : (s 103) = .bool true := f30
      replace f32 : (s 105) = .agg #[.int .i64 yl, .int .i64 yh] := f32
      replace f33 : (s 106) = .agg #[.int .i64 zl, .int .i64 zh] := f33
      refine guard_on (d := 103) (want := true) (by rfl) (by rfl) ?_ ?_
      · exact f30
      refine wp_value (v := .slice (some ⟨w.heap.size, 0, none⟩) 2 2) (w1 := w.alloc (.cells #[.int .i64 yl, .int .i64 yh, .int .i64 zl, .int .i64 zh] 23)) ?_ (hK.out _ _ (bl_alloc (Below.refl _ _) _) ⟨w.heap.size, rfl, hsz, blk_new _ _⟩ (fun _ g h => fresh_alloc (by simpa [blkV] using h)))
      try simp only [f30, f32, f33]
      go_simp
      try rfl
    refine StepsP.cons ?_ ?_
    · intro Q s w hC hA K hK
      obtain ⟨hsz, hk_gx, lt_gx, hk_gy, lt_gy, hk_gz, lt_gz, hk_g8, lt_g8, hk_g9, lt_g9, hbw⟩ := hC
      obtain ⟨f30, f34, -⟩ := hA
      replace f30 : (s 103) = .bool true := f30
      replace f34 : ∃ g34 : Nat, (s 107) = .slice (some ⟨g34, 0, none⟩) 2 2 ∧ B2 ≤ g34 ∧ w.heap[g34]? = some (.cells #[.int .i64 yl, .int .i64 yh, .int .i64 zl, .int .i64 zh] 23 (0, 0)) := f34
      refine guard_on (d := 103) (want := true) (by rfl) (by rfl) ?_ ?_
      · exact f30
      obtain ⟨g34, a_g34, c_g34, hk_g34⟩ := f34
      refine wp_call (N := some 108) (by rfl) Try.func21 (by kernel_rfl) #[.slice (some ⟨g34, 0, none⟩) 2 2] rfl (by rfl) ?_ ?_
      · show [s 107] = [.slice (some ⟨g34, 0, none⟩) 2 2]
        first | rfl | simp only [f30, a_g34]
      refine (Meet_calls (some ⟨g34, 0, none⟩) [⟨yl, yh⟩, ⟨zl, zh⟩] 2 _ (RdS.of_blk (l := [⟨yl, yh⟩, ⟨zl, zh⟩]) hk_g34 (by simp)) (by simp)).mono ?_
      rintro e w1 ⟨rfl, hb⟩
      refine ⟨_, rfl, ?_⟩
      rw [e4.out]
      exact hK.out _ _ hb rfl (fun h => by cases h)
    refine StepsP.cons ?_ ?_
    · intro Q s w hC hA K hK
      obtain ⟨hsz, hk_gx, lt_gx, hk_gy, lt_gy, hk_gz, lt_gz, hk_g8, lt_g8, hk_g9, lt_g9, hbw⟩ := hC
      obtain ⟨f30, f31, f35, -⟩ := hA
      replace f30 : (s 103) = .bool true := f30
      replace f31 : (s 104) = .agg #[.int .i64 xl, .int .i64 xh] := f31
      replace f35 : (s 108) = .agg #[.int .i64 ol, .int .i64 oh] := f35
      refine guard_on (d := 103) (want := true) (by rfl) (by rfl) ?_ ?_
      · exact f30
      refine wp_value (v := .slice (some ⟨w.heap.size, 0, none⟩) 2 2) (w1 := w.alloc (.cells #[.int .i64 xl, .int .i64 xh, .int .i64 ol, .int .i64 oh] 23)) ?_ (hK.out _ _ (bl_alloc (Below.refl _ _) _) ⟨w.heap.size, rfl, hsz, blk_new _ _⟩ (fun _ g h => fresh_alloc (by simpa [blkV] using h)))
      try simp only [f30, f31, f35]
      go_simp
      try rfl
    refine StepsP.cons ?_ ?_
    · intro Q s w hC hA K hK
      obtain ⟨hsz, hk_gx, lt_gx, hk_gy, lt_gy, hk_gz, lt_gz, hk_g8, lt_g8, hk_g9, lt_g9, hbw⟩ := hC
      obtain ⟨f30, f36, -⟩ := hA
      replace f30 : (s 103) = .bool true := f30
      replace f36 : ∃ g36 : Nat, (s 109) = .slice (some ⟨g36, 0, none⟩) 2 2 ∧ B2 ≤ g36 ∧ w.heap[g36]? = some (.cells #[.int .i64 xl, .int .i64 xh, .int .i64 ol, .int .i64 oh] 23 (0, 0)) := f36
      refine guard_on (d := 103) (want := true) (by rfl) (by rfl) ?_ ?_
      · exact f30
      obtain ⟨g36, a_g36, c_g36, hk_g36⟩ := f36
      refine wp_call (N := some 110) (by rfl) Try.func21 (by kernel_rfl) #[.slice (some ⟨g36, 0, none⟩) 2 2] rfl (by rfl) ?_ ?_
      · show [s 109] = [.slice (some ⟨g36, 0, none⟩) 2 2]
        first | rfl | simp only [f30, a_g36]
      refine (Meet_calls (some ⟨g36, 0, none⟩) [⟨xl, xh⟩, ⟨ol, oh⟩] 2 _ (RdS.of_blk (l := [⟨xl, xh⟩, ⟨ol, oh⟩]) hk_g36 (by simp)) (by simp)).mono ?_
      rintro e w1 ⟨rfl, hb⟩
      refine ⟨_, rfl, ?_⟩
      rw [e7.out]
      exact hK.out _ _ hb rfl (fun h => by cases h)
    refine StepsP.cons ?_ ?_
    · intro Q s w hC hA K hK
      obtain ⟨hsz, hk_gx, lt_gx, hk_gy, lt_gy, hk_gz, lt_gz, hk_g8, lt_g8, hk_g9, lt_g9, hbw⟩ := hC
      obtain ⟨f30, -⟩ := hA
      replace f30 : (s 103) = .bool true := f30
      refine guard_on (d := 103) (want := true) (by rfl) (by rfl) ?_ ?_
      · exact f30
      have m0_gx : w.cell? ⟨gx, 0, none⟩ = some (.int .i64 xl) := blk_cell hk_gx 0 (by rfl)
      have m1_gx : w.cell? ⟨gx, 1, none⟩ = some (.int .i64 xh) := blk_cell hk_gx 1 (by rfl)
      refine wp_value (v := .agg #[.int .i64 xl, .int .i64 xh]) (w1 := w) ?_ (hK.out _ w (Below.refl _ _) rfl (fun h => by cases h))
      try simp only [f30]
      go_simp
      try (first | done | rfl | (simp; done))
    refine StepsP.cons ?_ ?_
    · intro Q s w hC hA K hK
      obtain ⟨hsz, hk_gx, lt_gx, hk_gy, lt_gy, hk_gz, lt_gz, hk_g8, lt_g8, hk_g9, lt_g9, hbw⟩ := hC
      obtain ⟨f30, -⟩ := hA
      replace f30 : (s 103) = .bool true := f30
      refine guard_on (d := 103) (want := true) (by rfl) (by rfl) ?_ ?_
      · exact f30
      have m0_gy : w.cell? ⟨gy, 0, none⟩ = some (.int .i64 yl) := blk_cell hk_gy 0 (by rfl)
      have m1_gy : w.cell? ⟨gy, 1, none⟩ = some (.int .i64 yh) := blk_cell hk_gy 1 (by rfl)
      refine wp_value (v := .agg #[.int .i64 yl, .int .i64 yh]) (w1 := w) ?_ (hK.out _ w (Below.refl _ _) rfl (fun h => by cases h))
      try simp only [f30]
      go_simp
      try (first | done | rfl | (simp; done))
    refine StepsP.cons ?_ ?_
    · intro Q s w hC hA K hK
      obtain ⟨hsz, hk_gx, lt_gx, hk_gy, lt_gy, hk_gz, lt_gz, hk_g8, lt_g8, hk_g9, lt_g9, hbw⟩ := hC
      obtain ⟨f30, -⟩ := hA
      replace f30 : (s 103) = .bool true := f30
      refine guard_on (d := 103) (want := true) (by rfl) (by rfl) ?_ ?_
      · exact f30
      have m0_gz : w.cell? ⟨gz, 0, none⟩ = some (.int .i64 zl) := blk_cell hk_gz 0 (by rfl)
      have m1_gz : w.cell? ⟨gz, 1, none⟩ = some (.int .i64 zh) := blk_cell hk_gz 1 (by rfl)
      refine wp_value (v := .agg #[.int .i64 zl, .int .i64 zh]) (w1 := w) ?_ (hK.out _ w (Below.refl _ _) rfl (fun h => by cases h))
      try simp only [f30]
      go_simp
      try (first | done | rfl | (simp; done))
    refine StepsP.cons ?_ ?_
    · intro Q s w hC hA K hK
      obtain ⟨hsz, hk_gx, lt_gx, hk_gy, lt_gy, hk_gz, lt_gz, hk_g8, lt_g8, hk_g9, lt_g9, hbw⟩ := hC
      obtain ⟨f30, f38, f39, f40, -⟩ := hA
      replace f30 : (s 103) = .bool true := f30
      replace f38 : (s 111) = .agg #[.int .i64 xl, .int .i64 xh] := f38
      replace f39 : (s 112) = .agg #[.int .i64 yl, .int .i64 yh] := f39
      replace f40 : (s 113) = .agg #[.int .i64 zl, .int .i64 zh] := f40
      refine guard_on (d := 103) (want := true) (by rfl) (by rfl) ?_ ?_
      · exact f30
      refine wp_value (v := .slice (some ⟨w.heap.size, 0, none⟩) 3 3) (w1 := w.alloc (.cells #[.int .i64 xl, .int .i64 xh, .int .i64 yl, .int .i64 yh, .int .i64 zl, .int .i64 zh] 23)) ?_ (hK.out _ _ (bl_alloc (Below.refl _ _) _) ⟨w.heap.size, rfl, hsz, blk_new _ _⟩ (fun _ g h => fresh_alloc (by simpa [blkV] using h)))
      try simp only [f30, f38, f39, f40]
      go_simp
      try rfl
    refine StepsP.cons ?_ ?_
    · intro Q s w hC hA K hK
      obtain ⟨hsz, hk_gx, lt_gx, hk_gy, lt_gy, hk_gz, lt_gz, hk_g8, lt_g8, hk_g9, lt_g9, hbw⟩ := hC
      obtain ⟨f30, f41, -⟩ := hA
      replace f30 : (s 103) = .bool true := f30
      replace f41 : ∃ g41 : Nat, (s 114) = .slice (some ⟨g41, 0, none⟩) 3 3 ∧ B2 ≤ g41 ∧ w.heap[g41]? = some (.cells #[.int .i64 xl, .int .i64 xh, .int .i64 yl, .int .i64 yh, .int .i64 zl, .int .i64 zh] 23 (0, 0)) := f41
      refine guard_on (d := 103) (want := true) (by rfl) (by rfl) ?_ ?_
      · exact f30
      obtain ⟨g41, a_g41, c_g41, hk_g41⟩ := f41
      refine wp_call (N := some 115) (by rfl) Try.func21 (by kernel_rfl) #[.slice (some ⟨g41, 0, none⟩) 3 3] rfl (by rfl) ?_ ?_
      · show [s 114] = [.slice (some ⟨g41, 0, none⟩) 3 3]
        first | rfl | simp only [f30, a_g41]
      refine (Meet_calls (some ⟨g41, 0, none⟩) [⟨xl, xh⟩, ⟨yl, yh⟩, ⟨zl, zh⟩] 3 _ (RdS.of_blk (l := [⟨xl, xh⟩, ⟨yl, yh⟩, ⟨zl, zh⟩]) hk_g41 (by simp)) (by simp)).mono ?_
      rintro e w1 ⟨rfl, hb⟩
      refine ⟨_, rfl, ?_⟩
      rw [e8.out]
      exact hK.out _ _ hb rfl (fun h => by cases h)
    refine StepsP.cons ?_ ?_
    · intro Q s w hC hA K hK
      clear hC
      obtain ⟨f30, f37, f42, -⟩ := hA
      replace f30 : (s 103) = .bool true := f30
      replace f37 : (s 110) = .agg #[.int .i64 rl, .int .i64 rh] := f37
      replace f42 : (s 115) = .agg #[.int .i64 rl, .int .i64 rh] := f42
      refine guard_on (d := 103) (want := true) (by rfl) (by rfl) ?_ ?_
      · exact f30
      refine wp_value (v := .bool true) (w1 := w) ?_ (hK.out _ w (Below.refl _ _) rfl (fun h => by cases h))
      try simp only [f30, f37, f42]
      go_simp
      try (first | done | rfl | (simp; done))
    refine StepsP.cons ?_ ?_
    · intro Q s w hC hA K hK
      clear hC
      obtain ⟨f30, f43, -⟩ := hA
      replace f30 : (s 103) = .bool true := f30
      replace f43 : (s 116) = .bool true := f43
      refine guard_none (by rfl) ?_
      refine wp_value (v := .bool true) (w1 := w) ?_ (hK.out _ w (Below.refl _ _) rfl (fun h => by cases h))
      try simp only [f30, f43]
      go_simp
      try (first | done | rfl | (simp; done))
    refine StepsP.cons ?_ ?_
    · intro Q s w hC hA K hK
      clear hC
      obtain ⟨f44, -⟩ := hA
      replace f44 : (s 117) = .bool true := f44
      refine guard_none (by rfl) ?_
      refine wp_value (v := .bool true) (w1 := w) ?_ (hK.out _ w (Below.refl _ _) rfl (fun h => by cases h))
      try simp only [f44]
      go_simp
      try (first | done | rfl | (simp; done))
    refine StepsP.cons ?_ ?_
    · intro Q s w hC hA K hK
      obtain ⟨hsz, hk_gx, lt_gx, hk_gy, lt_gy, hk_gz, lt_gz, hk_g8, lt_g8, hk_g9, lt_g9, hbw⟩ := hC
      obtain ⟨f45, -⟩ := hA
      replace f45 : (s 118) = .bool true := f45
      refine guard_on (d := 118) (want := true) (by rfl) (by rfl) ?_ ?_
      · exact f45
      have m0_gx : w.cell? ⟨gx, 0, none⟩ = some (.int .i64 xl) := blk_cell hk_gx 0 (by rfl)
      have m1_gx : w.cell? ⟨gx, 1, none⟩ = some (.int .i64 xh) := blk_cell hk_gx 1 (by rfl)
      refine wp_value (v := .agg #[.int .i64 xl, .int .i64 xh]) (w1 := w) ?_ (hK.out _ w (Below.refl _ _) rfl (fun h => by cases h))
      try simp only [f45]
      go_simp
      try (first | done | rfl | (simp; done))
    refine StepsP.cons ?_ ?_
    · intro Q s w hC hA K hK
      obtain ⟨hsz, hk_gx, lt_gx, hk_gy, lt_gy, hk_gz, lt_gz, hk_g8, lt_g8, hk_g9, lt_g9, hbw⟩ := hC
      obtain ⟨f45, f46, -⟩ := hA
      replace f45 : (s 118) = .bool true := f45
      replace f46 : (s 119) = .agg #[.int .i64 xl, .int .i64 xh] := f46
      refine guard_on (d := 118) (want := true) (by rfl) (by rfl) ?_ ?_
      · exact f45
      refine wp_value (v := .slice (some ⟨w.heap.size, 0, none⟩) 1 1) (w1 := w.alloc (.cells #[.int .i64 xl, .int .i64 xh] 23)) ?_ (hK.out _ _ (bl_alloc (Below.refl _ _) _) ⟨w.heap.size, rfl, hsz, blk_new _ _⟩ (fun _ g h => fresh_alloc (by simpa [blkV] using h)))
      try simp only [f45, f46]
      go_simp
      try rfl
    refine StepsP.cons ?_ ?_
    · intro Q s w hC hA K hK
      obtain ⟨hsz, hk_gx, lt_gx, hk_gy, lt_gy, hk_gz, lt_gz, hk_g8, lt_g8, hk_g9, lt_g9, hbw⟩ := hC
      obtain ⟨f45, f47, -⟩ := hA
      replace f45 : (s 118) = .bool true := f45
      replace f47 : ∃ g47 : Nat, (s 120) = .slice (some ⟨g47, 0, none⟩) 1 1 ∧ B2 ≤ g47 ∧ w.heap[g47]? = some (.cells #[.int .i64 xl, .int .i64 xh] 23 (0, 0)) := f47
      refine guard_on (d := 118) (want := true) (by rfl) (by rfl) ?_ ?_
      · exact f45
      obtain ⟨g47, a_g47, c_g47, hk_g47⟩ := f47
      refine wp_call (N := some 121) (by rfl) Try.func20 (by kernel_rfl) #[.slice (some ⟨g47, 0, none⟩) 1 1] rfl (by rfl) ?_ ?_
      · show [s 120] = [.slice (some ⟨g47, 0, none⟩) 1 1]
        first | rfl | simp only [f45, a_g47]
      refine (Join_calls (some ⟨g47, 0, none⟩) [⟨xl, xh⟩] 1 _ (RdS.of_blk (l := [⟨xl, xh⟩]) hk_g47 (by simp)) (by simp)).mono ?_
      rintro e w1 ⟨rfl, hb⟩
      refine ⟨_, rfl, ?_⟩
      rw [e9.out]
      exact hK.out _ _ hb rfl (fun h => by cases h)
    refine StepsP.cons ?_ ?_
    · intro Q s w hC hA K hK
      obtain ⟨hsz, hk_gx, lt_gx, hk_gy, lt_gy, hk_gz, lt_gz, hk_g8, lt_g8, hk_g9, lt_g9, hbw⟩ := hC
      obtain ⟨f45, -⟩ := hA
      replace f45 : (s 118) = .bool true := f45
      refine guard_on (d := 118) (want := true) (by rfl) (by rfl) ?_ ?_
      · exact f45
      have m0_gx : w.cell? ⟨gx, 0, none⟩ = some (.int .i64 xl) := blk_cell hk_gx 0 (by rfl)
      have m1_gx : w.cell? ⟨gx, 1, none⟩ = some (.int .i64 xh) := blk_cell hk_gx 1 (by rfl)
      refine wp_value (v := .agg #[.int .i64 xl, .int .i64 xh]) (w1 := w) ?_ (hK.out _ w (Below.refl _ _) rfl (fun h => by cases h))
      try simp only [f45]
      go_simp
      try (first | done | rfl | (simp; done))
    refine StepsP.cons ?_ ?_
    · intro Q s w hC hA K hK
      obtain ⟨hsz, hk_gx, lt_gx, hk_gy, lt_gy, hk_gz, lt_gz, hk_g8, lt_g8, hk_g9, lt_g9, hbw⟩ := hC
      obtain ⟨f45, f49, -⟩ := hA
      replace f45 : (s 118) = .bool true := f45
      replace f49 : (s 122) = .agg #[.int .i64 xl, .int .i64 xh] := f49
      refine guard_on (d := 118) (want := true) (by rfl) (by rfl) ?_ ?_
      · exact f45
      refine wp_value (v := .slice (some ⟨w.heap.size, 0, none⟩) 1 1) (w1 := w.alloc (.cells #[.int .i64 xl, .int .i64 xh] 23)) ?_ (hK.out _ _ (bl_alloc (Below.refl _ _) _) ⟨w.heap.size, rfl, hsz, blk_new _ _⟩ (fun _ g h => fresh_alloc (by simpa [blkV] using h)))
      try simp only [f45, f49]
      go_simp
      try rfl
    refine StepsP.cons ?_ ?_
    · intro Q s w hC hA K hK
      obtain ⟨hsz, hk_gx, lt_gx, hk_gy, lt_gy, hk_gz, lt_gz, hk_g8, lt_g8, hk_g9, lt_g9, hbw⟩ := hC
      obtain ⟨f45, f50, -⟩ := hA
      replace f45 : (s 118) = .bool true := f45
      replace f50 : ∃ g50 : Nat, (s 123) = .slice (some ⟨g50, 0, none⟩) 1 1 ∧ B2 ≤ g50 ∧ w.heap[g50]? = some (.cells #[.int .i64 xl, .int .i64 xh] 23 (0, 0)) := f50
      refine guard_on (d := 118) (want := true) (by rfl) (by rfl) ?_ ?_
      · exact f45
      obtain ⟨g50, a_g50, c_g50, hk_g50⟩ := f50
      refine wp_call (N := some 124) (by rfl) Try.func21 (by kernel_rfl) #[.slice (some ⟨g50, 0, none⟩) 1 1] rfl (by rfl) ?_ ?_
      · show [s 123] = [.slice (some ⟨g50, 0, none⟩) 1 1]
        first | rfl | simp only [f45, a_g50]
      refine (Meet_calls (some ⟨g50, 0, none⟩) [⟨xl, xh⟩] 1 _ (RdS.of_blk (l := [⟨xl, xh⟩]) hk_g50 (by simp)) (by simp)).mono ?_
      rintro e w1 ⟨rfl, hb⟩
      refine ⟨_, rfl, ?_⟩
      rw [e10.out]
      exact hK.out _ _ hb rfl (fun h => by cases h)
    refine StepsP.cons ?_ ?_
    · intro Q s w hC hA K hK
      clear hC
      obtain ⟨f45, f48, f51, -⟩ := hA
      replace f45 : (s 118) = .bool true := f45
      replace f48 : (s 121) = .agg #[.int .i64 tl, .int .i64 th] := f48
      replace f51 : (s 124) = .agg #[.int .i64 tl, .int .i64 th] := f51
      refine guard_on (d := 118) (want := true) (by rfl) (by rfl) ?_ ?_
      · exact f45
      refine wp_value (v := .bool true) (w1 := w) ?_ (hK.out _ w (Below.refl _ _) rfl (fun h => by cases h))
      try simp only [f45, f48, f51]
      go_simp
      try (first | done | rfl | (simp; done))
    refine StepsP.cons ?_ ?_
    · intro Q s w hC hA K hK
      clear hC
      obtain ⟨f45, f52, -⟩ := hA
      replace f45 : (s 118) = .bool true := f45
      replace f52 : (s 125) = .bool true := f52
      refine guard_none (by rfl) ?_
      refine wp_value (v := .bool true) (w1 := w) ?_ (hK.out _ w (Below.refl _ _) rfl (fun h => by cases h))
      try simp only [f45, f52]
      go_simp
      try (first | done | rfl | (simp; done))
    refine StepsP.cons ?_ ?_
    · intro Q s w hC hA K hK
      clear hC
      obtain ⟨f53, -⟩ := hA
      replace f53 : (s 126) = .bool true := f53
      refine guard_none (by rfl) ?_
      refine wp_value (v := .bool true) (w1 := w) ?_ (hK.out _ w (Below.refl _ _) rfl (fun h => by cases h))
      try simp only [f53]
      go_simp
      try (first | done | rfl | (simp; done))
    exact StepsP.nil
  obtain ⟨hsz, hk_gx, lt_gx, hk_gy, lt_gy, hk_gz, lt_gz, hk_g8, lt_g8, hk_g9, lt_g9, hbw⟩ := hC
  obtain ⟨f54, -⟩ := hA
  replace f54 : (s 8) = .bool true := f54
  refine act_eq (b' := ?b3) ?h3 ?q3
  case h3 => simp only [f54]; rfl
  go_wp2
  go_ret
  exact ⟨rfl, hbw⟩
end Go.Proofs.Ytljkhfookegmaaa
