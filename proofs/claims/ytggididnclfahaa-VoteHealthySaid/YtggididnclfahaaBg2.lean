/- Proved here: lemmas and contracts (what a function of the program computes) that the proofs of the laws of this seat lean on. Conditions: as each theorem states. -/
import Derived.Test.YtggididnclfahaaBg1
set_option linter.unusedVariables false
set_option linter.unusedSimpArgs false
namespace Go.Pk.Bg
open Go.RowKit Go.Pk
def sizeV (a b : Nat) : Int := if a < b then -1 else if b < a then 1 else 0
end Go.Pk.Bg
namespace Go.Proofs.Ytggididnclfahaa
open Go.RowKit Go.Pk Go.Pk.Bg
set_option maxHeartbeats 8000000 in
set_option maxRecDepth 100000 in
theorem size_calls (ma mb : Bool) (a b : Nat) (ha : a < pw 6) (hb : b < pw 6) (w : World) : Calls Try.prog 42 #[.agg (bigC ma a), .agg (bigC mb b)] w fun e w' => e = .returned (.int .i64 (sizeV a b)) ∧ Below w.heap.size w w' := by
  have hX : Hid (bigC ma a = #[.bool ma, .int .i64 (dg a 0 : Nat), .int .i64 (dg a 1 : Nat), .int .i64 (dg a 2 : Nat), .int .i64 (dg a 3 : Nat), .int .i64 (dg a 4 : Nat), .int .i64 (dg a 5 : Nat)]) := rfl
  have hY : Hid (bigC mb b = #[.bool mb, .int .i64 (dg b 0 : Nat), .int .i64 (dg b 1 : Nat), .int .i64 (dg b 2 : Nat), .int .i64 (dg b 3 : Nat), .int .i64 (dg b 4 : Nat), .int .i64 (dg b 5 : Nat)]) := rfl
  rw [hX.out, hY.out]
  have ht6 := hidI (top_6 ha hb)
  clear ha hb
  go_enter Try.func42, Try.ntmps42
  go_upto_region 2 with fail
  have hk1 := blk_alloc (blk_new w (.cells #[.bool ma, .int .i64 (dg a 0 : Nat), .int .i64 (dg a 1 : Nat), .int .i64 (dg a 2 : Nat), .int .i64 (dg a 3 : Nat), .int .i64 (dg a 4 : Nat), .int .i64 (dg a 5 : Nat)] 46)) (.cells #[.bool mb, .int .i64 (dg b 0 : Nat), .int .i64 (dg b 1 : Nat), .int .i64 (dg b 2 : Nat), .int .i64 (dg b 3 : Nat), .int .i64 (dg b 4 : Nat), .int .i64 (dg b 5 : Nat)] 46)
  have hk2 : ((w.alloc (.cells #[.bool ma, .int .i64 (dg a 0 : Nat), .int .i64 (dg a 1 : Nat), .int .i64 (dg a 2 : Nat), .int .i64 (dg a 3 : Nat), .int .i64 (dg a 4 : Nat), .int .i64 (dg a 5 : Nat)] 46)).alloc (.cells #[.bool mb, .int .i64 (dg b 0 : Nat), .int .i64 (dg b 1 : Nat), .int .i64 (dg b 2 : Nat), .int .i64 (dg b 3 : Nat), .int .i64 (dg b 4 : Nat), .int .i64 (dg b 5 : Nat)] 46)).heap[w.heap.size + 1]? = some (.cells #[.bool mb, .int .i64 (dg b 0 : Nat), .int .i64 (dg b 1 : Nat), .int .i64 (dg b 2 : Nat), .int .i64 (dg b 3 : Nat), .int .i64 (dg b 4 : Nat), .int .i64 (dg b 5 : Nat)] 46 (0, 0)) := by have h_ := blk_new (w.alloc (.cells #[.bool ma, .int .i64 (dg a 0 : Nat), .int .i64 (dg a 1 : Nat), .int .i64 (dg a 2 : Nat), .int .i64 (dg a 3 : Nat), .int .i64 (dg a 4 : Nat), .int .i64 (dg a 5 : Nat)] 46)) (.cells #[.bool mb, .int .i64 (dg b 0 : Nat), .int .i64 (dg b 1 : Nat), .int .i64 (dg b 2 : Nat), .int .i64 (dg b 3 : Nat), .int .i64 (dg b 4 : Nat), .int .i64 (dg b 5 : Nat)] 46); simpa using h_
  have hbw := bl_alloc (bl_alloc (Below.refl w.heap.size w) (.cells #[.bool ma, .int .i64 (dg a 0 : Nat), .int .i64 (dg a 1 : Nat), .int .i64 (dg a 2 : Nat), .int .i64 (dg a 3 : Nat), .int .i64 (dg a 4 : Nat), .int .i64 (dg a 5 : Nat)] 46)) (.cells #[.bool mb, .int .i64 (dg b 0 : Nat), .int .i64 (dg b 1 : Nat), .int .i64 (dg b 2 : Nat), .int .i64 (dg b 3 : Nat), .int .i64 (dg b 4 : Nat), .int .i64 (dg b 5 : Nat)] 46)
  generalize (w.alloc (.cells #[.bool ma, .int .i64 (dg a 0 : Nat), .int .i64 (dg a 1 : Nat), .int .i64 (dg a 2 : Nat), .int .i64 (dg a 3 : Nat), .int .i64 (dg a 4 : Nat), .int .i64 (dg a 5 : Nat)] 46)).alloc (.cells #[.bool mb, .int .i64 (dg b 0 : Nat), .int .i64 (dg b 1 : Nat), .int .i64 (dg b 2 : Nat), .int .i64 (dg b 3 : Nat), .int .i64 (dg b 4 : Nat), .int .i64 (dg b 5 : Nat)] 46) = W1 at *
  obtain ⟨g1, hg1⟩ : ∃ g, g = w.heap.size := ⟨_, rfl⟩
  obtain ⟨g2, hg2⟩ : ∃ g, g = w.heap.size + 1 := ⟨_, rfl⟩
  rw [← hg2] at hk2 ⊢
  rw [← hg1] at hk1 ⊢
  have hn12 : g1 ≠ g2 := by omega
  have hl1 : w.heap.size ≤ g1 := by omega
  have hl2 : w.heap.size ≤ g2 := by omega
  clear hg1 hg2
  rw [← hX.out] at hk1
  rw [← hY.out] at hk2
  go_wp2
  go_loopw [5] (fun x wr => ((∃ k : Nat, k < 6 ∧ x = .int .i64 k ∧ Hid (top a b (k + 1))) ∨ (x = .int .i64 (-1) ∧ Hid (top a b 0))) ∧ Below w.heap.size w wr ∧ wr.heap[g1]? = some (.cells (bigC ma a) 46 (0, 0)) ∧ wr.heap[g2]? = some (.cells (bigC mb b) 46 (0, 0))) (fun x _ => (intOf x + 1).toNat)
  case atStart => exact ⟨Or.inl ⟨5, by omega, rfl, ht6⟩, hbw, hk1, hk2⟩
  case round =>
    clear hbw hk1 hk2
    obtain ⟨hor, hbw, hk1, hk2⟩ := hrel
    rcases hor with ⟨k, hk, rfl, htop⟩ | ⟨rfl, htop⟩
    · have hd : decide ((0 : Int) ≤ (k : Int)) = true := decide_eq_true (by omega)
      have hki : decide ((k : Int) < 6) = true := decide_eq_true (by omega)
      have y1 := blk_cell hk1 (1 + k) (big_at ma a hk)
      have y2 := blk_cell hk2 (1 + k) (big_at mb b hk)
      have hb64 : (k : Int) ≤ 6 := by omega
      obtain ⟨D, hD⟩ : ∃ D : Int, ((dg a k : Nat) : Int) = D := ⟨_, rfl⟩
      obtain ⟨E, hE⟩ : ∃ E : Int, ((dg b k : Nat) : Int) = E := ⟨_, rfl⟩
      rw [hD] at y1
      rw [hE] at y2
      replace hD := hidI hD
      replace hE := hidI hE
      by_cases h1 : D < E
      · have d1 : decide (D < E) = true := decide_eq_true h1
        have hs : Hid (sizeV a b = -1) := by show _ = _; unfold sizeV; rw [if_pos (top_lt htop.out (by have := hD.out; have := hE.out; omega))]
        clear h1
        go_wp2
        go_quiet (fail)
        go_wp2
        go_ret
        rw [hs.out]
        exact ⟨rfl, bl_drewN hbw _⟩
      · have d1 : decide (D < E) = false := decide_eq_false h1
        by_cases h2 : E < D
        · have d2 : decide (E < D) = true := decide_eq_true h2
          have hs : Hid (sizeV a b = 1) := by
            show _ = _
            have h3 : b < a := top_lt (i := k) (show top b a (k + 1) from htop.out.symm) (by have := hD.out; have := hE.out; omega)
            unfold sizeV; rw [if_neg (by omega), if_pos h3]
          clear h1 h2
          go_wp2
          go_quiet (fail)
          replace y1 : (wr.drewN nq).cell? ⟨g1, 1 + k, none⟩ = some (.int .i64 D) := y1
          replace y2 : (wr.drewN nq).cell? ⟨g2, 1 + k, none⟩ = some (.int .i64 E) := y2
          replace hbw := bl_drewN hbw nq
          clear hk1 hk2
          generalize wr.drewN nq = W2 at *
          go_wp2
          go_quiet (fail)
          go_wp2
          go_ret
          rw [hs.out]
          exact ⟨rfl, bl_drewN hbw _⟩
        · have d2 : decide (E < D) = false := decide_eq_false h2
          have htop2 := hidI (top_eq htop.out (by have := hD.out; have := hE.out; omega))
          clear h1 h2
          go_wp2
          go_quiet (fail)
          replace y1 : (wr.drewN nq).cell? ⟨g1, 1 + k, none⟩ = some (.int .i64 D) := y1
          replace y2 : (wr.drewN nq).cell? ⟨g2, 1 + k, none⟩ = some (.int .i64 E) := y2
          replace hbw := bl_drewN hbw nq
          replace hk1 := blk_drewN hk1 nq
          replace hk2 := blk_drewN hk2 nq
          generalize wr.drewN nq = W2 at *
          go_wp2
          go_quiet (fail)
          replace hbw := bl_drewN hbw nq
          replace hk1 := blk_drewN hk1 nq
          replace hk2 := blk_drewN hk2 nq
          clear y1 y2
          generalize W2.drewN nq = W3 at *
          rcases (by cases k with | zero => exact Or.inl rfl | succ j => exact Or.inr ⟨j, rfl⟩ : k = 0 ∨ ∃ j, k = j + 1) with rfl | ⟨j, rfl⟩
          · go_wp2
            go_roundw
            case rel => exact ⟨Or.inr ⟨by first | rfl | go_num, htop2⟩, hbw, hk1, hk2⟩
            case measure => simp [intOf]
          · have hj : wrap64 (((j + 1 : Nat) : Int) - 1) = (j : Int) := by rw [IntWalk.wrap64_in _ (by omega)]; omega
            have hj2 : ((j + 1 : Nat) : Int) - 1 = (j : Int) := by omega
            replace hj2 := hidI hj2
            replace hj := hidI hj
            go_wp2
            go_roundw
            case rel => exact ⟨Or.inl ⟨j, by omega, by first | rfl | go_num | (congr 1; omega), htop2⟩, hbw, hk1, hk2⟩
            case measure => simp [intOf]; omega
    · have hs : Hid (sizeV a b = 0) := by show _ = _; unfold sizeV; rw [top_0 htop.out, if_neg (by omega), if_neg (by omega)]
      have hd : decide ((0 : Int) ≤ -1) = false := by decide
      go_wp2
      go_ret
      rw [hs.out]
      exact ⟨rfl, hbw⟩
end Go.Proofs.Ytggididnclfahaa
