/- Proved here: lemmas and contracts (what a function of the program computes) that the proofs of the laws of this seat lean on. Conditions: as each theorem states. -/
import Derived.Test.YthdaidmjjcmccaaPl25
set_option linter.unusedVariables false
set_option linter.unusedSimpArgs false
namespace Go.Pk
open Go.RowKit
/-- The plant that the laws of chapter 16 try. -/
def halfP : Pl := ⟨[[0]], [1], ⟨-34359738368, 34359738368⟩, [⟨0, 0⟩], [⟨-34359738368, 34359738368⟩], [⟨-34359738368, 34359738368⟩], [2147483648], 0⟩
theorem halfP_ok : newOk halfP [] = true := by decide
theorem halfP_in : InP halfP := by
  unfold InP InS InI halfP
  simp
theorem halfP_base : baseP halfP [17179869184] = 8589934592 := by decide
structure HalfAt (w : World) (n TI TS TL : Nat) : Prop where
  k1 : w.heap[n + 1]? = some (.cells #[.int .i64 0] TI (0, 0))
  k2 : w.heap[n + 1 + 1]? = some (.cells #[.slice (some ⟨n + 1, 0, none⟩) 1 1] TL (0, 0))
  k3 : w.heap[n + 1 + 1 + 1]? = some (.cells #[.int .i64 1] TI (0, 0))
  k4 : w.heap[n + 1 + 1 + 1 + 1]? = some (.cells #[.int .i64 0, .int .i64 0] TS (0, 0))
  k5 : w.heap[n + 1 + 1 + 1 + 1 + 1]? = some (.cells #[.int .i64 (-34359738368), .int .i64 34359738368] TS (0, 0))
  k6 : w.heap[n + 1 + 1 + 1 + 1 + 1 + 1]? = some (.cells #[.int .i64 (-34359738368), .int .i64 34359738368] TS (0, 0))
  k7 : w.heap[n + 1 + 1 + 1 + 1 + 1 + 1 + 1]? = some (.cells #[.int .i64 2147483648] TI (0, 0))
def halfQ (n : Nat) : PA := ⟨some ⟨n + 1 + 1, 0, none⟩, 1, some ⟨n + 1 + 1 + 1, 0, none⟩, 1, some ⟨n + 1 + 1 + 1 + 1, 0, none⟩, 1, some ⟨n + 1 + 1 + 1 + 1 + 1, 0, none⟩, 1, some ⟨n + 1 + 1 + 1 + 1 + 1 + 1, 0, none⟩, 1, some ⟨n + 1 + 1 + 1 + 1 + 1 + 1 + 1, 0, none⟩, 1⟩
theorem half_rows {w : World} {n TI TL : Nat} (k1 : w.heap[n + 1]? = some (.cells #[.int .i64 0] TI (0, 0))) (k2 : w.heap[n + 1 + 1]? = some (.cells #[.slice (some ⟨n + 1, 0, none⟩) 1 1] TL (0, 0))) : RdR w (some ⟨n + 1 + 1, 0, none⟩) [[0]] :=
  ⟨by decide, fun i hi => by
    match i, hi with
    | 0, _ => exact ⟨_, 0, some ⟨n + 1, 0, none⟩, 1, rfl, blk_cell k2 0 (by rfl), by decide, RdI.of_blk (l := [0]) k1 (by decide)⟩⟩
theorem HalfAt.rd {w : World} {n TI TS TL : Nat} (h : HalfAt w n TI TS TL) : (halfQ n).rd w halfP :=
  ⟨half_rows h.k1 h.k2, RdI.of_blk (l := [1]) h.k3 (by decide), RdS.of_blk (l := halfP.W) h.k4 (by decide), RdS.of_blk (l := halfP.Inv) h.k5 (by decide), RdS.of_blk (l := halfP.Safe) h.k6 (by decide), RdI.of_blk (l := halfP.gain) h.k7 (by decide), Nat.le_refl 1, Nat.le_refl 1, Nat.le_refl 1, Nat.le_refl 1, Nat.le_refl 1, Nat.le_refl 1⟩
theorem HalfAt.below {w W : World} {n TI TS TL : Nat} (h : HalfAt w n TI TS TL) (hb : Below w.heap.size w W) : HalfAt W n TI TS TL :=
  ⟨bl_block hb h.k1, bl_block hb h.k2, bl_block hb h.k3, bl_block hb h.k4, bl_block hb h.k5, bl_block hb h.k6, bl_block hb h.k7⟩
end Go.Pk
namespace Go.Proofs.Ythdaidmjjcmccaa
open Go.RowKit Go.Pk Go.Proofs.YthdaidmjjcmccaaW.PrintLast
set_option maxHeartbeats 8000000 in
set_option maxRecDepth 100000 in
theorem Half_calls (w : World) : Calls Try.prog 36 #[] w fun e w' => ∃ n, w.heap.size ≤ n ∧ e = .returned (.agg ((halfQ n).cells halfP).toArray) ∧ HalfAt w' n 3 25 23 ∧ Below w.heap.size w w' := by
  go_enter Try.func36, Try.ntmps36
  go_upto_region 1 with fail
  have hk0 := blk_new w (.cells #[.slice none 0 0, .slice none 0 0, .int .i64 0, .int .i64 0, .slice none 0 0, .slice none 0 0, .slice none 0 0, .slice none 0 0, .int .i64 0] 28)
  have hbw := bl_alloc (Below.refl w.heap.size w) (.cells #[.slice none 0 0, .slice none 0 0, .int .i64 0, .int .i64 0, .slice none 0 0, .slice none 0 0, .slice none 0 0, .slice none 0 0, .int .i64 0] 28)
  generalize w.alloc (.cells #[.slice none 0 0, .slice none 0 0, .int .i64 0, .int .i64 0, .slice none 0 0, .slice none 0 0, .slice none 0 0, .slice none 0 0, .int .i64 0] 28) = W1 at *
  obtain ⟨g0, hg0⟩ : ∃ z, w.heap.size = z := ⟨_, rfl⟩
  rw [hg0] at hk0
  rw [hg0]
  replace hg0 := hidI hg0
  go_upto_region 2 with fail
  have hkC : ((((((((W1.alloc (.cells #[.int .i64 (-34359738368), .int .i64 34359738368] 25)).alloc (.cells #[.int .i64 0] 3)).alloc (.cells #[.slice (some ⟨W1.heap.size + 1, 0, none⟩) 1 1] 23)).alloc (.cells #[.int .i64 1] 3)).alloc (.cells #[.int .i64 0, .int .i64 0] 25)).alloc (.cells #[.int .i64 (-34359738368), .int .i64 34359738368] 25)).alloc (.cells #[.int .i64 (-34359738368), .int .i64 34359738368] 25)).alloc (.cells #[.int .i64 2147483648] 3)).heap[g0]? = some (.cells #[.slice none 0 0, .slice none 0 0, .int .i64 0, .int .i64 0, .slice none 0 0, .slice none 0 0, .slice none 0 0, .slice none 0 0, .int .i64 0] 28 (0, 0)) := (blk_alloc (blk_alloc (blk_alloc (blk_alloc (blk_alloc (blk_alloc (blk_alloc (blk_alloc hk0 (.cells #[.int .i64 (-34359738368), .int .i64 34359738368] 25)) (.cells #[.int .i64 0] 3)) (.cells #[.slice (some ⟨W1.heap.size + 1, 0, none⟩) 1 1] 23)) (.cells #[.int .i64 1] 3)) (.cells #[.int .i64 0, .int .i64 0] 25)) (.cells #[.int .i64 (-34359738368), .int .i64 34359738368] 25)) (.cells #[.int .i64 (-34359738368), .int .i64 34359738368] 25)) (.cells #[.int .i64 2147483648] 3))
  have y0 := blk_cell hkC 0 (v := .slice none 0 0) (by rfl)
  have z0 := blkf hkC 0
  have y1 := blk_cell hkC 1 (v := .slice none 0 0) (by rfl)
  have z1 := blkf hkC 1
  have y2 := blk_cell hkC 2 (v := .int .i64 0) (by rfl)
  have z2 := blkf hkC 2
  have y3 := blk_cell hkC 3 (v := .int .i64 0) (by rfl)
  have z3 := blkf hkC 3
  have y4 := blk_cell hkC 4 (v := .slice none 0 0) (by rfl)
  have z4 := blkf hkC 4
  have y5 := blk_cell hkC 5 (v := .slice none 0 0) (by rfl)
  have z5 := blkf hkC 5
  have y6 := blk_cell hkC 6 (v := .slice none 0 0) (by rfl)
  have z6 := blkf hkC 6
  have y7 := blk_cell hkC 7 (v := .slice none 0 0) (by rfl)
  have z7 := blkf hkC 7
  have y8 := blk_cell hkC 8 (v := .int .i64 0) (by rfl)
  have z8 := blkf hkC 8
  go_wp2
  have hbC : Below w.heap.size w ((((((((W1.alloc (.cells #[.int .i64 (-34359738368), .int .i64 34359738368] 25)).alloc (.cells #[.int .i64 0] 3)).alloc (.cells #[.slice (some ⟨W1.heap.size + 1, 0, none⟩) 1 1] 23)).alloc (.cells #[.int .i64 1] 3)).alloc (.cells #[.int .i64 0, .int .i64 0] 25)).alloc (.cells #[.int .i64 (-34359738368), .int .i64 34359738368] 25)).alloc (.cells #[.int .i64 (-34359738368), .int .i64 34359738368] 25)).alloc (.cells #[.int .i64 2147483648] 3)) := (bl_alloc (bl_alloc (bl_alloc (bl_alloc (bl_alloc (bl_alloc (bl_alloc (bl_alloc hbw (.cells #[.int .i64 (-34359738368), .int .i64 34359738368] 25)) (.cells #[.int .i64 0] 3)) (.cells #[.slice (some ⟨W1.heap.size + 1, 0, none⟩) 1 1] 23)) (.cells #[.int .i64 1] 3)) (.cells #[.int .i64 0, .int .i64 0] 25)) (.cells #[.int .i64 (-34359738368), .int .i64 34359738368] 25)) (.cells #[.int .i64 (-34359738368), .int .i64 34359738368] 25)) (.cells #[.int .i64 2147483648] 3))
  have hg0' : w.heap.size ≤ g0 := by have := hg0.out; omega
  have hX := ((((((((((KeepX.refl (fun z => z = g0) ((((((((W1.alloc (.cells #[.int .i64 (-34359738368), .int .i64 34359738368] 25)).alloc (.cells #[.int .i64 0] 3)).alloc (.cells #[.slice (some ⟨W1.heap.size + 1, 0, none⟩) 1 1] 23)).alloc (.cells #[.int .i64 1] 3)).alloc (.cells #[.int .i64 0, .int .i64 0] 25)).alloc (.cells #[.int .i64 (-34359738368), .int .i64 34359738368] 25)).alloc (.cells #[.int .i64 (-34359738368), .int .i64 34359738368] 25)).alloc (.cells #[.int .i64 2147483648] 3))).set (p := ⟨g0, 0, none⟩) rfl (.slice (some ⟨W1.heap.size + 1 + 1, 0, none⟩) 1 1)).set (p := ⟨g0, 1, none⟩) rfl (.slice (some ⟨W1.heap.size + 1 + 1 + 1, 0, none⟩) 1 1)).set (p := ⟨g0, 2, none⟩) rfl (.int .i64 (-34359738368))).set (p := ⟨g0, 3, none⟩) rfl (.int .i64 34359738368)).set (p := ⟨g0, 4, none⟩) rfl (.slice (some ⟨W1.heap.size + 1 + 1 + 1 + 1, 0, none⟩) 1 1)).set (p := ⟨g0, 5, none⟩) rfl (.slice (some ⟨W1.heap.size + 1 + 1 + 1 + 1 + 1, 0, none⟩) 1 1)).set (p := ⟨g0, 6, none⟩) rfl (.slice (some ⟨W1.heap.size + 1 + 1 + 1 + 1 + 1 + 1, 0, none⟩) 1 1)).set (p := ⟨g0, 7, none⟩) rfl (.slice (some ⟨W1.heap.size + 1 + 1 + 1 + 1 + 1 + 1 + 1, 0, none⟩) 1 1)).set (p := ⟨g0, 8, none⟩) rfl (.int .i64 0))
  refine bodyPost_ret (results_cell_row rfl _ _ g0 28 #[.slice (some ⟨W1.heap.size + 1 + 1, 0, none⟩) 1 1, .slice (some ⟨W1.heap.size + 1 + 1 + 1, 0, none⟩) 1 1, .int .i64 (-34359738368), .int .i64 34359738368, .slice (some ⟨W1.heap.size + 1 + 1 + 1 + 1, 0, none⟩) 1 1, .slice (some ⟨W1.heap.size + 1 + 1 + 1 + 1 + 1, 0, none⟩) 1 1, .slice (some ⟨W1.heap.size + 1 + 1 + 1 + 1 + 1 + 1, 0, none⟩) 1 1, .slice (some ⟨W1.heap.size + 1 + 1 + 1 + 1 + 1 + 1 + 1, 0, none⟩) 1 1, .int .i64 0] (0, 0) _ rfl (blk_set (blk_set (blk_set (blk_set (blk_set (blk_set (blk_set (blk_set (blk_set hkC 0 (.slice (some ⟨W1.heap.size + 1 + 1, 0, none⟩) 1 1)) 1 (.slice (some ⟨W1.heap.size + 1 + 1 + 1, 0, none⟩) 1 1)) 2 (.int .i64 (-34359738368))) 3 (.int .i64 34359738368)) 4 (.slice (some ⟨W1.heap.size + 1 + 1 + 1 + 1, 0, none⟩) 1 1)) 5 (.slice (some ⟨W1.heap.size + 1 + 1 + 1 + 1 + 1, 0, none⟩) 1 1)) 6 (.slice (some ⟨W1.heap.size + 1 + 1 + 1 + 1 + 1 + 1, 0, none⟩) 1 1)) 7 (.slice (some ⟨W1.heap.size + 1 + 1 + 1 + 1 + 1 + 1 + 1, 0, none⟩) 1 1)) 8 (.int .i64 0)) Try.underlying28 rfl (by kernel_rfl)) rfl ?_
  have hlt0 := blk_lt hk0
  exact ⟨W1.heap.size, hbw.size, rfl, ⟨hX _ _ (by omega) (blk_alloc (blk_alloc (blk_alloc (blk_alloc (blk_alloc (blk_alloc (blk_newE (w := (W1.alloc (.cells #[.int .i64 (-34359738368), .int .i64 34359738368] 25))) (g := W1.heap.size + 1) (o := (.cells #[.int .i64 0] 3)) (by simp)) (.cells #[.slice (some ⟨W1.heap.size + 1, 0, none⟩) 1 1] 23)) (.cells #[.int .i64 1] 3)) (.cells #[.int .i64 0, .int .i64 0] 25)) (.cells #[.int .i64 (-34359738368), .int .i64 34359738368] 25)) (.cells #[.int .i64 (-34359738368), .int .i64 34359738368] 25)) (.cells #[.int .i64 2147483648] 3)), hX _ _ (by omega) (blk_alloc (blk_alloc (blk_alloc (blk_alloc (blk_alloc (blk_newE (w := ((W1.alloc (.cells #[.int .i64 (-34359738368), .int .i64 34359738368] 25)).alloc (.cells #[.int .i64 0] 3))) (g := W1.heap.size + 1 + 1) (o := (.cells #[.slice (some ⟨W1.heap.size + 1, 0, none⟩) 1 1] 23)) (by simp)) (.cells #[.int .i64 1] 3)) (.cells #[.int .i64 0, .int .i64 0] 25)) (.cells #[.int .i64 (-34359738368), .int .i64 34359738368] 25)) (.cells #[.int .i64 (-34359738368), .int .i64 34359738368] 25)) (.cells #[.int .i64 2147483648] 3)), hX _ _ (by omega) (blk_alloc (blk_alloc (blk_alloc (blk_alloc (blk_newE (w := (((W1.alloc (.cells #[.int .i64 (-34359738368), .int .i64 34359738368] 25)).alloc (.cells #[.int .i64 0] 3)).alloc (.cells #[.slice (some ⟨W1.heap.size + 1, 0, none⟩) 1 1] 23))) (g := W1.heap.size + 1 + 1 + 1) (o := (.cells #[.int .i64 1] 3)) (by simp)) (.cells #[.int .i64 0, .int .i64 0] 25)) (.cells #[.int .i64 (-34359738368), .int .i64 34359738368] 25)) (.cells #[.int .i64 (-34359738368), .int .i64 34359738368] 25)) (.cells #[.int .i64 2147483648] 3)), hX _ _ (by omega) (blk_alloc (blk_alloc (blk_alloc (blk_newE (w := ((((W1.alloc (.cells #[.int .i64 (-34359738368), .int .i64 34359738368] 25)).alloc (.cells #[.int .i64 0] 3)).alloc (.cells #[.slice (some ⟨W1.heap.size + 1, 0, none⟩) 1 1] 23)).alloc (.cells #[.int .i64 1] 3))) (g := W1.heap.size + 1 + 1 + 1 + 1) (o := (.cells #[.int .i64 0, .int .i64 0] 25)) (by simp)) (.cells #[.int .i64 (-34359738368), .int .i64 34359738368] 25)) (.cells #[.int .i64 (-34359738368), .int .i64 34359738368] 25)) (.cells #[.int .i64 2147483648] 3)), hX _ _ (by omega) (blk_alloc (blk_alloc (blk_newE (w := (((((W1.alloc (.cells #[.int .i64 (-34359738368), .int .i64 34359738368] 25)).alloc (.cells #[.int .i64 0] 3)).alloc (.cells #[.slice (some ⟨W1.heap.size + 1, 0, none⟩) 1 1] 23)).alloc (.cells #[.int .i64 1] 3)).alloc (.cells #[.int .i64 0, .int .i64 0] 25))) (g := W1.heap.size + 1 + 1 + 1 + 1 + 1) (o := (.cells #[.int .i64 (-34359738368), .int .i64 34359738368] 25)) (by simp)) (.cells #[.int .i64 (-34359738368), .int .i64 34359738368] 25)) (.cells #[.int .i64 2147483648] 3)), hX _ _ (by omega) (blk_alloc (blk_newE (w := ((((((W1.alloc (.cells #[.int .i64 (-34359738368), .int .i64 34359738368] 25)).alloc (.cells #[.int .i64 0] 3)).alloc (.cells #[.slice (some ⟨W1.heap.size + 1, 0, none⟩) 1 1] 23)).alloc (.cells #[.int .i64 1] 3)).alloc (.cells #[.int .i64 0, .int .i64 0] 25)).alloc (.cells #[.int .i64 (-34359738368), .int .i64 34359738368] 25))) (g := W1.heap.size + 1 + 1 + 1 + 1 + 1 + 1) (o := (.cells #[.int .i64 (-34359738368), .int .i64 34359738368] 25)) (by simp)) (.cells #[.int .i64 2147483648] 3)), hX _ _ (by omega) (blk_newE (w := (((((((W1.alloc (.cells #[.int .i64 (-34359738368), .int .i64 34359738368] 25)).alloc (.cells #[.int .i64 0] 3)).alloc (.cells #[.slice (some ⟨W1.heap.size + 1, 0, none⟩) 1 1] 23)).alloc (.cells #[.int .i64 1] 3)).alloc (.cells #[.int .i64 0, .int .i64 0] 25)).alloc (.cells #[.int .i64 (-34359738368), .int .i64 34359738368] 25)).alloc (.cells #[.int .i64 (-34359738368), .int .i64 34359738368] 25))) (g := W1.heap.size + 1 + 1 + 1 + 1 + 1 + 1 + 1) (o := (.cells #[.int .i64 2147483648] 3)) (by simp))⟩, (bl_set (bl_set (bl_set (bl_set (bl_set (bl_set (bl_set (bl_set (bl_set hbC (p := ⟨g0, 0, none⟩) hg0' _) (p := ⟨g0, 1, none⟩) hg0' _) (p := ⟨g0, 2, none⟩) hg0' _) (p := ⟨g0, 3, none⟩) hg0' _) (p := ⟨g0, 4, none⟩) hg0' _) (p := ⟨g0, 5, none⟩) hg0' _) (p := ⟨g0, 6, none⟩) hg0' _) (p := ⟨g0, 7, none⟩) hg0' _) (p := ⟨g0, 8, none⟩) hg0' _)⟩
end Go.Proofs.Ythdaidmjjcmccaa
