/- Proved here: lemmas and contracts (what a function of the program computes) that the proofs of the laws of this seat lean on. Conditions: as each theorem states. -/
import Derived.Test.YthdaidmjjcmccaaPl10
set_option linter.unusedVariables false
set_option linter.unusedSimpArgs false
namespace Go.Pk
open Go.RowKit
/-- The plant that the laws of chapter 15 try. -/
def aliveP : Pl := ⟨[[1, 1], [0, 1]], [0, 1], ⟨-34359738368, 34359738368⟩, [⟨0, 0⟩, ⟨0, 0⟩], [⟨-34359738368, 34359738368⟩, ⟨-34359738368, 34359738368⟩], [⟨-34359738368, 34359738368⟩, ⟨-34359738368, 34359738368⟩], [-1073741824, -4294967296], 0⟩
theorem aliveP_long : longP aliveP = true := by decide
theorem aliveP_wrong : wrongP aliveP = false := by decide
theorem aliveP_next : nextP aliveP 4294967296 [0, 0] [8589934592, 12884901888] = ([21474836480, 17179869184], true) := by decide
theorem aliveP_base : baseP aliveP [17179869184, 0] = -4294967296 := by decide
theorem aliveP_inside : insideP aliveP [0, 0] = true := by decide
theorem aliveP_in : InP aliveP := by
  unfold InP InS InI aliveP
  simp
theorem al_step {w w1 : World} {o : Obj} {n : Nat} (e : w1 = w.alloc o) (hn : w.heap.size = n) : w1.heap[n]? = some o ∧ w1.heap.size = n + 1 := by
  subst e
  subst hn
  exact ⟨blk_new w o, World.size_alloc _ _⟩
end Go.Pk
namespace Go.Proofs.Ythdaidmjjcmccaa
open Go.RowKit Go.Pk Go.Proofs.YthdaidmjjcmccaaW.PrintLast
set_option maxHeartbeats 8000000 in
set_option maxRecDepth 100000 in
theorem alive15_calls (w : World) : Calls Try.prog 19 #[] w fun e w' => e = .returned (.bool true) ∧ Below w.heap.size w w' := by
  go_enter Try.func19, Try.ntmps19
  go_upto_region 2 with fail
  go_wp2_with fail
  obtain ⟨n, hn⟩ : ∃ n, w.heap.size = n := ⟨_, rfl⟩
  rw [hn]
  obtain ⟨W1, e1⟩ : ∃ W, W = w.alloc (.cells #[Value.int IntKind.i64 (-34359738368), Value.int IntKind.i64 34359738368] 25) := ⟨_, rfl⟩
  rw [← e1]
  obtain ⟨W2, e2⟩ : ∃ W, W = W1.alloc (.cells #[Value.int IntKind.i64 1, Value.int IntKind.i64 1] 3) := ⟨_, rfl⟩
  rw [← e2]
  obtain ⟨W3, e3⟩ : ∃ W, W = W2.alloc (.cells #[Value.int IntKind.i64 0, Value.int IntKind.i64 1] 3) := ⟨_, rfl⟩
  rw [← e3]
  obtain ⟨W4, e4⟩ : ∃ W, W = W3.alloc (.cells #[Value.slice (some ⟨n + 1, 0, none⟩) 2 2, Value.slice (some ⟨n + 1 + 1, 0, none⟩) 2 2] 23) := ⟨_, rfl⟩
  rw [← e4]
  obtain ⟨W5, e5⟩ : ∃ W, W = W4.alloc (.cells #[Value.int IntKind.i64 0, Value.int IntKind.i64 1] 3) := ⟨_, rfl⟩
  rw [← e5]
  obtain ⟨W6, e6⟩ : ∃ W, W = W5.alloc (.cells #[Value.int IntKind.i64 0, Value.int IntKind.i64 0, Value.int IntKind.i64 0, Value.int IntKind.i64 0] 25) := ⟨_, rfl⟩
  rw [← e6]
  obtain ⟨W7, e7⟩ : ∃ W, W = W6.alloc (.cells #[Value.int IntKind.i64 (-34359738368), Value.int IntKind.i64 34359738368, Value.int IntKind.i64 (-34359738368), Value.int IntKind.i64 34359738368] 25) := ⟨_, rfl⟩
  rw [← e7]
  obtain ⟨W8, e8⟩ : ∃ W, W = W7.alloc (.cells #[Value.int IntKind.i64 (-34359738368), Value.int IntKind.i64 34359738368, Value.int IntKind.i64 (-34359738368), Value.int IntKind.i64 34359738368] 25) := ⟨_, rfl⟩
  rw [← e8]
  obtain ⟨W9, e9⟩ : ∃ W, W = W8.alloc (.cells #[Value.int IntKind.i64 (-1073741824), Value.int IntKind.i64 (-4294967296)] 3) := ⟨_, rfl⟩
  rw [← e9]
  have s0 := hn
  obtain ⟨k1, s1⟩ := al_step e1 s0
  obtain ⟨k2, s2⟩ := al_step e2 s1
  obtain ⟨k3, s3⟩ := al_step e3 s2
  obtain ⟨k4, s4⟩ := al_step e4 s3
  obtain ⟨k5, s5⟩ := al_step e5 s4
  obtain ⟨k6, s6⟩ := al_step e6 s5
  obtain ⟨k7, s7⟩ := al_step e7 s6
  obtain ⟨k8, s8⟩ := al_step e8 s7
  obtain ⟨k9, s9⟩ := al_step e9 s8
  have b1 : Below W1.heap.size W1 W9 := by rw [e9, e8, e7, e6, e5, e4, e3, e2]; exact bl_alloc (bl_alloc (bl_alloc (bl_alloc (bl_alloc (bl_alloc (bl_alloc (bl_alloc (Below.refl _ _) _) _) _) _) _) _) _) _
  have b2 : Below W2.heap.size W2 W9 := by rw [e9, e8, e7, e6, e5, e4, e3]; exact bl_alloc (bl_alloc (bl_alloc (bl_alloc (bl_alloc (bl_alloc (bl_alloc (Below.refl _ _) _) _) _) _) _) _) _
  have b3 : Below W3.heap.size W3 W9 := by rw [e9, e8, e7, e6, e5, e4]; exact bl_alloc (bl_alloc (bl_alloc (bl_alloc (bl_alloc (bl_alloc (Below.refl _ _) _) _) _) _) _) _
  have b4 : Below W4.heap.size W4 W9 := by rw [e9, e8, e7, e6, e5]; exact bl_alloc (bl_alloc (bl_alloc (bl_alloc (bl_alloc (Below.refl _ _) _) _) _) _) _
  have b5 : Below W5.heap.size W5 W9 := by rw [e9, e8, e7, e6]; exact bl_alloc (bl_alloc (bl_alloc (bl_alloc (Below.refl _ _) _) _) _) _
  have b6 : Below W6.heap.size W6 W9 := by rw [e9, e8, e7]; exact bl_alloc (bl_alloc (bl_alloc (Below.refl _ _) _) _) _
  have b7 : Below W7.heap.size W7 W9 := by rw [e9, e8]; exact bl_alloc (bl_alloc (Below.refl _ _) _) _
  have b8 : Below W8.heap.size W8 W9 := by rw [e9]; exact bl_alloc (Below.refl _ _) _
  have b0 : Below w.heap.size w W9 := by rw [e9, e8, e7, e6, e5, e4, e3, e2, e1]; exact bl_alloc (bl_alloc (bl_alloc (bl_alloc (bl_alloc (bl_alloc (bl_alloc (bl_alloc (bl_alloc (Below.refl _ _) _) _) _) _) _) _) _) _) _
  replace k1 := bl_block b1 k1
  replace k2 := bl_block b2 k2
  replace k3 := bl_block b3 k3
  replace k4 := bl_block b4 k4
  replace k5 := bl_block b5 k5
  replace k6 := bl_block b6 k6
  replace k7 := bl_block b7 k7
  replace k8 := bl_block b8 k8
  have hrA : RdR W9 (some ⟨n + 1 + 1 + 1, 0, none⟩) aliveP.A := ⟨by decide, fun i hi => by
    match i, hi with
    | 0, _ => exact ⟨_, 0, some ⟨n + 1, 0, none⟩, 2, rfl, blk_cell k4 0 (by rfl), by decide, RdI.of_blk (l := [1, 1]) k2 (by decide)⟩
    | 1, _ => exact ⟨_, 0, some ⟨n + 1 + 1, 0, none⟩, 2, rfl, blk_cell k4 1 (by rfl), by decide, RdI.of_blk (l := [0, 1]) k3 (by decide)⟩⟩
  have hq : PA.rd ⟨some ⟨n + 1 + 1 + 1, 0, none⟩, 2, some ⟨n + 1 + 1 + 1 + 1, 0, none⟩, 2, some ⟨n + 1 + 1 + 1 + 1 + 1, 0, none⟩, 2, some ⟨n + 1 + 1 + 1 + 1 + 1 + 1, 0, none⟩, 2, some ⟨n + 1 + 1 + 1 + 1 + 1 + 1 + 1, 0, none⟩, 2, some ⟨n + 1 + 1 + 1 + 1 + 1 + 1 + 1 + 1, 0, none⟩, 2⟩ W9 aliveP := ⟨hrA, RdI.of_blk (l := [0, 1]) k5 (by decide), RdS.of_blk (l := aliveP.W) k6 (by decide), RdS.of_blk (l := aliveP.Inv) k7 (by decide), RdS.of_blk (l := aliveP.Safe) k8 (by decide), RdI.of_blk (l := aliveP.gain) k9 (by decide), Nat.le_refl 2, Nat.le_refl 2, Nat.le_refl 2, Nat.le_refl 2, Nat.le_refl 2, Nat.le_refl 2⟩
  have hnew := New_some _ aliveP W9 hq aliveP_in aliveP_long
  clear hq hrA k1 k2 k3 k4 k5 k6 k7 k8 k9 s1 s2 s3 s4 s5 s6 s7 s8 s9 b1 b2 b3 b4 b5 b6 b7 b8 e1 e2 e3 e4 e5 e6 e7 e8 e9
  refine hnew.mono ?_
  rintro e w1 ⟨hb1, -, hyes⟩
  obtain ⟨g, rfl, hkit, hgn⟩ := hyes aliveP_wrong
  clear hyes hnew
  have hbw := bl_step b0 hb1
  go_wp2_with fail
  obtain ⟨V1, e1⟩ : ∃ W, W = w1.alloc (.cells #[Value.int IntKind.i64 0, Value.int IntKind.i64 0] 3) := ⟨_, rfl⟩
  rw [← e1]
  obtain ⟨V2, e2⟩ : ∃ W, W = V1.alloc (.cells #[Value.int IntKind.i64 8589934592, Value.int IntKind.i64 12884901888] 3) := ⟨_, rfl⟩
  rw [← e2]
  obtain ⟨n1, hn1⟩ : ∃ n, w1.heap.size = n := ⟨_, rfl⟩
  rw [hn1]
  obtain ⟨k1, s1⟩ := al_step e1 hn1
  obtain ⟨k2, s2⟩ := al_step e2 s1
  have b1 : Below V1.heap.size V1 V2 := by rw [e2]; exact bl_alloc (Below.refl _ _) _
  have b0' : Below w1.heap.size w1 V2 := by rw [e2, e1]; exact bl_alloc (bl_alloc (Below.refl _ _) _) _
  replace k1 := bl_block b1 k1
  replace hbw := bl_step hbw b0'
  replace hkit := hkit.below b0'
  have hnx := Next_yes g aliveP 4294967296 [0, 0] [8589934592, 12884901888] _ _ 2 2 V2 ⟨aliveP_long, aliveP_wrong, aliveP_in⟩ hkit (RdI.of_blk (l := [0, 0]) k1 (by decide)) (RdI.of_blk (l := [8589934592, 12884901888]) k2 (by decide)) (by unfold InI; simp) (by unfold InI; simp) (by omega) (by omega) rfl rfl
  rw [aliveP_next] at hnx
  clear e1 e2 k1 k2 s1 s2 b1 hb1 b0
  refine hnx.mono ?_
  clear hnx
  rintro e w3 ⟨A, c, rfl, hrd, hb3⟩
  replace hbw := bl_step hbw hb3
  replace hkit := hkit.below hb3
  obtain ⟨b, off, rfl, c0⟩ := hrd.at (i := 0) (by decide)
  obtain ⟨b', off', hbo, c1⟩ := hrd.at (i := 1) (by decide)
  cases hbo
  have c0' : w3.cell? ⟨b, off, none⟩ = some (.int .i64 21474836480) := c0
  have c1' : w3.cell? ⟨b, off + 1, none⟩ = some (.int .i64 17179869184) := c1
  clear c0 c1 hb3
  go_upto_region 6 with fail
  go_wp2_with fail
  obtain ⟨V3, e3⟩ : ∃ W, W = w3.alloc (.cells #[Value.int IntKind.i64 17179869184, Value.int IntKind.i64 0] 3) := ⟨_, rfl⟩
  rw [← e3]
  obtain ⟨n3, hn3⟩ : ∃ n, w3.heap.size = n := ⟨_, rfl⟩
  rw [hn3]
  obtain ⟨k3, s3⟩ := al_step e3 hn3
  have b3 : Below w3.heap.size w3 V3 := by rw [e3]; exact bl_alloc (Below.refl _ _) _
  replace hbw := bl_step hbw b3
  replace hkit := hkit.below b3
  have hba := Base_calls g aliveP [17179869184, 0] _ 2 V3 hkit rfl (by decide) (by unfold InI aliveP; simp) (by decide) (by decide) (RdI.of_blk (l := [17179869184, 0]) k3 (by decide)) (by unfold InI; simp)
  rw [aliveP_base] at hba
  clear e3 k3 s3 b3 hn3 c0' c1' hrd
  refine hba.mono ?_
  clear hba
  rintro e w4 ⟨rfl, hb4⟩
  replace hbw := bl_step hbw hb4
  replace hkit := hkit.below hb4
  clear hb4
  go_wp2_with fail
  refine (Dim_calls g aliveP _ hkit).mono ?_
  rintro e w5 ⟨rfl, hw5⟩
  subst hw5
  rw [show (aliveP.B.length : Int) = 2 from rfl]
  go_wp2_with fail
  obtain ⟨V4, e4⟩ : ∃ W, W = w5.alloc (.cells #[Value.int IntKind.i64 0, Value.int IntKind.i64 0] 3) := ⟨_, rfl⟩
  rw [← e4]
  obtain ⟨n4, hn4⟩ : ∃ n, w5.heap.size = n := ⟨_, rfl⟩
  rw [hn4]
  obtain ⟨k4, s4⟩ := al_step e4 hn4
  have b4 : Below w5.heap.size w5 V4 := by rw [e4]; exact bl_alloc (Below.refl _ _) _
  replace hbw := bl_step hbw b4
  replace hkit := hkit.below b4
  have hin := Inside_calls g aliveP [0, 0] _ 2 V4 hkit rfl (RdI.of_blk (l := [0, 0]) k4 (by decide))
  rw [aliveP_inside] at hin
  clear e4 k4 s4 b4 hn4
  refine hin.mono ?_
  clear hin
  rintro e w6 ⟨rfl, hb6⟩
  replace hbw := bl_step hbw hb6
  replace hkit := hkit.below hb6
  clear hb6
  obtain ⟨q1, q2, hkc, hr1, hr2⟩ := hkit
  obtain ⟨aA, cA, aB, cB, aW, cW, aI, cI, aS, cS, aG, cG⟩ := q1
  obtain ⟨-, hB, -, -, -, -, -, -, -, -, -, -⟩ := hr1
  simp only [] at hB
  obtain ⟨bB, oB, rfl, hB1⟩ := hB.at (i := 1) (by decide)
  have hk1 : w6.cell? ⟨g, 1, none⟩ = some (.slice (some ⟨bB, oB, none⟩) 2 cB) := blk_cell hkc 1 (by rfl)
  have hB1' : w6.cell? ⟨bB, oB + 1, none⟩ = some (.int .i64 1) := hB1
  clear hr2 hB1 hB hkc
  go_wp2_with fail
  go_ret
  exact ⟨rfl, hbw⟩
end Go.Proofs.Ythdaidmjjcmccaa
