/- Proved here: lemmas and contracts (what a function of the program computes) that the proofs of the laws of this seat lean on. Conditions: as each theorem states. -/
import Derived.Test.YthdaidmjjcmccaaPl17
import Derived.Test.YthdaidmjjcmccaaPl18
set_option linter.unusedVariables false
set_option linter.unusedSimpArgs false
namespace Go.Pk
open Go.RowKit
def zeroP : Pl := ⟨[], [], ⟨0, 0⟩, [], [], [], [], 0⟩
theorem zeroP_are (n : Nat) : areP zeroP n = false := by unfold areP zeroP; cases n <;> simp
theorem zeroP_boxed (l : List Sp) : boxedP zeroP l = false := by unfold boxedP; rw [zeroP_are]; rfl
theorem zeroKit {w : World} {g T : Nat} (h : w.heap[g]? = some (.cells #[.slice none 0 0, .slice none 0 0, .int .i64 0, .int .i64 0, .slice none 0 0, .slice none 0 0, .slice none 0 0, .slice none 0 0, .int .i64 0, .slice none 0 0, .slice none 0 0, .int .i64 0, .int .i64 0, .slice none 0 0, .slice none 0 0, .slice none 0 0, .slice none 0 0, .int .i64 0] T (0, 0))) : KitAt w g T zeroP := by
  have hz : PA.rd ⟨none, 0, none, 0, none, 0, none, 0, none, 0, none, 0⟩ w zeroP := ⟨⟨by decide, fun i hi => by simp [zeroP] at hi⟩, ⟨by decide, RdC.nil _ _⟩, ⟨by decide, RdC.nil _ _⟩, ⟨by decide, RdC.nil _ _⟩, ⟨by decide, RdC.nil _ _⟩, ⟨by decide, RdC.nil _ _⟩, Nat.le_refl 0, Nat.le_refl 0, Nat.le_refl 0, Nat.le_refl 0, Nat.le_refl 0, Nat.le_refl 0⟩
  exact ⟨⟨none, 0, none, 0, none, 0, none, 0, none, 0, none, 0⟩, ⟨none, 0, none, 0, none, 0, none, 0, none, 0, none, 0⟩, h, hz, hz⟩
end Go.Pk
namespace Go.Proofs.Ythdaidmjjcmccaa
open Go.RowKit Go.Pk Go.Proofs.YthdaidmjjcmccaaW.PrintLast
theorem are_nil (n : Nat) (w : World) : Calls Try.prog 67 #[.pointer none, .int .i64 n] w fun e w' => e = .returned (.bool false) ∧ w' = w := by
  have hD := hidI (fun W => Dim_nil W)
  by_cases h : (n : Int) = 0
  · obtain rfl : n = 0 := by omega
    have d1 : (((0 : Nat) : Int) == 0) = true := by rfl
    have d2 : decide ((0 : Int) < ((0 : Nat) : Int)) = false := by rfl
    clear h
    go_enter Try.func67, Try.ntmps67
    go_wp2_with (first | (go_at_call 17; refine (hD.out _).mono ?_; rintro e w1 ⟨rfl, hw1⟩; obtain rfl := hw1) | fail)
    go_ret
    exact ⟨rfl, rfl⟩
  · have d1 : ((n : Int) == 0) = false := by simpa using h
    replace h := hidI h
    go_enter Try.func67, Try.ntmps67
    go_wp2_with (first | (go_at_call 17; refine (hD.out _).mono ?_; rintro e w1 ⟨rfl, hw1⟩; obtain rfl := hw1) | fail)
    go_ret
    exact ⟨rfl, rfl⟩
theorem Next_nil (u : Int) (V : Value) (A : Option Addr) (n c : Nat) (w : World) : Calls Try.prog 25 #[.pointer none, .int .i64 u, V, .slice A n c] w fun e w' => e = .returned (.tuple #[.slice none 0 0, .bool false]) ∧ Below w.heap.size w w' := by
  have hD := hidI (fun W => are_nil n W)
  go_enter Try.func25, Try.ntmps25
  go_wp2_with (first | (go_at_call 67; refine (hD.out _).mono ?_; rintro e w1 ⟨rfl, hw1⟩; obtain rfl := hw1) | fail)
  go_ret2
  exact ⟨rfl, Below.refl _ _⟩
theorem Next_no (g : Nat) (p : Pl) (u : Int) (V : Value) (A : Option Addr) (n c : Nat) (w : World) (hk : KitAt w g 116 p) (hno : areP p n = false) : Calls Try.prog 25 #[.pointer (some ⟨g, 0, none⟩), .int .i64 u, V, .slice A n c] w fun e w' => e = .returned (.tuple #[.slice none 0 0, .bool false]) ∧ Below w.heap.size w w' := by
  have hD := hidI (fun W (h : KitAt W g 116 p) => are_calls g p n W h)
  rw [hno] at hD
  go_enter Try.func25, Try.ntmps25
  go_wp2_with (first | (go_at_call 67; refine (hD.out _ hk).mono ?_; rintro e w1 ⟨rfl, hw1⟩; obtain rfl := hw1) | fail)
  go_ret2
  exact ⟨rfl, Below.refl _ _⟩
theorem Boxed_nil (A : Option Addr) (n c : Nat) (w : World) : Calls Try.prog 63 #[.pointer none, .slice A n c] w fun e w' => e = .returned (.bool false) ∧ Below w.heap.size w w' := by
  have hD := hidI (fun W => are_nil n W)
  go_enter Try.func63, Try.ntmps63
  go_wp2_with (first | (go_at_call 67; refine (hD.out _).mono ?_; rintro e w1 ⟨rfl, hw1⟩; obtain rfl := hw1) | fail)
  go_ret
  exact ⟨rfl, Below.refl _ _⟩
theorem Reach_nil (a b : Int) (A : Option Addr) (n c : Nat) (w : World) : Calls Try.prog 20 #[.pointer none, .agg #[.int .i64 (a), .int .i64 (b)], .slice A n c] w fun e w' => e = .returned (.tuple #[.slice none 0 0, .bool false]) ∧ Below w.heap.size w w' := by
  have hD := hidI (fun W => Boxed_nil A n c W)
  go_enter Try.func20, Try.ntmps20
  go_upto_region 1 with fail
  obtain ⟨w0, hw0⟩ : ∃ z : World, z = w := ⟨_, rfl⟩
  have hbw : Below w0.heap.size w0 (w.alloc (.cells #[.int .i64 a, .int .i64 b] 25)) := by rw [hw0]; exact bl_alloc (Below.refl w.heap.size w) _
  generalize w.alloc (.cells #[.int .i64 a, .int .i64 b] 25) = W1 at *
  go_wp2_with fail
  refine (hD.out _).mono ?_
  rintro e w1 ⟨rfl, hb1⟩
  replace hbw := bl_step hbw hb1
  subst hw0
  go_wp2
  go_ret2
  exact ⟨rfl, hbw⟩
theorem Base_nil (A : Option Addr) (n c : Nat) (w : World) : Calls Try.prog 24 #[.pointer none, .slice A n c] w fun e w' => e = .returned (.int .i64 0) ∧ Below w.heap.size w w' := by
  have hD := hidI (fun W => are_nil n W)
  go_enter Try.func24, Try.ntmps24
  go_wp2_with (first | (go_at_call 67; refine (hD.out _).mono ?_; rintro e w1 ⟨rfl, hw1⟩; obtain rfl := hw1) | fail)
  go_ret
  exact ⟨rfl, Below.refl _ _⟩
theorem Base_no (g : Nat) (p : Pl) (A : Option Addr) (n c : Nat) (w : World) (hk : KitAt w g 116 p) (hno : areP p n = false) : Calls Try.prog 24 #[.pointer (some ⟨g, 0, none⟩), .slice A n c] w fun e w' => e = .returned (.int .i64 0) ∧ Below w.heap.size w w' := by
  have hD := hidI (fun W (h : KitAt W g 116 p) => are_calls g p n W h)
  rw [hno] at hD
  go_enter Try.func24, Try.ntmps24
  go_wp2_with (first | (go_at_call 67; refine (hD.out _ hk).mono ?_; rintro e w1 ⟨rfl, hw1⟩; obtain rfl := hw1) | fail)
  go_ret
  exact ⟨rfl, Below.refl _ _⟩
theorem Inside_no (g : Nat) (p : Pl) (A : Option Addr) (n c : Nat) (w : World) (hk : KitAt w g 116 p) (hno : areP p n = false) : Calls Try.prog 32 #[.pointer (some ⟨g, 0, none⟩), .slice A n c] w fun e w' => e = .returned (.bool false) ∧ Below w.heap.size w w' := by
  have hD := hidI (fun W (h : KitAt W g 116 p) => are_calls g p n W h)
  rw [hno] at hD
  go_enter Try.func32, Try.ntmps32
  go_wp2_with (first | (go_at_call 67; refine (hD.out _ hk).mono ?_; rintro e w1 ⟨rfl, hw1⟩; obtain rfl := hw1) | fail)
  go_ret
  exact ⟨rfl, Below.refl _ _⟩
theorem Inside_nil (A : Option Addr) (n c : Nat) (w : World) : Calls Try.prog 32 #[.pointer none, .slice A n c] w fun e w' => e = .returned (.bool false) ∧ Below w.heap.size w w' := by
  have hD := hidI (fun W => are_nil n W)
  go_enter Try.func32, Try.ntmps32
  go_wp2_with (first | (go_at_call 67; refine (hD.out _).mono ?_; rintro e w1 ⟨rfl, hw1⟩; obtain rfl := hw1) | fail)
  go_ret
  exact ⟨rfl, Below.refl _ _⟩
theorem plField1 (a0 a1 a2 a3 a4 a5 a6 a7 a8 : Value) (w : World) : (Instr.field 28 (.agg #[a0, a1, a2, a3, a4, a5, a6, a7, a8]) 1).run Try.prog w = .ok a1 w := by kernel_rfl
theorem plField4 (a0 a1 a2 a3 a4 a5 a6 a7 a8 : Value) (w : World) : (Instr.field 28 (.agg #[a0, a1, a2, a3, a4, a5, a6, a7, a8]) 4).run Try.prog w = .ok a5 w := by kernel_rfl
set_option maxHeartbeats 8000000 in
set_option maxRecDepth 100000 in
theorem Copy_nil (w : World) : Calls Try.prog 79 #[.pointer none] w fun e w' => e = .returned (.agg #[.slice none 0 0, .slice none 0 0, .int .i64 0, .int .i64 0, .slice none 0 0, .slice none 0 0, .slice none 0 0, .slice none 0 0, .int .i64 0]) ∧ Below w.heap.size w w' := by
  go_enter Try.func79, Try.ntmps79
  go_upto_region 1 with fail
  have hk2 := blk_new w (.cells #[.slice none 0 0, .slice none 0 0, .int .i64 0, .int .i64 0, .slice none 0 0, .slice none 0 0, .slice none 0 0, .slice none 0 0, .int .i64 0] 28)
  have hbw := bl_alloc (Below.refl w.heap.size w) (.cells #[.slice none 0 0, .slice none 0 0, .int .i64 0, .int .i64 0, .slice none 0 0, .slice none 0 0, .slice none 0 0, .slice none 0 0, .int .i64 0] 28)
  generalize w.alloc (.cells #[.slice none 0 0, .slice none 0 0, .int .i64 0, .int .i64 0, .slice none 0 0, .slice none 0 0, .slice none 0 0, .slice none 0 0, .int .i64 0] 28) = W1 at *
  obtain ⟨g2, hg2⟩ : ∃ z, w.heap.size = z := ⟨_, rfl⟩
  have hw2' : w.heap.size ≤ g2 := by omega
  rw [hg2] at hk2
  rw [hg2]
  clear hg2
  have y0 : W1.cell? ⟨g2, 0, none⟩ = some (.slice none 0 0) := blk_cell hk2 0 (by rfl)
  have z0 := blkf hk2 0
  have y1 : W1.cell? ⟨g2, 1, none⟩ = some (.slice none 0 0) := blk_cell hk2 1 (by rfl)
  have z1 := blkf hk2 1
  have y2 : W1.cell? ⟨g2, 2, none⟩ = some (.int .i64 0) := blk_cell hk2 2 (by rfl)
  have z2 := blkf hk2 2
  have y3 : W1.cell? ⟨g2, 3, none⟩ = some (.int .i64 0) := blk_cell hk2 3 (by rfl)
  have z3 := blkf hk2 3
  have y4 : W1.cell? ⟨g2, 4, none⟩ = some (.slice none 0 0) := blk_cell hk2 4 (by rfl)
  have z4 := blkf hk2 4
  have y5 : W1.cell? ⟨g2, 5, none⟩ = some (.slice none 0 0) := blk_cell hk2 5 (by rfl)
  have z5 := blkf hk2 5
  have y6 : W1.cell? ⟨g2, 6, none⟩ = some (.slice none 0 0) := blk_cell hk2 6 (by rfl)
  have z6 := blkf hk2 6
  have y7 : W1.cell? ⟨g2, 7, none⟩ = some (.slice none 0 0) := blk_cell hk2 7 (by rfl)
  have z7 := blkf hk2 7
  have y8 : W1.cell? ⟨g2, 8, none⟩ = some (.int .i64 0) := blk_cell hk2 8 (by rfl)
  have z8 := blkf hk2 8
  have hlt2 := blk_lt hk2
  go_wp2
  refine bodyPost_ret (results_cell_row rfl _ _ g2 28 #[.slice none 0 0, .slice none 0 0, .int .i64 0, .int .i64 0, .slice none 0 0, .slice none 0 0, .slice none 0 0, .slice none 0 0, .int .i64 0] (0, 0) _ rfl (blk_set (blk_set (blk_set (blk_set (blk_set (blk_set (blk_set (blk_set (blk_set hk2 0 (.slice none 0 0)) 1 (.slice none 0 0)) 2 (.int .i64 0)) 3 (.int .i64 0)) 4 (.slice none 0 0)) 5 (.slice none 0 0)) 6 (.slice none 0 0)) 7 (.slice none 0 0)) 8 (.int .i64 0)) Try.underlying28 rfl (by kernel_rfl)) rfl ?_
  exact ⟨rfl, (bl_set (bl_set (bl_set (bl_set (bl_set (bl_set (bl_set (bl_set (bl_set hbw (p := ⟨g2, 0, none⟩) hw2' _) (p := ⟨g2, 1, none⟩) hw2' _) (p := ⟨g2, 2, none⟩) hw2' _) (p := ⟨g2, 3, none⟩) hw2' _) (p := ⟨g2, 4, none⟩) hw2' _) (p := ⟨g2, 5, none⟩) hw2' _) (p := ⟨g2, 6, none⟩) hw2' _) (p := ⟨g2, 7, none⟩) hw2' _) (p := ⟨g2, 8, none⟩) hw2' _)⟩
end Go.Proofs.Ythdaidmjjcmccaa
