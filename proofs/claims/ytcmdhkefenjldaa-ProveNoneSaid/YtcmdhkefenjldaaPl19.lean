/- Proved here: lemmas and contracts (what a function of the program computes) that the proofs of the laws of this seat lean on. Conditions: as each theorem states. -/
import Derived.Test.YtcmdhkefenjldaaPl17
import Derived.Test.YtcmdhkefenjldaaPl18
set_option linter.unusedVariables false
set_option linter.unusedSimpArgs false
namespace Go.Pk
open Go.RowKit
def zeroP : Pl := ⟨[], [], ⟨0, 0⟩, [], [], [], [], 0⟩
theorem zeroP_are (n : Nat) : areP zeroP n = false := by unfold areP zeroP; cases n <;> simp
theorem zeroP_boxed (l : List Sp) : boxedP zeroP l = false := by unfold boxedP; rw [zeroP_are]; rfl
theorem zeroKit {w : World} {g T : Nat} (h : w.heap[g]? = some (.cells #[.slice none 0 0, .slice none 0 0, .int .i64 0, .int .i64 0, .slice none 0 0, .slice none 0 0, .slice none 0 0, .slice none 0 0, .int .i64 0, .slice none 0 0, .slice none 0 0, .int .i64 0, .int .i64 0, .slice none 0 0, .slice none 0 0, .slice none 0 0, .slice none 0 0, .int .i64 0] T (0, 0))) : KitAt w g T zeroP := by
  have hz : PA.rd ⟨none, 0, none, 0, none, 0, none, 0, none, 0, none, 0⟩ w zeroP := ⟨⟨by decide, fun i hi => by simp [zeroP] at hi⟩, ⟨by decide, RdC.nil _ _⟩, ⟨by decide, RdC.nil _ _⟩, ⟨by decide, RdC.nil _ _⟩, ⟨by decide, RdC.nil _ _⟩, ⟨by decide, RdC.nil _ _⟩, Nat.le_refl 0, Nat.le_refl 0, Nat.le_refl 0, Nat.le_refl 0, Nat.le_refl 0, Nat.le_refl 0⟩
  exact ⟨⟨none, 0, none, 0, none, 0, none, 0, none, 0, none, 0⟩, ⟨none, 0, none, 0, none, 0, none, 0, none, 0, none, 0⟩, h, hz, hz⟩
end Go.Pk
namespace Go.Proofs.Ytcmdhkefenjldaa
open Go.RowKit Go.Pk Go.Proofs.YtcmdhkefenjldaaW.PrintLast
theorem are_nil (n : Nat) (w : World) : Calls Try.prog 41 #[.pointer none, .int .i64 n] w fun e w' => e = .returned (.bool false) ∧ w' = w := by
  have hD := hidI (fun W => Dim_nil W)
  by_cases h : (n : Int) = 0
  · obtain rfl : n = 0 := by omega
    have d1 : (((0 : Nat) : Int) == 0) = true := by rfl
    have d2 : decide ((0 : Int) < ((0 : Nat) : Int)) = false := by rfl
    clear h
    go_enter Try.func41, Try.ntmps41
    go_wp2_with (first | (go_at_call 14; refine (hD.out _).mono ?_; rintro e w1 ⟨rfl, hw1⟩; obtain rfl := hw1) | fail)
    go_ret
    exact ⟨rfl, rfl⟩
  · have d1 : ((n : Int) == 0) = false := by simpa using h
    replace h := hidI h
    go_enter Try.func41, Try.ntmps41
    go_wp2_with (first | (go_at_call 14; refine (hD.out _).mono ?_; rintro e w1 ⟨rfl, hw1⟩; obtain rfl := hw1) | fail)
    go_ret
    exact ⟨rfl, rfl⟩
theorem Next_nil (u : Int) (V : Value) (A : Option Addr) (n c : Nat) (w : World) : Calls Try.prog 16 #[.pointer none, .int .i64 u, V, .slice A n c] w fun e w' => e = .returned (.tuple #[.slice none 0 0, .bool false]) ∧ Below w.heap.size w w' := by
  have hD := hidI (fun W => are_nil n W)
  go_enter Try.func16, Try.ntmps16
  go_wp2_with (first | (go_at_call 41; refine (hD.out _).mono ?_; rintro e w1 ⟨rfl, hw1⟩; obtain rfl := hw1) | fail)
  go_ret2
  exact ⟨rfl, Below.refl _ _⟩
theorem Next_no (g : Nat) (p : Pl) (u : Int) (V : Value) (A : Option Addr) (n c : Nat) (w : World) (hk : KitAt w g 51 p) (hno : areP p n = false) : Calls Try.prog 16 #[.pointer (some ⟨g, 0, none⟩), .int .i64 u, V, .slice A n c] w fun e w' => e = .returned (.tuple #[.slice none 0 0, .bool false]) ∧ Below w.heap.size w w' := by
  have hD := hidI (fun W (h : KitAt W g 51 p) => are_calls g p n W h)
  rw [hno] at hD
  go_enter Try.func16, Try.ntmps16
  go_wp2_with (first | (go_at_call 41; refine (hD.out _ hk).mono ?_; rintro e w1 ⟨rfl, hw1⟩; obtain rfl := hw1) | fail)
  go_ret2
  exact ⟨rfl, Below.refl _ _⟩
theorem Boxed_nil (A : Option Addr) (n c : Nat) (w : World) : Calls Try.prog 45 #[.pointer none, .slice A n c] w fun e w' => e = .returned (.bool false) ∧ Below w.heap.size w w' := by
  have hD := hidI (fun W => are_nil n W)
  go_enter Try.func45, Try.ntmps45
  go_wp2_with (first | (go_at_call 41; refine (hD.out _).mono ?_; rintro e w1 ⟨rfl, hw1⟩; obtain rfl := hw1) | fail)
  go_ret
  exact ⟨rfl, Below.refl _ _⟩
theorem Reach_nil (a b : Int) (A : Option Addr) (n c : Nat) (w : World) : Calls Try.prog 20 #[.pointer none, .agg #[.int .i64 (a), .int .i64 (b)], .slice A n c] w fun e w' => e = .returned (.tuple #[.slice none 0 0, .bool false]) ∧ Below w.heap.size w w' := by
  have hD := hidI (fun W => Boxed_nil A n c W)
  go_enter Try.func20, Try.ntmps20
  go_upto_region 1 with fail
  obtain ⟨w0, hw0⟩ : ∃ z : World, z = w := ⟨_, rfl⟩
  have hbw : Below w0.heap.size w0 (w.alloc (.cells #[.int .i64 a, .int .i64 b] 25)) := by rw [hw0]; exact bl_alloc (Below.refl w.heap.size w) _
  generalize w.alloc (.cells #[.int .i64 a, .int .i64 b] 25) = W1 at *
  go_wp2_with fail
  refine (hD.out _).mono ?_
  rintro e w1 ⟨rfl, hb1⟩
  replace hbw := bl_step hbw hb1
  subst hw0
  go_wp2
  go_ret2
  exact ⟨rfl, hbw⟩
theorem Base_nil (A : Option Addr) (n c : Nat) (w : World) : Calls Try.prog 17 #[.pointer none, .slice A n c] w fun e w' => e = .returned (.int .i64 0) ∧ Below w.heap.size w w' := by
  have hD := hidI (fun W => are_nil n W)
  go_enter Try.func17, Try.ntmps17
  go_wp2_with (first | (go_at_call 41; refine (hD.out _).mono ?_; rintro e w1 ⟨rfl, hw1⟩; obtain rfl := hw1) | fail)
  go_ret
  exact ⟨rfl, Below.refl _ _⟩
theorem Base_no (g : Nat) (p : Pl) (A : Option Addr) (n c : Nat) (w : World) (hk : KitAt w g 51 p) (hno : areP p n = false) : Calls Try.prog 17 #[.pointer (some ⟨g, 0, none⟩), .slice A n c] w fun e w' => e = .returned (.int .i64 0) ∧ Below w.heap.size w w' := by
  have hD := hidI (fun W (h : KitAt W g 51 p) => are_calls g p n W h)
  rw [hno] at hD
  go_enter Try.func17, Try.ntmps17
  go_wp2_with (first | (go_at_call 41; refine (hD.out _ hk).mono ?_; rintro e w1 ⟨rfl, hw1⟩; obtain rfl := hw1) | fail)
  go_ret
  exact ⟨rfl, Below.refl _ _⟩
theorem Inside_no (g : Nat) (p : Pl) (A : Option Addr) (n c : Nat) (w : World) (hk : KitAt w g 51 p) (hno : areP p n = false) : Calls Try.prog 18 #[.pointer (some ⟨g, 0, none⟩), .slice A n c] w fun e w' => e = .returned (.bool false) ∧ Below w.heap.size w w' := by
  have hD := hidI (fun W (h : KitAt W g 51 p) => are_calls g p n W h)
  rw [hno] at hD
  go_enter Try.func18, Try.ntmps18
  go_wp2_with (first | (go_at_call 41; refine (hD.out _ hk).mono ?_; rintro e w1 ⟨rfl, hw1⟩; obtain rfl := hw1) | fail)
  go_ret
  exact ⟨rfl, Below.refl _ _⟩
theorem Inside_nil (A : Option Addr) (n c : Nat) (w : World) : Calls Try.prog 18 #[.pointer none, .slice A n c] w fun e w' => e = .returned (.bool false) ∧ Below w.heap.size w w' := by
  have hD := hidI (fun W => are_nil n W)
  go_enter Try.func18, Try.ntmps18
  go_wp2_with (first | (go_at_call 41; refine (hD.out _).mono ?_; rintro e w1 ⟨rfl, hw1⟩; obtain rfl := hw1) | fail)
  go_ret
  exact ⟨rfl, Below.refl _ _⟩
theorem plField1 (a0 a1 a2 a3 a4 a5 a6 a7 a8 : Value) (w : World) : (Instr.field 28 (.agg #[a0, a1, a2, a3, a4, a5, a6, a7, a8]) 1).run Try.prog w = .ok a1 w := by kernel_rfl
theorem plField4 (a0 a1 a2 a3 a4 a5 a6 a7 a8 : Value) (w : World) : (Instr.field 28 (.agg #[a0, a1, a2, a3, a4, a5, a6, a7, a8]) 4).run Try.prog w = .ok a5 w := by kernel_rfl
set_option maxHeartbeats 8000000 in
set_option maxRecDepth 100000 in
theorem Copy_nil (w : World) : Calls Try.prog 24 #[.pointer none] w fun e w' => e = .returned (.agg #[.slice none 0 0, .slice none 0 0, .int .i64 0, .int .i64 0, .slice none 0 0, .slice none 0 0, .slice none 0 0, .slice none 0 0, .int .i64 0]) ∧ Below w.heap.size w w' := by
  go_enter Try.func24, Try.ntmps24
  go_upto_region 1 with fail
  have hk2 := blk_new w (.cells #[.slice none 0 0, .slice none 0 0, .int .i64 0, .int .i64 0, .slice none 0 0, .slice none 0 0, .slice none 0 0, .slice none 0 0, .int .i64 0] 28)
  have hbw := bl_alloc (Below.refl w.heap.size w) (.cells #[.slice none 0 0, .slice none 0 0, .int .i64 0, .int .i64 0, .slice none 0 0, .slice none 0 0, .slice none 0 0, .slice none 0 0, .int .i64 0] 28)
  generalize w.alloc (.cells #[.slice none 0 0, .slice none 0 0, .int .i64 0, .int .i64 0, .slice none 0 0, .slice none 0 0, .slice none 0 0, .slice none 0 0, .int .i64 0] 28) = W1 at *
  obtain ⟨g2, hg2⟩ : ∃ z, w.heap.size = z := ⟨_, rfl⟩
  have hw2' : w.heap.size ≤ g2 := by omega
  rw [hg2] at hk2
  rw [hg2]
  clear hg2
  have y0 : W1.cell? ⟨g2, 0, none⟩ = some (.slice none 0 0) := blk_cell hk2 0 (by rfl)
  have z0 := blkf hk2 0
  have y1 : W1.cell? ⟨g2, 1, none⟩ = some (.slice none 0 0) := blk_cell hk2 1 (by rfl)
  have z1 := blkf hk2 1
  have y2 : W1.cell? ⟨g2, 2, none⟩ = some (.int .i64 0) := blk_cell hk2 2 (by rfl)
  have z2 := blkf hk2 2
  have y3 : W1.cell? ⟨g2, 3, none⟩ = some (.int .i64 0) := blk_cell hk2 3 (by rfl)
  have z3 := blkf hk2 3
  have y4 : W1.cell? ⟨g2, 4, none⟩ = some (.slice none 0 0) := blk_cell hk2 4 (by rfl)
  have z4 := blkf hk2 4
  have y5 : W1.cell? ⟨g2, 5, none⟩ = some (.slice none 0 0) := blk_cell hk2 5 (by rfl)
  have z5 := blkf hk2 5
  have y6 : W1.cell? ⟨g2, 6, none⟩ = some (.slice none 0 0) := blk_cell hk2 6 (by rfl)
  have z6 := blkf hk2 6
  have y7 : W1.cell? ⟨g2, 7, none⟩ = some (.slice none 0 0) := blk_cell hk2 7 (by rfl)
  have z7 := blkf hk2 7
  have y8 : W1.cell? ⟨g2, 8, none⟩ = some (.int .i64 0) := blk_cell hk2 8 (by rfl)
  have z8 := blkf hk2 8
  have hlt2 := blk_lt hk2
  go_wp2
  refine bodyPost_ret (results_cell_row rfl _ _ g2 28 #[.slice none 0 0, .slice none 0 0, .int .i64 0, .int .i64 0, .slice none 0 0, .slice none 0 0, .slice none 0 0, .slice none 0 0, .int .i64 0] (0, 0) _ rfl (blk_set (blk_set (blk_set (blk_set (blk_set (blk_set (blk_set (blk_set (blk_set hk2 0 (.slice none 0 0)) 1 (.slice none 0 0)) 2 (.int .i64 0)) 3 (.int .i64 0)) 4 (.slice none 0 0)) 5 (.slice none 0 0)) 6 (.slice none 0 0)) 7 (.slice none 0 0)) 8 (.int .i64 0)) Try.underlying28 rfl (by kernel_rfl)) rfl ?_
  exact ⟨rfl, (bl_set (bl_set (bl_set (bl_set (bl_set (bl_set (bl_set (bl_set (bl_set hbw (p := ⟨g2, 0, none⟩) hw2' _) (p := ⟨g2, 1, none⟩) hw2' _) (p := ⟨g2, 2, none⟩) hw2' _) (p := ⟨g2, 3, none⟩) hw2' _) (p := ⟨g2, 4, none⟩) hw2' _) (p := ⟨g2, 5, none⟩) hw2' _) (p := ⟨g2, 6, none⟩) hw2' _) (p := ⟨g2, 7, none⟩) hw2' _) (p := ⟨g2, 8, none⟩) hw2' _)⟩
set_option maxHeartbeats 8000000 in
set_option maxRecDepth 100000 in
theorem None_walk (lx : List Int) (lb : List Sp) (ax ab : Option Addr) (cx cb : Nat) (w : World) (hx : RdI w ax lx) (hb : RdS w ab lb) (hcx : lx.length ≤ cx) (hcb : lb.length ≤ cb) :
    Calls Try.prog 6 #[.slice ax lx.length cx, .slice ab lb.length cb] w fun e w' => e = .returned (.bool true) ∧ Below w.heap.size w w' := by
  obtain ⟨w0, hw0⟩ : ∃ z : World, z = w := ⟨_, rfl⟩
  have hbw : Below w0.heap.size w0 w := by rw [hw0]; exact Below.refl _ _
  go_enter Try.func6, Try.ntmps6
  go_wp2_with fail
  · skip
    go_wp2_with fail
    refine (alive15_calls _).mono ?_
    rintro e wz ⟨rfl, hbz⟩
    replace hbw := bl_step hbw hbz
    subst hw0
    go_wp2
    go_ret
    exact ⟨rfl, hbw⟩
  · have hkit := zeroKit (blk_new w (.cells #[.slice none 0 0, .slice none 0 0, .int .i64 0, .int .i64 0, .slice none 0 0, .slice none 0 0, .slice none 0 0, .slice none 0 0, .int .i64 0, .slice none 0 0, .slice none 0 0, .int .i64 0, .int .i64 0, .slice none 0 0, .slice none 0 0, .slice none 0 0, .slice none 0 0, .int .i64 0] 51))
    have hbA := bl_alloc (Below.refl w.heap.size w) (.cells #[.slice none 0 0, .slice none 0 0, .int .i64 0, .int .i64 0, .slice none 0 0, .slice none 0 0, .slice none 0 0, .slice none 0 0, .int .i64 0, .slice none 0 0, .slice none 0 0, .int .i64 0, .int .i64 0, .slice none 0 0, .slice none 0 0, .slice none 0 0, .slice none 0 0, .int .i64 0] 51)
    replace hbw := bl_step hbw hbA
    have hs := hb.below hbA
    clear hb hbA hx
    generalize w.alloc (.cells #[.slice none 0 0, .slice none 0 0, .int .i64 0, .int .i64 0, .slice none 0 0, .slice none 0 0, .slice none 0 0, .slice none 0 0, .int .i64 0, .slice none 0 0, .slice none 0 0, .int .i64 0, .int .i64 0, .slice none 0 0, .slice none 0 0, .slice none 0 0, .slice none 0 0, .int .i64 0] 51) = W1 at *
    obtain ⟨gz, hgz⟩ : ∃ z, w.heap.size = z := ⟨_, rfl⟩
    rw [hgz] at hkit
    try rw [hgz]
    clear hgz
    refine (Next_nil 1 _ ax lx.length cx _).mono ?_
    rintro e w1 ⟨rfl, hb1⟩
    replace hbw := bl_step hbw hb1
    replace hkit := hkit.below hb1
    replace hs := hs.below hb1
    clear hb1
    go_wp2_with fail
    refine (Next_no gz zeroP 1 _ ax lx.length cx _ hkit (zeroP_are _)).mono ?_
    rintro e w2 ⟨rfl, hb2⟩
    replace hbw := bl_step hbw hb2
    replace hkit := hkit.below hb2
    replace hs := hs.below hb2
    clear hb2
    go_wp2_with fail
    refine (Reach_nil 0 0 ab lb.length cb _).mono ?_
    rintro e w3 ⟨rfl, hb3⟩
    replace hbw := bl_step hbw hb3
    replace hkit := hkit.below hb3
    replace hs := hs.below hb3
    clear hb3
    go_wp2_with fail
    refine (Reach_no gz zeroP ⟨0, 0⟩ ab lb cb _ hkit hs (by rw [zeroP_boxed]; simp)).mono ?_
    rintro e w4 ⟨rfl, hb4⟩
    replace hbw := bl_step hbw hb4
    replace hkit := hkit.below hb4
    replace hs := hs.below hb4
    clear hb4
    go_wp2_with fail
    refine (Command_no gz zeroP ab lb cb _ hkit hs (zeroP_boxed _)).mono ?_
    rintro e w5 ⟨rfl, hb5⟩
    replace hbw := bl_step hbw hb5
    replace hkit := hkit.below hb5
    replace hs := hs.below hb5
    clear hb5
    go_upto_region 10 with fail
    have hk15 := blk_new w5 (.cells #[.int .i64 0, .int .i64 (-1)] 25)
    have hbA := bl_alloc (Below.refl w5.heap.size w5) (.cells #[.int .i64 0, .int .i64 (-1)] 25)
    replace hbw := bl_step hbw hbA
    replace hkit := hkit.below hbA
    clear hbA
    generalize w5.alloc (.cells #[.int .i64 0, .int .i64 (-1)] 25) = W2 at *
    obtain ⟨g15, hg15⟩ : ∃ z, w5.heap.size = z := ⟨_, rfl⟩
    rw [hg15] at hk15
    try rw [hg15]
    clear hg15
    go_wp2_with fail
    have hk17 := blk_new W2 (.cells #[.int .i64 0, .int .i64 (-1)] 25)
    have hbA := bl_alloc (Below.refl W2.heap.size W2) (.cells #[.int .i64 0, .int .i64 (-1)] 25)
    replace hbw := bl_step hbw hbA
    replace hkit := hkit.below hbA
    replace hk15 := bl_block hbA hk15
    clear hbA
    generalize W2.alloc (.cells #[.int .i64 0, .int .i64 (-1)] 25) = W3 at *
    obtain ⟨g17, hg17⟩ : ∃ z, W2.heap.size = z := ⟨_, rfl⟩
    rw [hg17] at hk17
    try rw [hg17]
    clear hg17 hs
    refine (alive15_calls _).mono ?_
    rintro e w6 ⟨rfl, hb6⟩
    replace hbw := bl_step hbw hb6
    replace hkit := hkit.below hb6
    replace hk15 := bl_block hb6 hk15
    replace hk17 := bl_block hb6 hk17
    clear hb6
    go_wp2_with fail
    refine (Dim_nil _).mono ?_
    rintro e w7 ⟨rfl, hw7⟩
    subst hw7
    go_wp2_with fail
    refine (Dim_calls gz zeroP _ hkit).mono ?_
    rintro e w8 ⟨rfl, hw8⟩
    subst hw8
    rw [show ((zeroP.B.length : Nat) : Int) = 0 from rfl]
    have m15 := blk_two hk15
    have m17 := blk_two hk17
    go_wp2_with fail
    refine (Base_nil ax lx.length cx _).mono ?_
    rintro e w9 ⟨rfl, hb9⟩
    replace hbw := bl_step hbw hb9
    replace hkit := hkit.below hb9
    replace hk15 := bl_block hb9 hk15
    replace hk17 := bl_block hb9 hk17
    clear hb9
    clear m15 m17
    go_wp2_with fail
    refine (Base_no gz zeroP ax lx.length cx _ hkit (zeroP_are _)).mono ?_
    rintro e w10 ⟨rfl, hb10⟩
    replace hbw := bl_step hbw hb10
    replace hkit := hkit.below hb10
    replace hk15 := bl_block hb10 hk15
    replace hk17 := bl_block hb10 hk17
    clear hb10
    go_wp2_with fail
    refine (Inside_nil ax lx.length cx _).mono ?_
    rintro e w11 ⟨rfl, hb11⟩
    replace hbw := bl_step hbw hb11
    replace hkit := hkit.below hb11
    replace hk15 := bl_block hb11 hk15
    replace hk17 := bl_block hb11 hk17
    clear hb11
    go_wp2_with fail
    refine (Inside_no gz zeroP ax lx.length cx _ hkit (zeroP_are _)).mono ?_
    rintro e w12 ⟨rfl, hb12⟩
    replace hbw := bl_step hbw hb12
    replace hkit := hkit.below hb12
    replace hk15 := bl_block hb12 hk15
    replace hk17 := bl_block hb12 hk17
    clear hb12
    go_wp2_with fail
    refine (Copy_nil _).mono ?_
    rintro e w13 ⟨rfl, hb13⟩
    replace hbw := bl_step hbw hb13
    replace hkit := hkit.below hb13
    replace hk15 := bl_block hb13 hk15
    replace hk17 := bl_block hb13 hk17
    clear hb13
    subst hw0
    have hfd := plField1 (.slice none 0 0) (.slice none 0 0) (.int .i64 0) (.int .i64 0) (.slice none 0 0) (.slice none 0 0) (.slice none 0 0) (.slice none 0 0) (.int .i64 0) w13
    go_wp2
    go_ret
    exact ⟨rfl, hbw⟩
end Go.Proofs.Ytcmdhkefenjldaa
