/- Proved here: lemmas and contracts (what a function of the program computes) that the proofs of the laws of this seat lean on. Conditions: as each theorem states. -/
import Derived.Test.YthdaidmjjcmccaaPl32
set_option linter.unusedVariables false
set_option linter.unusedSimpArgs false
namespace Go.Proofs.Ythdaidmjjcmccaa
open Go.RowKit Go.Pk Go.Proofs.YthdaidmjjcmccaaW.PrintLast
set_option maxHeartbeats 8000000 in
set_option maxRecDepth 100000 in
theorem PDeeper_walk (q : PA) (p : Pl) (ls : List Int) (dep : Int) (as_ : Option Addr) (cs : Nat) (w : World) (hq : q.rd w p) (hin : InP p) (hs : RdI w as_ ls) (hsi : InI ls) (hdep : -9223372036854775808 ≤ dep) :
    Calls Try.prog 6 #[.agg (q.cells p).toArray, .slice as_ ls.length cs, .int .i64 dep] w fun e w' => e = .returned (.bool true) ∧ Below w.heap.size w w' := by
  have hLt := hidI (fun W (h : q.rd W p) => Light_calls q p W h)
  have hNw := hidI (fun W (h : q.rd W p) (h2 : RdI W as_ ls) => New16_calls q p as_ ls cs W h hin h2)
  have hok : Hid (newOk p ls = true → GoodP p ∧ InI (slP p ls)) := fun h => by
    unfold newOk at h
    rw [Bool.and_eq_true] at h
    refine ⟨kitOk_good h.1 hin, ?_⟩
    unfold slP InI
    intro x hx
    rcases List.mem_append.1 hx with hx | hx
    · exact hsi x hx
    · rw [(List.mem_replicate.1 hx).2]; omega
  obtain ⟨aA, cA, aB, cB, aW, cW, aI, cI, aS, cS, aG, cG⟩ := q
  unfold PA.cells at hLt hNw ⊢
  simp only [] at hLt hNw
  obtain ⟨ok1, hok1⟩ : ∃ z, newOk p ls = z := ⟨_, rfl⟩
  obtain ⟨lt1, hlt1⟩ : ∃ z, lightP p = z := ⟨_, rfl⟩
  rw [hok1] at hNw hok
  rw [hlt1] at hLt
  clear hok1 hlt1 hin hsi
  replace hdep := hidI hdep
  go_enter Try.func6, Try.ntmps6
  go_upto_region 1 with fail
  have hk_g1 := blk_new w (.cells #[.slice aA p.A.length cA, .slice aB p.B.length cB, .int .i64 p.inp.lo, .int .i64 p.inp.hi, .slice aW p.W.length cW, .slice aI p.Inv.length cI, .slice aS p.Safe.length cS, .slice aG p.gain.length cG, .int .i64 p.bias] 28)
  have hbw := bl_alloc (Below.refl w.heap.size w) (.cells #[.slice aA p.A.length cA, .slice aB p.B.length cB, .int .i64 p.inp.lo, .int .i64 p.inp.hi, .slice aW p.W.length cW, .slice aI p.Inv.length cI, .slice aS p.Safe.length cS, .slice aG p.gain.length cG, .int .i64 p.bias] 28)
  generalize w.alloc (.cells #[.slice aA p.A.length cA, .slice aB p.B.length cB, .int .i64 p.inp.lo, .int .i64 p.inp.hi, .slice aW p.W.length cW, .slice aI p.Inv.length cI, .slice aS p.Safe.length cS, .slice aG p.gain.length cG, .int .i64 p.bias] 28) = W1 at *
  obtain ⟨w0, hw0⟩ : ∃ z : World, z = w := ⟨_, rfl⟩
  rw [← hw0] at hbw hq hs
  obtain ⟨g1, hg1⟩ : ∃ g, w.heap.size = g := ⟨_, rfl⟩
  rw [hg1] at hk_g1
  rw [hg1]
  clear hg1
  have y0 : W1.cell? ⟨g1, 0, none⟩ = some (.slice aA p.A.length cA) := blk_cell hk_g1 0 (by rfl)
  have y1 : W1.cell? ⟨g1, 1, none⟩ = some (.slice aB p.B.length cB) := blk_cell hk_g1 1 (by rfl)
  have y2 : W1.cell? ⟨g1, 2, none⟩ = some (.int .i64 p.inp.lo) := blk_cell hk_g1 2 (by rfl)
  have y3 : W1.cell? ⟨g1, 3, none⟩ = some (.int .i64 p.inp.hi) := blk_cell hk_g1 3 (by rfl)
  have y4 : W1.cell? ⟨g1, 4, none⟩ = some (.slice aW p.W.length cW) := blk_cell hk_g1 4 (by rfl)
  have y5 : W1.cell? ⟨g1, 5, none⟩ = some (.slice aI p.Inv.length cI) := blk_cell hk_g1 5 (by rfl)
  have y6 : W1.cell? ⟨g1, 6, none⟩ = some (.slice aS p.Safe.length cS) := blk_cell hk_g1 6 (by rfl)
  have y7 : W1.cell? ⟨g1, 7, none⟩ = some (.slice aG p.gain.length cG) := blk_cell hk_g1 7 (by rfl)
  have y8 : W1.cell? ⟨g1, 8, none⟩ = some (.int .i64 p.bias) := blk_cell hk_g1 8 (by rfl)
  go_wp2_with fail
  refine (hNw.out W1 (hq.below hbw) (hs.below hbw)).mono ?_
  rintro e w2 ⟨hb2, h1, h2⟩
  replace hbw := bl_step hbw hb2
  replace hk_g1 := bl_block hb2 hk_g1
  clear hb2 hNw y0 y1 y2 y3 y4 y5 y6 y7 y8
  have y0 : w2.cell? ⟨g1, 0, none⟩ = some (.slice aA p.A.length cA) := blk_cell hk_g1 0 (by rfl)
  have y1 : w2.cell? ⟨g1, 1, none⟩ = some (.slice aB p.B.length cB) := blk_cell hk_g1 1 (by rfl)
  have y2 : w2.cell? ⟨g1, 2, none⟩ = some (.int .i64 p.inp.lo) := blk_cell hk_g1 2 (by rfl)
  have y3 : w2.cell? ⟨g1, 3, none⟩ = some (.int .i64 p.inp.hi) := blk_cell hk_g1 3 (by rfl)
  have y4 : w2.cell? ⟨g1, 4, none⟩ = some (.slice aW p.W.length cW) := blk_cell hk_g1 4 (by rfl)
  have y5 : w2.cell? ⟨g1, 5, none⟩ = some (.slice aI p.Inv.length cI) := blk_cell hk_g1 5 (by rfl)
  have y6 : w2.cell? ⟨g1, 6, none⟩ = some (.slice aS p.Safe.length cS) := blk_cell hk_g1 6 (by rfl)
  have y7 : w2.cell? ⟨g1, 7, none⟩ = some (.slice aG p.gain.length cG) := blk_cell hk_g1 7 (by rfl)
  have y8 : w2.cell? ⟨g1, 8, none⟩ = some (.int .i64 p.bias) := blk_cell hk_g1 8 (by rfl)
  cases ok1
  · obtain ⟨er, hne, rfl⟩ := h1 rfl
    have dE : (er == 0) = false := by simpa using hne
    have dE2 : (er != 0) = true := by simpa using hne
    clear h1 h2 hok hs hne
    go_wp2_with fail
    refine (hLt.out w2 (hq.below hbw)).mono ?_
    rintro e w3 ⟨rfl, hb3⟩
    replace hbw := bl_step hbw hb3
    clear hb3 hLt hq hk_g1 y0 y1 y2 y3 y4 y5 y6 y7 y8
    cases lt1
    · skip
      go_wp2_with fail
      refine (alive16_calls _).mono ?_
      rintro e wz ⟨rfl, hbz⟩
      replace hbw := bl_step hbw hbz
      subst hw0
      go_wp2
      go_ret
      exact ⟨rfl, hbw⟩
    · skip
      go_wp2_with fail
      refine (alive16_calls _).mono ?_
      rintro e wz ⟨rfl, hbz⟩
      replace hbw := bl_step hbw hbz
      subst hw0
      go_wp2
      go_ret
      exact ⟨rfl, hbw⟩
  obtain ⟨gl, rfl, hlk, hgl⟩ := h2 rfl
  obtain ⟨hgood, hsl⟩ := hok.out (by simp)
  clear h1 h2 hok hs hgl
  go_wp2_with fail
  refine (hLt.out w2 (hq.below hbw)).mono ?_
  rintro e w3 ⟨rfl, hb3⟩
  replace hbw := bl_step hbw hb3
  replace hlk := hlk.below hb3
  clear hb3 hLt hq hk_g1 y0 y1 y2 y3 y4 y5 y6 y7 y8
  cases lt1
  · skip
    go_wp2_with fail
    refine (alive16_calls _).mono ?_
    rintro e wz ⟨rfl, hbz⟩
    replace hbw := bl_step hbw hbz
    subst hw0
    go_wp2
    go_ret
    exact ⟨rfl, hbw⟩
  by_cases hn : dep < 0
  · skip
    go_wp2_with fail
    refine (alive16_calls _).mono ?_
    rintro e wz ⟨rfl, hbz⟩
    replace hbw := bl_step hbw hbz
    subst hw0
    go_wp2
    go_ret
    exact ⟨rfl, hbw⟩
  by_cases hn4 : 4 < dep
  · skip
    go_wp2_with fail
    refine (alive16_calls _).mono ?_
    rintro e wz ⟨rfl, hbz⟩
    replace hbw := bl_step hbw hbz
    subst hw0
    go_wp2
    go_ret
    exact ⟨rfl, hbw⟩
  have hP1 := hidI (fun W (h : LkAt W gl 51 116 p (slP p ls)) => Prove_calls gl p (slP p ls) dep W hgood h hsl (by omega) (by omega))
  have hP2 := hidI (fun W (h : LkAt W gl 51 116 p (slP p ls)) => Prove_calls gl p (slP p ls) (dep + 1) W hgood h hsl (by omega) (by omega))
  have hlw := deeper_law hgood (holdsP p (slP p ls)) (depthN dep)
  have hN2 : depthN (dep + 1) = depthN dep + 1 := by unfold depthN; omega
  rw [hN2] at hP2
  clear hN2
  obtain ⟨z1, hz1⟩ : ∃ z, boxG (holdsP p (slP p ls)) (depthN dep) p.Inv = z := ⟨_, rfl⟩
  obtain ⟨z2, hz2⟩ : ∃ z, boxG (holdsP p (slP p ls)) (depthN dep + 1) p.Inv = z := ⟨_, rfl⟩
  rw [hz1] at hP1 hlw
  rw [hz2] at hP2 hlw
  clear hz1 hz2
  obtain ⟨r1, hr1⟩ : ∃ z, prRes z1 = z := ⟨_, rfl⟩
  obtain ⟨r2, hr2⟩ : ∃ z, prRes z2 = z := ⟨_, rfl⟩
  obtain ⟨n1, hn1⟩ : ∃ z, z1.1 = z := ⟨_, rfl⟩
  obtain ⟨n2, hn2⟩ : ∃ z, z2.1 = z := ⟨_, rfl⟩
  obtain ⟨L1, hL1⟩ : ∃ z, prAt z1 = z := ⟨_, rfl⟩
  obtain ⟨L2, hL2⟩ : ∃ z, prAt z2 = z := ⟨_, rfl⟩
  rw [hr1, hn1, hL1] at hP1
  rw [hr2, hn2, hL2] at hP2
  rw [hr1, hn1, hL1, hr2, hn2, hL2] at hlw
  replace hlw := hidI hlw
  have hIl : Hid (p.Inv.length = p.B.length) := by have := hgood.lens; unfold Hid; omega
  clear hr1 hr2 hn1 hn2 hL1 hL2 hgood hsl
  go_wp2_with fail
  refine (hP1.out w3 hlk).mono ?_
  rintro e w4 ⟨A1, c1, rfl, hcc1, hr1, hb4⟩
  replace hbw := bl_step hbw hb4
  replace hlk := hlk.below hb4
  clear hb4 hP1
  go_wp2_with fail
  refine (hP2.out w4 hlk).mono ?_
  rintro e w5 ⟨A2, c2, rfl, hcc2, hr2, hb5⟩
  replace hbw := bl_step hbw hb5
  replace hlk := hlk.below hb5
  replace hr1 := hr1.below hb5
  clear hb5 hP2 hcc1 hcc2
  go_upto_region 7 with fail
  have hk_g9 := blk_alloc (blk_new w5 (.cells #[.int .i64 r1, .int .i64 n1, .slice A1 L1.length c1] 58) ) (.cells #[.int .i64 r2, .int .i64 n2, .slice A2 L2.length c2] 58)
  have hk_g10 : ((w5.alloc (.cells #[.int .i64 r1, .int .i64 n1, .slice A1 L1.length c1] 58) ).alloc (.cells #[.int .i64 r2, .int .i64 n2, .slice A2 L2.length c2] 58)).heap[w5.heap.size + 1]? = some (.cells #[.int .i64 r2, .int .i64 n2, .slice A2 L2.length c2] 58) := by have h_ := blk_new (w5.alloc (.cells #[.int .i64 r1, .int .i64 n1, .slice A1 L1.length c1] 58) ) (.cells #[.int .i64 r2, .int .i64 n2, .slice A2 L2.length c2] 58); simpa using h_
  have hba := bl_alloc (bl_alloc (Below.refl w5.heap.size w5) (.cells #[.int .i64 r1, .int .i64 n1, .slice A1 L1.length c1] 58) ) (.cells #[.int .i64 r2, .int .i64 n2, .slice A2 L2.length c2] 58)
  replace hbw := bl_step hbw hba
  replace hlk := hlk.below hba
  replace hr1 := hr1.below hba
  replace hr2 := hr2.below hba
  clear hba
  generalize (w5.alloc (.cells #[.int .i64 r1, .int .i64 n1, .slice A1 L1.length c1] 58) ).alloc (.cells #[.int .i64 r2, .int .i64 n2, .slice A2 L2.length c2] 58) = W6 at *
  generalize w5.heap.size + 1 = g10 at *
  generalize w5.heap.size = g9 at *
  rcases hlw.out with ⟨rfl, rfl, rfl⟩ | ⟨hlr, hn1, hLn, hLi⟩
  · have y0 : W6.cell? ⟨g9, 0, none⟩ = some (.int .i64 0) := blk_cell hk_g9 0 (by rfl)
    clear hlw hr1 hr2 hlk hIl
    go_wp2_with fail
    refine (alive16_calls _).mono ?_
    rintro e w7 ⟨rfl, hb7⟩
    replace hbw := bl_step hbw hb7
    replace hk_g9 := bl_block hb7 hk_g9
    replace hk_g10 := bl_block hb7 hk_g10
    clear y0 hb7
    have y1 : w7.cell? ⟨g9, 1, none⟩ = some (.int .i64 n1) := blk_cell hk_g9 1 (by rfl)
    have u0 : w7.cell? ⟨g10, 0, none⟩ = some (.int .i64 0) := blk_cell hk_g10 0 (by rfl)
    have u1 : w7.cell? ⟨g10, 1, none⟩ = some (.int .i64 n1) := blk_cell hk_g10 1 (by rfl)
    subst hw0
    go_wp2
    go_ret
    exact ⟨rfl, hbw⟩
  obtain ⟨gk, aS, cS, hk_gl, -, -, hkit⟩ := hlk
  have hIn := hidI (fun W (h : KitAt W gk 116 p) (h2 : RdI W A1 L1) => Inside_calls gk p L1 A1 c1 W h hIl.out h2)
  rw [hLi] at hIn
  have hge : Hid (decide ((1 : Int) ≤ (n1 : Int)) = true) := decide_eq_true (by omega)
  replace hLn := hidI hLn
  clear hlw hLi hn1 hIl
  obtain ⟨B, hB⟩ : ∃ z, p.B.length = z := ⟨_, rfl⟩
  have hDm := hidI (fun W (h : KitAt W gk 116 p) => Dim_calls gk p W h)
  rw [hB] at hLn hDm
  replace hB := hidI hB
  have y0 : W6.cell? ⟨g9, 0, none⟩ = some (.int .i64 r1) := blk_cell hk_g9 0 (by rfl)
  rcases hlr with ⟨rfl, rfl, hLL⟩ | rfl
  · have hSm := hidI (fun W (h1 : RdI W A1 L1) (h2 : RdI W A2 L2) => SameInts_calls A1 A2 L1 L2 c1 c2 W h1 h2)
    rw [show sameI L1 L2 = true from by rw [hLL]; simp [sameI]] at hSm
    replace hLL := hidI hLL
    go_upto_region 9 with fail
    clear y0
    obtain ⟨B0, hB0⟩ : ∃ B, B = W6.heap.size := ⟨_, rfl⟩
    have c0_hsz : B0 ≤ W6.heap.size := Nat.le_of_eq hB0
    have hw0B0 : w0.heap.size ≤ B0 := by rw [hB0]; exact hbw.size
    have c0_hle : W6.heap.size ≤ B0 := Nat.le_of_eq hB0.symm
    have c0_hk_gl := blk_drew hk_gl
    have c0_lt_gl : gl < B0 := by rw [hB0]; exact blk_lt hk_gl
    have c0_hk_g9 := blk_drew hk_g9
    have c0_lt_g9 : g9 < B0 := by rw [hB0]; exact blk_lt hk_g9
    have c0_hk_g10 := blk_drew hk_g10
    have c0_lt_g10 : g10 < B0 := by rw [hB0]; exact blk_lt hk_g10
    have c0_hbw := bl_drew hbw
    clear hB0 hbw hk_gl hk_g9 hk_g10
    have c0_hkit := hkit.below (bl_drew (Below.refl W6.heap.size W6))
    have c0_hr1 := hr1.below (bl_drew (Below.refl W6.heap.size W6))
    have c0_hr2 := hr2.below (bl_drew (Below.refl W6.heap.size W6))
    clear hkit hr1 hr2
    refine region_lin (n := 44) (st := ?st15) { R := [0, 1, 3, 7, 15, 31, 63, 127, 255, 511, 127, 1151, 3199, 7295, 15487, 32767, 65535, 131071, 262143, 524287, 1048575, 2097151, 262143, 4456447, 16777215, 33554431, 67108863, 134217727, 268435455, 536870911, 1073741823, 2147483647, 4294967295, 8589934591, 17179869183, 34359738367, 68719476735, 34359738367, 171798691839, 549755813887, 1099511627775, 2199023255551, 4398046511103, 8796093022207], kill := [[], [], [], [], [], [], [], [], [], [], [], [], [], [], [], [], [], [], [], [], [], [], [], [], [], [], [], [], [], [], [], [], [], [], [], [], [], [], [], [], [], [], [], []], cls := [0, 0, 0, 0, 0, 0, 0, 0, 0, 0, 0, 0, 0, 0, 0, 0, 0, 0, 0, 0, 0, 0, 0, 0, 0, 0, 0, 0, 0, 0, 0, 0, 0, 0, 0, 0, 0, 0, 0, 0, 0, 0, 0, 0], dst := [some 62, some 63, some 64, some 65, some 66, some 67, some 68, some 69, some 70, some 71, some 72, some 73, some 74, some 75, some 76, some 77, some 78, some 79, some 80, some 81, some 82, some 83, some 84, some 85, some 86, some 87, some 88, some 89, some 90, some 91, some 92, some 93, some 94, some 95, some 96, some 97, some 98, some 99, some 100, some 101, some 102, some 103, some 104, some 6], pre := [[], [0], [1], [1, 2], [1, 3], [1, 4], [5], [6], [6, 7], [6, 8], [6], [6, 10], [6, 11], [6, 12], [6, 13], [6, 9, 14], [6, 15], [16], [17], [17, 18], [17, 19], [17, 20], [17], [17, 22], [17, 21, 23], [17, 24], [25], [26], [26, 27], [26, 28], [26, 29], [30], [30, 31], [30, 32], [30, 33], [34], [34, 35], [34], [34, 37], [34, 36, 38], [30, 34, 39], [26, 30, 40], [26, 41], [42]], cov := [], fin := [43], locs := [], tgt := [none], abt := [none, none, none, none, none, none, none, none, none, none, none, none, none, none, none, none, none, none, none, none, none, none, none, none, none, none, none, none, none, none, none, none, none, none, none, none, none, none, none, none, none, none, none, none] }
      [.v [62] (fun vs => (vs.getD 0 undef) = .bool true),
       .v [63] (fun vs => (vs.getD 0 undef) = .bool true),
       .v [64] (fun vs => (vs.getD 0 undef) = .pointer (some ⟨g9, 1, none⟩)),
       .v [65] (fun vs => (vs.getD 0 undef) = .int .i64 (n1 : Int)),
       .v [66] (fun vs => (vs.getD 0 undef) = .bool true),
       .v [67] (fun vs => (vs.getD 0 undef) = .bool true),
       .v [68] (fun vs => (vs.getD 0 undef) = .bool true),
       .v [69] (fun vs => (vs.getD 0 undef) = .pointer (some ⟨g9, 2, none⟩)),
       .v [70] (fun vs => (vs.getD 0 undef) = .slice A1 L1.length c1),
       .v [71] (fun vs => (vs.getD 0 undef) = .int .i64 (L1.length : Int)),
       .v [72] (fun vs => (vs.getD 0 undef) = .pointer (some ⟨gl, 0, none⟩)),
       .v [73] (fun vs => (vs.getD 0 undef) = .pointer (some ⟨gl, 0, none⟩)),
       .v [74] (fun vs => (vs.getD 0 undef) = .pointer (some ⟨gl, 0, none⟩)),
       .v [75] (fun vs => (vs.getD 0 undef) = .pointer (some ⟨gk, 0, none⟩)),
       .v [76] (fun vs => (vs.getD 0 undef) = .int .i64 (B : Int)),
       .v [77] (fun vs => (vs.getD 0 undef) = .bool true),
       .v [78] (fun vs => (vs.getD 0 undef) = .bool true),
       .v [79] (fun vs => (vs.getD 0 undef) = .bool true),
       .v [80] (fun vs => (vs.getD 0 undef) = .pointer (some ⟨gl, 0, none⟩)),
       .v [81] (fun vs => (vs.getD 0 undef) = .pointer (some ⟨gl, 0, none⟩)),
       .v [82] (fun vs => (vs.getD 0 undef) = .pointer (some ⟨gl, 0, none⟩)),
       .v [83] (fun vs => (vs.getD 0 undef) = .pointer (some ⟨gk, 0, none⟩)),
       .v [84] (fun vs => (vs.getD 0 undef) = .pointer (some ⟨g9, 2, none⟩)),
       .v [85] (fun vs => (vs.getD 0 undef) = .slice A1 L1.length c1),
       .v [86] (fun vs => (vs.getD 0 undef) = .bool true),
       .v [87] (fun vs => (vs.getD 0 undef) = .bool true),
       .v [88] (fun vs => (vs.getD 0 undef) = .bool true),
       .v [89] (fun vs => (vs.getD 0 undef) = .pointer (some ⟨g9, 0, none⟩)),
       .v [90] (fun vs => (vs.getD 0 undef) = .int .i64 1),
       .v [91] (fun vs => (vs.getD 0 undef) = .bool false),
       .v [92] (fun vs => (vs.getD 0 undef) = .bool false),
       .v [93] (fun vs => (vs.getD 0 undef) = .pointer (some ⟨g10, 0, none⟩)),
       .v [94] (fun vs => (vs.getD 0 undef) = .int .i64 1),
       .v [95] (fun vs => (vs.getD 0 undef) = .bool true),
       .v [96] (fun vs => (vs.getD 0 undef) = .bool true),
       .v [97] (fun vs => (vs.getD 0 undef) = .pointer (some ⟨g9, 2, none⟩)),
       .v [98] (fun vs => (vs.getD 0 undef) = .slice A1 L1.length c1),
       .v [99] (fun vs => (vs.getD 0 undef) = .pointer (some ⟨g10, 2, none⟩)),
       .v [100] (fun vs => (vs.getD 0 undef) = .slice A2 L2.length c2),
       .v [101] (fun vs => (vs.getD 0 undef) = .bool true),
       .v [102] (fun vs => (vs.getD 0 undef) = .bool true),
       .v [103] (fun vs => (vs.getD 0 undef) = .bool true),
       .v [104] (fun vs => (vs.getD 0 undef) = .bool true),
       .v [6] (fun vs => (vs.getD 0 undef) = .bool true)]
      (fun w => B0 ≤ w.heap.size ∧ w.heap[gl]? = some (.cells #[.pointer (some ⟨gk, 0, none⟩), .slice aS (slP p ls).length cS] 51 (0, 0)) ∧ gl < B0 ∧ w.heap[g9]? = some (.cells #[.int .i64 1, .int .i64 (n1 : Int), .slice A1 L1.length c1] 58 (0, 0)) ∧ g9 < B0 ∧ w.heap[g10]? = some (.cells #[.int .i64 1, .int .i64 (n2 : Int), .slice A2 L2.length c2] 58 (0, 0)) ∧ g10 < B0 ∧ Below w0.heap.size w0 w ∧ KitAt w gk 116 p ∧ RdI w A1 L1 ∧ RdI w A2 L2)
      (fun c => ([fun s w w' => Below w.heap.size w w'] : List ((Nat → Value) → World → World → Prop)).getD c (fun s w w' => w' = w))
      [6, 62, 63, 64, 65, 66, 67, 68, 69, 70, 71, 72, 73, 74, 75, 76, 77, 78, 79, 80, 81, 82, 83, 84, 85, 86, 87, 88, 89, 90, 91, 92, 93, 94, 95, 96, 97, 98, 99, 100, 101, 102, 103, 104] (by kernel_rfl) ⟨by kernel_rfl, by kernel_rfl, by kernel_rfl, by kernel_rfl, by kernel_rfl, by kernel_rfl, by kernel_rfl, by kernel_rfl⟩ (fun s => ?_) ?_ ?_ ?_ ?_ ?_ (fun s w hC hA => ?_)
    rotate_left
    · simp only [fillS, List.foldl, List.setIfInBounds_toArray, List.set_cons_zero, List.set_cons_succ]; rfl
    · exact ⟨c0_hsz, c0_hk_gl, c0_lt_gl, c0_hk_g9, c0_lt_g9, c0_hk_g10, c0_lt_g10, c0_hbw, c0_hkit, c0_hr1, c0_hr2⟩
    · intro c s w w' hE
      match c, hE with
      | 0, hE => exact Below.size hE
      | c + 1, hE => cases hE; exact Nat.le_refl _
    · rintro c s w w' ⟨hsz, hk_gl, lt_gl, hk_g9, lt_g9, hk_g10, lt_g10, hbw, hkit, hr1, hr2⟩ hE
      match c, hE with
      | 0, hE => replace hE : Below w.heap.size w w' := hE; exact ⟨Nat.le_trans hsz hE.size, bl_block hE hk_gl, lt_gl, bl_block hE hk_g9, lt_g9, bl_block hE hk_g10, lt_g10, bl_step hbw hE, hkit.below hE, hr1.below hE, hr2.below hE⟩
      | c + 1, hE => cases hE; exact ⟨hsz, hk_gl, lt_gl, hk_g9, lt_g9, hk_g10, lt_g10, hbw, hkit, hr1, hr2⟩
    · exact trivial
    · skip
      refine StepsP.cons ?_ ?_
      · intro Q s w hC hA K hK
        obtain ⟨hsz, hk_gl, lt_gl, hk_g9, lt_g9, hk_g10, lt_g10, hbw, hkit, hr1, hr2⟩ := hC
        clear hA
        refine guard_none (by rfl) ?_
        refine wp_call (N := some 62) (by rfl) Try.func27 (by kernel_rfl) #[] rfl (by rfl) ?_ ?_
        · show [] = []
          first | rfl | simp only []
        refine (alive16_calls _).mono ?_
        rintro e w1 ⟨rfl, hb⟩
        refine ⟨_, rfl, ?_⟩
        exact hK.out _ _ hb rfl (fun h => by cases h)
      refine StepsP.cons ?_ ?_
      · intro Q s w hC hA K hK
        clear hC
        obtain ⟨f0, -⟩ := hA
        replace f0 : (s 62) = .bool true := f0
        refine guard_none (by rfl) ?_
        refine wp_value (v := .bool true) (w1 := w) ?_ (hK.out _ w (Below.refl _ _) rfl (fun h => by cases h))
        try simp only [f0]
        go_simp
        try (first | done | rfl | (simp; done))
      refine StepsP.cons ?_ ?_
      · intro Q s w hC hA K hK
        clear hC
        obtain ⟨f1, -⟩ := hA
        replace f1 : (s 63) = .bool true := f1
        refine guard_on (d := 63) (want := true) (by rfl) (by rfl) ?_ ?_
        · exact f1
        refine wp_value (v := .pointer (some ⟨g9, 1, none⟩)) (w1 := w) ?_ (hK.out _ w (Below.refl _ _) rfl (fun h => by cases h))
        try simp only [f1]
        go_simp
        try (first | done | rfl | (simp; done))
      refine StepsP.cons ?_ ?_
      · intro Q s w hC hA K hK
        obtain ⟨hsz, hk_gl, lt_gl, hk_g9, lt_g9, hk_g10, lt_g10, hbw, hkit, hr1, hr2⟩ := hC
        obtain ⟨f1, f2, -⟩ := hA
        replace f1 : (s 63) = .bool true := f1
        replace f2 : (s 64) = .pointer (some ⟨g9, 1, none⟩) := f2
        refine guard_on (d := 63) (want := true) (by rfl) (by rfl) ?_ ?_
        · exact f1
        have m0_g9 : w.cell? ⟨g9, 0, none⟩ = some (.int .i64 1) := blk_cell hk_g9 0 (by rfl)
        have m1_g9 : w.cell? ⟨g9, 1, none⟩ = some (.int .i64 (n1 : Int)) := blk_cell hk_g9 1 (by rfl)
        have m2_g9 : w.cell? ⟨g9, 2, none⟩ = some (.slice A1 L1.length c1) := blk_cell hk_g9 2 (by rfl)
        refine wp_value (v := .int .i64 (n1 : Int)) (w1 := w) ?_ (hK.out _ w (Below.refl _ _) rfl (fun h => by cases h))
        try simp only [f1, f2]
        go_simp
        try (first | done | rfl | (simp; done))
      refine StepsP.cons ?_ ?_
      · intro Q s w hC hA K hK
        clear hC
        obtain ⟨f1, f3, -⟩ := hA
        replace f1 : (s 63) = .bool true := f1
        replace f3 : (s 65) = .int .i64 (n1 : Int) := f3
        refine guard_on (d := 63) (want := true) (by rfl) (by rfl) ?_ ?_
        · exact f1
        refine wp_value (v := .bool true) (w1 := w) ?_ (hK.out _ w (Below.refl _ _) rfl (fun h => by cases h))
        try simp only [f1, f3]
        go_simp
        first | done | exact hge.out | (simp [hge.out]; done) | (simpa using hge.out)
      refine StepsP.cons ?_ ?_
      · intro Q s w hC hA K hK
        clear hC
        obtain ⟨f1, f4, -⟩ := hA
        replace f1 : (s 63) = .bool true := f1
        replace f4 : (s 66) = .bool true := f4
        refine guard_none (by rfl) ?_
        refine wp_value (v := .bool true) (w1 := w) ?_ (hK.out _ w (Below.refl _ _) rfl (fun h => by cases h))
        try simp only [f1, f4]
        go_simp
        try (first | done | rfl | (simp; done))
      refine StepsP.cons ?_ ?_
      · intro Q s w hC hA K hK
        clear hC
        obtain ⟨f5, -⟩ := hA
        replace f5 : (s 67) = .bool true := f5
        refine guard_none (by rfl) ?_
        refine wp_value (v := .bool true) (w1 := w) ?_ (hK.out _ w (Below.refl _ _) rfl (fun h => by cases h))
        try simp only [f5]
        go_simp
        try (first | done | rfl | (simp; done))
      refine StepsP.cons ?_ ?_
      · intro Q s w hC hA K hK
        clear hC
        obtain ⟨f6, -⟩ := hA
        replace f6 : (s 68) = .bool true := f6
        refine guard_on (d := 68) (want := true) (by rfl) (by rfl) ?_ ?_
        · exact f6
        refine wp_value (v := .pointer (some ⟨g9, 2, none⟩)) (w1 := w) ?_ (hK.out _ w (Below.refl _ _) rfl (fun h => by cases h))
        try simp only [f6]
        go_simp
        try (first | done | rfl | (simp; done))
      refine StepsP.cons ?_ ?_
      · intro Q s w hC hA K hK
        obtain ⟨hsz, hk_gl, lt_gl, hk_g9, lt_g9, hk_g10, lt_g10, hbw, hkit, hr1, hr2⟩ := hC
        obtain ⟨f6, f7, -⟩ := hA
        replace f6 : (s 68) = .bool true := f6
        replace f7 : (s 69) = .pointer (some ⟨g9, 2, none⟩) := f7
        refine guard_on (d := 68) (want := true) (by rfl) (by rfl) ?_ ?_
        · exact f6
        have m0_g9 : w.cell? ⟨g9, 0, none⟩ = some (.int .i64 1) := blk_cell hk_g9 0 (by rfl)
        have m1_g9 : w.cell? ⟨g9, 1, none⟩ = some (.int .i64 (n1 : Int)) := blk_cell hk_g9 1 (by rfl)
        have m2_g9 : w.cell? ⟨g9, 2, none⟩ = some (.slice A1 L1.length c1) := blk_cell hk_g9 2 (by rfl)
        refine wp_value (v := .slice A1 L1.length c1) (w1 := w) ?_ (hK.out _ w (Below.refl _ _) rfl (fun h => by cases h))
        try simp only [f6, f7]
        go_simp
        try (first | done | rfl | (simp; done))
      refine StepsP.cons ?_ ?_
      · intro Q s w hC hA K hK
        clear hC
        obtain ⟨f6, f8, -⟩ := hA
        replace f6 : (s 68) = .bool true := f6
        replace f8 : (s 70) = .slice A1 L1.length c1 := f8
        refine guard_on (d := 68) (want := true) (by rfl) (by rfl) ?_ ?_
        · exact f6
        refine wp_value (v := .int .i64 (L1.length : Int)) (w1 := w) ?_ (hK.out _ w (Below.refl _ _) rfl (fun h => by cases h))
        try simp only [f6, f8]
        go_simp
        first | done | rfl | (simp; done)
      refine StepsP.cons ?_ ?_
      · intro Q s w hC hA K hK
        clear hC
        obtain ⟨f6, -⟩ := hA
        replace f6 : (s 68) = .bool true := f6
        refine guard_on (d := 68) (want := true) (by rfl) (by rfl) ?_ ?_
        · exact f6
        refine wp_value (v := .pointer (some ⟨gl, 0, none⟩)) (w1 := w) ?_ (hK.out _ w (Below.refl _ _) rfl (fun h => by cases h))
        try simp only [f6]
        go_simp
        try (first | done | rfl | (simp; done))
      refine StepsP.cons ?_ ?_
      · intro Q s w hC hA K hK
        clear hC
        obtain ⟨f6, f10, -⟩ := hA
        replace f6 : (s 68) = .bool true := f6
        replace f10 : (s 72) = .pointer (some ⟨gl, 0, none⟩) := f10
        refine guard_on (d := 68) (want := true) (by rfl) (by rfl) ?_ ?_
        · exact f6
        refine wp_value (v := .pointer (some ⟨gl, 0, none⟩)) (w1 := w) ?_ (hK.out _ w (Below.refl _ _) rfl (fun h => by cases h))
        try simp only [f6, f10]
        go_simp
        try (first | done | rfl | (simp; done))
      refine StepsP.cons ?_ ?_
      · intro Q s w hC hA K hK
        clear hC
        obtain ⟨f6, f11, -⟩ := hA
        replace f6 : (s 68) = .bool true := f6
        replace f11 : (s 73) = .pointer (some ⟨gl, 0, none⟩) := f11
        refine guard_on (d := 68) (want := true) (by rfl) (by rfl) ?_ ?_
        · exact f6
        refine wp_value (v := .pointer (some ⟨gl, 0, none⟩)) (w1 := w) ?_ (hK.out _ w (Below.refl _ _) rfl (fun h => by cases h))
        try simp only [f6, f11]
        go_simp
        try (first | done | rfl | (simp; done))
      refine StepsP.cons ?_ ?_
      · intro Q s w hC hA K hK
        obtain ⟨hsz, hk_gl, lt_gl, hk_g9, lt_g9, hk_g10, lt_g10, hbw, hkit, hr1, hr2⟩ := hC
        obtain ⟨f6, f12, -⟩ := hA
        replace f6 : (s 68) = .bool true := f6
        replace f12 : (s 74) = .pointer (some ⟨gl, 0, none⟩) := f12
        refine guard_on (d := 68) (want := true) (by rfl) (by rfl) ?_ ?_
        · exact f6
        have m0_gl : w.cell? ⟨gl, 0, none⟩ = some (.pointer (some ⟨gk, 0, none⟩)) := blk_cell hk_gl 0 (by rfl)
        have m1_gl : w.cell? ⟨gl, 1, none⟩ = some (.slice aS (slP p ls).length cS) := blk_cell hk_gl 1 (by rfl)
        refine wp_value (v := .pointer (some ⟨gk, 0, none⟩)) (w1 := w) ?_ (hK.out _ w (Below.refl _ _) rfl (fun h => by cases h))
        try simp only [f6, f12]
        go_simp
        try (first | done | rfl | (simp; done))
      refine StepsP.cons ?_ ?_
      · intro Q s w hC hA K hK
        obtain ⟨hsz, hk_gl, lt_gl, hk_g9, lt_g9, hk_g10, lt_g10, hbw, hkit, hr1, hr2⟩ := hC
        obtain ⟨f6, f13, -⟩ := hA
        replace f6 : (s 68) = .bool true := f6
        replace f13 : (s 75) = .pointer (some ⟨gk, 0, none⟩) := f13
        refine guard_on (d := 68) (want := true) (by rfl) (by rfl) ?_ ?_
        · exact f6
        refine wp_call (N := some 76) (by rfl) Try.func17 (by kernel_rfl) #[.pointer (some ⟨gk, 0, none⟩)] rfl (by rfl) ?_ ?_
        · show [s 75] = [.pointer (some ⟨gk, 0, none⟩)]
          first | rfl | simp only [f6, f13]
        refine (hDm.out _ hkit).mono ?_
        rintro e w1 ⟨rfl, rfl⟩
        refine ⟨_, rfl, ?_⟩
        exact hK.out _ _ (Below.refl _ _) rfl (fun h => by cases h)
      refine StepsP.cons ?_ ?_
      · intro Q s w hC hA K hK
        clear hC
        obtain ⟨f6, f9, f14, -⟩ := hA
        replace f6 : (s 68) = .bool true := f6
        replace f9 : (s 71) = .int .i64 (L1.length : Int) := f9
        replace f14 : (s 76) = .int .i64 (B : Int) := f14
        refine guard_on (d := 68) (want := true) (by rfl) (by rfl) ?_ ?_
        · exact f6
        refine wp_value (v := .bool true) (w1 := w) ?_ (hK.out _ w (Below.refl _ _) rfl (fun h => by cases h))
        try simp only [f6, f9, f14]
        go_simp
        first | done | (simp [hLn.out]; done)
      refine StepsP.cons ?_ ?_
      · intro Q s w hC hA K hK
        clear hC
        obtain ⟨f6, f15, -⟩ := hA
        replace f6 : (s 68) = .bool true := f6
        replace f15 : (s 77) = .bool true := f15
        refine guard_none (by rfl) ?_
        refine wp_value (v := .bool true) (w1 := w) ?_ (hK.out _ w (Below.refl _ _) rfl (fun h => by cases h))
        try simp only [f6, f15]
        go_simp
        try (first | done | rfl | (simp; done))
      refine StepsP.cons ?_ ?_
      · intro Q s w hC hA K hK
        clear hC
        obtain ⟨f16, -⟩ := hA
        replace f16 : (s 78) = .bool true := f16
        refine guard_none (by rfl) ?_
        refine wp_value (v := .bool true) (w1 := w) ?_ (hK.out _ w (Below.refl _ _) rfl (fun h => by cases h))
        try simp only [f16]
        go_simp
        try (first | done | rfl | (simp; done))
      refine StepsP.cons ?_ ?_
      · intro Q s w hC hA K hK
        clear hC
        obtain ⟨f17, -⟩ := hA
        replace f17 : (s 79) = .bool true := f17
        refine guard_on (d := 79) (want := true) (by rfl) (by rfl) ?_ ?_
        · exact f17
        refine wp_value (v := .pointer (some ⟨gl, 0, none⟩)) (w1 := w) ?_ (hK.out _ w (Below.refl _ _) rfl (fun h => by cases h))
        try simp only [f17]
        go_simp
        try (first | done | rfl | (simp; done))
      refine StepsP.cons ?_ ?_
      · intro Q s w hC hA K hK
        clear hC
        obtain ⟨f17, f18, -⟩ := hA
        replace f17 : (s 79) = .bool true := f17
        replace f18 : (s 80) = .pointer (some ⟨gl, 0, none⟩) := f18
        refine guard_on (d := 79) (want := true) (by rfl) (by rfl) ?_ ?_
        · exact f17
        refine wp_value (v := .pointer (some ⟨gl, 0, none⟩)) (w1 := w) ?_ (hK.out _ w (Below.refl _ _) rfl (fun h => by cases h))
        try simp only [f17, f18]
        go_simp
        try (first | done | rfl | (simp; done))
      refine StepsP.cons ?_ ?_
      · intro Q s w hC hA K hK
        clear hC
        obtain ⟨f17, f19, -⟩ := hA
        replace f17 : (s 79) = .bool true := f17
        replace f19 : (s 81) = .pointer (some ⟨gl, 0, none⟩) := f19
        refine guard_on (d := 79) (want := true) (by rfl) (by rfl) ?_ ?_
        · exact f17
        refine wp_value (v := .pointer (some ⟨gl, 0, none⟩)) (w1 := w) ?_ (hK.out _ w (Below.refl _ _) rfl (fun h => by cases h))
        try simp only [f17, f19]
        go_simp
        try (first | done | rfl | (simp; done))
      refine StepsP.cons ?_ ?_
      · intro Q s w hC hA K hK
        obtain ⟨hsz, hk_gl, lt_gl, hk_g9, lt_g9, hk_g10, lt_g10, hbw, hkit, hr1, hr2⟩ := hC
        obtain ⟨f17, f20, -⟩ := hA
        replace f17 : (s 79) = .bool true := f17
        replace f20 : (s 82) = .pointer (some ⟨gl, 0, none⟩) := f20
        refine guard_on (d := 79) (want := true) (by rfl) (by rfl) ?_ ?_
        · exact f17
        have m0_gl : w.cell? ⟨gl, 0, none⟩ = some (.pointer (some ⟨gk, 0, none⟩)) := blk_cell hk_gl 0 (by rfl)
        have m1_gl : w.cell? ⟨gl, 1, none⟩ = some (.slice aS (slP p ls).length cS) := blk_cell hk_gl 1 (by rfl)
        refine wp_value (v := .pointer (some ⟨gk, 0, none⟩)) (w1 := w) ?_ (hK.out _ w (Below.refl _ _) rfl (fun h => by cases h))
        try simp only [f17, f20]
        go_simp
        try (first | done | rfl | (simp; done))
      refine StepsP.cons ?_ ?_
      · intro Q s w hC hA K hK
        clear hC
        obtain ⟨f17, -⟩ := hA
        replace f17 : (s 79) = .bool true := f17
        refine guard_on (d := 79) (want := true) (by rfl) (by rfl) ?_ ?_
        · exact f17
        refine wp_value (v := .pointer (some ⟨g9, 2, none⟩)) (w1 := w) ?_ (hK.out _ w (Below.refl _ _) rfl (fun h => by cases h))
        try simp only [f17]
        go_simp
        try (first | done | rfl | (simp; done))
      refine StepsP.cons ?_ ?_
      · intro Q s w hC hA K hK
        obtain ⟨hsz, hk_gl, lt_gl, hk_g9, lt_g9, hk_g10, lt_g10, hbw, hkit, hr1, hr2⟩ := hC
        obtain ⟨f17, f22, -⟩ := hA
        replace f17 : (s 79) = .bool true := f17
        replace f22 : (s 84) = .pointer (some ⟨g9, 2, none⟩) := f22
        refine guard_on (d := 79) (want := true) (by rfl) (by rfl) ?_ ?_
        · exact f17
        have m0_g9 : w.cell? ⟨g9, 0, none⟩ = some (.int .i64 1) := blk_cell hk_g9 0 (by rfl)
        have m1_g9 : w.cell? ⟨g9, 1, none⟩ = some (.int .i64 (n1 : Int)) := blk_cell hk_g9 1 (by rfl)
        have m2_g9 : w.cell? ⟨g9, 2, none⟩ = some (.slice A1 L1.length c1) := blk_cell hk_g9 2 (by rfl)
        refine wp_value (v := .slice A1 L1.length c1) (w1 := w) ?_ (hK.out _ w (Below.refl _ _) rfl (fun h => by cases h))
        try simp only [f17, f22]
        go_simp
        try (first | done | rfl | (simp; done))
      refine StepsP.cons ?_ ?_
      · intro Q s w hC hA K hK
        obtain ⟨hsz, hk_gl, lt_gl, hk_g9, lt_g9, hk_g10, lt_g10, hbw, hkit, hr1, hr2⟩ := hC
        obtain ⟨f17, f21, f23, -⟩ := hA
        replace f17 : (s 79) = .bool true := f17
        replace f21 : (s 83) = .pointer (some ⟨gk, 0, none⟩) := f21
        replace f23 : (s 85) = .slice A1 L1.length c1 := f23
        refine guard_on (d := 79) (want := true) (by rfl) (by rfl) ?_ ?_
        · exact f17
        refine wp_call (N := some 86) (by rfl) Try.func32 (by kernel_rfl) #[.pointer (some ⟨gk, 0, none⟩), .slice A1 L1.length c1] rfl (by rfl) ?_ ?_
        · show [s 83, s 85] = [.pointer (some ⟨gk, 0, none⟩), .slice A1 L1.length c1]
          first | rfl | simp only [f17, f21, f23]
        refine (hIn.out _ hkit hr1).mono ?_
        rintro e w1 ⟨rfl, hb⟩
        refine ⟨_, rfl, ?_⟩
        exact hK.out _ _ hb rfl (fun h => by cases h)
      refine StepsP.cons ?_ ?_
      · intro Q s w hC hA K hK
        clear hC
        obtain ⟨f17, f24, -⟩ := hA
        replace f17 : (s 79) = .bool true := f17
        replace f24 : (s 86) = .bool true := f24
        refine guard_none (by rfl) ?_
        refine wp_value (v := .bool true) (w1 := w) ?_ (hK.out _ w (Below.refl _ _) rfl (fun h => by cases h))
        try simp only [f17, f24]
        go_simp
        try (first | done | rfl | (simp; done))
      refine StepsP.cons ?_ ?_
      · intro Q s w hC hA K hK
        clear hC
        obtain ⟨f25, -⟩ := hA
        replace f25 : (s 87) = .bool true := f25
        refine guard_none (by rfl) ?_
        refine wp_value (v := .bool true) (w1 := w) ?_ (hK.out _ w (Below.refl _ _) rfl (fun h => by cases h))
        try simp only [f25]
        go_simp
        try (first | done | rfl | (simp; done))
      refine StepsP.cons ?_ ?_
      · intro Q s w hC hA K hK
        clear hC
        obtain ⟨f26, -⟩ := hA
        replace f26 : (s 88) = .bool true := f26
        refine guard_on (d := 88) (want := true) (by rfl) (by rfl) ?_ ?_
        · exact f26
        refine wp_value (v := .pointer (some ⟨g9, 0, none⟩)) (w1 := w) ?_ (hK.out _ w (Below.refl _ _) rfl (fun h => by cases h))
        try simp only [f26]
        go_simp
        try (first | done | rfl | (simp; done))
      refine StepsP.cons ?_ ?_
      · intro Q s w hC hA K hK
        obtain ⟨hsz, hk_gl, lt_gl, hk_g9, lt_g9, hk_g10, lt_g10, hbw, hkit, hr1, hr2⟩ := hC
        obtain ⟨f26, f27, -⟩ := hA
        replace f26 : (s 88) = .bool true := f26
        replace f27 : (s 89) = .pointer (some ⟨g9, 0, none⟩) := f27
        refine guard_on (d := 88) (want := true) (by rfl) (by rfl) ?_ ?_
        · exact f26
        have m0_g9 : w.cell? ⟨g9, 0, none⟩ = some (.int .i64 1) := blk_cell hk_g9 0 (by rfl)
        have m1_g9 : w.cell? ⟨g9, 1, none⟩ = some (.int .i64 (n1 : Int)) := blk_cell hk_g9 1 (by rfl)
        have m2_g9 : w.cell? ⟨g9, 2, none⟩ = some (.slice A1 L1.length c1) := blk_cell hk_g9 2 (by rfl)
        refine wp_value (v := .int .i64 1) (w1 := w) ?_ (hK.out _ w (Below.refl _ _) rfl (fun h => by cases h))
        try simp only [f26, f27]
        go_simp
        try (first | done | rfl | (simp; done))
      refine StepsP.cons ?_ ?_
      · intro Q s w hC hA K hK
        clear hC
        obtain ⟨f26, f28, -⟩ := hA
        replace f26 : (s 88) = .bool true := f26
        replace f28 : (s 90) = .int .i64 1 := f28
        refine guard_on (d := 88) (want := true) (by rfl) (by rfl) ?_ ?_
        · exact f26
        refine wp_value (v := .bool false) (w1 := w) ?_ (hK.out _ w (Below.refl _ _) rfl (fun h => by cases h))
        try simp only [f26, f28]
        go_simp
        try (first | done | rfl | (simp; done))
      refine StepsP.cons ?_ ?_
      · intro Q s w hC hA K hK
        clear hC
        obtain ⟨f26, f29, -⟩ := hA
        replace f26 : (s 88) = .bool true := f26
        replace f29 : (s 91) = .bool false := f29
        refine guard_on (d := 88) (want := true) (by rfl) (by rfl) ?_ ?_
        · exact f26
        refine wp_value (v := .bool false) (w1 := w) ?_ (hK.out _ w (Below.refl _ _) rfl (fun h => by cases h))
        try simp only [f26, f29]
        go_simp
        try (first | done | rfl | (simp; done))
      refine StepsP.cons ?_ ?_
      · intro Q s w hC hA K hK
        clear hC
        obtain ⟨f30, -⟩ := hA
        replace f30 : (s 92) = .bool false := f30
        refine guard_on (d := 92) (want := false) (by rfl) (by rfl) ?_ ?_
        · exact f30
        refine wp_value (v := .pointer (some ⟨g10, 0, none⟩)) (w1 := w) ?_ (hK.out _ w (Below.refl _ _) rfl (fun h => by cases h))
        try simp only [f30]
        go_simp
        try (first | done | rfl | (simp; done))
      refine StepsP.cons ?_ ?_
      · intro Q s w hC hA K hK
        obtain ⟨hsz, hk_gl, lt_gl, hk_g9, lt_g9, hk_g10, lt_g10, hbw, hkit, hr1, hr2⟩ := hC
        obtain ⟨f30, f31, -⟩ := hA
        replace f30 : (s 92) = .bool false := f30
        replace f31 : (s 93) = .pointer (some ⟨g10, 0, none⟩) := f31
        refine guard_on (d := 92) (want := false) (by rfl) (by rfl) ?_ ?_
        · exact f30
        have m0_g10 : w.cell? ⟨g10, 0, none⟩ = some (.int .i64 1) := blk_cell hk_g10 0 (by rfl)
        have m1_g10 : w.cell? ⟨g10, 1, none⟩ = some (.int .i64 (n2 : Int)) := blk_cell hk_g10 1 (by rfl)
        have m2_g10 : w.cell? ⟨g10, 2, none⟩ = some (.slice A2 L2.length c2) := blk_cell hk_g10 2 (by rfl)
        refine wp_value (v := .int .i64 1) (w1 := w) ?_ (hK.out _ w (Below.refl _ _) rfl (fun h => by cases h))
        try simp only [f30, f31]
        go_simp
        try (first | done | rfl | (simp; done))
      refine StepsP.cons ?_ ?_
      · intro Q s w hC hA K hK
        clear hC
        obtain ⟨f30, f32, -⟩ := hA
        replace f30 : (s 92) = .bool false := f30
        replace f32 : (s 94) = .int .i64 1 := f32
        refine guard_on (d := 92) (want := false) (by rfl) (by rfl) ?_ ?_
        · exact f30
        refine wp_value (v := .bool true) (w1 := w) ?_ (hK.out _ w (Below.refl _ _) rfl (fun h => by cases h))
        try simp only [f30, f32]
        go_simp
        try (first | done | rfl | (simp; done))
      refine StepsP.cons ?_ ?_
      · intro Q s w hC hA K hK
        clear hC
        obtain ⟨f30, f33, -⟩ := hA
        replace f30 : (s 92) = .bool false := f30
        replace f33 : (s 95) = .bool true := f33
        refine guard_on (d := 92) (want := false) (by rfl) (by rfl) ?_ ?_
        · exact f30
        refine wp_value (v := .bool true) (w1 := w) ?_ (hK.out _ w (Below.refl _ _) rfl (fun h => by cases h))
        try simp only [f30, f33]
        go_simp
        try (first | done | rfl | (simp; done))
      refine StepsP.cons ?_ ?_
      · intro Q s w hC hA K hK
        clear hC
        obtain ⟨f34, -⟩ := hA
        replace f34 : (s 96) = .bool true := f34
        refine guard_on (d := 96) (want := true) (by rfl) (by rfl) ?_ ?_
        · exact f34
        refine wp_value (v := .pointer (some ⟨g9, 2, none⟩)) (w1 := w) ?_ (hK.out _ w (Below.refl _ _) rfl (fun h => by cases h))
        try simp only [f34]
        go_simp
        try (first | done | rfl | (simp; done))
      refine StepsP.cons ?_ ?_
      · intro Q s w hC hA K hK
        obtain ⟨hsz, hk_gl, lt_gl, hk_g9, lt_g9, hk_g10, lt_g10, hbw, hkit, hr1, hr2⟩ := hC
        obtain ⟨f34, f35, -⟩ := hA
        replace f34 : (s 96) = .bool true := f34
        replace f35 : (s 97) = .pointer (some ⟨g9, 2, none⟩) := f35
        refine guard_on (d := 96) (want := true) (by rfl) (by rfl) ?_ ?_
        · exact f34
        have m0_g9 : w.cell? ⟨g9, 0, none⟩ = some (.int .i64 1) := blk_cell hk_g9 0 (by rfl)
        have m1_g9 : w.cell? ⟨g9, 1, none⟩ = some (.int .i64 (n1 : Int)) := blk_cell hk_g9 1 (by rfl)
        have m2_g9 : w.cell? ⟨g9, 2, none⟩ = some (.slice A1 L1.length c1) := blk_cell hk_g9 2 (by rfl)
        refine wp_value (v := .slice A1 L1.length c1) (w1 := w) ?_ (hK.out _ w (Below.refl _ _) rfl (fun h => by cases h))
        try simp only [f34, f35]
        go_simp
        try (first | done | rfl | (simp; done))
      refine StepsP.cons ?_ ?_
      · intro Q s w hC hA K hK
        clear hC
        obtain ⟨f34, -⟩ := hA
        replace f34 : (s 96) = .bool true := f34
        refine guard_on (d := 96) (want := true) (by rfl) (by rfl) ?_ ?_
        · exact f34
        refine wp_value (v := .pointer (some ⟨g10, 2, none⟩)) (w1 := w) ?_ (hK.out _ w (Below.refl _ _) rfl (fun h => by cases h))
        try simp only [f34]
        go_simp
        try (first | done | rfl | (simp; done))
      refine StepsP.cons ?_ ?_
      · intro Q s w hC hA K hK
        obtain ⟨hsz, hk_gl, lt_gl, hk_g9, lt_g9, hk_g10, lt_g10, hbw, hkit, hr1, hr2⟩ := hC
        obtain ⟨f34, f37, -⟩ := hA
        replace f34 : (s 96) = .bool true := f34
        replace f37 : (s 99) = .pointer (some ⟨g10, 2, none⟩) := f37
        refine guard_on (d := 96) (want := true) (by rfl) (by rfl) ?_ ?_
        · exact f34
        have m0_g10 : w.cell? ⟨g10, 0, none⟩ = some (.int .i64 1) := blk_cell hk_g10 0 (by rfl)
        have m1_g10 : w.cell? ⟨g10, 1, none⟩ = some (.int .i64 (n2 : Int)) := blk_cell hk_g10 1 (by rfl)
        have m2_g10 : w.cell? ⟨g10, 2, none⟩ = some (.slice A2 L2.length c2) := blk_cell hk_g10 2 (by rfl)
        refine wp_value (v := .slice A2 L2.length c2) (w1 := w) ?_ (hK.out _ w (Below.refl _ _) rfl (fun h => by cases h))
        try simp only [f34, f37]
        go_simp
        try (first | done | rfl | (simp; done))
      refine StepsP.cons ?_ ?_
      · intro Q s w hC hA K hK
        obtain ⟨hsz, hk_gl, lt_gl, hk_g9, lt_g9, hk_g10, lt_g10, hbw, hkit, hr1, hr2⟩ := hC
        obtain ⟨f34, f36, f38, -⟩ := hA
        replace f34 : (s 96) = .bool true := f34
        replace f36 : (s 98) = .slice A1 L1.length c1 := f36
        replace f38 : (s 100) = .slice A2 L2.length c2 := f38
        refine guard_on (d := 96) (want := true) (by rfl) (by rfl) ?_ ?_
        · exact f34
        refine wp_call (N := some 101) (by rfl) Try.func33 (by kernel_rfl) #[.slice A1 L1.length c1, .slice A2 L2.length c2] rfl (by rfl) ?_ ?_
        · show [s 98, s 100] = [.slice A1 L1.length c1, .slice A2 L2.length c2]
          first | rfl | simp only [f34, f36, f38]
        refine (hSm.out _ hr1 hr2).mono ?_
        rintro e w1 ⟨rfl, hb⟩
        refine ⟨_, rfl, ?_⟩
        exact hK.out _ _ hb rfl (fun h => by cases h)
      refine StepsP.cons ?_ ?_
      · intro Q s w hC hA K hK
        clear hC
        obtain ⟨f30, f34, f39, -⟩ := hA
        replace f30 : (s 92) = .bool false := f30
        replace f34 : (s 96) = .bool true := f34
        replace f39 : (s 101) = .bool true := f39
        refine guard_on (d := 92) (want := false) (by rfl) (by rfl) ?_ ?_
        · exact f30
        refine wp_value (v := .bool true) (w1 := w) ?_ (hK.out _ w (Below.refl _ _) rfl (fun h => by cases h))
        try simp only [f30, f34, f39]
        go_simp
        try (first | done | rfl | (simp; done))
      refine StepsP.cons ?_ ?_
      · intro Q s w hC hA K hK
        clear hC
        obtain ⟨f26, f30, f40, -⟩ := hA
        replace f26 : (s 88) = .bool true := f26
        replace f30 : (s 92) = .bool false := f30
        replace f40 : (s 102) = .bool true := f40
        refine guard_on (d := 88) (want := true) (by rfl) (by rfl) ?_ ?_
        · exact f26
        refine wp_value (v := .bool true) (w1 := w) ?_ (hK.out _ w (Below.refl _ _) rfl (fun h => by cases h))
        try simp only [f26, f30, f40]
        go_simp
        try (first | done | rfl | (simp; done))
      refine StepsP.cons ?_ ?_
      · intro Q s w hC hA K hK
        clear hC
        obtain ⟨f26, f41, -⟩ := hA
        replace f26 : (s 88) = .bool true := f26
        replace f41 : (s 103) = .bool true := f41
        refine guard_none (by rfl) ?_
        refine wp_value (v := .bool true) (w1 := w) ?_ (hK.out _ w (Below.refl _ _) rfl (fun h => by cases h))
        try simp only [f26, f41]
        go_simp
        try (first | done | rfl | (simp; done))
      refine StepsP.cons ?_ ?_
      · intro Q s w hC hA K hK
        clear hC
        obtain ⟨f42, -⟩ := hA
        replace f42 : (s 104) = .bool true := f42
        refine guard_none (by rfl) ?_
        refine wp_value (v := .bool true) (w1 := w) ?_ (hK.out _ w (Below.refl _ _) rfl (fun h => by cases h))
        try simp only [f42]
        go_simp
        try (first | done | rfl | (simp; done))
      exact StepsP.nil
    obtain ⟨hsz, hk_gl, lt_gl, hk_g9, lt_g9, hk_g10, lt_g10, hbw, hkit, hr1, hr2⟩ := hC
    obtain ⟨f43, -⟩ := hA
    replace f43 : (s 6) = .bool true := f43
    refine act_eq (b' := ?b15) ?h15 ?q15
    case h15 => simp only [f43]; rfl
    go_wp2
    go_ret
    subst hw0
    exact ⟨rfl, hbw⟩
  · skip
    go_upto_region 9 with fail
    clear y0
    obtain ⟨B0, hB0⟩ : ∃ B, B = W6.heap.size := ⟨_, rfl⟩
    have c0_hsz : B0 ≤ W6.heap.size := Nat.le_of_eq hB0
    have hw0B0 : w0.heap.size ≤ B0 := by rw [hB0]; exact hbw.size
    have c0_hle : W6.heap.size ≤ B0 := Nat.le_of_eq hB0.symm
    have c0_hk_gl := blk_drew hk_gl
    have c0_lt_gl : gl < B0 := by rw [hB0]; exact blk_lt hk_gl
    have c0_hk_g9 := blk_drew hk_g9
    have c0_lt_g9 : g9 < B0 := by rw [hB0]; exact blk_lt hk_g9
    have c0_hk_g10 := blk_drew hk_g10
    have c0_lt_g10 : g10 < B0 := by rw [hB0]; exact blk_lt hk_g10
    have c0_hbw := bl_drew hbw
    clear hB0 hbw hk_gl hk_g9 hk_g10
    have c0_hkit := hkit.below (bl_drew (Below.refl W6.heap.size W6))
    have c0_hr1 := hr1.below (bl_drew (Below.refl W6.heap.size W6))
    have c0_hr2 := hr2.below (bl_drew (Below.refl W6.heap.size W6))
    clear hkit hr1 hr2
    refine region_lin (n := 44) (st := ?st16) { R := [0, 1, 3, 7, 15, 31, 63, 127, 255, 511, 127, 1151, 3199, 7295, 15487, 32767, 65535, 131071, 262143, 524287, 1048575, 2097151, 262143, 4456447, 16777215, 33554431, 67108863, 134217727, 268435455, 536870911, 1073741823, 2147483647, 4294967295, 8589934591, 17179869183, 34359738367, 68719476735, 34359738367, 171798691839, 549755813887, 1099511627775, 2199023255551, 4398046511103, 8796093022207], kill := [[], [], [], [], [], [], [], [], [], [], [], [], [], [], [], [], [], [], [], [], [], [], [], [], [], [], [], [], [], [], [], [], [], [], [], [], [], [], [], [], [], [], [], []], cls := [0, 0, 0, 0, 0, 0, 0, 0, 0, 0, 0, 0, 0, 0, 0, 0, 0, 0, 0, 0, 0, 0, 0, 0, 0, 0, 0, 0, 0, 0, 0, 0, 0, 0, 0, 0, 0, 0, 0, 0, 0, 0, 0, 0], dst := [some 62, some 63, some 64, some 65, some 66, some 67, some 68, some 69, some 70, some 71, some 72, some 73, some 74, some 75, some 76, some 77, some 78, some 79, some 80, some 81, some 82, some 83, some 84, some 85, some 86, some 87, some 88, some 89, some 90, some 91, some 92, some 93, some 94, some 95, some 96, some 97, some 98, some 99, some 100, some 101, some 102, some 103, some 104, some 6], pre := [[], [0], [1], [1, 2], [1, 3], [1, 4], [5], [6], [6, 7], [6, 8], [6], [6, 10], [6, 11], [6, 12], [6, 13], [6, 9, 14], [6, 15], [16], [17], [17, 18], [17, 19], [17, 20], [17], [17, 22], [17, 21, 23], [17, 24], [25], [26], [26, 27], [26, 28], [26, 29], [30], [30], [30], [30], [34], [34], [34], [34], [34], [30], [26, 30], [26, 41], [42]], cov := [], fin := [43], locs := [], tgt := [none], abt := [none, none, none, none, none, none, none, none, none, none, none, none, none, none, none, none, none, none, none, none, none, none, none, none, none, none, none, none, none, none, none, none, none, none, none, none, none, none, none, none, none, none, none, none] }
      [.v [62] (fun vs => (vs.getD 0 undef) = .bool true),
       .v [63] (fun vs => (vs.getD 0 undef) = .bool true),
       .v [64] (fun vs => (vs.getD 0 undef) = .pointer (some ⟨g9, 1, none⟩)),
       .v [65] (fun vs => (vs.getD 0 undef) = .int .i64 (n1 : Int)),
       .v [66] (fun vs => (vs.getD 0 undef) = .bool true),
       .v [67] (fun vs => (vs.getD 0 undef) = .bool true),
       .v [68] (fun vs => (vs.getD 0 undef) = .bool true),
       .v [69] (fun vs => (vs.getD 0 undef) = .pointer (some ⟨g9, 2, none⟩)),
       .v [70] (fun vs => (vs.getD 0 undef) = .slice A1 L1.length c1),
       .v [71] (fun vs => (vs.getD 0 undef) = .int .i64 (L1.length : Int)),
       .v [72] (fun vs => (vs.getD 0 undef) = .pointer (some ⟨gl, 0, none⟩)),
       .v [73] (fun vs => (vs.getD 0 undef) = .pointer (some ⟨gl, 0, none⟩)),
       .v [74] (fun vs => (vs.getD 0 undef) = .pointer (some ⟨gl, 0, none⟩)),
       .v [75] (fun vs => (vs.getD 0 undef) = .pointer (some ⟨gk, 0, none⟩)),
       .v [76] (fun vs => (vs.getD 0 undef) = .int .i64 (B : Int)),
       .v [77] (fun vs => (vs.getD 0 undef) = .bool true),
       .v [78] (fun vs => (vs.getD 0 undef) = .bool true),
       .v [79] (fun vs => (vs.getD 0 undef) = .bool true),
       .v [80] (fun vs => (vs.getD 0 undef) = .pointer (some ⟨gl, 0, none⟩)),
       .v [81] (fun vs => (vs.getD 0 undef) = .pointer (some ⟨gl, 0, none⟩)),
       .v [82] (fun vs => (vs.getD 0 undef) = .pointer (some ⟨gl, 0, none⟩)),
       .v [83] (fun vs => (vs.getD 0 undef) = .pointer (some ⟨gk, 0, none⟩)),
       .v [84] (fun vs => (vs.getD 0 undef) = .pointer (some ⟨g9, 2, none⟩)),
       .v [85] (fun vs => (vs.getD 0 undef) = .slice A1 L1.length c1),
       .v [86] (fun vs => (vs.getD 0 undef) = .bool true),
       .v [87] (fun vs => (vs.getD 0 undef) = .bool true),
       .v [88] (fun vs => (vs.getD 0 undef) = .bool true),
       .v [89] (fun vs => (vs.getD 0 undef) = .pointer (some ⟨g9, 0, none⟩)),
       .v [90] (fun vs => (vs.getD 0 undef) = .int .i64 2),
       .v [91] (fun vs => (vs.getD 0 undef) = .bool true),
       .v [92] (fun vs => (vs.getD 0 undef) = .bool true),
       .v [93] (fun vs => (vs.getD 0 undef) = undef),
       .v [94] (fun vs => (vs.getD 0 undef) = undef),
       .v [95] (fun vs => (vs.getD 0 undef) = undef),
       .v [96] (fun vs => (vs.getD 0 undef) = undef),
       .v [97] (fun vs => (vs.getD 0 undef) = undef),
       .v [98] (fun vs => (vs.getD 0 undef) = undef),
       .v [99] (fun vs => (vs.getD 0 undef) = undef),
       .v [100] (fun vs => (vs.getD 0 undef) = undef),
       .v [101] (fun vs => (vs.getD 0 undef) = undef),
       .v [102] (fun vs => (vs.getD 0 undef) = undef),
       .v [103] (fun vs => (vs.getD 0 undef) = .bool true),
       .v [104] (fun vs => (vs.getD 0 undef) = .bool true),
       .v [6] (fun vs => (vs.getD 0 undef) = .bool true)]
      (fun w => B0 ≤ w.heap.size ∧ w.heap[gl]? = some (.cells #[.pointer (some ⟨gk, 0, none⟩), .slice aS (slP p ls).length cS] 51 (0, 0)) ∧ gl < B0 ∧ w.heap[g9]? = some (.cells #[.int .i64 2, .int .i64 (n1 : Int), .slice A1 L1.length c1] 58 (0, 0)) ∧ g9 < B0 ∧ w.heap[g10]? = some (.cells #[.int .i64 r2, .int .i64 (n2 : Int), .slice A2 L2.length c2] 58 (0, 0)) ∧ g10 < B0 ∧ Below w0.heap.size w0 w ∧ KitAt w gk 116 p ∧ RdI w A1 L1 ∧ RdI w A2 L2)
      (fun c => ([fun s w w' => Below w.heap.size w w'] : List ((Nat → Value) → World → World → Prop)).getD c (fun s w w' => w' = w))
      [6, 62, 63, 64, 65, 66, 67, 68, 69, 70, 71, 72, 73, 74, 75, 76, 77, 78, 79, 80, 81, 82, 83, 84, 85, 86, 87, 88, 89, 90, 91, 92, 93, 94, 95, 96, 97, 98, 99, 100, 101, 102, 103, 104] (by kernel_rfl) ⟨by kernel_rfl, by kernel_rfl, by kernel_rfl, by kernel_rfl, by kernel_rfl, by kernel_rfl, by kernel_rfl, by kernel_rfl⟩ (fun s => ?_) ?_ ?_ ?_ ?_ ?_ (fun s w hC hA => ?_)
    rotate_left
    · simp only [fillS, List.foldl, List.setIfInBounds_toArray, List.set_cons_zero, List.set_cons_succ]; rfl
    · exact ⟨c0_hsz, c0_hk_gl, c0_lt_gl, c0_hk_g9, c0_lt_g9, c0_hk_g10, c0_lt_g10, c0_hbw, c0_hkit, c0_hr1, c0_hr2⟩
    · intro c s w w' hE
      match c, hE with
      | 0, hE => exact Below.size hE
      | c + 1, hE => cases hE; exact Nat.le_refl _
    · rintro c s w w' ⟨hsz, hk_gl, lt_gl, hk_g9, lt_g9, hk_g10, lt_g10, hbw, hkit, hr1, hr2⟩ hE
      match c, hE with
      | 0, hE => replace hE : Below w.heap.size w w' := hE; exact ⟨Nat.le_trans hsz hE.size, bl_block hE hk_gl, lt_gl, bl_block hE hk_g9, lt_g9, bl_block hE hk_g10, lt_g10, bl_step hbw hE, hkit.below hE, hr1.below hE, hr2.below hE⟩
      | c + 1, hE => cases hE; exact ⟨hsz, hk_gl, lt_gl, hk_g9, lt_g9, hk_g10, lt_g10, hbw, hkit, hr1, hr2⟩
    · exact trivial
    · skip
      refine StepsP.cons ?_ ?_
      · intro Q s w hC hA K hK
        obtain ⟨hsz, hk_gl, lt_gl, hk_g9, lt_g9, hk_g10, lt_g10, hbw, hkit, hr1, hr2⟩ := hC
        clear hA
        refine guard_none (by rfl) ?_
        refine wp_call (N := some 62) (by rfl) Try.func27 (by kernel_rfl) #[] rfl (by rfl) ?_ ?_
        · show [] = []
          first | rfl | simp only []
        refine (alive16_calls _).mono ?_
        rintro e w1 ⟨rfl, hb⟩
        refine ⟨_, rfl, ?_⟩
        exact hK.out _ _ hb rfl (fun h => by cases h)
      refine StepsP.cons ?_ ?_
      · intro Q s w hC hA K hK
        clear hC
        obtain ⟨f0, -⟩ := hA
        replace f0 : (s 62) = .bool true := f0
        refine guard_none (by rfl) ?_
        refine wp_value (v := .bool true) (w1 := w) ?_ (hK.out _ w (Below.refl _ _) rfl (fun h => by cases h))
        try simp only [f0]
        go_simp
        try (first | done | rfl | (simp; done))
      refine StepsP.cons ?_ ?_
      · intro Q s w hC hA K hK
        clear hC
        obtain ⟨f1, -⟩ := hA
        replace f1 : (s 63) = .bool true := f1
        refine guard_on (d := 63) (want := true) (by rfl) (by rfl) ?_ ?_
        · exact f1
        refine wp_value (v := .pointer (some ⟨g9, 1, none⟩)) (w1 := w) ?_ (hK.out _ w (Below.refl _ _) rfl (fun h => by cases h))
        try simp only [f1]
        go_simp
        try (first | done | rfl | (simp; done))
      refine StepsP.cons ?_ ?_
      · intro Q s w hC hA K hK
        obtain ⟨hsz, hk_gl, lt_gl, hk_g9, lt_g9, hk_g10, lt_g10, hbw, hkit, hr1, hr2⟩ := hC
        obtain ⟨f1, f2, -⟩ := hA
        replace f1 : (s 63) = .bool true := f1
        replace f2 : (s 64) = .pointer (some ⟨g9, 1, none⟩) := f2
        refine guard_on (d := 63) (want := true) (by rfl) (by rfl) ?_ ?_
        · exact f1
        have m0_g9 : w.cell? ⟨g9, 0, none⟩ = some (.int .i64 2) := blk_cell hk_g9 0 (by rfl)
        have m1_g9 : w.cell? ⟨g9, 1, none⟩ = some (.int .i64 (n1 : Int)) := blk_cell hk_g9 1 (by rfl)
        have m2_g9 : w.cell? ⟨g9, 2, none⟩ = some (.slice A1 L1.length c1) := blk_cell hk_g9 2 (by rfl)
        refine wp_value (v := .int .i64 (n1 : Int)) (w1 := w) ?_ (hK.out _ w (Below.refl _ _) rfl (fun h => by cases h))
        try simp only [f1, f2]
        go_simp
        try (first | done | rfl | (simp; done))
      refine StepsP.cons ?_ ?_
      · intro Q s w hC hA K hK
        clear hC
        obtain ⟨f1, f3, -⟩ := hA
        replace f1 : (s 63) = .bool true := f1
        replace f3 : (s 65) = .int .i64 (n1 : Int) := f3
        refine guard_on (d := 63) (want := true) (by rfl) (by rfl) ?_ ?_
        · exact f1
        refine wp_value (v := .bool true) (w1 := w) ?_ (hK.out _ w (Below.refl _ _) rfl (fun h => by cases h))
        try simp only [f1, f3]
        go_simp
        first | done | exact hge.out | (simp [hge.out]; done) | (simpa using hge.out)
      refine StepsP.cons ?_ ?_
      · intro Q s w hC hA K hK
        clear hC
        obtain ⟨f1, f4, -⟩ := hA
        replace f1 : (s 63) = .bool true := f1
        replace f4 : (s 66) = .bool true := f4
        refine guard_none (by rfl) ?_
        refine wp_value (v := .bool true) (w1 := w) ?_ (hK.out _ w (Below.refl _ _) rfl (fun h => by cases h))
        try simp only [f1, f4]
        go_simp
        try (first | done | rfl | (simp; done))
      refine StepsP.cons ?_ ?_
      · intro Q s w hC hA K hK
        clear hC
        obtain ⟨f5, -⟩ := hA
        replace f5 : (s 67) = .bool true := f5
        refine guard_none (by rfl) ?_
        refine wp_value (v := .bool true) (w1 := w) ?_ (hK.out _ w (Below.refl _ _) rfl (fun h => by cases h))
        try simp only [f5]
        go_simp
        try (first | done | rfl | (simp; done))
      refine StepsP.cons ?_ ?_
      · intro Q s w hC hA K hK
        clear hC
        obtain ⟨f6, -⟩ := hA
        replace f6 : (s 68) = .bool true := f6
        refine guard_on (d := 68) (want := true) (by rfl) (by rfl) ?_ ?_
        · exact f6
        refine wp_value (v := .pointer (some ⟨g9, 2, none⟩)) (w1 := w) ?_ (hK.out _ w (Below.refl _ _) rfl (fun h => by cases h))
        try simp only [f6]
        go_simp
        try (first | done | rfl | (simp; done))
      refine StepsP.cons ?_ ?_
      · intro Q s w hC hA K hK
        obtain ⟨hsz, hk_gl, lt_gl, hk_g9, lt_g9, hk_g10, lt_g10, hbw, hkit, hr1, hr2⟩ := hC
        obtain ⟨f6, f7, -⟩ := hA
        replace f6 : (s 68) = .bool true := f6
        replace f7 : (s 69) = .pointer (some ⟨g9, 2, none⟩) := f7
        refine guard_on (d := 68) (want := true) (by rfl) (by rfl) ?_ ?_
        · exact f6
        have m0_g9 : w.cell? ⟨g9, 0, none⟩ = some (.int .i64 2) := blk_cell hk_g9 0 (by rfl)
        have m1_g9 : w.cell? ⟨g9, 1, none⟩ = some (.int .i64 (n1 : Int)) := blk_cell hk_g9 1 (by rfl)
        have m2_g9 : w.cell? ⟨g9, 2, none⟩ = some (.slice A1 L1.length c1) := blk_cell hk_g9 2 (by rfl)
        refine wp_value (v := .slice A1 L1.length c1) (w1 := w) ?_ (hK.out _ w (Below.refl _ _) rfl (fun h => by cases h))
        try simp only [f6, f7]
        go_simp
        try (first | done | rfl | (simp; done))
      refine StepsP.cons ?_ ?_
      · intro Q s w hC hA K hK
        clear hC
        obtain ⟨f6, f8, -⟩ := hA
        replace f6 : (s 68) = .bool true := f6
        replace f8 : (s 70) = .slice A1 L1.length c1 := f8
        refine guard_on (d := 68) (want := true) (by rfl) (by rfl) ?_ ?_
        · exact f6
        refine wp_value (v := .int .i64 (L1.length : Int)) (w1 := w) ?_ (hK.out _ w (Below.refl _ _) rfl (fun h => by cases h))
        try simp only [f6, f8]
        go_simp
        first | done | rfl | (simp; done)
      refine StepsP.cons ?_ ?_
      · intro Q s w hC hA K hK
        clear hC
        obtain ⟨f6, -⟩ := hA
        replace f6 : (s 68) = .bool true := f6
        refine guard_on (d := 68) (want := true) (by rfl) (by rfl) ?_ ?_
        · exact f6
        refine wp_value (v := .pointer (some ⟨gl, 0, none⟩)) (w1 := w) ?_ (hK.out _ w (Below.refl _ _) rfl (fun h => by cases h))
        try simp only [f6]
        go_simp
        try (first | done | rfl | (simp; done))
      refine StepsP.cons ?_ ?_
      · intro Q s w hC hA K hK
        clear hC
        obtain ⟨f6, f10, -⟩ := hA
        replace f6 : (s 68) = .bool true := f6
        replace f10 : (s 72) = .pointer (some ⟨gl, 0, none⟩) := f10
        refine guard_on (d := 68) (want := true) (by rfl) (by rfl) ?_ ?_
        · exact f6
        refine wp_value (v := .pointer (some ⟨gl, 0, none⟩)) (w1 := w) ?_ (hK.out _ w (Below.refl _ _) rfl (fun h => by cases h))
        try simp only [f6, f10]
        go_simp
        try (first | done | rfl | (simp; done))
      refine StepsP.cons ?_ ?_
      · intro Q s w hC hA K hK
        clear hC
        obtain ⟨f6, f11, -⟩ := hA
        replace f6 : (s 68) = .bool true := f6
        replace f11 : (s 73) = .pointer (some ⟨gl, 0, none⟩) := f11
        refine guard_on (d := 68) (want := true) (by rfl) (by rfl) ?_ ?_
        · exact f6
        refine wp_value (v := .pointer (some ⟨gl, 0, none⟩)) (w1 := w) ?_ (hK.out _ w (Below.refl _ _) rfl (fun h => by cases h))
        try simp only [f6, f11]
        go_simp
        try (first | done | rfl | (simp; done))
      refine StepsP.cons ?_ ?_
      · intro Q s w hC hA K hK
        obtain ⟨hsz, hk_gl, lt_gl, hk_g9, lt_g9, hk_g10, lt_g10, hbw, hkit, hr1, hr2⟩ := hC
        obtain ⟨f6, f12, -⟩ := hA
        replace f6 : (s 68) = .bool true := f6
        replace f12 : (s 74) = .pointer (some ⟨gl, 0, none⟩) := f12
        refine guard_on (d := 68) (want := true) (by rfl) (by rfl) ?_ ?_
        · exact f6
        have m0_gl : w.cell? ⟨gl, 0, none⟩ = some (.pointer (some ⟨gk, 0, none⟩)) := blk_cell hk_gl 0 (by rfl)
        have m1_gl : w.cell? ⟨gl, 1, none⟩ = some (.slice aS (slP p ls).length cS) := blk_cell hk_gl 1 (by rfl)
        refine wp_value (v := .pointer (some ⟨gk, 0, none⟩)) (w1 := w) ?_ (hK.out _ w (Below.refl _ _) rfl (fun h => by cases h))
        try simp only [f6, f12]
        go_simp
        try (first | done | rfl | (simp; done))
      refine StepsP.cons ?_ ?_
      · intro Q s w hC hA K hK
        obtain ⟨hsz, hk_gl, lt_gl, hk_g9, lt_g9, hk_g10, lt_g10, hbw, hkit, hr1, hr2⟩ := hC
        obtain ⟨f6, f13, -⟩ := hA
        replace f6 : (s 68) = .bool true := f6
        replace f13 : (s 75) = .pointer (some ⟨gk, 0, none⟩) := f13
        refine guard_on (d := 68) (want := true) (by rfl) (by rfl) ?_ ?_
        · exact f6
        refine wp_call (N := some 76) (by rfl) Try.func17 (by kernel_rfl) #[.pointer (some ⟨gk, 0, none⟩)] rfl (by rfl) ?_ ?_
        · show [s 75] = [.pointer (some ⟨gk, 0, none⟩)]
          first | rfl | simp only [f6, f13]
        refine (hDm.out _ hkit).mono ?_
        rintro e w1 ⟨rfl, rfl⟩
        refine ⟨_, rfl, ?_⟩
        exact hK.out _ _ (Below.refl _ _) rfl (fun h => by cases h)
      refine StepsP.cons ?_ ?_
      · intro Q s w hC hA K hK
        clear hC
        obtain ⟨f6, f9, f14, -⟩ := hA
        replace f6 : (s 68) = .bool true := f6
        replace f9 : (s 71) = .int .i64 (L1.length : Int) := f9
        replace f14 : (s 76) = .int .i64 (B : Int) := f14
        refine guard_on (d := 68) (want := true) (by rfl) (by rfl) ?_ ?_
        · exact f6
        refine wp_value (v := .bool true) (w1 := w) ?_ (hK.out _ w (Below.refl _ _) rfl (fun h => by cases h))
        try simp only [f6, f9, f14]
        go_simp
        first | done | (simp [hLn.out]; done)
      refine StepsP.cons ?_ ?_
      · intro Q s w hC hA K hK
        clear hC
        obtain ⟨f6, f15, -⟩ := hA
        replace f6 : (s 68) = .bool true := f6
        replace f15 : (s 77) = .bool true := f15
        refine guard_none (by rfl) ?_
        refine wp_value (v := .bool true) (w1 := w) ?_ (hK.out _ w (Below.refl _ _) rfl (fun h => by cases h))
        try simp only [f6, f15]
        go_simp
        try (first | done | rfl | (simp; done))
      refine StepsP.cons ?_ ?_
      · intro Q s w hC hA K hK
        clear hC
        obtain ⟨f16, -⟩ := hA
        replace f16 : (s 78) = .bool true := f16
        refine guard_none (by rfl) ?_
        refine wp_value (v := .bool true) (w1 := w) ?_ (hK.out _ w (Below.refl _ _) rfl (fun h => by cases h))
        try simp only [f16]
        go_simp
        try (first | done | rfl | (simp; done))
      refine StepsP.cons ?_ ?_
      · intro Q s w hC hA K hK
        clear hC
        obtain ⟨f17, -⟩ := hA
        replace f17 : (s 79) = .bool true := f17
        refine guard_on (d := 79) (want := true) (by rfl) (by rfl) ?_ ?_
        · exact f17
        refine wp_value (v := .pointer (some ⟨gl, 0, none⟩)) (w1 := w) ?_ (hK.out _ w (Below.refl _ _) rfl (fun h => by cases h))
        try simp only [f17]
        go_simp
        try (first | done | rfl | (simp; done))
      refine StepsP.cons ?_ ?_
      · intro Q s w hC hA K hK
        clear hC
        obtain ⟨f17, f18, -⟩ := hA
        replace f17 : (s 79) = .bool true := f17
        replace f18 : (s 80) = .pointer (some ⟨gl, 0, none⟩) := f18
        refine guard_on (d := 79) (want := true) (by rfl) (by rfl) ?_ ?_
        · exact f17
        refine wp_value (v := .pointer (some ⟨gl, 0, none⟩)) (w1 := w) ?_ (hK.out _ w (Below.refl _ _) rfl (fun h => by cases h))
        try simp only [f17, f18]
        go_simp
        try (first | done | rfl | (simp; done))
      refine StepsP.cons ?_ ?_
      · intro Q s w hC hA K hK
        clear hC
        obtain ⟨f17, f19, -⟩ := hA
        replace f17 : (s 79) = .bool true := f17
        replace f19 : (s 81) = .pointer (some ⟨gl, 0, none⟩) := f19
        refine guard_on (d := 79) (want := true) (by rfl) (by rfl) ?_ ?_
        · exact f17
        refine wp_value (v := .pointer (some ⟨gl, 0, none⟩)) (w1 := w) ?_ (hK.out _ w (Below.refl _ _) rfl (fun h => by cases h))
        try simp only [f17, f19]
        go_simp
        try (first | done | rfl | (simp; done))
      refine StepsP.cons ?_ ?_
      · intro Q s w hC hA K hK
        obtain ⟨hsz, hk_gl, lt_gl, hk_g9, lt_g9, hk_g10, lt_g10, hbw, hkit, hr1, hr2⟩ := hC
        obtain ⟨f17, f20, -⟩ := hA
        replace f17 : (s 79) = .bool true := f17
        replace f20 : (s 82) = .pointer (some ⟨gl, 0, none⟩) := f20
        refine guard_on (d := 79) (want := true) (by rfl) (by rfl) ?_ ?_
        · exact f17
        have m0_gl : w.cell? ⟨gl, 0, none⟩ = some (.pointer (some ⟨gk, 0, none⟩)) := blk_cell hk_gl 0 (by rfl)
        have m1_gl : w.cell? ⟨gl, 1, none⟩ = some (.slice aS (slP p ls).length cS) := blk_cell hk_gl 1 (by rfl)
        refine wp_value (v := .pointer (some ⟨gk, 0, none⟩)) (w1 := w) ?_ (hK.out _ w (Below.refl _ _) rfl (fun h => by cases h))
        try simp only [f17, f20]
        go_simp
        try (first | done | rfl | (simp; done))
      refine StepsP.cons ?_ ?_
      · intro Q s w hC hA K hK
        clear hC
        obtain ⟨f17, -⟩ := hA
        replace f17 : (s 79) = .bool true := f17
        refine guard_on (d := 79) (want := true) (by rfl) (by rfl) ?_ ?_
        · exact f17
        refine wp_value (v := .pointer (some ⟨g9, 2, none⟩)) (w1 := w) ?_ (hK.out _ w (Below.refl _ _) rfl (fun h => by cases h))
        try simp only [f17]
        go_simp
        try (first | done | rfl | (simp; done))
      refine StepsP.cons ?_ ?_
      · intro Q s w hC hA K hK
        obtain ⟨hsz, hk_gl, lt_gl, hk_g9, lt_g9, hk_g10, lt_g10, hbw, hkit, hr1, hr2⟩ := hC
        obtain ⟨f17, f22, -⟩ := hA
        replace f17 : (s 79) = .bool true := f17
        replace f22 : (s 84) = .pointer (some ⟨g9, 2, none⟩) := f22
        refine guard_on (d := 79) (want := true) (by rfl) (by rfl) ?_ ?_
        · exact f17
        have m0_g9 : w.cell? ⟨g9, 0, none⟩ = some (.int .i64 2) := blk_cell hk_g9 0 (by rfl)
        have m1_g9 : w.cell? ⟨g9, 1, none⟩ = some (.int .i64 (n1 : Int)) := blk_cell hk_g9 1 (by rfl)
        have m2_g9 : w.cell? ⟨g9, 2, none⟩ = some (.slice A1 L1.length c1) := blk_cell hk_g9 2 (by rfl)
        refine wp_value (v := .slice A1 L1.length c1) (w1 := w) ?_ (hK.out _ w (Below.refl _ _) rfl (fun h => by cases h))
        try simp only [f17, f22]
        go_simp
        try (first | done | rfl | (simp; done))
      refine StepsP.cons ?_ ?_
      · intro Q s w hC hA K hK
        obtain ⟨hsz, hk_gl, lt_gl, hk_g9, lt_g9, hk_g10, lt_g10, hbw, hkit, hr1, hr2⟩ := hC
        obtain ⟨f17, f21, f23, -⟩ := hA
        replace f17 : (s 79) = .bool true := f17
        replace f21 : (s 83) = .pointer (some ⟨gk, 0, none⟩) := f21
        replace f23 : (s 85) = .slice A1 L1.length c1 := f23
        refine guard_on (d := 79) (want := true) (by rfl) (by rfl) ?_ ?_
        · exact f17
        refine wp_call (N := some 86) (by rfl) Try.func32 (by kernel_rfl) #[.pointer (some ⟨gk, 0, none⟩), .slice A1 L1.length c1] rfl (by rfl) ?_ ?_
        · show [s 83, s 85] = [.pointer (some ⟨gk, 0, none⟩), .slice A1 L1.length c1]
          first | rfl | simp only [f17, f21, f23]
        refine (hIn.out _ hkit hr1).mono ?_
        rintro e w1 ⟨rfl, hb⟩
        refine ⟨_, rfl, ?_⟩
        exact hK.out _ _ hb rfl (fun h => by cases h)
      refine StepsP.cons ?_ ?_
      · intro Q s w hC hA K hK
        clear hC
        obtain ⟨f17, f24, -⟩ := hA
        replace f17 : (s 79) = .bool true := f17
        replace f24 : (s 86) = .bool true := f24
        refine guard_none (by rfl) ?_
        refine wp_value (v := .bool true) (w1 := w) ?_ (hK.out _ w (Below.refl _ _) rfl (fun h => by cases h))
        try simp only [f17, f24]
        go_simp
        try (first | done | rfl | (simp; done))
      refine StepsP.cons ?_ ?_
      · intro Q s w hC hA K hK
        clear hC
        obtain ⟨f25, -⟩ := hA
        replace f25 : (s 87) = .bool true := f25
        refine guard_none (by rfl) ?_
        refine wp_value (v := .bool true) (w1 := w) ?_ (hK.out _ w (Below.refl _ _) rfl (fun h => by cases h))
        try simp only [f25]
        go_simp
        try (first | done | rfl | (simp; done))
      refine StepsP.cons ?_ ?_
      · intro Q s w hC hA K hK
        clear hC
        obtain ⟨f26, -⟩ := hA
        replace f26 : (s 88) = .bool true := f26
        refine guard_on (d := 88) (want := true) (by rfl) (by rfl) ?_ ?_
        · exact f26
        refine wp_value (v := .pointer (some ⟨g9, 0, none⟩)) (w1 := w) ?_ (hK.out _ w (Below.refl _ _) rfl (fun h => by cases h))
        try simp only [f26]
        go_simp
        try (first | done | rfl | (simp; done))
      refine StepsP.cons ?_ ?_
      · intro Q s w hC hA K hK
        obtain ⟨hsz, hk_gl, lt_gl, hk_g9, lt_g9, hk_g10, lt_g10, hbw, hkit, hr1, hr2⟩ := hC
        obtain ⟨f26, f27, -⟩ := hA
        replace f26 : (s 88) = .bool true := f26
        replace f27 : (s 89) = .pointer (some ⟨g9, 0, none⟩) := f27
        refine guard_on (d := 88) (want := true) (by rfl) (by rfl) ?_ ?_
        · exact f26
        have m0_g9 : w.cell? ⟨g9, 0, none⟩ = some (.int .i64 2) := blk_cell hk_g9 0 (by rfl)
        have m1_g9 : w.cell? ⟨g9, 1, none⟩ = some (.int .i64 (n1 : Int)) := blk_cell hk_g9 1 (by rfl)
        have m2_g9 : w.cell? ⟨g9, 2, none⟩ = some (.slice A1 L1.length c1) := blk_cell hk_g9 2 (by rfl)
        refine wp_value (v := .int .i64 2) (w1 := w) ?_ (hK.out _ w (Below.refl _ _) rfl (fun h => by cases h))
        try simp only [f26, f27]
        go_simp
        try (first | done | rfl | (simp; done))
      refine StepsP.cons ?_ ?_
      · intro Q s w hC hA K hK
        clear hC
        obtain ⟨f26, f28, -⟩ := hA
        replace f26 : (s 88) = .bool true := f26
        replace f28 : (s 90) = .int .i64 2 := f28
        refine guard_on (d := 88) (want := true) (by rfl) (by rfl) ?_ ?_
        · exact f26
        refine wp_value (v := .bool true) (w1 := w) ?_ (hK.out _ w (Below.refl _ _) rfl (fun h => by cases h))
        try simp only [f26, f28]
        go_simp
        try (first | done | rfl | (simp; done))
      refine StepsP.cons ?_ ?_
      · intro Q s w hC hA K hK
        clear hC
        obtain ⟨f26, f29, -⟩ := hA
        replace f26 : (s 88) = .bool true := f26
        replace f29 : (s 91) = .bool true := f29
        refine guard_on (d := 88) (want := true) (by rfl) (by rfl) ?_ ?_
        · exact f26
        refine wp_value (v := .bool true) (w1 := w) ?_ (hK.out _ w (Below.refl _ _) rfl (fun h => by cases h))
        try simp only [f26, f29]
        go_simp
        try (first | done | rfl | (simp; done))
      refine StepsP.cons ?_ ?_
      · intro Q s w hC hA K hK
        clear hC
        obtain ⟨f30, -⟩ := hA
        replace f30 : (s 92) = .bool true := f30
        refine guard_off (d := 92) (want := false) (by rfl) (by rfl) ?_ ?_
        · show s 92 ≠ .bool false
          rw [f30]; first | (simp; done) | (intro h_; cases h_)
        exact hK.out _ w (Below.refl _ _) (show undef = undef from rfl) (fun h => by cases h)
      refine StepsP.cons ?_ ?_
      · intro Q s w hC hA K hK
        clear hC
        obtain ⟨f30, -⟩ := hA
        replace f30 : (s 92) = .bool true := f30
        refine guard_off (d := 92) (want := false) (by rfl) (by rfl) ?_ ?_
        · show s 92 ≠ .bool false
          rw [f30]; first | (simp; done) | (intro h_; cases h_)
        exact hK.out _ w (Below.refl _ _) (show undef = undef from rfl) (fun h => by cases h)
      refine StepsP.cons ?_ ?_
      · intro Q s w hC hA K hK
        clear hC
        obtain ⟨f30, -⟩ := hA
        replace f30 : (s 92) = .bool true := f30
        refine guard_off (d := 92) (want := false) (by rfl) (by rfl) ?_ ?_
        · show s 92 ≠ .bool false
          rw [f30]; first | (simp; done) | (intro h_; cases h_)
        exact hK.out _ w (Below.refl _ _) (show undef = undef from rfl) (fun h => by cases h)
      refine StepsP.cons ?_ ?_
      · intro Q s w hC hA K hK
        clear hC
        obtain ⟨f30, -⟩ := hA
        replace f30 : (s 92) = .bool true := f30
        refine guard_off (d := 92) (want := false) (by rfl) (by rfl) ?_ ?_
        · show s 92 ≠ .bool false
          rw [f30]; first | (simp; done) | (intro h_; cases h_)
        exact hK.out _ w (Below.refl _ _) (show undef = undef from rfl) (fun h => by cases h)
      refine StepsP.cons ?_ ?_
      · intro Q s w hC hA K hK
        clear hC
        obtain ⟨f34, -⟩ := hA
        replace f34 : (s 96) = undef := f34
        refine guard_off (d := 96) (want := true) (by rfl) (by rfl) ?_ ?_
        · show s 96 ≠ .bool true
          rw [f34]; first | (simp; done) | (intro h_; cases h_)
        exact hK.out _ w (Below.refl _ _) (show undef = undef from rfl) (fun h => by cases h)
      refine StepsP.cons ?_ ?_
      · intro Q s w hC hA K hK
        clear hC
        obtain ⟨f34, -⟩ := hA
        replace f34 : (s 96) = undef := f34
        refine guard_off (d := 96) (want := true) (by rfl) (by rfl) ?_ ?_
        · show s 96 ≠ .bool true
          rw [f34]; first | (simp; done) | (intro h_; cases h_)
        exact hK.out _ w (Below.refl _ _) (show undef = undef from rfl) (fun h => by cases h)
      refine StepsP.cons ?_ ?_
      · intro Q s w hC hA K hK
        clear hC
        obtain ⟨f34, -⟩ := hA
        replace f34 : (s 96) = undef := f34
        refine guard_off (d := 96) (want := true) (by rfl) (by rfl) ?_ ?_
        · show s 96 ≠ .bool true
          rw [f34]; first | (simp; done) | (intro h_; cases h_)
        exact hK.out _ w (Below.refl _ _) (show undef = undef from rfl) (fun h => by cases h)
      refine StepsP.cons ?_ ?_
      · intro Q s w hC hA K hK
        clear hC
        obtain ⟨f34, -⟩ := hA
        replace f34 : (s 96) = undef := f34
        refine guard_off (d := 96) (want := true) (by rfl) (by rfl) ?_ ?_
        · show s 96 ≠ .bool true
          rw [f34]; first | (simp; done) | (intro h_; cases h_)
        exact hK.out _ w (Below.refl _ _) (show undef = undef from rfl) (fun h => by cases h)
      refine StepsP.cons ?_ ?_
      · intro Q s w hC hA K hK
        clear hC
        obtain ⟨f34, -⟩ := hA
        replace f34 : (s 96) = undef := f34
        refine guard_off (d := 96) (want := true) (by rfl) (by rfl) ?_ ?_
        · show s 96 ≠ .bool true
          rw [f34]; first | (simp; done) | (intro h_; cases h_)
        exact hK.out _ w (Below.refl _ _) (show undef = undef from rfl) (fun h => by cases h)
      refine StepsP.cons ?_ ?_
      · intro Q s w hC hA K hK
        clear hC
        obtain ⟨f30, -⟩ := hA
        replace f30 : (s 92) = .bool true := f30
        refine guard_off (d := 92) (want := false) (by rfl) (by rfl) ?_ ?_
        · show s 92 ≠ .bool false
          rw [f30]; first | (simp; done) | (intro h_; cases h_)
        exact hK.out _ w (Below.refl _ _) (show undef = undef from rfl) (fun h => by cases h)
      refine StepsP.cons ?_ ?_
      · intro Q s w hC hA K hK
        clear hC
        obtain ⟨f26, f30, -⟩ := hA
        replace f26 : (s 88) = .bool true := f26
        replace f30 : (s 92) = .bool true := f30
        refine guard_on (d := 88) (want := true) (by rfl) (by rfl) ?_ ?_
        · exact f26
        refine wp_value (v := .bool true) (w1 := w) ?_ (hK.out _ w (Below.refl _ _) rfl (fun h => by cases h))
        try simp only [f26, f30]
        go_simp
        try (first | done | rfl | (simp; done))
      refine StepsP.cons ?_ ?_
      · intro Q s w hC hA K hK
        clear hC
        obtain ⟨f26, f41, -⟩ := hA
        replace f26 : (s 88) = .bool true := f26
        replace f41 : (s 103) = .bool true := f41
        refine guard_none (by rfl) ?_
        refine wp_value (v := .bool true) (w1 := w) ?_ (hK.out _ w (Below.refl _ _) rfl (fun h => by cases h))
        try simp only [f26, f41]
        go_simp
        try (first | done | rfl | (simp; done))
      refine StepsP.cons ?_ ?_
      · intro Q s w hC hA K hK
        clear hC
        obtain ⟨f42, -⟩ := hA
        replace f42 : (s 104) = .bool true := f42
        refine guard_none (by rfl) ?_
        refine wp_value (v := .bool true) (w1 := w) ?_ (hK.out _ w (Below.refl _ _) rfl (fun h => by cases h))
        try simp only [f42]
        go_simp
        try (first | done | rfl | (simp; done))
      exact StepsP.nil
    obtain ⟨hsz, hk_gl, lt_gl, hk_g9, lt_g9, hk_g10, lt_g10, hbw, hkit, hr1, hr2⟩ := hC
    obtain ⟨f43, -⟩ := hA
    replace f43 : (s 6) = .bool true := f43
    refine act_eq (b' := ?b16) ?h16 ?q16
    case h16 => simp only [f43]; rfl
    go_wp2
    go_ret
    subst hw0
    exact ⟨rfl, hbw⟩
end Go.Proofs.Ythdaidmjjcmccaa
