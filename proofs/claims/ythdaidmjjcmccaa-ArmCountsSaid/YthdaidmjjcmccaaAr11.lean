/- Proved here: lemmas and contracts (what a function of the program computes) that the proofs of the laws of this seat lean on. Conditions: as each theorem states. -/
import Derived.Test.YthdaidmjjcmccaaAr10
import Derived.Test.YthdaidmjjcmccaaLin
set_option linter.unusedVariables false
set_option linter.unusedSimpArgs false
namespace Go.Pk
open Go.RowKit Go.Pk.Rx
theorem cmdE_cases (b : ByteArray) : cmdE b = 0 ∨ cmdE b = 4 := by unfold cmdE; split <;> simp
end Go.Pk
namespace Go.Proofs.Ythdaidmjjcmccaa
open Go.RowKit Go.Pk Go.Proofs.YthdaidmjjcmccaaW.PrintLast
set_option maxHeartbeats 8000000 in
set_option maxRecDepth 100000 in
theorem ACounts_walk (hold : Int) (l : List OpR) (al : Option Addr) (cl : Nat) (w : World) (hl : RdO w al l) :
    Calls Try.prog 10 #[.int .i64 hold, .slice al l.length cl] w fun e w' => e = .returned (.bool true) ∧ Below w.heap.size w w' := by
  have hNw := hidI (fun n W (hH : HalfAt W n 3 25 23) => NewArm_calls (halfQ n) halfP hold none [] 0 W hH.rd halfP_in ⟨by simp, RdC.nil _ _⟩ (fun x hx => by cases hx))
  have hHA := hidI (fun n W hH h0 h1 => HalfArm_calls n hold W h0 h1 hH)
  simp only [List.length_nil] at hNw
  obtain ⟨w0, hw0⟩ : ∃ z : World, z = w := ⟨_, rfl⟩
  go_enter Try.func10, Try.ntmps10
  go_wp2_with fail
  refine (Half_calls w).mono ?_
  rintro e w1 ⟨n, hn, rfl, hH, hb1⟩
  have hbw : Below w0.heap.size w0 w1 := by rw [hw0]; exact hb1
  replace hl := hl.below hb1
  clear hn hb1
  have hNw2 := hidI (hNw.out n w1 hH)
  have hHA2 := hidI (fun h0 h1 => hHA.out n w1 hH h0 h1)
  obtain ⟨hv, hhv⟩ : ∃ z, ((halfQ n).cells halfP).toArray = z := ⟨_, rfl⟩
  rw [hhv] at hNw2 hHA2 ⊢
  clear hhv hNw hHA hH
  by_cases hbad : hold < 0 ∨ 1000 < hold
  · clear hHA2
    go_wp2_with fail
    refine hNw2.out.mono ?_
    intro e w2 hp
    unfold NewArmPost at hp
    obtain ⟨hb2, -, h3, -⟩ := hp
    obtain rfl := h3 halfP_ok hbad
    replace hbw := bl_step hbw hb2
    clear hb2 h3 hNw2
    go_wp2_with fail
    refine (alive20_calls _).mono ?_
    rintro e wz ⟨rfl, hbz⟩
    replace hbw := bl_step hbw hbz
    subst hw0
    go_wp2
    go_ret
    exact ⟨rfl, hbw⟩
  have hh0 : 0 ≤ hold := by omega
  have hh1 : hold ≤ 1000 := by omega
  clear hbad hNw2
  go_wp2_with fail
  refine (hHA2.out hh0 hh1).mono ?_
  rintro e w2 ⟨V, gl, ga, aS, cS, rfl, hbV, hbw2, hX, hk_ga⟩
  have hbw0 := bl_step hbw hbV
  replace hl := hl.below hbV
  clear hbV hHA2 hbw
  have hLi := hidI (fun W (h : Below V.heap.size V W) => Light20_calls al l cl W (hl.below h))
  obtain ⟨lt, hlt⟩ : ∃ z, lightO l = z := ⟨_, rfl⟩
  rw [hlt] at hLi
  go_wp2_with fail
  refine (hLi.out _ hbw2).mono ?_
  rintro e w3 ⟨rfl, hw3⟩
  subst hw3
  cases lt
  · have hbw := bl_step hbw0 hbw2
    go_wp2_with fail
    refine (alive20_calls _).mono ?_
    rintro e wz ⟨rfl, hbz⟩
    replace hbw := bl_step hbw hbz
    subst hw0
    go_wp2
    go_ret
    exact ⟨rfl, hbw⟩
  have hl200 := lightO_yes hlt
  clear hlt hLi
  go_wp2
  obtain ⟨gk, hgk, hkit⟩ := hX.lk.ptr
  have hga := hX.hg
  have hFo := hidI (fun (a : ASt) why g W (ha : a.ok) (h : Below V.heap.size V W) hk (hkk : W.heap[g]? = some (.cells #[.int .i64 4294967296] 3 (0, 0))) => aForce_calls V ga gl hold a aS halfP [0] 1 cS why [4294967296] (some ⟨g, 0, none⟩) 1 W hX ha h hk (RdI.of_blk (l := [4294967296]) hkk (by simp)) (by intro x hx; simp at hx; subst hx; omega))
  have hFw : ∀ why : Int, forceWhy halfP why [4294967296] = why := fun why => rfl
  simp only [hFw, half_base1] at hFo
  have hDe := hidI (fun (a : ASt) (b : ByteArray) (x : List Int) ax cx W (ha : a.ok) (h : Below V.heap.size V W) hk (hx : RdI W ax x) (hix : InI x) (hbm : b.size ≤ 9223372036854775807) => aDecide_calls V ga gl hold a aS halfP [0] cS b x ax cx W hX ha h hk hx hix hbm)
  have hRs := hidI (fun (a : ASt) W (h : Below V.heap.size V W) hk => aReset_calls V ga gl gk hold a aS 1 cS W hga hgk h hk)
  clear hFw hX hkit
  obtain ⟨n, hn⟩ : ∃ z, l.length = z := ⟨_, rfl⟩
  rw [hn] at hl200
  have hn2 := hidI hn
  rw [hn]
  clear hn
  go_loopw [7, 8, 9] (fun x7 x8 x9 wr => ∃ (i : Nat) (t b : Int) (a : ASt), i ≤ n ∧ x9 = .int .i64 i ∧ x7 = .int .i64 t ∧ x8 = .int .i64 b ∧ CntRel a t b i ∧ Below V.heap.size V wr ∧ wr.heap[ga]? = some (.cells (armV gl hold a aS 1 cS) 78 (0, 0))) (fun _ _ x9 _ => (n - intOf x9).toNat)
  case atStart => exact ⟨0, 0, 0, ⟨0, 0, 0, 0⟩, by omega, rfl, rfl, rfl, ⟨Or.inl rfl, by decide, by decide, rfl, rfl, by decide, by decide, by decide⟩, hbw2, hk_ga⟩
  case round =>
    clear hbw2 hk_ga
    obtain ⟨i, t, b, a, hi, rfl, rfl, rfl, hrl, hbw2, hk_ga⟩ := hrel
    by_cases hlt : i < n
    · have hd : decide ((i : Int) < (n : Int)) = true := decide_eq_true (by omega)
      obtain ⟨hop, bb, off, rfl, hat⟩ := hl.2 i (by have := hn2.out; omega)
      obtain ⟨o, ho⟩ : ∃ z, l.getD i opNo = z := ⟨_, rfl⟩
      rw [ho] at hop hat
      obtain ⟨hat2, B, cc, h0, h1, h2, h3, h4⟩ : OpAt V bb (off + i * 4) o ∧ ∃ B c, V.cell? ⟨bb, off + i * 4, none⟩ = some (.int .i64 o.kind) ∧ V.cell? ⟨bb, off + i * 4 + 1, none⟩ = some (.int .i64 o.why) ∧ V.cell? ⟨bb, off + i * 4 + 2, none⟩ = some (.string o.b) ∧ V.cell? ⟨bb, off + i * 4 + 3, none⟩ = some (.slice B o.x.length c) ∧ RdI V B o.x := ⟨hat, hat⟩
      clear hat hat2
      have hao := hrl.ok (by omega)
      obtain ⟨n0, s0a, s0b, s0c, s0d⟩ := cnt_step0 hrl (by omega)
      obtain ⟨n1, s1a, s1b, s1c, s1d⟩ := cnt_step1 hrl (by omega)
      have hfo := hidI (fun g W h hk hkk => hFo.out a o.why g W hao h hk hkk)
      have hde := hidI (fun W h hk => fun (hx : RdI W B o.x) => hDe.out a o.b o.x B cc W hao h hk hx hop.x1 (by have := hop.b1; omega))
      rw [s1a] at hfo s1d
      rw [s0a] at s0d
      have hb64 : ((i : Int) + 1) ≤ 9223372036854775807 := by omega
      obtain ⟨kd, hkd⟩ : ∃ z, o.kind = z := ⟨_, rfl⟩
      obtain ⟨wy, hwy⟩ : ∃ z, o.why = z := ⟨_, rfl⟩
      rw [hkd] at h0
      rw [hwy] at h1 hfo
      have ke0 := bl_cell hbw2 h0
      go_upto_region 11 with fail
      have hk_gr := blk_new wr (.cells #[.int .i64 0, .int .i64 0, .int .i64 0] 73)
      have hbA := bl_alloc (Below.refl wr.heap.size wr) (.cells #[.int .i64 0, .int .i64 0, .int .i64 0] 73)
      have hlt2 := blk_lt hk_ga
      replace hbw2 := bl_step hbw2 hbA
      replace hk_ga := bl_block hbA hk_ga
      generalize wr.alloc (.cells #[.int .i64 0, .int .i64 0, .int .i64 0] 73) = wa at *
      obtain ⟨gr, hgr⟩ : ∃ g, wr.heap.size = g := ⟨_, rfl⟩
      have hng : gr ≠ ga := by omega
      have hVg : V.heap.size ≤ gr := by omega
      rw [hgr] at hk_gr
      rw [hgr]
      clear hgr hbA ke0 hlt2
      have ke0 := bl_cell hbw2 h0
      have ke1 := bl_cell hbw2 h1
      by_cases hk2 : kd = 2
      · subst hk2
        clear hde
        go_wp2_with fail
        have hk_g := blk_new wa (.cells #[.int .i64 4294967296] 3)
        have hbA := bl_alloc (Below.refl wa.heap.size wa) (.cells #[.int .i64 4294967296] 3)
        replace hbw2 := bl_step hbw2 hbA
        replace hk_ga := bl_block hbA hk_ga
        replace hk_gr := bl_block hbA hk_gr
        generalize wa.alloc (.cells #[.int .i64 4294967296] 3) = wb at *
        generalize wa.heap.size = g at *
        clear hbA ke0 ke1
        refine (hfo.out g wb hbw2 hk_ga hk_g).mono ?_
        intro e wc hc
        obtain ⟨rfl, hA, hk2⟩ := hc
        replace hbw2 := hA.b
        replace hk_gr := hA.k _ _ hng hk_gr
        clear hk_g hA hk_ga
        have hk_ga := hk2
        clear hk2
        have y0 : wc.cell? ⟨gr, 0, none⟩ = some (.int .i64 0) := blk_cell hk_gr 0 (by rfl)
        have y1 : wc.cell? ⟨gr, 1, none⟩ = some (.int .i64 0) := blk_cell hk_gr 1 (by rfl)
        have y2 : wc.cell? ⟨gr, 2, none⟩ = some (.int .i64 0) := blk_cell hk_gr 2 (by rfl)
        have z0 := blkf hk_gr 0
        have z1 := blkf hk_gr 1
        have z2 := blkf hk_gr 2
        go_upto_region 13 with fail
        clear y0 y1 y2 z0 z1 z2
        have hk_g2 := blk_set (blk_set (blk_set hk_gr 0 (.int .i64 2147483648)) 1 (.int .i64 1)) 2 (.int .i64 wy)
        have hk_a2 := blk_far (blk_far (blk_far hk_ga (a := ⟨gr, 0, none⟩) hng (.int .i64 2147483648)) (a := ⟨gr, 1, none⟩) hng (.int .i64 1)) (a := ⟨gr, 2, none⟩) hng (.int .i64 wy)
        have hbw3 := bl_set (bl_set (bl_set hbw2 (p := ⟨gr, 0, none⟩) hVg (.int .i64 2147483648)) (p := ⟨gr, 1, none⟩) hVg (.int .i64 1)) (p := ⟨gr, 2, none⟩) hVg (.int .i64 wy)
        replace hk_gr := hk_g2
        replace hk_ga := hk_a2
        replace hbw2 := hbw3
        clear hk_g2 hk_a2 hbw3
        have hk_gr' : (((wc.setCell ⟨gr, 0, none⟩ (.int .i64 2147483648)).setCell ⟨gr, 1, none⟩ (.int .i64 1)).setCell ⟨gr, 2, none⟩ (.int .i64 wy)).heap[gr]? = some (.cells #[.int .i64 2147483648, .int .i64 1, .int .i64 wy] 73 (0, 0)) := by simpa using hk_gr
        clear hk_gr
        have hk_gr := hk_gr'
        clear hk_gr'
        generalize ((wc.setCell ⟨gr, 0, none⟩ (.int .i64 2147483648)).setCell ⟨gr, 1, none⟩ (.int .i64 1)).setCell ⟨gr, 2, none⟩ (.int .i64 wy) = wd at *
        have y0 : wd.cell? ⟨gr, 0, none⟩ = some (.int .i64 2147483648) := blk_cell hk_gr 0 (by rfl)
        have y1 : wd.cell? ⟨gr, 1, none⟩ = some (.int .i64 1) := blk_cell hk_gr 1 (by rfl)
        have y2 : wd.cell? ⟨gr, 2, none⟩ = some (.int .i64 wy) := blk_cell hk_gr 2 (by rfl)
        have ke1 := bl_cell hbw2 h1
        have il : i < l.length := by have := hn2.out; omega
        go_quiet (fail)
        replace hk_ga := blk_drewN hk_ga nq
        replace hk_gr := blk_drewN hk_gr nq
        replace hbw2 := bl_drewN hbw2 nq
        clear y0 y1 y2 ke1
        generalize wd.drewN nq = we at *
        have y1 : we.cell? ⟨gr, 1, none⟩ = some (.int .i64 1) := blk_cell hk_gr 1 (by rfl)
        have y2 : we.cell? ⟨gr, 2, none⟩ = some (.int .i64 wy) := blk_cell hk_gr 2 (by rfl)
        have hbb : b + 1 ≤ 1000000 := by have := hrl.tb; have := hrl.t0; omega
        have hb0 : 0 ≤ b := hrl.b0
        go_upto_region 21 with fail
        clear y1 y2
        unfold armV at hk_ga
        have ya0 : we.cell? ⟨ga, 0, none⟩ = some (.pointer (some ⟨gl, 0, none⟩)) := blk_cell hk_ga 0 (by rfl)
        have yl0 : we.cell? ⟨gl, 0, none⟩ = some (.pointer (some ⟨gk, 0, none⟩)) := bl_cell hbw2 hgk
        have ya4 : we.cell? ⟨ga, 4, none⟩ = some (.int .i64 t) := blk_cell hk_ga 4 (by rfl)
        have ya5 : we.cell? ⟨ga, 5, none⟩ = some (.int .i64 (b + 1)) := blk_cell hk_ga 5 (by rfl)
        have hCt := hidI (aCounts_calls ga gl gk t (b + 1) we ya0 yl0 ya4 ya5)
        clear ya0 yl0 ya4 ya5
        go_wp2_with fail
        refine hCt.out.mono ?_
        rintro e wq ⟨rfl, hbq⟩
        replace hbw2 := bl_step hbw2 hbq
        replace hk_ga := bl_block hbq hk_ga
        replace hk_gr := bl_block hbq hk_gr
        clear hbq hCt
        go_upto_region 22 with fail
        obtain ⟨w00, hw00⟩ : ∃ z : World, z = V := ⟨_, rfl⟩
        have hn1 : 1 ≤ n1 := by omega
        have hn2' : n1 ≤ (i : Int) + 1 := by omega
        have hnA : decide (n1 < 1) = false := decide_eq_false (by omega)
        have hnB : decide ((i : Int) + 1 < n1) = false := decide_eq_false (by omega)
        have hIw := hidI (IntWalk.i64_in ((i : Int) + 1) (by omega))
        have hIw2 : Hid (wrap64 ((i : Int) + 1) = (i : Int) + 1) := by unfold Hid wrap64; omega
        have hgkq : wq.cell? ⟨gl, 0, none⟩ = some (.pointer (some ⟨gk, 0, none⟩)) := bl_cell hbw2 hgk
        obtain ⟨w0_, hw0_⟩ : ∃ z : World, z = w0 := ⟨_, rfl⟩
        have hbw := bl_step hbw0 hbw2
        have c0_hbw2 := bl_drew hbw2
        have c0_hgl : wq.drew.cell? ⟨gl, 0, none⟩ = some (.pointer (some ⟨gk, 0, none⟩)) := hgkq
        clear hw00 w00 hw0_ w0_ hgkq
        obtain ⟨B0, hB0⟩ : ∃ B, B = wq.heap.size := ⟨_, rfl⟩
        have c0_hsz : B0 ≤ wq.heap.size := Nat.le_of_eq hB0
        have hw0B0 : w0.heap.size ≤ B0 := by rw [hB0]; exact hbw.size
        have c0_hle : wq.heap.size ≤ B0 := Nat.le_of_eq hB0.symm
        have c0_hk_ga := blk_drew hk_ga
        have c0_lt_ga : ga < B0 := by rw [hB0]; exact blk_lt hk_ga
        have c0_hk_gr := blk_drew hk_gr
        have c0_lt_gr : gr < B0 := by rw [hB0]; exact blk_lt hk_gr
        have c0_hbw := bl_drew hbw
        clear hB0 hbw hk_ga hk_gr
        refine region_lin (n := 27) (st := ?st17) { R := [0, 0, 3, 7, 15, 15, 63, 127, 255, 511, 1023, 511, 2559, 8191, 16383, 32767, 65535, 131071, 262143, 524287, 1048575, 2097151, 4194303, 2097151, 10485759, 33554431, 67108863], kill := [[], [], [], [], [], [], [], [], [], [], [], [], [], [], [], [], [], [], [], [], [], [], [], [], [], [], []], cls := [0, 0, 0, 0, 0, 0, 0, 0, 0, 0, 0, 0, 0, 0, 0, 0, 0, 0, 0, 0, 0, 0, 0, 0, 0, 0, 0], dst := [some 104, some 105, some 106, some 107, some 108, some 109, some 110, some 111, some 112, some 113, some 114, some 115, some 116, some 117, some 118, some 119, some 120, some 121, some 122, some 123, some 124, some 125, some 126, some 127, some 128, some 129, some 130], pre := [[], [], [0, 1], [2], [3], [3], [3, 4, 5], [3, 6], [7], [8], [8, 9], [8], [8, 11], [8, 10, 12], [8, 13], [14], [15], [15, 16], [15, 17], [15, 18], [19], [20], [20, 21], [20], [20, 23], [20, 22, 24], [20, 25]], cov := [], fin := [26], locs := [], tgt := [none], abt := [none, none, none, none, none, none, none, none, none, none, none, none, none, none, none, none, none, none, none, none, none, none, none, none, none, none, none] }
          [.v [104] (fun vs => (vs.getD 0 undef) = .int .i64 t),
           .v [105] (fun vs => (vs.getD 0 undef) = .int .i64 t),
           .v [106] (fun vs => (vs.getD 0 undef) = .bool false),
           .v [107] (fun vs => (vs.getD 0 undef) = .bool false),
           .v [108] (fun vs => (vs.getD 0 undef) = .int .i64 (b + 1)),
           .v [109] (fun vs => (vs.getD 0 undef) = .int .i64 (b + 1)),
           .v [110] (fun vs => (vs.getD 0 undef) = .bool false),
           .v [111] (fun vs => (vs.getD 0 undef) = .bool false),
           .v [112] (fun vs => (vs.getD 0 undef) = .bool false),
           .v [113] (fun vs => (vs.getD 0 undef) = .pointer (some ⟨ga, 0, none⟩)),
           .v [114] (fun vs => (vs.getD 0 undef) = .int .i64 1),
           .v [115] (fun vs => (vs.getD 0 undef) = .pointer (some ⟨gr, 1, none⟩)),
           .v [116] (fun vs => (vs.getD 0 undef) = .int .i64 1),
           .v [117] (fun vs => (vs.getD 0 undef) = .bool false),
           .v [118] (fun vs => (vs.getD 0 undef) = .bool false),
           .v [119] (fun vs => (vs.getD 0 undef) = .bool false),
           .v [120] (fun vs => (vs.getD 0 undef) = .pointer (some ⟨ga, 0, none⟩)),
           .v [121] (fun vs => (vs.getD 0 undef) = .int .i64 n1),
           .v [122] (fun vs => (vs.getD 0 undef) = .bool false),
           .v [123] (fun vs => (vs.getD 0 undef) = .bool false),
           .v [124] (fun vs => (vs.getD 0 undef) = .bool false),
           .v [125] (fun vs => (vs.getD 0 undef) = .pointer (some ⟨ga, 0, none⟩)),
           .v [126] (fun vs => (vs.getD 0 undef) = .int .i64 n1),
           .v [127] (fun vs => (vs.getD 0 undef) = .int .i64 (i : Int)),
           .v [128] (fun vs => (vs.getD 0 undef) = .int .i64 ((i : Int) + 1)),
           .v [129] (fun vs => (vs.getD 0 undef) = .bool false),
           .v [130] (fun vs => (vs.getD 0 undef) = .bool false)]
          (fun w => B0 ≤ w.heap.size ∧ w.heap[ga]? = some (.cells #[.pointer (some ⟨gl, 0, none⟩), .int .i64 hold, .int .i64 1, .int .i64 n1, .int .i64 t, .int .i64 (b + 1), .slice aS 1 cS] 78 (0, 0)) ∧ ga < B0 ∧ w.heap[gr]? = some (.cells #[.int .i64 2147483648, .int .i64 1, .int .i64 wy] 73 (0, 0)) ∧ gr < B0 ∧ Below w0.heap.size w0 w ∧ Below V.heap.size V w ∧ w.cell? ⟨gl, 0, none⟩ = some (.pointer (some ⟨gk, 0, none⟩)))
          (fun c => ([fun s w w' => Below w.heap.size w w'] : List ((Nat → Value) → World → World → Prop)).getD c (fun s w w' => w' = w))
          [104, 105, 106, 107, 108, 109, 110, 111, 112, 113, 114, 115, 116, 117, 118, 119, 120, 121, 122, 123, 124, 125, 126, 127, 128, 129, 130] (by kernel_rfl) ⟨by kernel_rfl, by kernel_rfl, by kernel_rfl, by kernel_rfl, by kernel_rfl, by kernel_rfl, by kernel_rfl, by kernel_rfl⟩ (fun s => ?_) ?_ ?_ ?_ ?_ ?_ (fun s w hC hA => ?_)
        rotate_left
        · simp only [fillS, List.foldl, List.setIfInBounds_toArray, List.set_cons_zero, List.set_cons_succ]; rfl
        · exact ⟨c0_hsz, c0_hk_ga, c0_lt_ga, c0_hk_gr, c0_lt_gr, c0_hbw, c0_hbw2, c0_hgl⟩
        · intro c s w w' hE
          match c, hE with
          | 0, hE => exact Below.size hE
          | c + 1, hE => cases hE; exact Nat.le_refl _
        · rintro c s w w' ⟨hsz, hk_ga, lt_ga, hk_gr, lt_gr, hbw, hbw2, hgl⟩ hE
          match c, hE with
          | 0, hE => replace hE : Below w.heap.size w w' := hE; exact ⟨Nat.le_trans hsz hE.size, bl_block hE hk_ga, lt_ga, bl_block hE hk_gr, lt_gr, bl_step hbw hE, bl_step hbw2 hE, bl_cell hE hgl⟩
          | c + 1, hE => cases hE; exact ⟨hsz, hk_ga, lt_ga, hk_gr, lt_gr, hbw, hbw2, hgl⟩
        · exact trivial
        · skip
          refine StepsP.cons ?_ ?_
          · intro Q s w hC hA K hK
            clear hC
            clear hA
            refine guard_none (by rfl) ?_
            refine wp_value (v := .int .i64 t) (w1 := w) ?_ (hK.out _ w (Below.refl _ _) rfl (fun h => by cases h))
            go_simp
            try (first | done | rfl | (simp; done))
          refine StepsP.cons ?_ ?_
          · intro Q s w hC hA K hK
            clear hC
            clear hA
            refine guard_none (by rfl) ?_
            refine wp_value (v := .int .i64 t) (w1 := w) ?_ (hK.out _ w (Below.refl _ _) rfl (fun h => by cases h))
            go_simp
            try (first | done | rfl | (simp; done))
          refine StepsP.cons ?_ ?_
          · intro Q s w hC hA K hK
            clear hC
            obtain ⟨f0, f1, -⟩ := hA
            replace f0 : (s 104) = .int .i64 t := f0
            replace f1 : (s 105) = .int .i64 t := f1
            refine guard_none (by rfl) ?_
            refine wp_value (v := .bool false) (w1 := w) ?_ (hK.out _ w (Below.refl _ _) rfl (fun h => by cases h))
            try simp only [f0, f1]
            go_simp
            try (first | done | rfl | (simp; done))
          refine StepsP.cons ?_ ?_
          · intro Q s w hC hA K hK
            clear hC
            obtain ⟨f2, -⟩ := hA
            replace f2 : (s 106) = .bool false := f2
            refine guard_none (by rfl) ?_
            refine wp_value (v := .bool false) (w1 := w) ?_ (hK.out _ w (Below.refl _ _) rfl (fun h => by cases h))
            try simp only [f2]
            go_simp
            try (first | done | rfl | (simp; done))
          refine StepsP.cons ?_ ?_
          · intro Q s w hC hA K hK
            clear hC
            obtain ⟨f3, -⟩ := hA
            replace f3 : (s 107) = .bool false := f3
            refine guard_on (d := 107) (want := false) (by rfl) (by rfl) ?_ ?_
            · exact f3
            refine wp_value (v := .int .i64 (b + 1)) (w1 := w) ?_ (hK.out _ w (Below.refl _ _) rfl (fun h => by cases h))
            try simp only [f3]
            go_simp
            try (first | done | rfl | (simp; done))
          refine StepsP.cons ?_ ?_
          · intro Q s w hC hA K hK
            clear hC
            obtain ⟨f3, -⟩ := hA
            replace f3 : (s 107) = .bool false := f3
            refine guard_on (d := 107) (want := false) (by rfl) (by rfl) ?_ ?_
            · exact f3
            refine wp_value (v := .int .i64 (b + 1)) (w1 := w) ?_ (hK.out _ w (Below.refl _ _) rfl (fun h => by cases h))
            try simp only [f3]
            go_simp
            try (first | done | rfl | (simp; done))
          refine StepsP.cons ?_ ?_
          · intro Q s w hC hA K hK
            clear hC
            obtain ⟨f3, f4, f5, -⟩ := hA
            replace f3 : (s 107) = .bool false := f3
            replace f4 : (s 108) = .int .i64 (b + 1) := f4
            replace f5 : (s 109) = .int .i64 (b + 1) := f5
            refine guard_on (d := 107) (want := false) (by rfl) (by rfl) ?_ ?_
            · exact f3
            refine wp_value (v := .bool false) (w1 := w) ?_ (hK.out _ w (Below.refl _ _) rfl (fun h => by cases h))
            try simp only [f3, f4, f5]
            go_simp
            try (first | done | rfl | (simp; done))
          refine StepsP.cons ?_ ?_
          · intro Q s w hC hA K hK
            clear hC
            obtain ⟨f3, f6, -⟩ := hA
            replace f3 : (s 107) = .bool false := f3
            replace f6 : (s 110) = .bool false := f6
            refine guard_none (by rfl) ?_
            refine wp_value (v := .bool false) (w1 := w) ?_ (hK.out _ w (Below.refl _ _) rfl (fun h => by cases h))
            try simp only [f3, f6]
            go_simp
            try (first | done | rfl | (simp; done))
          refine StepsP.cons ?_ ?_
          · intro Q s w hC hA K hK
            clear hC
            obtain ⟨f7, -⟩ := hA
            replace f7 : (s 111) = .bool false := f7
            refine guard_none (by rfl) ?_
            refine wp_value (v := .bool false) (w1 := w) ?_ (hK.out _ w (Below.refl _ _) rfl (fun h => by cases h))
            try simp only [f7]
            go_simp
            try (first | done | rfl | (simp; done))
          refine StepsP.cons ?_ ?_
          · intro Q s w hC hA K hK
            clear hC
            obtain ⟨f8, -⟩ := hA
            replace f8 : (s 112) = .bool false := f8
            refine guard_on (d := 112) (want := false) (by rfl) (by rfl) ?_ ?_
            · exact f8
            refine wp_value (v := .pointer (some ⟨ga, 0, none⟩)) (w1 := w) ?_ (hK.out _ w (Below.refl _ _) rfl (fun h => by cases h))
            try simp only [f8]
            go_simp
            try (first | done | rfl | (simp; done))
          refine StepsP.cons ?_ ?_
          · intro Q s w hC hA K hK
            obtain ⟨hsz, hk_ga, lt_ga, hk_gr, lt_gr, hbw, hbw2, hgl⟩ := hC
            obtain ⟨f8, f9, -⟩ := hA
            replace f8 : (s 112) = .bool false := f8
            replace f9 : (s 113) = .pointer (some ⟨ga, 0, none⟩) := f9
            refine guard_on (d := 112) (want := false) (by rfl) (by rfl) ?_ ?_
            · exact f8
            refine wp_call (N := some 114) (by rfl) Try.func42 (by kernel_rfl) #[.pointer (some ⟨ga, 0, none⟩)] rfl (by rfl) ?_ ?_
            · show [s 113] = [.pointer (some ⟨ga, 0, none⟩)]
              first | rfl | simp only [f8, f9]
            refine (aSource_calls ga gl gk 1 _ (blk_cell hk_ga 0 (by rfl)) hgl (blk_cell hk_ga 2 (by rfl))).mono ?_
            rintro e w1 ⟨rfl, rfl⟩
            refine ⟨_, rfl, ?_⟩
            exact hK.out _ _ (Below.refl _ _) rfl (fun h => by cases h)
          refine StepsP.cons ?_ ?_
          · intro Q s w hC hA K hK
            clear hC
            obtain ⟨f8, -⟩ := hA
            replace f8 : (s 112) = .bool false := f8
            refine guard_on (d := 112) (want := false) (by rfl) (by rfl) ?_ ?_
            · exact f8
            refine wp_value (v := .pointer (some ⟨gr, 1, none⟩)) (w1 := w) ?_ (hK.out _ w (Below.refl _ _) rfl (fun h => by cases h))
            try simp only [f8]
            go_simp
            try (first | done | rfl | (simp; done))
          refine StepsP.cons ?_ ?_
          · intro Q s w hC hA K hK
            obtain ⟨hsz, hk_ga, lt_ga, hk_gr, lt_gr, hbw, hbw2, hgl⟩ := hC
            obtain ⟨f8, f11, -⟩ := hA
            replace f8 : (s 112) = .bool false := f8
            replace f11 : (s 115) = .pointer (some ⟨gr, 1, none⟩) := f11
            refine guard_on (d := 112) (want := false) (by rfl) (by rfl) ?_ ?_
            · exact f8
            have m0_gr : w.cell? ⟨gr, 0, none⟩ = some (.int .i64 2147483648) := blk_cell hk_gr 0 (by rfl)
            have m1_gr : w.cell? ⟨gr, 1, none⟩ = some (.int .i64 1) := blk_cell hk_gr 1 (by rfl)
            have m2_gr : w.cell? ⟨gr, 2, none⟩ = some (.int .i64 wy) := blk_cell hk_gr 2 (by rfl)
            refine wp_value (v := .int .i64 1) (w1 := w) ?_ (hK.out _ w (Below.refl _ _) rfl (fun h => by cases h))
            try simp only [f8, f11]
            go_simp
            try (first | done | rfl | (simp; done))
          refine StepsP.cons ?_ ?_
          · intro Q s w hC hA K hK
            clear hC
            obtain ⟨f8, f10, f12, -⟩ := hA
            replace f8 : (s 112) = .bool false := f8
            replace f10 : (s 114) = .int .i64 1 := f10
            replace f12 : (s 116) = .int .i64 1 := f12
            refine guard_on (d := 112) (want := false) (by rfl) (by rfl) ?_ ?_
            · exact f8
            refine wp_value (v := .bool false) (w1 := w) ?_ (hK.out _ w (Below.refl _ _) rfl (fun h => by cases h))
            try simp only [f8, f10, f12]
            go_simp
            try (first | done | rfl | (simp; done))
          refine StepsP.cons ?_ ?_
          · intro Q s w hC hA K hK
            clear hC
            obtain ⟨f8, f13, -⟩ := hA
            replace f8 : (s 112) = .bool false := f8
            replace f13 : (s 117) = .bool false := f13
            refine guard_none (by rfl) ?_
            refine wp_value (v := .bool false) (w1 := w) ?_ (hK.out _ w (Below.refl _ _) rfl (fun h => by cases h))
            try simp only [f8, f13]
            go_simp
            try (first | done | rfl | (simp; done))
          refine StepsP.cons ?_ ?_
          · intro Q s w hC hA K hK
            clear hC
            obtain ⟨f14, -⟩ := hA
            replace f14 : (s 118) = .bool false := f14
            refine guard_none (by rfl) ?_
            refine wp_value (v := .bool false) (w1 := w) ?_ (hK.out _ w (Below.refl _ _) rfl (fun h => by cases h))
            try simp only [f14]
            go_simp
            try (first | done | rfl | (simp; done))
          refine StepsP.cons ?_ ?_
          · intro Q s w hC hA K hK
            clear hC
            obtain ⟨f15, -⟩ := hA
            replace f15 : (s 119) = .bool false := f15
            refine guard_on (d := 119) (want := false) (by rfl) (by rfl) ?_ ?_
            · exact f15
            refine wp_value (v := .pointer (some ⟨ga, 0, none⟩)) (w1 := w) ?_ (hK.out _ w (Below.refl _ _) rfl (fun h => by cases h))
            try simp only [f15]
            go_simp
            try (first | done | rfl | (simp; done))
          refine StepsP.cons ?_ ?_
          · intro Q s w hC hA K hK
            obtain ⟨hsz, hk_ga, lt_ga, hk_gr, lt_gr, hbw, hbw2, hgl⟩ := hC
            obtain ⟨f15, f16, -⟩ := hA
            replace f15 : (s 119) = .bool false := f15
            replace f16 : (s 120) = .pointer (some ⟨ga, 0, none⟩) := f16
            refine guard_on (d := 119) (want := false) (by rfl) (by rfl) ?_ ?_
            · exact f15
            refine wp_call (N := some 121) (by rfl) Try.func43 (by kernel_rfl) #[.pointer (some ⟨ga, 0, none⟩)] rfl (by rfl) ?_ ?_
            · show [s 120] = [.pointer (some ⟨ga, 0, none⟩)]
              first | rfl | simp only [f15, f16]
            refine (aSince_calls ga gl gk n1 _ (blk_cell hk_ga 0 (by rfl)) hgl (blk_cell hk_ga 3 (by rfl))).mono ?_
            rintro e w1 ⟨rfl, rfl⟩
            refine ⟨_, rfl, ?_⟩
            exact hK.out _ _ (Below.refl _ _) rfl (fun h => by cases h)
          refine StepsP.cons ?_ ?_
          · intro Q s w hC hA K hK
            clear hC
            obtain ⟨f15, f17, -⟩ := hA
            replace f15 : (s 119) = .bool false := f15
            replace f17 : (s 121) = .int .i64 n1 := f17
            refine guard_on (d := 119) (want := false) (by rfl) (by rfl) ?_ ?_
            · exact f15
            refine wp_value (v := .bool false) (w1 := w) ?_ (hK.out _ w (Below.refl _ _) rfl (fun h => by cases h))
            try simp only [f15, f17]
            go_simp
            first | done | exact hnA | (simp [hnA]; done)
          refine StepsP.cons ?_ ?_
          · intro Q s w hC hA K hK
            clear hC
            obtain ⟨f15, f18, -⟩ := hA
            replace f15 : (s 119) = .bool false := f15
            replace f18 : (s 122) = .bool false := f18
            refine guard_none (by rfl) ?_
            refine wp_value (v := .bool false) (w1 := w) ?_ (hK.out _ w (Below.refl _ _) rfl (fun h => by cases h))
            try simp only [f15, f18]
            go_simp
            try (first | done | rfl | (simp; done))
          refine StepsP.cons ?_ ?_
          · intro Q s w hC hA K hK
            clear hC
            obtain ⟨f19, -⟩ := hA
            replace f19 : (s 123) = .bool false := f19
            refine guard_none (by rfl) ?_
            refine wp_value (v := .bool false) (w1 := w) ?_ (hK.out _ w (Below.refl _ _) rfl (fun h => by cases h))
            try simp only [f19]
            go_simp
            try (first | done | rfl | (simp; done))
          refine StepsP.cons ?_ ?_
          · intro Q s w hC hA K hK
            clear hC
            obtain ⟨f20, -⟩ := hA
            replace f20 : (s 124) = .bool false := f20
            refine guard_on (d := 124) (want := false) (by rfl) (by rfl) ?_ ?_
            · exact f20
            refine wp_value (v := .pointer (some ⟨ga, 0, none⟩)) (w1 := w) ?_ (hK.out _ w (Below.refl _ _) rfl (fun h => by cases h))
            try simp only [f20]
            go_simp
            try (first | done | rfl | (simp; done))
          refine StepsP.cons ?_ ?_
          · intro Q s w hC hA K hK
            obtain ⟨hsz, hk_ga, lt_ga, hk_gr, lt_gr, hbw, hbw2, hgl⟩ := hC
            obtain ⟨f20, f21, -⟩ := hA
            replace f20 : (s 124) = .bool false := f20
            replace f21 : (s 125) = .pointer (some ⟨ga, 0, none⟩) := f21
            refine guard_on (d := 124) (want := false) (by rfl) (by rfl) ?_ ?_
            · exact f20
            refine wp_call (N := some 126) (by rfl) Try.func43 (by kernel_rfl) #[.pointer (some ⟨ga, 0, none⟩)] rfl (by rfl) ?_ ?_
            · show [s 125] = [.pointer (some ⟨ga, 0, none⟩)]
              first | rfl | simp only [f20, f21]
            refine (aSince_calls ga gl gk n1 _ (blk_cell hk_ga 0 (by rfl)) hgl (blk_cell hk_ga 3 (by rfl))).mono ?_
            rintro e w1 ⟨rfl, rfl⟩
            refine ⟨_, rfl, ?_⟩
            exact hK.out _ _ (Below.refl _ _) rfl (fun h => by cases h)
          refine StepsP.cons ?_ ?_
          · intro Q s w hC hA K hK
            clear hC
            obtain ⟨f20, -⟩ := hA
            replace f20 : (s 124) = .bool false := f20
            refine guard_on (d := 124) (want := false) (by rfl) (by rfl) ?_ ?_
            · exact f20
            refine wp_value (v := .int .i64 (i : Int)) (w1 := w) ?_ (hK.out _ w (Below.refl _ _) rfl (fun h => by cases h))
            try simp only [f20]
            go_simp
            try (first | done | rfl | (simp; done))
          refine StepsP.cons ?_ ?_
          · intro Q s w hC hA K hK
            clear hC
            obtain ⟨f20, f23, -⟩ := hA
            replace f20 : (s 124) = .bool false := f20
            replace f23 : (s 127) = .int .i64 (i : Int) := f23
            refine guard_on (d := 124) (want := false) (by rfl) (by rfl) ?_ ?_
            · exact f20
            refine wp_value (v := .int .i64 ((i : Int) + 1)) (w1 := w) ?_ (hK.out _ w (Below.refl _ _) rfl (fun h => by cases h))
            try simp only [f20, f23]
            go_simp
            first | done | rfl | (simp [hIw.out]; done) | (simp [hIw2.out]; done)
          refine StepsP.cons ?_ ?_
          · intro Q s w hC hA K hK
            clear hC
            obtain ⟨f20, f22, f24, -⟩ := hA
            replace f20 : (s 124) = .bool false := f20
            replace f22 : (s 126) = .int .i64 n1 := f22
            replace f24 : (s 128) = .int .i64 ((i : Int) + 1) := f24
            refine guard_on (d := 124) (want := false) (by rfl) (by rfl) ?_ ?_
            · exact f20
            refine wp_value (v := .bool false) (w1 := w) ?_ (hK.out _ w (Below.refl _ _) rfl (fun h => by cases h))
            try simp only [f20, f22, f24]
            go_simp
            first | done | exact hnB | (simp [hnB]; done)
          refine StepsP.cons ?_ ?_
          · intro Q s w hC hA K hK
            clear hC
            obtain ⟨f20, f25, -⟩ := hA
            replace f20 : (s 124) = .bool false := f20
            replace f25 : (s 129) = .bool false := f25
            refine guard_none (by rfl) ?_
            refine wp_value (v := .bool false) (w1 := w) ?_ (hK.out _ w (Below.refl _ _) rfl (fun h => by cases h))
            try simp only [f20, f25]
            go_simp
            try (first | done | rfl | (simp; done))
          exact StepsP.nil
        obtain ⟨hsz, hk_ga, lt_ga, hk_gr, lt_gr, hbw, hbw2, hgl⟩ := hC
        obtain ⟨f26, -⟩ := hA
        replace f26 : (s 130) = .bool false := f26
        refine act_eq (b' := ?b17) ?h17 ?q17
        case h17 => simp only [f26]; rfl
        go_wp2
        go_roundw
        case rel => exact ⟨i + 1, _, _, _, by omega, by go_num, rfl, rfl, s1d, hbw2, hk_ga⟩
        case measure => simp [intOf]; omega
      · have dk : (kd == 2) = false := by simpa using hk2
        replace hk2 := hidI hk2
        clear hfo
        obtain ⟨dc, hdc⟩ : ∃ z, decCmd halfP [0] hold a o.b o.x = z := ⟨_, rfl⟩
        rw [hdc] at hde
        have hds : decSrc halfP [0] hold a o.b o.x = if decWhy halfP [0] hold a o.b o.x = 0 then 0 else 1 := rfl
        obtain ⟨dw, hdw⟩ : ∃ z, decWhy halfP [0] hold a o.b o.x = z := ⟨_, rfl⟩
        rw [hdw] at hds hde
        clear hdc hdw
        have il : i < l.length := by have := hn2.out; omega
        by_cases hz : dw = 0
        · skip
          rw [if_pos hz] at hds
          rw [hds, hz, s0a] at hde
          clear hds hz
          go_upto_region 15 with fail
          clear ke0 ke1
          have hbw := hbw2
          replace hk_ga := blk_drew hk_ga
          replace hk_gr := blk_drew hk_gr
          replace hbw := bl_drew hbw
          refine start_ (n := 13) (S := fun w' => w'.cell? ⟨bb, off + i * 4 + 2, none⟩ = some (.string o.b) ∧ w'.cell? ⟨bb, off + i * 4 + 3, none⟩ = some (.slice B o.x.length cc)) (ds := []) #[false, false, false, false, false, false, false, false, false, false, false, false, false] (by kernel_rfl) rfl rfl ⟨(bl_cell hbw h2), (bl_cell hbw h3)⟩ (fun hHeld => ?_)
          generalize wa.drew = wn at *
          refine pure_ (i := 0) (N := some 73) (v := ?_) (a' := ?_) #[true, false, false, false, false, false, false, false, false, false, false, false, false] rfl rfl (by kernel_rfl) (fun _ _ _ h => h) (Or.inl ⟨by rfl, ?_⟩) ?_ ?_
          rotate_left
          · intro w'
            go_simp
            with_reducible rfl
          rotate_left
          · simp only [Act.put, List.setIfInBounds_toArray, List.set_cons_zero, List.set_cons_succ, i64_w, i32_w]
            rfl
          refine pure_ (i := 1) (N := some 74) (v := ?_) (a' := ?_) #[true, true, false, false, false, false, false, false, false, false, false, false, false] rfl rfl (by kernel_rfl) (fun _ _ _ h => h) (Or.inl ⟨by rfl, ?_⟩) ?_ ?_
          rotate_left
          · intro w'
            go_simp
            with_reducible rfl
          rotate_left
          · simp only [Act.put, List.setIfInBounds_toArray, List.set_cons_zero, List.set_cons_succ, i64_w, i32_w]
            rfl
          refine pure_ (i := 2) (N := some 75) (v := ?_) (a' := ?_) #[true, true, true, false, false, false, false, false, false, false, false, false, false] rfl rfl (by kernel_rfl) (fun _ _ _ h => h) (Or.inl ⟨by rfl, ?_⟩) ?_ ?_
          rotate_left
          · intro w'
            go_simp
            with_reducible rfl
          rotate_left
          · simp only [Act.put, List.setIfInBounds_toArray, List.set_cons_zero, List.set_cons_succ, i64_w, i32_w]
            rfl
          refine pure_ (i := 3) (N := some 76) (v := ?_) (a' := ?_) #[true, true, true, true, false, false, false, false, false, false, false, false, false] rfl rfl (by kernel_rfl) (fun _ _ _ h => h) (Or.inl ⟨by rfl, ?_⟩) ?_ ?_
          rotate_left
          · intro w'
            go_simp
            with_reducible rfl
          rotate_left
          · simp only [Act.put, List.setIfInBounds_toArray, List.set_cons_zero, List.set_cons_succ, i64_w, i32_w]
            rfl
          refine pure_ (i := 4) (N := some 77) (v := ?_) (a' := ?_) #[true, true, true, true, true, false, false, false, false, false, false, false, false] rfl rfl (by kernel_rfl) (fun _ _ _ h => h) (Or.inl ⟨by rfl, ?_⟩) ?_ ?_
          rotate_left
          · intro w'
            go_simp
            with_reducible rfl
          rotate_left
          · simp only [Act.put, List.setIfInBounds_toArray, List.set_cons_zero, List.set_cons_succ, i64_w, i32_w]
            rfl
          refine pure_ (i := 6) (N := some 79) (v := ?_) (a' := ?_) #[true, true, true, true, true, false, true, false, false, false, false, false, false] rfl rfl (by kernel_rfl) (fun _ _ _ h => h) (Or.inl ⟨by rfl, ?_⟩) ?_ ?_
          rotate_left
          · intro w'
            go_simp
            with_reducible rfl
          rotate_left
          · simp only [Act.put, List.setIfInBounds_toArray, List.set_cons_zero, List.set_cons_succ, i64_w, i32_w]
            rfl
          refine pure_ (i := 7) (N := some 80) (v := ?_) (a' := ?_) #[true, true, true, true, true, false, true, true, false, false, false, false, false] rfl rfl (by kernel_rfl) (fun _ _ _ h => h) (Or.inl ⟨by rfl, ?_⟩) ?_ ?_
          rotate_left
          · intro w'
            go_simp
            with_reducible rfl
          rotate_left
          · simp only [Act.put, List.setIfInBounds_toArray, List.set_cons_zero, List.set_cons_succ, i64_w, i32_w]
            rfl
          refine pure_ (i := 8) (N := some 81) (v := ?_) (a' := ?_) #[true, true, true, true, true, false, true, true, true, false, false, false, false] rfl rfl (by kernel_rfl) (fun _ _ _ h => h) (Or.inl ⟨by rfl, ?_⟩) ?_ ?_
          rotate_left
          · intro w'
            go_simp
            with_reducible rfl
          rotate_left
          · simp only [Act.put, List.setIfInBounds_toArray, List.set_cons_zero, List.set_cons_succ, i64_w, i32_w]
            rfl
          refine pure_ (i := 9) (N := some 82) (v := ?_) (a' := ?_) #[true, true, true, true, true, false, true, true, true, true, false, false, false] rfl rfl (by kernel_rfl) (fun _ _ _ h => h) (Or.inl ⟨by rfl, ?_⟩) ?_ ?_
          rotate_left
          · intro w'
            go_simp
            with_reducible rfl
          rotate_left
          · simp only [Act.put, List.setIfInBounds_toArray, List.set_cons_zero, List.set_cons_succ, i64_w, i32_w]
            rfl
          refine take_ (i := 5) (N := some 78) (v := ?_) (a' := ?_) #[true, true, true, true, true, true, true, true, true, true, false, false, false] rfl rfl (by kernel_rfl) (fun _ _ _ h => h) (Or.inl ⟨by rfl, ?_⟩) hHeld ?_ ?_
          rotate_left
          · rintro w' ⟨s0, s1⟩
            go_simp
            with_reducible rfl
          rotate_left
          · simp only [Act.put, List.setIfInBounds_toArray, List.set_cons_zero, List.set_cons_succ, i64_w, i32_w]
            rfl
          refine take_ (i := 10) (N := some 83) (v := ?_) (a' := ?_) #[true, true, true, true, true, true, true, true, true, true, true, false, false] rfl rfl (by kernel_rfl) (fun _ _ _ h => h) (Or.inl ⟨by rfl, ?_⟩) hHeld ?_ ?_
          rotate_left
          · rintro w' ⟨s0, s1⟩
            go_simp
            with_reducible rfl
          rotate_left
          · simp only [Act.put, List.setIfInBounds_toArray, List.set_cons_zero, List.set_cons_succ, i64_w, i32_w]
            rfl
          refine one_ (i := 11) (N := some 84) #[true, true, true, true, true, true, true, true, true, true, true, true, false] rfl rfl (by kernel_rfl) (by decide) (fun K hK => ?_)
          refine goes_ Try.func38 (by kernel_rfl) rfl #[.pointer (some ⟨ga, 0, none⟩), .string o.b, .slice B o.x.length cc] (by rfl) rfl rfl (by simp only [List.map_toArray, List.map_cons, List.map_nil] <;> rfl) ?_
          refine (hde.out _ hbw hk_ga (h4.below hbw)).mono ?_
          intro e wn' hc
          obtain ⟨rfl, hA, hk2⟩ := hc
          refine ⟨_, rfl, ?_⟩
          replace hbw := hA.b
          replace hk_gr := hA.k _ _ hng hk_gr
          clear hk_ga hA
          have hk_ga := hk2
          clear hk2
          generalize wn' = wn at *
          clear hHeld
          refine hK.out _ _ ⟨(bl_cell hbw h2), (bl_cell hbw h3)⟩ (fun hHeld => ?_)
          clear hK K
          refine norm_ (a' := ?_) ?_ ?_
          rotate_left
          · show Act.put _ (some 84) _ = _
            simp only [Act.put, List.setIfInBounds_toArray, List.set_cons_zero, List.set_cons_succ, i64_w, i32_w]
            rfl
          refine one_ (i := 12) (N := none) #[true, true, true, true, true, true, true, true, true, true, true, true, true] rfl rfl (by kernel_rfl) (by decide) (fun K hK => ?_)
          have y0 : wn.cell? ⟨gr, 0, none⟩ = some (.int .i64 0) := blk_cell hk_gr 0 (by rfl)
          have y1 : wn.cell? ⟨gr, 1, none⟩ = some (.int .i64 0) := blk_cell hk_gr 1 (by rfl)
          have y2 : wn.cell? ⟨gr, 2, none⟩ = some (.int .i64 0) := blk_cell hk_gr 2 (by rfl)
          have z0 := blkf hk_gr 0
          have z1 := blkf hk_gr 1
          have z2 := blkf hk_gr 2
          refine skip_ (w1 := ((wn.setCell ⟨gr, 0, none⟩ (.int .i64 dc)).setCell ⟨gr, 1, none⟩ (.int .i64 0)).setCell ⟨gr, 2, none⟩ (.int .i64 0)) (by rfl) rfl ?_ ?_
          · go_simp
            try rfl
          clear y0 y1 y2 z0 z1 z2
          replace hk_gr : (((wn.setCell ⟨gr, 0, none⟩ (.int .i64 dc)).setCell ⟨gr, 1, none⟩ (.int .i64 0)).setCell ⟨gr, 2, none⟩ (.int .i64 0)).heap[gr]? = some (.cells #[.int .i64 dc, .int .i64 0, .int .i64 0] 73 (0, 0)) := by have h_ := blk_set (blk_set (blk_set hk_gr 0 (.int .i64 dc)) 1 (.int .i64 0)) 2 (.int .i64 0); simpa using h_
          replace hk_ga := blk_far (blk_far (blk_far hk_ga (a := ⟨gr, 0, none⟩) hng (.int .i64 dc)) (a := ⟨gr, 1, none⟩) hng (.int .i64 0)) (a := ⟨gr, 2, none⟩) hng (.int .i64 0)
          replace hbw := bl_set (bl_set (bl_set hbw (p := ⟨gr, 0, none⟩) hVg (.int .i64 dc)) (p := ⟨gr, 1, none⟩) hVg (.int .i64 0)) (p := ⟨gr, 2, none⟩) hVg (.int .i64 0)
          generalize ((wn.setCell ⟨gr, 0, none⟩ (.int .i64 dc)).setCell ⟨gr, 1, none⟩ (.int .i64 0)).setCell ⟨gr, 2, none⟩ (.int .i64 0) = wn at *
          clear hHeld
          refine hK.out _ _ ⟨(bl_cell hbw h2), (bl_cell hbw h3)⟩ (fun hHeld => ?_)
          clear hK K
          refine done_ (by kernel_rfl) ?_
          have hbw2 := hbw
          have y1 : wn.cell? ⟨gr, 1, none⟩ = some (.int .i64 0) := blk_cell hk_gr 1 (by rfl)
          have y2 : wn.cell? ⟨gr, 2, none⟩ = some (.int .i64 0) := blk_cell hk_gr 2 (by rfl)
          have hbb : b + 1 ≤ 1000000 := by have := hrl.tb; have := hrl.t0; omega
          have htt : t + 1 ≤ 1000000 := by have := hrl.tb; have := hrl.b0; omega
          have hb0 : 0 ≤ b := hrl.b0
          have ht0 : 0 ≤ t := hrl.t0
          go_upto_region 21 with fail
          clear y1 y2 hbw
          unfold armV at hk_ga
          have ya0 : wn.cell? ⟨ga, 0, none⟩ = some (.pointer (some ⟨gl, 0, none⟩)) := blk_cell hk_ga 0 (by rfl)
          have yl0 : wn.cell? ⟨gl, 0, none⟩ = some (.pointer (some ⟨gk, 0, none⟩)) := bl_cell hbw2 hgk
          have ya4 : wn.cell? ⟨ga, 4, none⟩ = some (.int .i64 (t + 1)) := blk_cell hk_ga 4 (by rfl)
          have ya5 : wn.cell? ⟨ga, 5, none⟩ = some (.int .i64 b) := blk_cell hk_ga 5 (by rfl)
          have hCt := hidI (aCounts_calls ga gl gk (t + 1) b wn ya0 yl0 ya4 ya5)
          clear ya0 yl0 ya4 ya5
          go_wp2_with fail
          refine hCt.out.mono ?_
          rintro e wq ⟨rfl, hbq⟩
          replace hbw2 := bl_step hbw2 hbq
          replace hk_ga := bl_block hbq hk_ga
          replace hk_gr := bl_block hbq hk_gr
          clear hbq hCt
          go_upto_region 22 with fail
          obtain ⟨w00, hw00⟩ : ∃ z : World, z = V := ⟨_, rfl⟩
          have hn1 : 1 ≤ n0 := by omega
          have hn2' : n0 ≤ (i : Int) + 1 := by omega
          have hnA : decide (n0 < 1) = false := decide_eq_false (by omega)
          have hnB : decide ((i : Int) + 1 < n0) = false := decide_eq_false (by omega)
          have hIw := hidI (IntWalk.i64_in ((i : Int) + 1) (by omega))
          have hIw2 : Hid (wrap64 ((i : Int) + 1) = (i : Int) + 1) := by unfold Hid wrap64; omega
          have hgkq : wq.cell? ⟨gl, 0, none⟩ = some (.pointer (some ⟨gk, 0, none⟩)) := bl_cell hbw2 hgk
          obtain ⟨w0_, hw0_⟩ : ∃ z : World, z = w0 := ⟨_, rfl⟩
          have hbw := bl_step hbw0 hbw2
          have c0_hbw2 := bl_drew hbw2
          have c0_hgl : wq.drew.cell? ⟨gl, 0, none⟩ = some (.pointer (some ⟨gk, 0, none⟩)) := hgkq
          clear hw00 w00 hw0_ w0_ hgkq
          obtain ⟨B0, hB0⟩ : ∃ B, B = wq.heap.size := ⟨_, rfl⟩
          have c0_hsz : B0 ≤ wq.heap.size := Nat.le_of_eq hB0
          have hw0B0 : w0.heap.size ≤ B0 := by rw [hB0]; exact hbw.size
          have c0_hle : wq.heap.size ≤ B0 := Nat.le_of_eq hB0.symm
          have c0_hk_ga := blk_drew hk_ga
          have c0_lt_ga : ga < B0 := by rw [hB0]; exact blk_lt hk_ga
          have c0_hk_gr := blk_drew hk_gr
          have c0_lt_gr : gr < B0 := by rw [hB0]; exact blk_lt hk_gr
          have c0_hbw := bl_drew hbw
          clear hB0 hbw hk_ga hk_gr
          refine region_lin (n := 27) (st := ?st18) { R := [0, 0, 3, 7, 15, 15, 63, 127, 255, 511, 1023, 511, 2559, 8191, 16383, 32767, 65535, 131071, 262143, 524287, 1048575, 2097151, 4194303, 2097151, 10485759, 33554431, 67108863], kill := [[], [], [], [], [], [], [], [], [], [], [], [], [], [], [], [], [], [], [], [], [], [], [], [], [], [], []], cls := [0, 0, 0, 0, 0, 0, 0, 0, 0, 0, 0, 0, 0, 0, 0, 0, 0, 0, 0, 0, 0, 0, 0, 0, 0, 0, 0], dst := [some 104, some 105, some 106, some 107, some 108, some 109, some 110, some 111, some 112, some 113, some 114, some 115, some 116, some 117, some 118, some 119, some 120, some 121, some 122, some 123, some 124, some 125, some 126, some 127, some 128, some 129, some 130], pre := [[], [], [0, 1], [2], [3], [3], [3, 4, 5], [3, 6], [7], [8], [8, 9], [8], [8, 11], [8, 10, 12], [8, 13], [14], [15], [15, 16], [15, 17], [15, 18], [19], [20], [20, 21], [20], [20, 23], [20, 22, 24], [20, 25]], cov := [], fin := [26], locs := [], tgt := [none], abt := [none, none, none, none, none, none, none, none, none, none, none, none, none, none, none, none, none, none, none, none, none, none, none, none, none, none, none] }
            [.v [104] (fun vs => (vs.getD 0 undef) = .int .i64 (t + 1)),
             .v [105] (fun vs => (vs.getD 0 undef) = .int .i64 (t + 1)),
             .v [106] (fun vs => (vs.getD 0 undef) = .bool false),
             .v [107] (fun vs => (vs.getD 0 undef) = .bool false),
             .v [108] (fun vs => (vs.getD 0 undef) = .int .i64 b),
             .v [109] (fun vs => (vs.getD 0 undef) = .int .i64 b),
             .v [110] (fun vs => (vs.getD 0 undef) = .bool false),
             .v [111] (fun vs => (vs.getD 0 undef) = .bool false),
             .v [112] (fun vs => (vs.getD 0 undef) = .bool false),
             .v [113] (fun vs => (vs.getD 0 undef) = .pointer (some ⟨ga, 0, none⟩)),
             .v [114] (fun vs => (vs.getD 0 undef) = .int .i64 0),
             .v [115] (fun vs => (vs.getD 0 undef) = .pointer (some ⟨gr, 1, none⟩)),
             .v [116] (fun vs => (vs.getD 0 undef) = .int .i64 0),
             .v [117] (fun vs => (vs.getD 0 undef) = .bool false),
             .v [118] (fun vs => (vs.getD 0 undef) = .bool false),
             .v [119] (fun vs => (vs.getD 0 undef) = .bool false),
             .v [120] (fun vs => (vs.getD 0 undef) = .pointer (some ⟨ga, 0, none⟩)),
             .v [121] (fun vs => (vs.getD 0 undef) = .int .i64 n0),
             .v [122] (fun vs => (vs.getD 0 undef) = .bool false),
             .v [123] (fun vs => (vs.getD 0 undef) = .bool false),
             .v [124] (fun vs => (vs.getD 0 undef) = .bool false),
             .v [125] (fun vs => (vs.getD 0 undef) = .pointer (some ⟨ga, 0, none⟩)),
             .v [126] (fun vs => (vs.getD 0 undef) = .int .i64 n0),
             .v [127] (fun vs => (vs.getD 0 undef) = .int .i64 (i : Int)),
             .v [128] (fun vs => (vs.getD 0 undef) = .int .i64 ((i : Int) + 1)),
             .v [129] (fun vs => (vs.getD 0 undef) = .bool false),
             .v [130] (fun vs => (vs.getD 0 undef) = .bool false)]
            (fun w => B0 ≤ w.heap.size ∧ w.heap[ga]? = some (.cells #[.pointer (some ⟨gl, 0, none⟩), .int .i64 hold, .int .i64 0, .int .i64 n0, .int .i64 (t + 1), .int .i64 b, .slice aS 1 cS] 78 (0, 0)) ∧ ga < B0 ∧ w.heap[gr]? = some (.cells #[.int .i64 dc, .int .i64 0, .int .i64 0] 73 (0, 0)) ∧ gr < B0 ∧ Below w0.heap.size w0 w ∧ Below V.heap.size V w ∧ w.cell? ⟨gl, 0, none⟩ = some (.pointer (some ⟨gk, 0, none⟩)))
            (fun c => ([fun s w w' => Below w.heap.size w w'] : List ((Nat → Value) → World → World → Prop)).getD c (fun s w w' => w' = w))
            [104, 105, 106, 107, 108, 109, 110, 111, 112, 113, 114, 115, 116, 117, 118, 119, 120, 121, 122, 123, 124, 125, 126, 127, 128, 129, 130] (by kernel_rfl) ⟨by kernel_rfl, by kernel_rfl, by kernel_rfl, by kernel_rfl, by kernel_rfl, by kernel_rfl, by kernel_rfl, by kernel_rfl⟩ (fun s => ?_) ?_ ?_ ?_ ?_ ?_ (fun s w hC hA => ?_)
          rotate_left
          · simp only [fillS, List.foldl, List.setIfInBounds_toArray, List.set_cons_zero, List.set_cons_succ]; rfl
          · exact ⟨c0_hsz, c0_hk_ga, c0_lt_ga, c0_hk_gr, c0_lt_gr, c0_hbw, c0_hbw2, c0_hgl⟩
          · intro c s w w' hE
            match c, hE with
            | 0, hE => exact Below.size hE
            | c + 1, hE => cases hE; exact Nat.le_refl _
          · rintro c s w w' ⟨hsz, hk_ga, lt_ga, hk_gr, lt_gr, hbw, hbw2, hgl⟩ hE
            match c, hE with
            | 0, hE => replace hE : Below w.heap.size w w' := hE; exact ⟨Nat.le_trans hsz hE.size, bl_block hE hk_ga, lt_ga, bl_block hE hk_gr, lt_gr, bl_step hbw hE, bl_step hbw2 hE, bl_cell hE hgl⟩
            | c + 1, hE => cases hE; exact ⟨hsz, hk_ga, lt_ga, hk_gr, lt_gr, hbw, hbw2, hgl⟩
          · exact trivial
          · skip
            refine StepsP.cons ?_ ?_
            · intro Q s w hC hA K hK
              clear hC
              clear hA
              refine guard_none (by rfl) ?_
              refine wp_value (v := .int .i64 (t + 1)) (w1 := w) ?_ (hK.out _ w (Below.refl _ _) rfl (fun h => by cases h))
              go_simp
              try (first | done | rfl | (simp; done))
            refine StepsP.cons ?_ ?_
            · intro Q s w hC hA K hK
              clear hC
              clear hA
              refine guard_none (by rfl) ?_
              refine wp_value (v := .int .i64 (t + 1)) (w1 := w) ?_ (hK.out _ w (Below.refl _ _) rfl (fun h => by cases h))
              go_simp
              try (first | done | rfl | (simp; done))
            refine StepsP.cons ?_ ?_
            · intro Q s w hC hA K hK
              clear hC
              obtain ⟨f0, f1, -⟩ := hA
              replace f0 : (s 104) = .int .i64 (t + 1) := f0
              replace f1 : (s 105) = .int .i64 (t + 1) := f1
              refine guard_none (by rfl) ?_
              refine wp_value (v := .bool false) (w1 := w) ?_ (hK.out _ w (Below.refl _ _) rfl (fun h => by cases h))
              try simp only [f0, f1]
              go_simp
              try (first | done | rfl | (simp; done))
            refine StepsP.cons ?_ ?_
            · intro Q s w hC hA K hK
              clear hC
              obtain ⟨f2, -⟩ := hA
              replace f2 : (s 106) = .bool false := f2
              refine guard_none (by rfl) ?_
              refine wp_value (v := .bool false) (w1 := w) ?_ (hK.out _ w (Below.refl _ _) rfl (fun h => by cases h))
              try simp only [f2]
              go_simp
              try (first | done | rfl | (simp; done))
            refine StepsP.cons ?_ ?_
            · intro Q s w hC hA K hK
              clear hC
              obtain ⟨f3, -⟩ := hA
              replace f3 : (s 107) = .bool false := f3
              refine guard_on (d := 107) (want := false) (by rfl) (by rfl) ?_ ?_
              · exact f3
              refine wp_value (v := .int .i64 b) (w1 := w) ?_ (hK.out _ w (Below.refl _ _) rfl (fun h => by cases h))
              try simp only [f3]
              go_simp
              try (first | done | rfl | (simp; done))
            refine StepsP.cons ?_ ?_
            · intro Q s w hC hA K hK
              clear hC
              obtain ⟨f3, -⟩ := hA
              replace f3 : (s 107) = .bool false := f3
              refine guard_on (d := 107) (want := false) (by rfl) (by rfl) ?_ ?_
              · exact f3
              refine wp_value (v := .int .i64 b) (w1 := w) ?_ (hK.out _ w (Below.refl _ _) rfl (fun h => by cases h))
              try simp only [f3]
              go_simp
              try (first | done | rfl | (simp; done))
            refine StepsP.cons ?_ ?_
            · intro Q s w hC hA K hK
              clear hC
              obtain ⟨f3, f4, f5, -⟩ := hA
              replace f3 : (s 107) = .bool false := f3
              replace f4 : (s 108) = .int .i64 b := f4
              replace f5 : (s 109) = .int .i64 b := f5
              refine guard_on (d := 107) (want := false) (by rfl) (by rfl) ?_ ?_
              · exact f3
              refine wp_value (v := .bool false) (w1 := w) ?_ (hK.out _ w (Below.refl _ _) rfl (fun h => by cases h))
              try simp only [f3, f4, f5]
              go_simp
              try (first | done | rfl | (simp; done))
            refine StepsP.cons ?_ ?_
            · intro Q s w hC hA K hK
              clear hC
              obtain ⟨f3, f6, -⟩ := hA
              replace f3 : (s 107) = .bool false := f3
              replace f6 : (s 110) = .bool false := f6
              refine guard_none (by rfl) ?_
              refine wp_value (v := .bool false) (w1 := w) ?_ (hK.out _ w (Below.refl _ _) rfl (fun h => by cases h))
              try simp only [f3, f6]
              go_simp
              try (first | done | rfl | (simp; done))
            refine StepsP.cons ?_ ?_
            · intro Q s w hC hA K hK
              clear hC
              obtain ⟨f7, -⟩ := hA
              replace f7 : (s 111) = .bool false := f7
              refine guard_none (by rfl) ?_
              refine wp_value (v := .bool false) (w1 := w) ?_ (hK.out _ w (Below.refl _ _) rfl (fun h => by cases h))
              try simp only [f7]
              go_simp
              try (first | done | rfl | (simp; done))
            refine StepsP.cons ?_ ?_
            · intro Q s w hC hA K hK
              clear hC
              obtain ⟨f8, -⟩ := hA
              replace f8 : (s 112) = .bool false := f8
              refine guard_on (d := 112) (want := false) (by rfl) (by rfl) ?_ ?_
              · exact f8
              refine wp_value (v := .pointer (some ⟨ga, 0, none⟩)) (w1 := w) ?_ (hK.out _ w (Below.refl _ _) rfl (fun h => by cases h))
              try simp only [f8]
              go_simp
              try (first | done | rfl | (simp; done))
            refine StepsP.cons ?_ ?_
            · intro Q s w hC hA K hK
              obtain ⟨hsz, hk_ga, lt_ga, hk_gr, lt_gr, hbw, hbw2, hgl⟩ := hC
              obtain ⟨f8, f9, -⟩ := hA
              replace f8 : (s 112) = .bool false := f8
              replace f9 : (s 113) = .pointer (some ⟨ga, 0, none⟩) := f9
              refine guard_on (d := 112) (want := false) (by rfl) (by rfl) ?_ ?_
              · exact f8
              refine wp_call (N := some 114) (by rfl) Try.func42 (by kernel_rfl) #[.pointer (some ⟨ga, 0, none⟩)] rfl (by rfl) ?_ ?_
              · show [s 113] = [.pointer (some ⟨ga, 0, none⟩)]
                first | rfl | simp only [f8, f9]
              refine (aSource_calls ga gl gk 0 _ (blk_cell hk_ga 0 (by rfl)) hgl (blk_cell hk_ga 2 (by rfl))).mono ?_
              rintro e w1 ⟨rfl, rfl⟩
              refine ⟨_, rfl, ?_⟩
              exact hK.out _ _ (Below.refl _ _) rfl (fun h => by cases h)
            refine StepsP.cons ?_ ?_
            · intro Q s w hC hA K hK
              clear hC
              obtain ⟨f8, -⟩ := hA
              replace f8 : (s 112) = .bool false := f8
              refine guard_on (d := 112) (want := false) (by rfl) (by rfl) ?_ ?_
              · exact f8
              refine wp_value (v := .pointer (some ⟨gr, 1, none⟩)) (w1 := w) ?_ (hK.out _ w (Below.refl _ _) rfl (fun h => by cases h))
              try simp only [f8]
              go_simp
              try (first | done | rfl | (simp; done))
            refine StepsP.cons ?_ ?_
            · intro Q s w hC hA K hK
              obtain ⟨hsz, hk_ga, lt_ga, hk_gr, lt_gr, hbw, hbw2, hgl⟩ := hC
              obtain ⟨f8, f11, -⟩ := hA
              replace f8 : (s 112) = .bool false := f8
              replace f11 : (s 115) = .pointer (some ⟨gr, 1, none⟩) := f11
              refine guard_on (d := 112) (want := false) (by rfl) (by rfl) ?_ ?_
              · exact f8
              have m0_gr : w.cell? ⟨gr, 0, none⟩ = some (.int .i64 dc) := blk_cell hk_gr 0 (by rfl)
              have m1_gr : w.cell? ⟨gr, 1, none⟩ = some (.int .i64 0) := blk_cell hk_gr 1 (by rfl)
              have m2_gr : w.cell? ⟨gr, 2, none⟩ = some (.int .i64 0) := blk_cell hk_gr 2 (by rfl)
              refine wp_value (v := .int .i64 0) (w1 := w) ?_ (hK.out _ w (Below.refl _ _) rfl (fun h => by cases h))
              try simp only [f8, f11]
              go_simp
              try (first | done | rfl | (simp; done))
            refine StepsP.cons ?_ ?_
            · intro Q s w hC hA K hK
              clear hC
              obtain ⟨f8, f10, f12, -⟩ := hA
              replace f8 : (s 112) = .bool false := f8
              replace f10 : (s 114) = .int .i64 0 := f10
              replace f12 : (s 116) = .int .i64 0 := f12
              refine guard_on (d := 112) (want := false) (by rfl) (by rfl) ?_ ?_
              · exact f8
              refine wp_value (v := .bool false) (w1 := w) ?_ (hK.out _ w (Below.refl _ _) rfl (fun h => by cases h))
              try simp only [f8, f10, f12]
              go_simp
              try (first | done | rfl | (simp; done))
            refine StepsP.cons ?_ ?_
            · intro Q s w hC hA K hK
              clear hC
              obtain ⟨f8, f13, -⟩ := hA
              replace f8 : (s 112) = .bool false := f8
              replace f13 : (s 117) = .bool false := f13
              refine guard_none (by rfl) ?_
              refine wp_value (v := .bool false) (w1 := w) ?_ (hK.out _ w (Below.refl _ _) rfl (fun h => by cases h))
              try simp only [f8, f13]
              go_simp
              try (first | done | rfl | (simp; done))
            refine StepsP.cons ?_ ?_
            · intro Q s w hC hA K hK
              clear hC
              obtain ⟨f14, -⟩ := hA
              replace f14 : (s 118) = .bool false := f14
              refine guard_none (by rfl) ?_
              refine wp_value (v := .bool false) (w1 := w) ?_ (hK.out _ w (Below.refl _ _) rfl (fun h => by cases h))
              try simp only [f14]
              go_simp
              try (first | done | rfl | (simp; done))
            refine StepsP.cons ?_ ?_
            · intro Q s w hC hA K hK
              clear hC
              obtain ⟨f15, -⟩ := hA
              replace f15 : (s 119) = .bool false := f15
              refine guard_on (d := 119) (want := false) (by rfl) (by rfl) ?_ ?_
              · exact f15
              refine wp_value (v := .pointer (some ⟨ga, 0, none⟩)) (w1 := w) ?_ (hK.out _ w (Below.refl _ _) rfl (fun h => by cases h))
              try simp only [f15]
              go_simp
              try (first | done | rfl | (simp; done))
            refine StepsP.cons ?_ ?_
            · intro Q s w hC hA K hK
              obtain ⟨hsz, hk_ga, lt_ga, hk_gr, lt_gr, hbw, hbw2, hgl⟩ := hC
              obtain ⟨f15, f16, -⟩ := hA
              replace f15 : (s 119) = .bool false := f15
              replace f16 : (s 120) = .pointer (some ⟨ga, 0, none⟩) := f16
              refine guard_on (d := 119) (want := false) (by rfl) (by rfl) ?_ ?_
              · exact f15
              refine wp_call (N := some 121) (by rfl) Try.func43 (by kernel_rfl) #[.pointer (some ⟨ga, 0, none⟩)] rfl (by rfl) ?_ ?_
              · show [s 120] = [.pointer (some ⟨ga, 0, none⟩)]
                first | rfl | simp only [f15, f16]
              refine (aSince_calls ga gl gk n0 _ (blk_cell hk_ga 0 (by rfl)) hgl (blk_cell hk_ga 3 (by rfl))).mono ?_
              rintro e w1 ⟨rfl, rfl⟩
              refine ⟨_, rfl, ?_⟩
              exact hK.out _ _ (Below.refl _ _) rfl (fun h => by cases h)
            refine StepsP.cons ?_ ?_
            · intro Q s w hC hA K hK
              clear hC
              obtain ⟨f15, f17, -⟩ := hA
              replace f15 : (s 119) = .bool false := f15
              replace f17 : (s 121) = .int .i64 n0 := f17
              refine guard_on (d := 119) (want := false) (by rfl) (by rfl) ?_ ?_
              · exact f15
              refine wp_value (v := .bool false) (w1 := w) ?_ (hK.out _ w (Below.refl _ _) rfl (fun h => by cases h))
              try simp only [f15, f17]
              go_simp
              first | done | exact hnA | (simp [hnA]; done)
            refine StepsP.cons ?_ ?_
            · intro Q s w hC hA K hK
              clear hC
              obtain ⟨f15, f18, -⟩ := hA
              replace f15 : (s 119) = .bool false := f15
              replace f18 : (s 122) = .bool false := f18
              refine guard_none (by rfl) ?_
              refine wp_value (v := .bool false) (w1 := w) ?_ (hK.out _ w (Below.refl _ _) rfl (fun h => by cases h))
              try simp only [f15, f18]
              go_simp
              try (first | done | rfl | (simp; done))
            refine StepsP.cons ?_ ?_
            · intro Q s w hC hA K hK
              clear hC
              obtain ⟨f19, -⟩ := hA
              replace f19 : (s 123) = .bool false := f19
              refine guard_none (by rfl) ?_
              refine wp_value (v := .bool false) (w1 := w) ?_ (hK.out _ w (Below.refl _ _) rfl (fun h => by cases h))
              try simp only [f19]
              go_simp
              try (first | done | rfl | (simp; done))
            refine StepsP.cons ?_ ?_
            · intro Q s w hC hA K hK
              clear hC
              obtain ⟨f20, -⟩ := hA
              replace f20 : (s 124) = .bool false := f20
              refine guard_on (d := 124) (want := false) (by rfl) (by rfl) ?_ ?_
              · exact f20
              refine wp_value (v := .pointer (some ⟨ga, 0, none⟩)) (w1 := w) ?_ (hK.out _ w (Below.refl _ _) rfl (fun h => by cases h))
              try simp only [f20]
              go_simp
              try (first | done | rfl | (simp; done))
            refine StepsP.cons ?_ ?_
            · intro Q s w hC hA K hK
              obtain ⟨hsz, hk_ga, lt_ga, hk_gr, lt_gr, hbw, hbw2, hgl⟩ := hC
              obtain ⟨f20, f21, -⟩ := hA
              replace f20 : (s 124) = .bool false := f20
              replace f21 : (s 125) = .pointer (some ⟨ga, 0, none⟩) := f21
              refine guard_on (d := 124) (want := false) (by rfl) (by rfl) ?_ ?_
              · exact f20
              refine wp_call (N := some 126) (by rfl) Try.func43 (by kernel_rfl) #[.pointer (some ⟨ga, 0, none⟩)] rfl (by rfl) ?_ ?_
              · show [s 125] = [.pointer (some ⟨ga, 0, none⟩)]
                first | rfl | simp only [f20, f21]
              refine (aSince_calls ga gl gk n0 _ (blk_cell hk_ga 0 (by rfl)) hgl (blk_cell hk_ga 3 (by rfl))).mono ?_
              rintro e w1 ⟨rfl, rfl⟩
              refine ⟨_, rfl, ?_⟩
              exact hK.out _ _ (Below.refl _ _) rfl (fun h => by cases h)
            refine StepsP.cons ?_ ?_
            · intro Q s w hC hA K hK
              clear hC
              obtain ⟨f20, -⟩ := hA
              replace f20 : (s 124) = .bool false := f20
              refine guard_on (d := 124) (want := false) (by rfl) (by rfl) ?_ ?_
              · exact f20
              refine wp_value (v := .int .i64 (i : Int)) (w1 := w) ?_ (hK.out _ w (Below.refl _ _) rfl (fun h => by cases h))
              try simp only [f20]
              go_simp
              try (first | done | rfl | (simp; done))
            refine StepsP.cons ?_ ?_
            · intro Q s w hC hA K hK
              clear hC
              obtain ⟨f20, f23, -⟩ := hA
              replace f20 : (s 124) = .bool false := f20
              replace f23 : (s 127) = .int .i64 (i : Int) := f23
              refine guard_on (d := 124) (want := false) (by rfl) (by rfl) ?_ ?_
              · exact f20
              refine wp_value (v := .int .i64 ((i : Int) + 1)) (w1 := w) ?_ (hK.out _ w (Below.refl _ _) rfl (fun h => by cases h))
              try simp only [f20, f23]
              go_simp
              first | done | rfl | (simp [hIw.out]; done) | (simp [hIw2.out]; done)
            refine StepsP.cons ?_ ?_
            · intro Q s w hC hA K hK
              clear hC
              obtain ⟨f20, f22, f24, -⟩ := hA
              replace f20 : (s 124) = .bool false := f20
              replace f22 : (s 126) = .int .i64 n0 := f22
              replace f24 : (s 128) = .int .i64 ((i : Int) + 1) := f24
              refine guard_on (d := 124) (want := false) (by rfl) (by rfl) ?_ ?_
              · exact f20
              refine wp_value (v := .bool false) (w1 := w) ?_ (hK.out _ w (Below.refl _ _) rfl (fun h => by cases h))
              try simp only [f20, f22, f24]
              go_simp
              first | done | exact hnB | (simp [hnB]; done)
            refine StepsP.cons ?_ ?_
            · intro Q s w hC hA K hK
              clear hC
              obtain ⟨f20, f25, -⟩ := hA
              replace f20 : (s 124) = .bool false := f20
              replace f25 : (s 129) = .bool false := f25
              refine guard_none (by rfl) ?_
              refine wp_value (v := .bool false) (w1 := w) ?_ (hK.out _ w (Below.refl _ _) rfl (fun h => by cases h))
              try simp only [f20, f25]
              go_simp
              try (first | done | rfl | (simp; done))
            exact StepsP.nil
          obtain ⟨hsz, hk_ga, lt_ga, hk_gr, lt_gr, hbw, hbw2, hgl⟩ := hC
          obtain ⟨f26, -⟩ := hA
          replace f26 : (s 130) = .bool false := f26
          refine act_eq (b' := ?b18) ?h18 ?q18
          case h18 => simp only [f26]; rfl
          go_wp2
          go_roundw
          case rel => exact ⟨i + 1, _, _, _, by omega, by go_num, rfl, rfl, s0d, hbw2, hk_ga⟩
          case measure => simp [intOf]; omega
        · skip
          rw [if_neg hz] at hds
          rw [hds, s1a] at hde
          have dz : (dw == 0) = false := by simpa using hz
          replace hz := hidI hz
          clear hds
          go_upto_region 15 with fail
          clear ke0 ke1
          have hbw := hbw2
          replace hk_ga := blk_drew hk_ga
          replace hk_gr := blk_drew hk_gr
          replace hbw := bl_drew hbw
          refine start_ (n := 13) (S := fun w' => w'.cell? ⟨bb, off + i * 4 + 2, none⟩ = some (.string o.b) ∧ w'.cell? ⟨bb, off + i * 4 + 3, none⟩ = some (.slice B o.x.length cc)) (ds := []) #[false, false, false, false, false, false, false, false, false, false, false, false, false] (by kernel_rfl) rfl rfl ⟨(bl_cell hbw h2), (bl_cell hbw h3)⟩ (fun hHeld => ?_)
          generalize wa.drew = wn at *
          refine pure_ (i := 0) (N := some 73) (v := ?_) (a' := ?_) #[true, false, false, false, false, false, false, false, false, false, false, false, false] rfl rfl (by kernel_rfl) (fun _ _ _ h => h) (Or.inl ⟨by rfl, ?_⟩) ?_ ?_
          rotate_left
          · intro w'
            go_simp
            with_reducible rfl
          rotate_left
          · simp only [Act.put, List.setIfInBounds_toArray, List.set_cons_zero, List.set_cons_succ, i64_w, i32_w]
            rfl
          refine pure_ (i := 1) (N := some 74) (v := ?_) (a' := ?_) #[true, true, false, false, false, false, false, false, false, false, false, false, false] rfl rfl (by kernel_rfl) (fun _ _ _ h => h) (Or.inl ⟨by rfl, ?_⟩) ?_ ?_
          rotate_left
          · intro w'
            go_simp
            with_reducible rfl
          rotate_left
          · simp only [Act.put, List.setIfInBounds_toArray, List.set_cons_zero, List.set_cons_succ, i64_w, i32_w]
            rfl
          refine pure_ (i := 2) (N := some 75) (v := ?_) (a' := ?_) #[true, true, true, false, false, false, false, false, false, false, false, false, false] rfl rfl (by kernel_rfl) (fun _ _ _ h => h) (Or.inl ⟨by rfl, ?_⟩) ?_ ?_
          rotate_left
          · intro w'
            go_simp
            with_reducible rfl
          rotate_left
          · simp only [Act.put, List.setIfInBounds_toArray, List.set_cons_zero, List.set_cons_succ, i64_w, i32_w]
            rfl
          refine pure_ (i := 3) (N := some 76) (v := ?_) (a' := ?_) #[true, true, true, true, false, false, false, false, false, false, false, false, false] rfl rfl (by kernel_rfl) (fun _ _ _ h => h) (Or.inl ⟨by rfl, ?_⟩) ?_ ?_
          rotate_left
          · intro w'
            go_simp
            with_reducible rfl
          rotate_left
          · simp only [Act.put, List.setIfInBounds_toArray, List.set_cons_zero, List.set_cons_succ, i64_w, i32_w]
            rfl
          refine pure_ (i := 4) (N := some 77) (v := ?_) (a' := ?_) #[true, true, true, true, true, false, false, false, false, false, false, false, false] rfl rfl (by kernel_rfl) (fun _ _ _ h => h) (Or.inl ⟨by rfl, ?_⟩) ?_ ?_
          rotate_left
          · intro w'
            go_simp
            with_reducible rfl
          rotate_left
          · simp only [Act.put, List.setIfInBounds_toArray, List.set_cons_zero, List.set_cons_succ, i64_w, i32_w]
            rfl
          refine pure_ (i := 6) (N := some 79) (v := ?_) (a' := ?_) #[true, true, true, true, true, false, true, false, false, false, false, false, false] rfl rfl (by kernel_rfl) (fun _ _ _ h => h) (Or.inl ⟨by rfl, ?_⟩) ?_ ?_
          rotate_left
          · intro w'
            go_simp
            with_reducible rfl
          rotate_left
          · simp only [Act.put, List.setIfInBounds_toArray, List.set_cons_zero, List.set_cons_succ, i64_w, i32_w]
            rfl
          refine pure_ (i := 7) (N := some 80) (v := ?_) (a' := ?_) #[true, true, true, true, true, false, true, true, false, false, false, false, false] rfl rfl (by kernel_rfl) (fun _ _ _ h => h) (Or.inl ⟨by rfl, ?_⟩) ?_ ?_
          rotate_left
          · intro w'
            go_simp
            with_reducible rfl
          rotate_left
          · simp only [Act.put, List.setIfInBounds_toArray, List.set_cons_zero, List.set_cons_succ, i64_w, i32_w]
            rfl
          refine pure_ (i := 8) (N := some 81) (v := ?_) (a' := ?_) #[true, true, true, true, true, false, true, true, true, false, false, false, false] rfl rfl (by kernel_rfl) (fun _ _ _ h => h) (Or.inl ⟨by rfl, ?_⟩) ?_ ?_
          rotate_left
          · intro w'
            go_simp
            with_reducible rfl
          rotate_left
          · simp only [Act.put, List.setIfInBounds_toArray, List.set_cons_zero, List.set_cons_succ, i64_w, i32_w]
            rfl
          refine pure_ (i := 9) (N := some 82) (v := ?_) (a' := ?_) #[true, true, true, true, true, false, true, true, true, true, false, false, false] rfl rfl (by kernel_rfl) (fun _ _ _ h => h) (Or.inl ⟨by rfl, ?_⟩) ?_ ?_
          rotate_left
          · intro w'
            go_simp
            with_reducible rfl
          rotate_left
          · simp only [Act.put, List.setIfInBounds_toArray, List.set_cons_zero, List.set_cons_succ, i64_w, i32_w]
            rfl
          refine take_ (i := 5) (N := some 78) (v := ?_) (a' := ?_) #[true, true, true, true, true, true, true, true, true, true, false, false, false] rfl rfl (by kernel_rfl) (fun _ _ _ h => h) (Or.inl ⟨by rfl, ?_⟩) hHeld ?_ ?_
          rotate_left
          · rintro w' ⟨s0, s1⟩
            go_simp
            with_reducible rfl
          rotate_left
          · simp only [Act.put, List.setIfInBounds_toArray, List.set_cons_zero, List.set_cons_succ, i64_w, i32_w]
            rfl
          refine take_ (i := 10) (N := some 83) (v := ?_) (a' := ?_) #[true, true, true, true, true, true, true, true, true, true, true, false, false] rfl rfl (by kernel_rfl) (fun _ _ _ h => h) (Or.inl ⟨by rfl, ?_⟩) hHeld ?_ ?_
          rotate_left
          · rintro w' ⟨s0, s1⟩
            go_simp
            with_reducible rfl
          rotate_left
          · simp only [Act.put, List.setIfInBounds_toArray, List.set_cons_zero, List.set_cons_succ, i64_w, i32_w]
            rfl
          refine one_ (i := 11) (N := some 84) #[true, true, true, true, true, true, true, true, true, true, true, true, false] rfl rfl (by kernel_rfl) (by decide) (fun K hK => ?_)
          refine goes_ Try.func38 (by kernel_rfl) rfl #[.pointer (some ⟨ga, 0, none⟩), .string o.b, .slice B o.x.length cc] (by rfl) rfl rfl (by simp only [List.map_toArray, List.map_cons, List.map_nil] <;> rfl) ?_
          refine (hde.out _ hbw hk_ga (h4.below hbw)).mono ?_
          intro e wn' hc
          obtain ⟨rfl, hA, hk2⟩ := hc
          refine ⟨_, rfl, ?_⟩
          replace hbw := hA.b
          replace hk_gr := hA.k _ _ hng hk_gr
          clear hk_ga hA
          have hk_ga := hk2
          clear hk2
          generalize wn' = wn at *
          clear hHeld
          refine hK.out _ _ ⟨(bl_cell hbw h2), (bl_cell hbw h3)⟩ (fun hHeld => ?_)
          clear hK K
          refine norm_ (a' := ?_) ?_ ?_
          rotate_left
          · show Act.put _ (some 84) _ = _
            simp only [Act.put, List.setIfInBounds_toArray, List.set_cons_zero, List.set_cons_succ, i64_w, i32_w]
            rfl
          refine one_ (i := 12) (N := none) #[true, true, true, true, true, true, true, true, true, true, true, true, true] rfl rfl (by kernel_rfl) (by decide) (fun K hK => ?_)
          have y0 : wn.cell? ⟨gr, 0, none⟩ = some (.int .i64 0) := blk_cell hk_gr 0 (by rfl)
          have y1 : wn.cell? ⟨gr, 1, none⟩ = some (.int .i64 0) := blk_cell hk_gr 1 (by rfl)
          have y2 : wn.cell? ⟨gr, 2, none⟩ = some (.int .i64 0) := blk_cell hk_gr 2 (by rfl)
          have z0 := blkf hk_gr 0
          have z1 := blkf hk_gr 1
          have z2 := blkf hk_gr 2
          refine skip_ (w1 := ((wn.setCell ⟨gr, 0, none⟩ (.int .i64 dc)).setCell ⟨gr, 1, none⟩ (.int .i64 1)).setCell ⟨gr, 2, none⟩ (.int .i64 dw)) (by rfl) rfl ?_ ?_
          · go_simp
            try rfl
          clear y0 y1 y2 z0 z1 z2
          replace hk_gr : (((wn.setCell ⟨gr, 0, none⟩ (.int .i64 dc)).setCell ⟨gr, 1, none⟩ (.int .i64 1)).setCell ⟨gr, 2, none⟩ (.int .i64 dw)).heap[gr]? = some (.cells #[.int .i64 dc, .int .i64 1, .int .i64 dw] 73 (0, 0)) := by have h_ := blk_set (blk_set (blk_set hk_gr 0 (.int .i64 dc)) 1 (.int .i64 1)) 2 (.int .i64 dw); simpa using h_
          replace hk_ga := blk_far (blk_far (blk_far hk_ga (a := ⟨gr, 0, none⟩) hng (.int .i64 dc)) (a := ⟨gr, 1, none⟩) hng (.int .i64 1)) (a := ⟨gr, 2, none⟩) hng (.int .i64 dw)
          replace hbw := bl_set (bl_set (bl_set hbw (p := ⟨gr, 0, none⟩) hVg (.int .i64 dc)) (p := ⟨gr, 1, none⟩) hVg (.int .i64 1)) (p := ⟨gr, 2, none⟩) hVg (.int .i64 dw)
          generalize ((wn.setCell ⟨gr, 0, none⟩ (.int .i64 dc)).setCell ⟨gr, 1, none⟩ (.int .i64 1)).setCell ⟨gr, 2, none⟩ (.int .i64 dw) = wn at *
          clear hHeld
          refine hK.out _ _ ⟨(bl_cell hbw h2), (bl_cell hbw h3)⟩ (fun hHeld => ?_)
          clear hK K
          refine done_ (by kernel_rfl) ?_
          have hbw2 := hbw
          have y1 : wn.cell? ⟨gr, 1, none⟩ = some (.int .i64 1) := blk_cell hk_gr 1 (by rfl)
          have y2 : wn.cell? ⟨gr, 2, none⟩ = some (.int .i64 dw) := blk_cell hk_gr 2 (by rfl)
          have hbb : b + 1 ≤ 1000000 := by have := hrl.tb; have := hrl.t0; omega
          have htt : t + 1 ≤ 1000000 := by have := hrl.tb; have := hrl.b0; omega
          have hb0 : 0 ≤ b := hrl.b0
          have ht0 : 0 ≤ t := hrl.t0
          go_upto_region 21 with fail
          clear y1 y2 hbw
          unfold armV at hk_ga
          have ya0 : wn.cell? ⟨ga, 0, none⟩ = some (.pointer (some ⟨gl, 0, none⟩)) := blk_cell hk_ga 0 (by rfl)
          have yl0 : wn.cell? ⟨gl, 0, none⟩ = some (.pointer (some ⟨gk, 0, none⟩)) := bl_cell hbw2 hgk
          have ya4 : wn.cell? ⟨ga, 4, none⟩ = some (.int .i64 t) := blk_cell hk_ga 4 (by rfl)
          have ya5 : wn.cell? ⟨ga, 5, none⟩ = some (.int .i64 (b + 1)) := blk_cell hk_ga 5 (by rfl)
          have hCt := hidI (aCounts_calls ga gl gk t (b + 1) wn ya0 yl0 ya4 ya5)
          clear ya0 yl0 ya4 ya5
          go_wp2_with fail
          refine hCt.out.mono ?_
          rintro e wq ⟨rfl, hbq⟩
          replace hbw2 := bl_step hbw2 hbq
          replace hk_ga := bl_block hbq hk_ga
          replace hk_gr := bl_block hbq hk_gr
          clear hbq hCt
          go_upto_region 22 with fail
          obtain ⟨w00, hw00⟩ : ∃ z : World, z = V := ⟨_, rfl⟩
          have hn1 : 1 ≤ n1 := by omega
          have hn2' : n1 ≤ (i : Int) + 1 := by omega
          have hnA : decide (n1 < 1) = false := decide_eq_false (by omega)
          have hnB : decide ((i : Int) + 1 < n1) = false := decide_eq_false (by omega)
          have hIw := hidI (IntWalk.i64_in ((i : Int) + 1) (by omega))
          have hIw2 : Hid (wrap64 ((i : Int) + 1) = (i : Int) + 1) := by unfold Hid wrap64; omega
          have hgkq : wq.cell? ⟨gl, 0, none⟩ = some (.pointer (some ⟨gk, 0, none⟩)) := bl_cell hbw2 hgk
          obtain ⟨w0_, hw0_⟩ : ∃ z : World, z = w0 := ⟨_, rfl⟩
          have hbw := bl_step hbw0 hbw2
          have c0_hbw2 := bl_drew hbw2
          have c0_hgl : wq.drew.cell? ⟨gl, 0, none⟩ = some (.pointer (some ⟨gk, 0, none⟩)) := hgkq
          clear hw00 w00 hw0_ w0_ hgkq
          obtain ⟨B0, hB0⟩ : ∃ B, B = wq.heap.size := ⟨_, rfl⟩
          have c0_hsz : B0 ≤ wq.heap.size := Nat.le_of_eq hB0
          have hw0B0 : w0.heap.size ≤ B0 := by rw [hB0]; exact hbw.size
          have c0_hle : wq.heap.size ≤ B0 := Nat.le_of_eq hB0.symm
          have c0_hk_ga := blk_drew hk_ga
          have c0_lt_ga : ga < B0 := by rw [hB0]; exact blk_lt hk_ga
          have c0_hk_gr := blk_drew hk_gr
          have c0_lt_gr : gr < B0 := by rw [hB0]; exact blk_lt hk_gr
          have c0_hbw := bl_drew hbw
          clear hB0 hbw hk_ga hk_gr
          refine region_lin (n := 27) (st := ?st19) { R := [0, 0, 3, 7, 15, 15, 63, 127, 255, 511, 1023, 511, 2559, 8191, 16383, 32767, 65535, 131071, 262143, 524287, 1048575, 2097151, 4194303, 2097151, 10485759, 33554431, 67108863], kill := [[], [], [], [], [], [], [], [], [], [], [], [], [], [], [], [], [], [], [], [], [], [], [], [], [], [], []], cls := [0, 0, 0, 0, 0, 0, 0, 0, 0, 0, 0, 0, 0, 0, 0, 0, 0, 0, 0, 0, 0, 0, 0, 0, 0, 0, 0], dst := [some 104, some 105, some 106, some 107, some 108, some 109, some 110, some 111, some 112, some 113, some 114, some 115, some 116, some 117, some 118, some 119, some 120, some 121, some 122, some 123, some 124, some 125, some 126, some 127, some 128, some 129, some 130], pre := [[], [], [0, 1], [2], [3], [3], [3, 4, 5], [3, 6], [7], [8], [8, 9], [8], [8, 11], [8, 10, 12], [8, 13], [14], [15], [15, 16], [15, 17], [15, 18], [19], [20], [20, 21], [20], [20, 23], [20, 22, 24], [20, 25]], cov := [], fin := [26], locs := [], tgt := [none], abt := [none, none, none, none, none, none, none, none, none, none, none, none, none, none, none, none, none, none, none, none, none, none, none, none, none, none, none] }
            [.v [104] (fun vs => (vs.getD 0 undef) = .int .i64 t),
             .v [105] (fun vs => (vs.getD 0 undef) = .int .i64 t),
             .v [106] (fun vs => (vs.getD 0 undef) = .bool false),
             .v [107] (fun vs => (vs.getD 0 undef) = .bool false),
             .v [108] (fun vs => (vs.getD 0 undef) = .int .i64 (b + 1)),
             .v [109] (fun vs => (vs.getD 0 undef) = .int .i64 (b + 1)),
             .v [110] (fun vs => (vs.getD 0 undef) = .bool false),
             .v [111] (fun vs => (vs.getD 0 undef) = .bool false),
             .v [112] (fun vs => (vs.getD 0 undef) = .bool false),
             .v [113] (fun vs => (vs.getD 0 undef) = .pointer (some ⟨ga, 0, none⟩)),
             .v [114] (fun vs => (vs.getD 0 undef) = .int .i64 1),
             .v [115] (fun vs => (vs.getD 0 undef) = .pointer (some ⟨gr, 1, none⟩)),
             .v [116] (fun vs => (vs.getD 0 undef) = .int .i64 1),
             .v [117] (fun vs => (vs.getD 0 undef) = .bool false),
             .v [118] (fun vs => (vs.getD 0 undef) = .bool false),
             .v [119] (fun vs => (vs.getD 0 undef) = .bool false),
             .v [120] (fun vs => (vs.getD 0 undef) = .pointer (some ⟨ga, 0, none⟩)),
             .v [121] (fun vs => (vs.getD 0 undef) = .int .i64 n1),
             .v [122] (fun vs => (vs.getD 0 undef) = .bool false),
             .v [123] (fun vs => (vs.getD 0 undef) = .bool false),
             .v [124] (fun vs => (vs.getD 0 undef) = .bool false),
             .v [125] (fun vs => (vs.getD 0 undef) = .pointer (some ⟨ga, 0, none⟩)),
             .v [126] (fun vs => (vs.getD 0 undef) = .int .i64 n1),
             .v [127] (fun vs => (vs.getD 0 undef) = .int .i64 (i : Int)),
             .v [128] (fun vs => (vs.getD 0 undef) = .int .i64 ((i : Int) + 1)),
             .v [129] (fun vs => (vs.getD 0 undef) = .bool false),
             .v [130] (fun vs => (vs.getD 0 undef) = .bool false)]
            (fun w => B0 ≤ w.heap.size ∧ w.heap[ga]? = some (.cells #[.pointer (some ⟨gl, 0, none⟩), .int .i64 hold, .int .i64 1, .int .i64 n1, .int .i64 t, .int .i64 (b + 1), .slice aS 1 cS] 78 (0, 0)) ∧ ga < B0 ∧ w.heap[gr]? = some (.cells #[.int .i64 dc, .int .i64 1, .int .i64 dw] 73 (0, 0)) ∧ gr < B0 ∧ Below w0.heap.size w0 w ∧ Below V.heap.size V w ∧ w.cell? ⟨gl, 0, none⟩ = some (.pointer (some ⟨gk, 0, none⟩)))
            (fun c => ([fun s w w' => Below w.heap.size w w'] : List ((Nat → Value) → World → World → Prop)).getD c (fun s w w' => w' = w))
            [104, 105, 106, 107, 108, 109, 110, 111, 112, 113, 114, 115, 116, 117, 118, 119, 120, 121, 122, 123, 124, 125, 126, 127, 128, 129, 130] (by kernel_rfl) ⟨by kernel_rfl, by kernel_rfl, by kernel_rfl, by kernel_rfl, by kernel_rfl, by kernel_rfl, by kernel_rfl, by kernel_rfl⟩ (fun s => ?_) ?_ ?_ ?_ ?_ ?_ (fun s w hC hA => ?_)
          rotate_left
          · simp only [fillS, List.foldl, List.setIfInBounds_toArray, List.set_cons_zero, List.set_cons_succ]; rfl
          · exact ⟨c0_hsz, c0_hk_ga, c0_lt_ga, c0_hk_gr, c0_lt_gr, c0_hbw, c0_hbw2, c0_hgl⟩
          · intro c s w w' hE
            match c, hE with
            | 0, hE => exact Below.size hE
            | c + 1, hE => cases hE; exact Nat.le_refl _
          · rintro c s w w' ⟨hsz, hk_ga, lt_ga, hk_gr, lt_gr, hbw, hbw2, hgl⟩ hE
            match c, hE with
            | 0, hE => replace hE : Below w.heap.size w w' := hE; exact ⟨Nat.le_trans hsz hE.size, bl_block hE hk_ga, lt_ga, bl_block hE hk_gr, lt_gr, bl_step hbw hE, bl_step hbw2 hE, bl_cell hE hgl⟩
            | c + 1, hE => cases hE; exact ⟨hsz, hk_ga, lt_ga, hk_gr, lt_gr, hbw, hbw2, hgl⟩
          · exact trivial
          · skip
            refine StepsP.cons ?_ ?_
            · intro Q s w hC hA K hK
              clear hC
              clear hA
              refine guard_none (by rfl) ?_
              refine wp_value (v := .int .i64 t) (w1 := w) ?_ (hK.out _ w (Below.refl _ _) rfl (fun h => by cases h))
              go_simp
              try (first | done | rfl | (simp; done))
            refine StepsP.cons ?_ ?_
            · intro Q s w hC hA K hK
              clear hC
              clear hA
              refine guard_none (by rfl) ?_
              refine wp_value (v := .int .i64 t) (w1 := w) ?_ (hK.out _ w (Below.refl _ _) rfl (fun h => by cases h))
              go_simp
              try (first | done | rfl | (simp; done))
            refine StepsP.cons ?_ ?_
            · intro Q s w hC hA K hK
              clear hC
              obtain ⟨f0, f1, -⟩ := hA
              replace f0 : (s 104) = .int .i64 t := f0
              replace f1 : (s 105) = .int .i64 t := f1
              refine guard_none (by rfl) ?_
              refine wp_value (v := .bool false) (w1 := w) ?_ (hK.out _ w (Below.refl _ _) rfl (fun h => by cases h))
              try simp only [f0, f1]
              go_simp
              try (first | done | rfl | (simp; done))
            refine StepsP.cons ?_ ?_
            · intro Q s w hC hA K hK
              clear hC
              obtain ⟨f2, -⟩ := hA
              replace f2 : (s 106) = .bool false := f2
              refine guard_none (by rfl) ?_
              refine wp_value (v := .bool false) (w1 := w) ?_ (hK.out _ w (Below.refl _ _) rfl (fun h => by cases h))
              try simp only [f2]
              go_simp
              try (first | done | rfl | (simp; done))
            refine StepsP.cons ?_ ?_
            · intro Q s w hC hA K hK
              clear hC
              obtain ⟨f3, -⟩ := hA
              replace f3 : (s 107) = .bool false := f3
              refine guard_on (d := 107) (want := false) (by rfl) (by rfl) ?_ ?_
              · exact f3
              refine wp_value (v := .int .i64 (b + 1)) (w1 := w) ?_ (hK.out _ w (Below.refl _ _) rfl (fun h => by cases h))
              try simp only [f3]
              go_simp
              try (first | done | rfl | (simp; done))
            refine StepsP.cons ?_ ?_
            · intro Q s w hC hA K hK
              clear hC
              obtain ⟨f3, -⟩ := hA
              replace f3 : (s 107) = .bool false := f3
              refine guard_on (d := 107) (want := false) (by rfl) (by rfl) ?_ ?_
              · exact f3
              refine wp_value (v := .int .i64 (b + 1)) (w1 := w) ?_ (hK.out _ w (Below.refl _ _) rfl (fun h => by cases h))
              try simp only [f3]
              go_simp
              try (first | done | rfl | (simp; done))
            refine StepsP.cons ?_ ?_
            · intro Q s w hC hA K hK
              clear hC
              obtain ⟨f3, f4, f5, -⟩ := hA
              replace f3 : (s 107) = .bool false := f3
              replace f4 : (s 108) = .int .i64 (b + 1) := f4
              replace f5 : (s 109) = .int .i64 (b + 1) := f5
              refine guard_on (d := 107) (want := false) (by rfl) (by rfl) ?_ ?_
              · exact f3
              refine wp_value (v := .bool false) (w1 := w) ?_ (hK.out _ w (Below.refl _ _) rfl (fun h => by cases h))
              try simp only [f3, f4, f5]
              go_simp
              try (first | done | rfl | (simp; done))
            refine StepsP.cons ?_ ?_
            · intro Q s w hC hA K hK
              clear hC
              obtain ⟨f3, f6, -⟩ := hA
              replace f3 : (s 107) = .bool false := f3
              replace f6 : (s 110) = .bool false := f6
              refine guard_none (by rfl) ?_
              refine wp_value (v := .bool false) (w1 := w) ?_ (hK.out _ w (Below.refl _ _) rfl (fun h => by cases h))
              try simp only [f3, f6]
              go_simp
              try (first | done | rfl | (simp; done))
            refine StepsP.cons ?_ ?_
            · intro Q s w hC hA K hK
              clear hC
              obtain ⟨f7, -⟩ := hA
              replace f7 : (s 111) = .bool false := f7
              refine guard_none (by rfl) ?_
              refine wp_value (v := .bool false) (w1 := w) ?_ (hK.out _ w (Below.refl _ _) rfl (fun h => by cases h))
              try simp only [f7]
              go_simp
              try (first | done | rfl | (simp; done))
            refine StepsP.cons ?_ ?_
            · intro Q s w hC hA K hK
              clear hC
              obtain ⟨f8, -⟩ := hA
              replace f8 : (s 112) = .bool false := f8
              refine guard_on (d := 112) (want := false) (by rfl) (by rfl) ?_ ?_
              · exact f8
              refine wp_value (v := .pointer (some ⟨ga, 0, none⟩)) (w1 := w) ?_ (hK.out _ w (Below.refl _ _) rfl (fun h => by cases h))
              try simp only [f8]
              go_simp
              try (first | done | rfl | (simp; done))
            refine StepsP.cons ?_ ?_
            · intro Q s w hC hA K hK
              obtain ⟨hsz, hk_ga, lt_ga, hk_gr, lt_gr, hbw, hbw2, hgl⟩ := hC
              obtain ⟨f8, f9, -⟩ := hA
              replace f8 : (s 112) = .bool false := f8
              replace f9 : (s 113) = .pointer (some ⟨ga, 0, none⟩) := f9
              refine guard_on (d := 112) (want := false) (by rfl) (by rfl) ?_ ?_
              · exact f8
              refine wp_call (N := some 114) (by rfl) Try.func42 (by kernel_rfl) #[.pointer (some ⟨ga, 0, none⟩)] rfl (by rfl) ?_ ?_
              · show [s 113] = [.pointer (some ⟨ga, 0, none⟩)]
                first | rfl | simp only [f8, f9]
              refine (aSource_calls ga gl gk 1 _ (blk_cell hk_ga 0 (by rfl)) hgl (blk_cell hk_ga 2 (by rfl))).mono ?_
              rintro e w1 ⟨rfl, rfl⟩
              refine ⟨_, rfl, ?_⟩
              exact hK.out _ _ (Below.refl _ _) rfl (fun h => by cases h)
            refine StepsP.cons ?_ ?_
            · intro Q s w hC hA K hK
              clear hC
              obtain ⟨f8, -⟩ := hA
              replace f8 : (s 112) = .bool false := f8
              refine guard_on (d := 112) (want := false) (by rfl) (by rfl) ?_ ?_
              · exact f8
              refine wp_value (v := .pointer (some ⟨gr, 1, none⟩)) (w1 := w) ?_ (hK.out _ w (Below.refl _ _) rfl (fun h => by cases h))
              try simp only [f8]
              go_simp
              try (first | done | rfl | (simp; done))
            refine StepsP.cons ?_ ?_
            · intro Q s w hC hA K hK
              obtain ⟨hsz, hk_ga, lt_ga, hk_gr, lt_gr, hbw, hbw2, hgl⟩ := hC
              obtain ⟨f8, f11, -⟩ := hA
              replace f8 : (s 112) = .bool false := f8
              replace f11 : (s 115) = .pointer (some ⟨gr, 1, none⟩) := f11
              refine guard_on (d := 112) (want := false) (by rfl) (by rfl) ?_ ?_
              · exact f8
              have m0_gr : w.cell? ⟨gr, 0, none⟩ = some (.int .i64 dc) := blk_cell hk_gr 0 (by rfl)
              have m1_gr : w.cell? ⟨gr, 1, none⟩ = some (.int .i64 1) := blk_cell hk_gr 1 (by rfl)
              have m2_gr : w.cell? ⟨gr, 2, none⟩ = some (.int .i64 dw) := blk_cell hk_gr 2 (by rfl)
              refine wp_value (v := .int .i64 1) (w1 := w) ?_ (hK.out _ w (Below.refl _ _) rfl (fun h => by cases h))
              try simp only [f8, f11]
              go_simp
              try (first | done | rfl | (simp; done))
            refine StepsP.cons ?_ ?_
            · intro Q s w hC hA K hK
              clear hC
              obtain ⟨f8, f10, f12, -⟩ := hA
              replace f8 : (s 112) = .bool false := f8
              replace f10 : (s 114) = .int .i64 1 := f10
              replace f12 : (s 116) = .int .i64 1 := f12
              refine guard_on (d := 112) (want := false) (by rfl) (by rfl) ?_ ?_
              · exact f8
              refine wp_value (v := .bool false) (w1 := w) ?_ (hK.out _ w (Below.refl _ _) rfl (fun h => by cases h))
              try simp only [f8, f10, f12]
              go_simp
              try (first | done | rfl | (simp; done))
            refine StepsP.cons ?_ ?_
            · intro Q s w hC hA K hK
              clear hC
              obtain ⟨f8, f13, -⟩ := hA
              replace f8 : (s 112) = .bool false := f8
              replace f13 : (s 117) = .bool false := f13
              refine guard_none (by rfl) ?_
              refine wp_value (v := .bool false) (w1 := w) ?_ (hK.out _ w (Below.refl _ _) rfl (fun h => by cases h))
              try simp only [f8, f13]
              go_simp
              try (first | done | rfl | (simp; done))
            refine StepsP.cons ?_ ?_
            · intro Q s w hC hA K hK
              clear hC
              obtain ⟨f14, -⟩ := hA
              replace f14 : (s 118) = .bool false := f14
              refine guard_none (by rfl) ?_
              refine wp_value (v := .bool false) (w1 := w) ?_ (hK.out _ w (Below.refl _ _) rfl (fun h => by cases h))
              try simp only [f14]
              go_simp
              try (first | done | rfl | (simp; done))
            refine StepsP.cons ?_ ?_
            · intro Q s w hC hA K hK
              clear hC
              obtain ⟨f15, -⟩ := hA
              replace f15 : (s 119) = .bool false := f15
              refine guard_on (d := 119) (want := false) (by rfl) (by rfl) ?_ ?_
              · exact f15
              refine wp_value (v := .pointer (some ⟨ga, 0, none⟩)) (w1 := w) ?_ (hK.out _ w (Below.refl _ _) rfl (fun h => by cases h))
              try simp only [f15]
              go_simp
              try (first | done | rfl | (simp; done))
            refine StepsP.cons ?_ ?_
            · intro Q s w hC hA K hK
              obtain ⟨hsz, hk_ga, lt_ga, hk_gr, lt_gr, hbw, hbw2, hgl⟩ := hC
              obtain ⟨f15, f16, -⟩ := hA
              replace f15 : (s 119) = .bool false := f15
              replace f16 : (s 120) = .pointer (some ⟨ga, 0, none⟩) := f16
              refine guard_on (d := 119) (want := false) (by rfl) (by rfl) ?_ ?_
              · exact f15
              refine wp_call (N := some 121) (by rfl) Try.func43 (by kernel_rfl) #[.pointer (some ⟨ga, 0, none⟩)] rfl (by rfl) ?_ ?_
              · show [s 120] = [.pointer (some ⟨ga, 0, none⟩)]
                first | rfl | simp only [f15, f16]
              refine (aSince_calls ga gl gk n1 _ (blk_cell hk_ga 0 (by rfl)) hgl (blk_cell hk_ga 3 (by rfl))).mono ?_
              rintro e w1 ⟨rfl, rfl⟩
              refine ⟨_, rfl, ?_⟩
              exact hK.out _ _ (Below.refl _ _) rfl (fun h => by cases h)
            refine StepsP.cons ?_ ?_
            · intro Q s w hC hA K hK
              clear hC
              obtain ⟨f15, f17, -⟩ := hA
              replace f15 : (s 119) = .bool false := f15
              replace f17 : (s 121) = .int .i64 n1 := f17
              refine guard_on (d := 119) (want := false) (by rfl) (by rfl) ?_ ?_
              · exact f15
              refine wp_value (v := .bool false) (w1 := w) ?_ (hK.out _ w (Below.refl _ _) rfl (fun h => by cases h))
              try simp only [f15, f17]
              go_simp
              first | done | exact hnA | (simp [hnA]; done)
            refine StepsP.cons ?_ ?_
            · intro Q s w hC hA K hK
              clear hC
              obtain ⟨f15, f18, -⟩ := hA
              replace f15 : (s 119) = .bool false := f15
              replace f18 : (s 122) = .bool false := f18
              refine guard_none (by rfl) ?_
              refine wp_value (v := .bool false) (w1 := w) ?_ (hK.out _ w (Below.refl _ _) rfl (fun h => by cases h))
              try simp only [f15, f18]
              go_simp
              try (first | done | rfl | (simp; done))
            refine StepsP.cons ?_ ?_
            · intro Q s w hC hA K hK
              clear hC
              obtain ⟨f19, -⟩ := hA
              replace f19 : (s 123) = .bool false := f19
              refine guard_none (by rfl) ?_
              refine wp_value (v := .bool false) (w1 := w) ?_ (hK.out _ w (Below.refl _ _) rfl (fun h => by cases h))
              try simp only [f19]
              go_simp
              try (first | done | rfl | (simp; done))
            refine StepsP.cons ?_ ?_
            · intro Q s w hC hA K hK
              clear hC
              obtain ⟨f20, -⟩ := hA
              replace f20 : (s 124) = .bool false := f20
              refine guard_on (d := 124) (want := false) (by rfl) (by rfl) ?_ ?_
              · exact f20
              refine wp_value (v := .pointer (some ⟨ga, 0, none⟩)) (w1 := w) ?_ (hK.out _ w (Below.refl _ _) rfl (fun h => by cases h))
              try simp only [f20]
              go_simp
              try (first | done | rfl | (simp; done))
            refine StepsP.cons ?_ ?_
            · intro Q s w hC hA K hK
              obtain ⟨hsz, hk_ga, lt_ga, hk_gr, lt_gr, hbw, hbw2, hgl⟩ := hC
              obtain ⟨f20, f21, -⟩ := hA
              replace f20 : (s 124) = .bool false := f20
              replace f21 : (s 125) = .pointer (some ⟨ga, 0, none⟩) := f21
              refine guard_on (d := 124) (want := false) (by rfl) (by rfl) ?_ ?_
              · exact f20
              refine wp_call (N := some 126) (by rfl) Try.func43 (by kernel_rfl) #[.pointer (some ⟨ga, 0, none⟩)] rfl (by rfl) ?_ ?_
              · show [s 125] = [.pointer (some ⟨ga, 0, none⟩)]
                first | rfl | simp only [f20, f21]
              refine (aSince_calls ga gl gk n1 _ (blk_cell hk_ga 0 (by rfl)) hgl (blk_cell hk_ga 3 (by rfl))).mono ?_
              rintro e w1 ⟨rfl, rfl⟩
              refine ⟨_, rfl, ?_⟩
              exact hK.out _ _ (Below.refl _ _) rfl (fun h => by cases h)
            refine StepsP.cons ?_ ?_
            · intro Q s w hC hA K hK
              clear hC
              obtain ⟨f20, -⟩ := hA
              replace f20 : (s 124) = .bool false := f20
              refine guard_on (d := 124) (want := false) (by rfl) (by rfl) ?_ ?_
              · exact f20
              refine wp_value (v := .int .i64 (i : Int)) (w1 := w) ?_ (hK.out _ w (Below.refl _ _) rfl (fun h => by cases h))
              try simp only [f20]
              go_simp
              try (first | done | rfl | (simp; done))
            refine StepsP.cons ?_ ?_
            · intro Q s w hC hA K hK
              clear hC
              obtain ⟨f20, f23, -⟩ := hA
              replace f20 : (s 124) = .bool false := f20
              replace f23 : (s 127) = .int .i64 (i : Int) := f23
              refine guard_on (d := 124) (want := false) (by rfl) (by rfl) ?_ ?_
              · exact f20
              refine wp_value (v := .int .i64 ((i : Int) + 1)) (w1 := w) ?_ (hK.out _ w (Below.refl _ _) rfl (fun h => by cases h))
              try simp only [f20, f23]
              go_simp
              first | done | rfl | (simp [hIw.out]; done) | (simp [hIw2.out]; done)
            refine StepsP.cons ?_ ?_
            · intro Q s w hC hA K hK
              clear hC
              obtain ⟨f20, f22, f24, -⟩ := hA
              replace f20 : (s 124) = .bool false := f20
              replace f22 : (s 126) = .int .i64 n1 := f22
              replace f24 : (s 128) = .int .i64 ((i : Int) + 1) := f24
              refine guard_on (d := 124) (want := false) (by rfl) (by rfl) ?_ ?_
              · exact f20
              refine wp_value (v := .bool false) (w1 := w) ?_ (hK.out _ w (Below.refl _ _) rfl (fun h => by cases h))
              try simp only [f20, f22, f24]
              go_simp
              first | done | exact hnB | (simp [hnB]; done)
            refine StepsP.cons ?_ ?_
            · intro Q s w hC hA K hK
              clear hC
              obtain ⟨f20, f25, -⟩ := hA
              replace f20 : (s 124) = .bool false := f20
              replace f25 : (s 129) = .bool false := f25
              refine guard_none (by rfl) ?_
              refine wp_value (v := .bool false) (w1 := w) ?_ (hK.out _ w (Below.refl _ _) rfl (fun h => by cases h))
              try simp only [f20, f25]
              go_simp
              try (first | done | rfl | (simp; done))
            exact StepsP.nil
          obtain ⟨hsz, hk_ga, lt_ga, hk_gr, lt_gr, hbw, hbw2, hgl⟩ := hC
          obtain ⟨f26, -⟩ := hA
          replace f26 : (s 130) = .bool false := f26
          refine act_eq (b' := ?b19) ?h19 ?q19
          case h19 => simp only [f26]; rfl
          go_wp2
          go_roundw
          case rel => exact ⟨i + 1, _, _, _, by omega, by go_num, rfl, rfl, s1d, hbw2, hk_ga⟩
          case measure => simp [intOf]; omega
    · have hie : i = n := by omega
      subst hie
      have hd : decide ((i : Int) < (i : Int)) = false := decide_eq_false (by omega)
      go_wp2_with fail
      refine (hRs.out a wr hbw2 hk_ga).mono ?_
      rintro e w4 ⟨rfl, hA, hk2⟩
      replace hbw2 := hA.b
      clear hk_ga hA
      unfold armV at hk2
      have ya0 : w4.cell? ⟨ga, 0, none⟩ = some (.pointer (some ⟨gl, 0, none⟩)) := blk_cell hk2 0 (by rfl)
      have yl0 : w4.cell? ⟨gl, 0, none⟩ = some (.pointer (some ⟨gk, 0, none⟩)) := bl_cell hbw2 hgk
      have hCt := hidI (aCounts_calls ga gl gk 0 0 w4 ya0 yl0 (blk_cell hk2 4 (by rfl)) (blk_cell hk2 5 (by rfl)))
      clear ya0 yl0
      go_wp2_with fail
      refine hCt.out.mono ?_
      rintro e w5 ⟨rfl, hb5⟩
      replace hbw2 := bl_step hbw2 hb5
      replace hk2 := bl_block hb5 hk2
      clear hb5 hCt
      go_wp2_with fail
      refine (alive20_calls _).mono ?_
      rintro e w6 ⟨rfl, hb6⟩
      replace hbw2 := bl_step hbw2 hb6
      replace hk2 := bl_block hb6 hk2
      clear hb6
      have ya0 : w6.cell? ⟨ga, 0, none⟩ = some (.pointer (some ⟨gl, 0, none⟩)) := blk_cell hk2 0 (by rfl)
      have yl0 : w6.cell? ⟨gl, 0, none⟩ = some (.pointer (some ⟨gk, 0, none⟩)) := bl_cell hbw2 hgk
      have hSn := hidI (aSince_calls ga gl gk 0 w6 ya0 yl0 (blk_cell hk2 3 (by rfl)))
      have hSo := hidI (aSource_calls ga gl gk 0 w6 ya0 yl0 (blk_cell hk2 2 (by rfl)))
      clear ya0 yl0
      go_wp2_with fail
      refine hSn.out.mono ?_
      rintro e w7 ⟨rfl, hw7⟩
      subst hw7
      go_wp2_with fail
      refine hSo.out.mono ?_
      rintro e w8 ⟨rfl, hw8⟩
      subst hw8
      subst hw0
      go_wp2
      go_ret
      exact ⟨rfl, bl_step hbw0 hbw2⟩
end Go.Proofs.Ythdaidmjjcmccaa
