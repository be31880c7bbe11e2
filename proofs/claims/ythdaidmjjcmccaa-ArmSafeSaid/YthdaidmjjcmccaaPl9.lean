/- Proved here: lemmas and contracts (what a function of the program computes) that the proofs of the laws of this seat lean on. Conditions: as each theorem states. -/
import Derived.Test.YthdaidmjjcmccaaPl8
import Derived.Test.YthdaidmjjcmccaaSpan9
set_option linter.unusedVariables false
set_option linter.unusedSimpArgs false
namespace Go.Pk
open Go.RowKit
theorem AccAt.lt {w : World} {g : Nat} {o : Bool} (h : AccAt w (some ⟨g, 0, none⟩) o) : g < w.heap.size := World.block_lt_of_cell? _ _ h.1
theorem AccAt.grown {W W1 : World} {g : Nat} {o : Bool} {row : Option Nat} (h : AccAt W (some ⟨g, 0, none⟩) o) (hg : W.grownBy W1 row) (hne : some g ≠ row) : AccAt W1 (some ⟨g, 0, none⟩) o := by
  have e := hg.block g h.lt hne
  obtain ⟨h1, h2⟩ := h
  refine ⟨?_, ?_⟩
  · simp only [World.cell?, e]; exact h1
  · simp only [World.frozen?, e]; exact h2
end Go.Pk
namespace Go.Proofs.Ythdaidmjjcmccaa
open Go.RowKit Go.Pk Go.Proofs.YthdaidmjjcmccaaW.PrintLast
def mulAt (p : Pl) (x : List Int) (i : Nat) : Int := clampI (fmul (p.gain.getD i 0) (x.getD i 0) false)
set_option maxHeartbeats 8000000 in
set_option maxRecDepth 100000 in
theorem Base_calls (g : Nat) (p : Pl) (lx : List Int) (ax : Option Addr) (cx : Nat) (w : World) (hk : KitAt w g 116 p) (hGl : p.gain.length = p.B.length) (hn3 : p.B.length ≤ 3) (hiG : InI p.gain) (hb0 : -9223372036854775808 ≤ p.bias) (hb1 : p.bias ≤ 9223372036854775807) (hx : RdI w ax lx) (hix : InI lx) :
    Calls Try.prog 24 #[.pointer (some ⟨g, 0, none⟩), .slice ax lx.length cx] w fun e w' => e = .returned (.int .i64 (baseP p lx)) ∧ Below w.heap.size w w' := by
  have hlen := hx.1
  cases hare : areP p lx.length
  · have hin : baseP p lx = 0 := by unfold baseP; rw [hare]; rfl
    rw [hin]
    clear hin
    replace hare := hidI hare
    clear hb0 hb1
    go_enter Try.func24, Try.ntmps24
    go_wp2_with fail
    refine (are_calls g p lx.length _ hk).mono ?_
    rintro e w1 ⟨rfl, hw1⟩
    obtain rfl := hw1
    rw [hare.out]
    go_wp2
    go_ret
    exact ⟨rfl, Below.refl _ _⟩
  · have hin : Hid (baseP p lx = clampTo (clampI (sumI (p.bias :: mulsP p lx))) p.inp.lo p.inp.hi) := by unfold Hid baseP; rw [hare]; rfl
    have hxl : Hid (lx.length = p.gain.length ∧ lx.length ≤ 3) := by unfold areP at hare; simp at hare; unfold Hid; omega
    have hbb := hidI (And.intro hb0 hb1)
    replace hare := hidI hare
    clear hGl hb0 hb1 hn3
    obtain ⟨q1, q2, hkc, hr1, hr2⟩ := id hk
    obtain ⟨aA, cA, aB, cB, aW, cW, aI, cI, aS, cS, aG, cG⟩ := q2
    obtain ⟨-, -, -, -, -, hG, -, -, -, -, -, -⟩ := hr2
    simp only [] at hG
    go_enter Try.func24, Try.ntmps24
    go_wp2_with fail
    refine (are_calls g p lx.length _ hk).mono ?_
    rintro e w1 ⟨rfl, hw1⟩
    obtain ⟨w0, hw0⟩ : ∃ z, Hid (z = w) := ⟨_, rfl⟩
    rw [← hw0.out] at hk hkc hG hx hw1
    subst hw1
    rw [hare.out]
    have hk17 : w1.cell? ⟨g, 17, none⟩ = some (.int .i64 p.bias) := blk_cell hkc 17 (by rfl)
    go_upto_region 4 with fail
    have hka := blk_new w1 (.cells #[.bool false] 65)
    have hbw := bl_alloc (Below.refl w1.heap.size w1) (.cells #[.bool false] 65)
    have hgl := blk_lt hkc
    obtain ⟨w0, hw1⟩ : ∃ z, z = w1 := ⟨_, rfl⟩
    generalize w1.alloc (.cells #[.bool false] 65) = W2 at *
    obtain ⟨ga, hga⟩ : ∃ z, w1.heap.size = z := ⟨_, rfl⟩
    rw [hga] at hka
    rw [hga]
    subst hw1
    have hla : w0.heap.size ≤ (⟨ga, 0, none⟩ : Addr).block := by show w0.heap.size ≤ ga; omega
    have hgne : g ≠ ga := by omega
    have hga2 := blk_lt hka
    clear hga hgl
    have hacc := AccAt.blk hka
    clear hka hk17
    have hk17 : W2.cell? ⟨g, 17, none⟩ = some (.int .i64 p.bias) := blk_cell (bl_block hbw hkc) 17 (by rfl)
    go_upto_region 6 with fail
    have hown : (W2.alloc (.cells #[.int .i64 p.bias] 3)).ownsRow (ga + 1) 3 1 (.slice (some ⟨W2.heap.size, 0, none⟩) 1 1) 1 (encI [p.bias]) := own_fresh (cs := #[.int .i64 p.bias]) (by omega) (blk_new _ _) (by rfl) (by omega)
    have hacc2 := AccAt.below hacc (bl_alloc (Below.refl W2.heap.size W2) (.cells #[.int .i64 p.bias] 3))
    replace hbw := bl_alloc hbw (.cells #[.int .i64 p.bias] 3)
    generalize W2.alloc (.cells #[.int .i64 p.bias] 3) = W3 at *
    generalize W2.heap.size = gb at *
    clear hacc hk17 hga2
    go_loopw [6, 7, 8, 22] (fun l v7 v8 x wr => ∃ i : Nat, i ≤ lx.length ∧ x = .int .i64 i ∧ Below w0.heap.size w0 wr ∧ (∃ o, AccAt wr (some ⟨ga, 0, none⟩) o) ∧ wr.ownsRow (ga + 1) 3 1 l (1 + i) (encI (p.bias :: (List.range i).map (mulAt p lx)))) (fun _ _ _ x _ => (lx.length - intOf x).toNat)
    case atStart => exact ⟨0, by omega, rfl, hbw, ⟨_, hacc2⟩, hown⟩
    case round =>
      clear hbw hacc2 hown
      obtain ⟨i, hi, rfl, hbw, ⟨o, hacc⟩, ho⟩ := hrel
      by_cases hlt : i < lx.length
      · obtain ⟨bx, ox, rfl, hc0⟩ := (hx.below hbw).at hlt
        have hiG2 : i < p.gain.length := by have := hxl.out; omega
        obtain ⟨bG, oG, rfl, hc1⟩ := (hG.below hbw).at hiG2
        have hk16 : wr.cell? ⟨g, 16, none⟩ = some (.slice (some ⟨bG, oG, none⟩) p.gain.length cG) := blk_cell (bl_block hbw hkc) 16 (by rfl)
        have hd : decide ((i : Int) < (lx.length : Int)) = true := decide_eq_true (by omega)
        have hd2 : decide ((i : Int) < (p.gain.length : Int)) = true := decide_eq_true (by omega)
        have r1 := hidI (hiG.getD i)
        have r2 := hidI (hix.getD i)
        have hmi : Hid (mulAt p lx i = clampI (fmul (p.gain.getD i 0) (lx.getD i 0) false)) := rfl
        obtain ⟨gi, hgi⟩ : ∃ z, Hid (p.gain.getD i 0 = z) := ⟨_, rfl⟩
        obtain ⟨xi, hxi⟩ : ∃ z, Hid (lx.getD i 0 = z) := ⟨_, rfl⟩
        rw [hgi.out] at hc1
        rw [hxi.out] at hc0
        have hM := hidI (fun W o (hW : AccAt W (some ⟨ga, 0, none⟩) o) => Mul_calls (some ⟨ga, 0, none⟩) gi xi false o W hW (by have := r1.out; rw [hgi.out] at this; exact this.1) (by have := r1.out; rw [hgi.out] at this; exact this.2) (by have := r2.out; rw [hxi.out] at this; exact this.1) (by have := r2.out; rw [hxi.out] at this; exact this.2))
        have hmz : Hid (clampI (fmul gi xi false) = mulAt p lx i) := by unfold Hid; rw [hmi.out, hgi.out, hxi.out]
        obtain ⟨A1, c1, rfl, hc1', -, -, hfr⟩ := own_rdC ho
        have hlx3 : i ≤ 3 := by have := hxl.out; omega
        go_wp2_with (first | (go_at_call 68; refine (hM.out _ _ hacc).mono ?_; rintro e w2 ⟨rfl, hb2⟩; rw [hmz.out]; have ho2 := own_acc ho hb2 (fun k hk => PNe.of (by have := own_lt ho k hk; simp only []; omega)); have hbw2 := bl_own hbw hla hb2; have hacc2 := AccAt.or hacc hb2) | (at_builtin; go_loud (refine list_appRd (ga + 1) rfl (.tmp 27) (.tmp 38) 23 3 _ 1 _ rfl Try.underlying23 infoI (by rfl) (by omega) (.slice A1 (1 + i) c1) (1 + i) (encI (p.bias :: (List.range i).map (mulAt p lx))) (some ⟨w2.heap.size, 0, none⟩) 1 1 (encI [mulAt p lx i]) rfl rfl (own_alloc ho2 _) (by rfl) (fun k v hk => ⟨w2.heap.size, 0, rfl, by rw [Nat.zero_add, blkc (blk_new w2 (.cells #[.int .i64 (mulAt p lx i)] 3))]; simpa [encI] using hk⟩) (by intro v hv; simp [encI] at hv; subst hv; rfl) (by omega) (by omega) (by have h1 := hacc2.lt; have h2 := (bl_alloc (Below.refl _ _) (.cells #[.int .i64 (mulAt p lx i)] 3) : Below w2.heap.size w2 _).size; omega) ?_); intro v1 w9 ho1 hg1 ha1) | fail)
        go_roundw
        case rel =>
          refine ⟨i + 1, by omega, by go_num, bl_grown (bl_alloc hbw2 _) hg1 (fun k hk => by have := own_lt ho2 k hk; have h3 : w0.heap.size ≤ ga := hla; omega), ⟨_, AccAt.grown (AccAt.below hacc2 (bl_alloc (Below.refl _ _) _)) hg1 (fun e => by have := own_lt ho2 ga e.symm; omega)⟩, ?_⟩
          have e : encI (p.bias :: (List.range (i + 1)).map (mulAt p lx)) = encI (p.bias :: (List.range i).map (mulAt p lx)) ++ encI [mulAt p lx i] := by rw [List.range_succ, List.map_append]; simp [encI]
          rw [e]; exact ho1
        case measure => simp [intOf]; omega
      · have hie : i = lx.length := by omega
        subst hie
        have hd : decide ((lx.length : Int) < (lx.length : Int)) = false := decide_eq_false (by omega)
        obtain ⟨A1, c1, rfl, hc1', hrd, hn1, -⟩ := own_rdC ho
        have hml : (p.bias :: (List.range lx.length).map (mulAt p lx)) = p.bias :: mulsP p lx := rfl
        rw [hml] at hrd
        have hll : (p.bias :: mulsP p lx).length = 1 + lx.length := by unfold mulsP; simp; omega
        have hrI : RdI wr A1 (p.bias :: mulsP p lx) := ⟨by rw [hll]; exact hn1, hrd⟩
        have hiM : Hid (InI (p.bias :: mulsP p lx)) := by
          unfold Hid
          intro z hz
          rcases List.mem_cons.1 hz with rfl | hz
          · exact hbb.out
          · unfold mulsP at hz
            obtain ⟨j, -, rfl⟩ := List.mem_map.1 hz
            exact clampI_rng _
        generalize p.bias :: mulsP p lx = L at *
        rw [← hll]
        clear hrd ho hml hn1 hc1'
        go_upto_region 10 with fail
        have hk_g : wr.heap[g]? = some (.cells #[.slice q1.aA p.A.length q1.cA, .slice q1.aB p.B.length q1.cB, .int .i64 p.inp.lo, .int .i64 p.inp.hi, .slice q1.aW p.W.length q1.cW, .slice q1.aI p.Inv.length q1.cI, .slice q1.aS p.Safe.length q1.cS, .slice q1.aG p.gain.length q1.cG, .int .i64 p.bias, .slice aA p.A.length cA, .slice aB p.B.length cB, .int .i64 p.inp.lo, .int .i64 p.inp.hi, .slice aW p.W.length cW, .slice aI p.Inv.length cI, .slice aS p.Safe.length cS, .slice aG p.gain.length cG, .int .i64 p.bias] 116 (0, 0)) := bl_block hbw hkc
        have ha_a := hacc
        have hl_a := hla
        have p_a_g : PNe (some ⟨ga, 0, none⟩) g := PNe.of (Ne.symm hgne)
        have c0_hL := hrI.below (bl_drew (Below.refl wr.heap.size wr))
        have hLn := hrI.1
        clear hacc hla hrI
        obtain ⟨B0, hB0⟩ : ∃ B, B = wr.heap.size := ⟨_, rfl⟩
        have c0_hsz : B0 ≤ wr.heap.size := Nat.le_of_eq hB0
        have hw0B0 : w0.heap.size ≤ B0 := by rw [hB0]; exact hbw.size
        have c0_hle : wr.heap.size ≤ B0 := Nat.le_of_eq hB0.symm
        have c0_hk_g := blk_drew hk_g
        have c0_lt_g : g < B0 := by rw [hB0]; exact blk_lt hk_g
        have c0_ha_a : ∃ o, AccAt wr.drew (some ⟨ga, 0, none⟩) o := ⟨_, AccAt.below ha_a (bl_drew (Below.refl _ _))⟩
        have lt_acc_a : ga < B0 := by rw [hB0]; exact World.block_lt_of_cell? _ _ ha_a.1
        have c0_hbw := bl_drew hbw
        clear hB0 hbw hk_g
        refine region_lin (n := 16) (st := ?st9) { R := [0, 1, 0, 4, 12, 28, 60, 124, 0, 256, 768, 1792, 3840, 7936, 16383, 32767], kill := [[], [], [], [], [], [], [], [], [], [], [], [], [], [], [], []], cls := [0, 1, 0, 0, 0, 0, 0, 0, 0, 0, 0, 0, 0, 0, 0, 0], dst := [some 41, some 42, some 43, some 44, some 45, some 46, some 47, some 48, some 49, some 50, some 51, some 52, some 53, some 54, some 55, some 4], pre := [[], [0], [], [2], [3], [4], [5], [6], [], [8], [9], [10], [11], [12], [1, 7, 13], [14]], cov := [], fin := [15], locs := [], tgt := [none, none], abt := [none, none, none, none, none, none, none, none, none, none, none, none, none, none, none, none] }
          [.v [41] (fun vs => (vs.getD 0 undef) = .slice A1 L.length c1),
           .v [42] (fun vs => (vs.getD 0 undef) = .int .i64 (clampI (sumI L))),
           .v [43] (fun vs => (vs.getD 0 undef) = .pointer (some ⟨g, 0, none⟩)),
           .v [44] (fun vs => (vs.getD 0 undef) = .pointer (some ⟨g, 0, none⟩)),
           .v [45] (fun vs => (vs.getD 0 undef) = .pointer (some ⟨g, 9, none⟩)),
           .v [46] (fun vs => (vs.getD 0 undef) = .pointer (some ⟨g, 11, none⟩)),
           .v [47] (fun vs => (vs.getD 0 undef) = .pointer (some ⟨g, 11, none⟩)),
           .v [48] (fun vs => (vs.getD 0 undef) = .int .i64 p.inp.lo),
           .v [49] (fun vs => (vs.getD 0 undef) = .pointer (some ⟨g, 0, none⟩)),
           .v [50] (fun vs => (vs.getD 0 undef) = .pointer (some ⟨g, 0, none⟩)),
           .v [51] (fun vs => (vs.getD 0 undef) = .pointer (some ⟨g, 9, none⟩)),
           .v [52] (fun vs => (vs.getD 0 undef) = .pointer (some ⟨g, 11, none⟩)),
           .v [53] (fun vs => (vs.getD 0 undef) = .pointer (some ⟨g, 12, none⟩)),
           .v [54] (fun vs => (vs.getD 0 undef) = .int .i64 p.inp.hi),
           .v [55] (fun vs => (vs.getD 0 undef) = .int .i64 (clampTo (clampI (sumI L)) p.inp.lo p.inp.hi)),
           .v [4] (fun vs => (vs.getD 0 undef) = .int .i64 (clampTo (clampI (sumI L)) p.inp.lo p.inp.hi))]
          (fun w => B0 ≤ w.heap.size ∧ w.heap[g]? = some (.cells #[.slice q1.aA p.A.length q1.cA, .slice q1.aB p.B.length q1.cB, .int .i64 p.inp.lo, .int .i64 p.inp.hi, .slice q1.aW p.W.length q1.cW, .slice q1.aI p.Inv.length q1.cI, .slice q1.aS p.Safe.length q1.cS, .slice q1.aG p.gain.length q1.cG, .int .i64 p.bias, .slice aA p.A.length cA, .slice aB p.B.length cB, .int .i64 p.inp.lo, .int .i64 p.inp.hi, .slice aW p.W.length cW, .slice aI p.Inv.length cI, .slice aS p.Safe.length cS, .slice aG p.gain.length cG, .int .i64 p.bias] 116 (0, 0)) ∧ g < B0 ∧ (∃ o, AccAt w (some ⟨ga, 0, none⟩) o) ∧ Below w0.heap.size w0 w ∧ RdI w A1 L)
          (fun c => ([fun s w w' => Below w.heap.size w w', fun s w w' => ∃ o, Below w.heap.size (orCell w (some ⟨ga, 0, none⟩) o) w'] : List ((Nat → Value) → World → World → Prop)).getD c (fun s w w' => w' = w))
          [4, 41, 42, 43, 44, 45, 46, 47, 48, 49, 50, 51, 52, 53, 54, 55] (by kernel_rfl) ⟨by kernel_rfl, by kernel_rfl, by kernel_rfl, by kernel_rfl, by kernel_rfl, by kernel_rfl, by kernel_rfl, by kernel_rfl⟩ (fun s => ?_) ?_ ?_ ?_ ?_ ?_ (fun s w hC hA => ?_)
        rotate_left
        · simp only [fillS, List.foldl, List.setIfInBounds_toArray, List.set_cons_zero, List.set_cons_succ]; rfl
        · exact ⟨c0_hsz, c0_hk_g, c0_lt_g, c0_ha_a, c0_hbw, c0_hL⟩
        · intro c s w w' hE
          match c, hE with
          | 0, hE => exact Below.size hE
          | 1, hE => replace hE : ∃ o, Below w.heap.size (orCell w (some ⟨ga, 0, none⟩) o) w' := hE; obtain ⟨o, hE⟩ := hE; have h_ := Below.size hE; rwa [orCell_size] at h_
          | c + 2, hE => cases hE; exact Nat.le_refl _
        · rintro c s w w' ⟨hsz, hk_g, lt_g, ha_a, hbw, hL⟩ hE
          match c, hE with
          | 0, hE => replace hE : Below w.heap.size w w' := hE; exact ⟨Nat.le_trans hsz hE.size, bl_block hE hk_g, lt_g, ha_a.imp fun _ h => h.below hE, bl_step hbw hE, hL.below hE⟩
          | 1, hE => replace hE : ∃ o, Below w.heap.size (orCell w (some ⟨ga, 0, none⟩) o) w' := hE; obtain ⟨o, hE⟩ := hE; exact ⟨Nat.le_trans hsz (by have h_ := hE.size; rwa [orCell_size] at h_), blk_acc hE hk_g p_a_g, lt_g, (by obtain ⟨o2, h2⟩ := ha_a; exact ⟨_, h2.or hE⟩), bl_own hbw hl_a hE, (by obtain ⟨o2, h2⟩ := ha_a; exact hL.acc h2 hE)⟩
          | c + 2, hE => cases hE; exact ⟨hsz, hk_g, lt_g, ha_a, hbw, hL⟩
        · exact trivial
        · skip
          refine StepsP.cons ?_ ?_
          · intro Q s w hC hA K hK
            clear hC
            clear hA
            refine guard_none (by rfl) ?_
            refine wp_value (v := .slice A1 L.length c1) (w1 := w) ?_ (hK.out _ w (Below.refl _ _) rfl (fun h => by cases h))
            go_simp
            try (first | done | rfl | (simp; done))
          refine StepsP.cons ?_ ?_
          · intro Q s w hC hA K hK
            obtain ⟨hsz, hk_g, lt_g, ha_a, hbw, hL⟩ := hC
            obtain ⟨f0, -⟩ := hA
            replace f0 : (s 41) = .slice A1 L.length c1 := f0
            refine guard_none (by rfl) ?_
            obtain ⟨o_a, ho_a⟩ := ha_a
            refine wp_call (N := some 42) (by rfl) Try.func34 (by kernel_rfl) #[.pointer (some ⟨ga, 0, none⟩), .slice A1 L.length c1] rfl (by rfl) ?_ ?_
            · show [.pointer (some ⟨ga, 0, none⟩), s 41] = [.pointer (some ⟨ga, 0, none⟩), .slice A1 L.length c1]
              first | rfl | simp only [f0]
            refine (Add_calls (some ⟨ga, 0, none⟩) A1 L c1 o_a _ ho_a hL hiM.out).mono ?_
            rintro e w1 ⟨rfl, hb⟩
            refine ⟨_, rfl, ?_⟩
            exact hK.out _ _ ⟨_, hb⟩ rfl (fun h => by cases h)
          refine StepsP.cons ?_ ?_
          · intro Q s w hC hA K hK
            clear hC
            clear hA
            refine guard_none (by rfl) ?_
            refine wp_value (v := .pointer (some ⟨g, 0, none⟩)) (w1 := w) ?_ (hK.out _ w (Below.refl _ _) rfl (fun h => by cases h))
            go_simp
            try (first | done | rfl | (simp; done))
          refine StepsP.cons ?_ ?_
          · intro Q s w hC hA K hK
            clear hC
            obtain ⟨f2, -⟩ := hA
            replace f2 : (s 43) = .pointer (some ⟨g, 0, none⟩) := f2
            refine guard_none (by rfl) ?_
            refine wp_value (v := .pointer (some ⟨g, 0, none⟩)) (w1 := w) ?_ (hK.out _ w (Below.refl _ _) rfl (fun h => by cases h))
            try simp only [f2]
            go_simp
            try (first | done | rfl | (simp; done))
          refine StepsP.cons ?_ ?_
          · intro Q s w hC hA K hK
            clear hC
            obtain ⟨f3, -⟩ := hA
            replace f3 : (s 44) = .pointer (some ⟨g, 0, none⟩) := f3
            refine guard_none (by rfl) ?_
            refine wp_value (v := .pointer (some ⟨g, 9, none⟩)) (w1 := w) ?_ (hK.out _ w (Below.refl _ _) rfl (fun h => by cases h))
            try simp only [f3]
            go_simp
            try (first | done | rfl | (simp; done))
          refine StepsP.cons ?_ ?_
          · intro Q s w hC hA K hK
            clear hC
            obtain ⟨f4, -⟩ := hA
            replace f4 : (s 45) = .pointer (some ⟨g, 9, none⟩) := f4
            refine guard_none (by rfl) ?_
            refine wp_value (v := .pointer (some ⟨g, 11, none⟩)) (w1 := w) ?_ (hK.out _ w (Below.refl _ _) rfl (fun h => by cases h))
            try simp only [f4]
            go_simp
            try (first | done | rfl | (simp; done))
          refine StepsP.cons ?_ ?_
          · intro Q s w hC hA K hK
            clear hC
            obtain ⟨f5, -⟩ := hA
            replace f5 : (s 46) = .pointer (some ⟨g, 11, none⟩) := f5
            refine guard_none (by rfl) ?_
            refine wp_value (v := .pointer (some ⟨g, 11, none⟩)) (w1 := w) ?_ (hK.out _ w (Below.refl _ _) rfl (fun h => by cases h))
            try simp only [f5]
            go_simp
            try (first | done | rfl | (simp; done))
          refine StepsP.cons ?_ ?_
          · intro Q s w hC hA K hK
            obtain ⟨hsz, hk_g, lt_g, ha_a, hbw, hL⟩ := hC
            obtain ⟨f6, -⟩ := hA
            replace f6 : (s 47) = .pointer (some ⟨g, 11, none⟩) := f6
            refine guard_none (by rfl) ?_
            have m0_g : w.cell? ⟨g, 0, none⟩ = some (.slice q1.aA p.A.length q1.cA) := blk_cell hk_g 0 (by rfl)
            have m1_g : w.cell? ⟨g, 1, none⟩ = some (.slice q1.aB p.B.length q1.cB) := blk_cell hk_g 1 (by rfl)
            have m2_g : w.cell? ⟨g, 2, none⟩ = some (.int .i64 p.inp.lo) := blk_cell hk_g 2 (by rfl)
            have m3_g : w.cell? ⟨g, 3, none⟩ = some (.int .i64 p.inp.hi) := blk_cell hk_g 3 (by rfl)
            have m4_g : w.cell? ⟨g, 4, none⟩ = some (.slice q1.aW p.W.length q1.cW) := blk_cell hk_g 4 (by rfl)
            have m5_g : w.cell? ⟨g, 5, none⟩ = some (.slice q1.aI p.Inv.length q1.cI) := blk_cell hk_g 5 (by rfl)
            have m6_g : w.cell? ⟨g, 6, none⟩ = some (.slice q1.aS p.Safe.length q1.cS) := blk_cell hk_g 6 (by rfl)
            have m7_g : w.cell? ⟨g, 7, none⟩ = some (.slice q1.aG p.gain.length q1.cG) := blk_cell hk_g 7 (by rfl)
            have m8_g : w.cell? ⟨g, 8, none⟩ = some (.int .i64 p.bias) := blk_cell hk_g 8 (by rfl)
            have m9_g : w.cell? ⟨g, 9, none⟩ = some (.slice aA p.A.length cA) := blk_cell hk_g 9 (by rfl)
            have m10_g : w.cell? ⟨g, 10, none⟩ = some (.slice aB p.B.length cB) := blk_cell hk_g 10 (by rfl)
            have m11_g : w.cell? ⟨g, 11, none⟩ = some (.int .i64 p.inp.lo) := blk_cell hk_g 11 (by rfl)
            have m12_g : w.cell? ⟨g, 12, none⟩ = some (.int .i64 p.inp.hi) := blk_cell hk_g 12 (by rfl)
            have m13_g : w.cell? ⟨g, 13, none⟩ = some (.slice aW p.W.length cW) := blk_cell hk_g 13 (by rfl)
            have m14_g : w.cell? ⟨g, 14, none⟩ = some (.slice aI p.Inv.length cI) := blk_cell hk_g 14 (by rfl)
            have m15_g : w.cell? ⟨g, 15, none⟩ = some (.slice aS p.Safe.length cS) := blk_cell hk_g 15 (by rfl)
            have m16_g : w.cell? ⟨g, 16, none⟩ = some (.slice aG p.gain.length cG) := blk_cell hk_g 16 (by rfl)
            have m17_g : w.cell? ⟨g, 17, none⟩ = some (.int .i64 p.bias) := blk_cell hk_g 17 (by rfl)
            refine wp_value (v := .int .i64 p.inp.lo) (w1 := w) ?_ (hK.out _ w (Below.refl _ _) rfl (fun h => by cases h))
            try simp only [f6]
            go_simp
            try (first | done | rfl | (simp; done))
          refine StepsP.cons ?_ ?_
          · intro Q s w hC hA K hK
            clear hC
            clear hA
            refine guard_none (by rfl) ?_
            refine wp_value (v := .pointer (some ⟨g, 0, none⟩)) (w1 := w) ?_ (hK.out _ w (Below.refl _ _) rfl (fun h => by cases h))
            go_simp
            try (first | done | rfl | (simp; done))
          refine StepsP.cons ?_ ?_
          · intro Q s w hC hA K hK
            clear hC
            obtain ⟨f8, -⟩ := hA
            replace f8 : (s 49) = .pointer (some ⟨g, 0, none⟩) := f8
            refine guard_none (by rfl) ?_
            refine wp_value (v := .pointer (some ⟨g, 0, none⟩)) (w1 := w) ?_ (hK.out _ w (Below.refl _ _) rfl (fun h => by cases h))
            try simp only [f8]
            go_simp
            try (first | done | rfl | (simp; done))
          refine StepsP.cons ?_ ?_
          · intro Q s w hC hA K hK
            clear hC
            obtain ⟨f9, -⟩ := hA
            replace f9 : (s 50) = .pointer (some ⟨g, 0, none⟩) := f9
            refine guard_none (by rfl) ?_
            refine wp_value (v := .pointer (some ⟨g, 9, none⟩)) (w1 := w) ?_ (hK.out _ w (Below.refl _ _) rfl (fun h => by cases h))
            try simp only [f9]
            go_simp
            try (first | done | rfl | (simp; done))
          refine StepsP.cons ?_ ?_
          · intro Q s w hC hA K hK
            clear hC
            obtain ⟨f10, -⟩ := hA
            replace f10 : (s 51) = .pointer (some ⟨g, 9, none⟩) := f10
            refine guard_none (by rfl) ?_
            refine wp_value (v := .pointer (some ⟨g, 11, none⟩)) (w1 := w) ?_ (hK.out _ w (Below.refl _ _) rfl (fun h => by cases h))
            try simp only [f10]
            go_simp
            try (first | done | rfl | (simp; done))
          refine StepsP.cons ?_ ?_
          · intro Q s w hC hA K hK
            clear hC
            obtain ⟨f11, -⟩ := hA
            replace f11 : (s 52) = .pointer (some ⟨g, 11, none⟩) := f11
            refine guard_none (by rfl) ?_
            refine wp_value (v := .pointer (some ⟨g, 12, none⟩)) (w1 := w) ?_ (hK.out _ w (Below.refl _ _) rfl (fun h => by cases h))
            try simp only [f11]
            go_simp
            try (first | done | rfl | (simp; done))
          refine StepsP.cons ?_ ?_
          · intro Q s w hC hA K hK
            obtain ⟨hsz, hk_g, lt_g, ha_a, hbw, hL⟩ := hC
            obtain ⟨f12, -⟩ := hA
            replace f12 : (s 53) = .pointer (some ⟨g, 12, none⟩) := f12
            refine guard_none (by rfl) ?_
            have m0_g : w.cell? ⟨g, 0, none⟩ = some (.slice q1.aA p.A.length q1.cA) := blk_cell hk_g 0 (by rfl)
            have m1_g : w.cell? ⟨g, 1, none⟩ = some (.slice q1.aB p.B.length q1.cB) := blk_cell hk_g 1 (by rfl)
            have m2_g : w.cell? ⟨g, 2, none⟩ = some (.int .i64 p.inp.lo) := blk_cell hk_g 2 (by rfl)
            have m3_g : w.cell? ⟨g, 3, none⟩ = some (.int .i64 p.inp.hi) := blk_cell hk_g 3 (by rfl)
            have m4_g : w.cell? ⟨g, 4, none⟩ = some (.slice q1.aW p.W.length q1.cW) := blk_cell hk_g 4 (by rfl)
            have m5_g : w.cell? ⟨g, 5, none⟩ = some (.slice q1.aI p.Inv.length q1.cI) := blk_cell hk_g 5 (by rfl)
            have m6_g : w.cell? ⟨g, 6, none⟩ = some (.slice q1.aS p.Safe.length q1.cS) := blk_cell hk_g 6 (by rfl)
            have m7_g : w.cell? ⟨g, 7, none⟩ = some (.slice q1.aG p.gain.length q1.cG) := blk_cell hk_g 7 (by rfl)
            have m8_g : w.cell? ⟨g, 8, none⟩ = some (.int .i64 p.bias) := blk_cell hk_g 8 (by rfl)
            have m9_g : w.cell? ⟨g, 9, none⟩ = some (.slice aA p.A.length cA) := blk_cell hk_g 9 (by rfl)
            have m10_g : w.cell? ⟨g, 10, none⟩ = some (.slice aB p.B.length cB) := blk_cell hk_g 10 (by rfl)
            have m11_g : w.cell? ⟨g, 11, none⟩ = some (.int .i64 p.inp.lo) := blk_cell hk_g 11 (by rfl)
            have m12_g : w.cell? ⟨g, 12, none⟩ = some (.int .i64 p.inp.hi) := blk_cell hk_g 12 (by rfl)
            have m13_g : w.cell? ⟨g, 13, none⟩ = some (.slice aW p.W.length cW) := blk_cell hk_g 13 (by rfl)
            have m14_g : w.cell? ⟨g, 14, none⟩ = some (.slice aI p.Inv.length cI) := blk_cell hk_g 14 (by rfl)
            have m15_g : w.cell? ⟨g, 15, none⟩ = some (.slice aS p.Safe.length cS) := blk_cell hk_g 15 (by rfl)
            have m16_g : w.cell? ⟨g, 16, none⟩ = some (.slice aG p.gain.length cG) := blk_cell hk_g 16 (by rfl)
            have m17_g : w.cell? ⟨g, 17, none⟩ = some (.int .i64 p.bias) := blk_cell hk_g 17 (by rfl)
            refine wp_value (v := .int .i64 p.inp.hi) (w1 := w) ?_ (hK.out _ w (Below.refl _ _) rfl (fun h => by cases h))
            try simp only [f12]
            go_simp
            try (first | done | rfl | (simp; done))
          refine StepsP.cons ?_ ?_
          · intro Q s w hC hA K hK
            obtain ⟨hsz, hk_g, lt_g, ha_a, hbw, hL⟩ := hC
            obtain ⟨f1, f7, f13, -⟩ := hA
            replace f1 : (s 42) = .int .i64 (clampI (sumI L)) := f1
            replace f7 : (s 48) = .int .i64 p.inp.lo := f7
            replace f13 : (s 54) = .int .i64 p.inp.hi := f13
            refine guard_none (by rfl) ?_
            refine wp_call (N := some 55) (by rfl) Try.func22 (by kernel_rfl) #[.int .i64 (clampI (sumI L)), .int .i64 p.inp.lo, .int .i64 p.inp.hi] rfl (by rfl) ?_ ?_
            · show [s 42, s 48, s 54] = [.int .i64 (clampI (sumI L)), .int .i64 p.inp.lo, .int .i64 p.inp.hi]
              first | rfl | simp only [f1, f7, f13]
            refine (Clamp_calls (clampI (sumI L)) p.inp.lo p.inp.hi _).mono ?_
            rintro e w1 ⟨rfl, rfl⟩
            refine ⟨_, rfl, ?_⟩
            exact hK.out _ _ (Below.refl _ _) rfl (fun h => by cases h)
          refine StepsP.cons ?_ ?_
          · intro Q s w hC hA K hK
            clear hC
            obtain ⟨f14, -⟩ := hA
            replace f14 : (s 55) = .int .i64 (clampTo (clampI (sumI L)) p.inp.lo p.inp.hi) := f14
            refine guard_none (by rfl) ?_
            refine wp_value (v := .int .i64 (clampTo (clampI (sumI L)) p.inp.lo p.inp.hi)) (w1 := w) ?_ (hK.out _ w (Below.refl _ _) rfl (fun h => by cases h))
            try simp only [f14]
            go_simp
            try (first | done | rfl | (simp; done))
          exact StepsP.nil
        obtain ⟨hsz, hk_g, lt_g, ha_a, hbw, hL⟩ := hC
        obtain ⟨f15, -⟩ := hA
        replace f15 : (s 4) = .int .i64 (clampTo (clampI (sumI L)) p.inp.lo p.inp.hi) := f15
        refine act_eq (b' := ?b9) ?h9 ?q9
        case h9 => simp only [f15]; rfl
        go_wp2
        go_ret
        exact ⟨by rw [hin.out]; rfl, by rw [← hw0.out]; exact hbw⟩
end Go.Proofs.Ythdaidmjjcmccaa
