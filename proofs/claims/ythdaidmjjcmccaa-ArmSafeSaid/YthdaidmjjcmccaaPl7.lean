/- Proved here: lemmas and contracts (what a function of the program computes) that the proofs of the laws of this seat lean on. Conditions: as each theorem states. -/
import Derived.Test.YthdaidmjjcmccaaPl6
set_option linter.unusedVariables false
set_option linter.unusedSimpArgs false
namespace Go.Pk
open Go.RowKit
def GoodP (p : Pl) : Prop := longP p = true ∧ wrongP p = false ∧ InP p
theorem GoodP.lens {p : Pl} (h : GoodP p) : 1 ≤ p.B.length ∧ p.B.length ≤ 3 ∧ p.A.length = p.B.length ∧ (∀ l ∈ p.A, l.length = p.B.length) ∧ p.W.length = p.B.length ∧ p.Inv.length = p.B.length ∧ p.Safe.length = p.B.length ∧ p.gain.length = p.B.length := by
  have hl := h.1
  unfold longP at hl
  simpa [and_assoc] using hl
theorem farI_iff (n : Int) : farI n = false ↔ -1000 ≤ n ∧ n ≤ 1000 := by unfold farI; simp
theorem GoodP.small {p : Pl} (h : GoodP p) : (∀ l ∈ p.A, ∀ n ∈ l, -1000 ≤ n ∧ n ≤ 1000) ∧ ∀ n ∈ p.B, -1000 ≤ n ∧ n ≤ 1000 := by
  have hw := h.2.1
  unfold wrongP at hw
  simp only [Bool.or_eq_false_iff, List.any_eq_false] at hw
  have h4 := hw.1.2
  refine ⟨fun l hl n hn => ?_, fun n hn => ?_⟩
  · have := h4 l (by simp [hl])
    simp only [List.any_eq_true, not_exists, not_and, Bool.not_eq_true] at this
    exact (farI_iff n).1 (this n hn)
  · have := h4 p.B (by simp)
    simp only [List.any_eq_true, not_exists, not_and, Bool.not_eq_true] at this
    exact (farI_iff n).1 (this n hn)
theorem GoodP.row {p : Pl} (h : GoodP p) {i : Nat} (hi : i < p.B.length) : (p.A.getD i []).length = p.B.length ∧ InI (p.A.getD i []) := by
  obtain ⟨h1, h2, h3, h4, -⟩ := h.lens
  have hm : p.A.getD i [] ∈ p.A := by rw [List.getD_eq_getElem?_getD, List.getElem?_eq_getElem (by omega)]; exact List.getElem_mem _
  exact ⟨h4 _ hm, fun n hn => by have := h.small.1 _ hm n hn; omega⟩
theorem exS_rng (l : List Sp) (h : ∀ q ∈ l, (-1000 ≤ q.lo ∧ q.lo ≤ 1000) ∧ -9223372036854775808 ≤ q.hi ∧ q.hi ≤ 9223372036854775807) : -9223372036854775808000 * (l.length : Int) ≤ exS l ∧ exS l ≤ 9223372036854775808000 * (l.length : Int) := by
  induction l with
  | nil => simp [exS, sumI]
  | cons q l ih =>
    have h1 := ih (fun x hx => h x (by simp [hx]))
    obtain ⟨⟨a, b⟩, c, d⟩ := h q (by simp)
    have e : exS (q :: l) = q.lo * q.hi + exS l := by unfold exS; rw [List.map_cons, sumI_cons]
    have hn : (q.lo * q.hi).natAbs ≤ 1000 * 9223372036854775808 := by rw [Int.natAbs_mul]; exact Nat.mul_le_mul (by omega) (by omega)
    rw [e, List.length_cons]
    omega
theorem pairs_ok {p : Pl} (h : GoodP p) {u : Int} {w x : List Int} {i : Nat} (hi : i < p.B.length) (hu0 : -9223372036854775808 ≤ u) (hu1 : u ≤ 9223372036854775807) (iw : InI w) (ix : InI x) :
    (pairsP p u w x i).length = 2 + p.B.length ∧ ∀ q ∈ pairsP p u w x i, (-1000 ≤ q.lo ∧ q.lo ≤ 1000) ∧ -9223372036854775808 ≤ q.hi ∧ q.hi ≤ 9223372036854775807 := by
  obtain ⟨h1, h2, h3, h4, -⟩ := h.lens
  have hr := h.row hi
  refine ⟨by unfold pairsP; rw [List.length_append, List.length_map, List.length_range, hr.1]; rfl, fun q hq => ?_⟩
  unfold pairsP at hq
  simp only [List.cons_append, List.nil_append, List.mem_cons, List.mem_map, List.mem_range] at hq
  have wd := iw.getD i
  rcases hq with rfl | rfl | ⟨j, hj, rfl⟩
  · have := h.small.2 (p.B.getD i 0) (by rw [List.getD_eq_getElem?_getD, List.getElem?_eq_getElem hi]; exact List.getElem_mem hi)
    exact ⟨this, hu0, hu1⟩
  · exact ⟨by simp, wd⟩
  · have hm : p.A.getD i [] ∈ p.A := by rw [List.getD_eq_getElem?_getD, List.getElem?_eq_getElem (by omega)]; exact List.getElem_mem _
    have := h.small.1 _ hm ((p.A.getD i []).getD j 0) (by rw [List.getD_eq_getElem?_getD (l := p.A.getD i []), List.getElem?_eq_getElem hj]; exact List.getElem_mem hj)
    exact ⟨this, ix.getD j⟩
/-- What Next tells. -/
def nextP (p : Pl) (u : Int) (w x : List Int) : List Int × Bool :=
  if areP p x.length = true ∧ w.length = x.length then (if (List.range p.B.length).all (fun i => fitsI (nextZ p u w x i)) then ((List.range p.B.length).map (nextZ p u w x), true) else ([], false)) else ([], false)
end Go.Pk
namespace Go.Proofs.Ythdaidmjjcmccaa
open Go.RowKit Go.Pk Go.Proofs.YthdaidmjjcmccaaW.PrintLast
theorem encS_app (a b : List Sp) : encS (a ++ b) = encS a ++ encS b := by unfold encS; rw [List.flatMap_append]
theorem infoA2 : (Try.prog.info? 76).map (fun i => (i.zero, i.size, i.bytes)) = some (some (.agg #[.int .i64 0, .int .i64 0]), 2, 16) := by kernel_rfl
set_option maxHeartbeats 8000000 in
set_option maxRecDepth 100000 in
theorem Next_fr (g : Nat) (p : Pl) (u : Int) (lw lx : List Int) (aw ax : Option Addr) (cw cx : Nat) (w : World) (hg : GoodP p) (hk : KitAt w g 116 p) (hw : RdI w aw lw) (hx : RdI w ax lx) (iw : InI lw) (ix : InI lx) (iu0 : -9223372036854775808 ≤ u) (iu1 : u ≤ 9223372036854775807) (hlx : lx.length = p.B.length) (hlw : lw.length = p.B.length) :
    Calls Try.prog 25 #[.pointer (some ⟨g, 0, none⟩), .int .i64 u, .slice aw lw.length cw, .slice ax lx.length cx] w fun e w' => ∃ A c, e = .returned (.tuple #[.slice A (nextP p u lw lx).1.length c, .bool (nextP p u lw lx).2]) ∧ RdI w' A (nextP p u lw lx).1 ∧ Below w.heap.size w w' ∧ ∀ a, A = some a → w.heap.size ≤ a.block := by
  have hlens := hg.lens
  have hare : areP p lx.length = true := by unfold areP; simp [hlx]; omega
  have hnext : nextP p u lw lx = (if (List.range p.B.length).all (fun i => fitsI (nextZ p u lw lx i)) then ((List.range p.B.length).map (nextZ p u lw lx), true) else ([], false)) := by unfold nextP; rw [if_pos ⟨hare, by omega⟩]
  replace hnext := hidI hnext
  replace hare := hidI hare
  have hlE := hidI (And.intro hlx hlw)
  have d1 : ((lw.length : Int) != (lx.length : Int)) = false := by rw [bne_eq_false_iff_eq]; omega
  have hnE := hidI hlens
  obtain ⟨n, hn⟩ : ∃ n, n = p.B.length := ⟨_, rfl⟩
  have hn3 : 1 ≤ n ∧ n ≤ 3 := by omega
  have hAn : Hid (p.A.length = n) := by unfold Hid; omega
  have hZ : Hid (∀ i, i < n → (p.A.getD i []).length = n ∧ InI (p.A.getD i []) ∧ i < p.B.length ∧ i < lw.length ∧ i < p.A.length) := by
    intro i hi
    have := hg.row (i := i) (by omega)
    exact ⟨by omega, this.2, by omega, by omega, by omega⟩
  replace hn := hidI hn
  clear hlens hlx hlw
  obtain ⟨w0, hw0⟩ : ∃ z : World, z = w := ⟨_, rfl⟩
  rw [← hw0] at hk hw hx
  go_enter Try.func25, Try.ntmps25
  go_wp2_with fail
  refine (are_calls g p lx.length _ (hw0 ▸ hk)).mono ?_
  rintro e w1 ⟨rfl, hw1⟩
  rw [hw1]
  clear hw1 w1
  rw [hare.out]
  obtain ⟨q1, q2, hkc, hr1, hr2⟩ := hk
  obtain ⟨aA, cA, aB, cB, aW, cW, aI, cI, aS, cS, aG, cG⟩ := q2
  obtain ⟨hA, hB, -, -, -, -, kA, kB, -, -, -, -⟩ := hr2
  simp only [] at hA hB kA kB
  have hk9 : w.cell? ⟨g, 9, none⟩ = some (.slice aA p.A.length cA) := by rw [← hw0]; exact blk_cell hkc 9 (by rfl)
  have hbw0 : Below w0.heap.size w0 w := by rw [hw0]; exact Below.refl _ _
  replace hw0 := hidI hw0
  go_upto_region 5 with fail
  clear hk9 d1
  go_loopw [10, 11, 12, 13, 14, 15, 16, 17, 36] (fun o v11 v12 v13 v14 v15 v16 v17 x wr => ∃ i : Nat, i ≤ n ∧ x = .int .i64 i ∧ Below w0.heap.size w0 wr ∧ wr.ownsRow w0.heap.size 3 1 o i (encI ((List.range i).map (nextZ p u lw lx))) ∧ Hid (∀ j, j < i → fitsI (nextZ p u lw lx j) = true)) (fun _ _ _ _ _ _ _ _ x _ => (n - intOf x).toNat)
  case atStart => exact ⟨0, by omega, rfl, hbw0, World.ownsRow_nil _ _ _ _, fun j hj => by omega⟩
  case round =>
    obtain ⟨i, hi, rfl, hbw, ho, hfit⟩ := hrel
    by_cases hlt : i < n
    · obtain ⟨z1, z2, z3, z4, z5⟩ := hZ.out i hlt
      have hxl : Hid (i < lx.length) := by unfold Hid; have := hlE.out; omega
      obtain ⟨bA, oA, B, cB_, rfl, hc0, hcB, hrB⟩ := (hA.below hbw).2 i z5
      obtain ⟨bB, oB, rfl, hc1⟩ := (hB.below hbw).at z3
      obtain ⟨bw, ow, rfl, hc2⟩ := (hw.below hbw).at z4
      obtain ⟨Bi, hBi⟩ : ∃ z, p.B.getD i 0 = z := ⟨_, rfl⟩
      obtain ⟨Wi, hWi⟩ : ∃ z, lw.getD i 0 = z := ⟨_, rfl⟩
      obtain ⟨li, hli⟩ : ∃ z, p.A.getD i [] = z := ⟨_, rfl⟩
      rw [hBi] at hc1
      rw [hWi] at hc2
      rw [hli] at hc0 hcB hrB z1 z2
      replace hBi := hidI hBi
      replace hWi := hidI hWi
      replace hli := hidI hli
      have hd : decide ((i : Int) < (p.A.length : Int)) = true := decide_eq_true (by omega)
      go_upto_region 7 with fail
      have hkg : wr.heap[g]? = some (.cells #[.slice q1.aA p.A.length q1.cA, .slice q1.aB p.B.length q1.cB, .int .i64 p.inp.lo, .int .i64 p.inp.hi, .slice q1.aW p.W.length q1.cW, .slice q1.aI p.Inv.length q1.cI, .slice q1.aS p.Safe.length q1.cS, .slice q1.aG p.gain.length q1.cG, .int .i64 p.bias, .slice (some ⟨bA, oA, none⟩) p.A.length cA, .slice (some ⟨bB, oB, none⟩) p.B.length cB, .int .i64 p.inp.lo, .int .i64 p.inp.hi, .slice aW p.W.length cW, .slice aI p.Inv.length cI, .slice aS p.Safe.length cS, .slice aG p.gain.length cG, .int .i64 p.bias] 116 (0, 0)) := bl_block hbw hkc
      have hk_g := hkg
      clear hkg
      have hd3 : decide ((i : Int) < (p.B.length : Int)) = true := decide_eq_true (by omega)
      have hd4 : decide ((i : Int) < (lw.length : Int)) = true := decide_eq_true (by omega)
      obtain ⟨w5, hw5⟩ : ∃ z : World, z = wr := ⟨_, rfl⟩
      subst hw5
      have c0_hb5 : Below w5.heap.size w5 w5.drew := bl_drew (Below.refl w5.heap.size w5)
      have c0_hc1 : w5.drew.cell? ⟨bB, oB + i, none⟩ = some (.int .i64 Bi) := hc1
      have c0_hc2 : w5.drew.cell? ⟨bw, ow + i, none⟩ = some (.int .i64 Wi) := hc2
      have hbw5 := hbw
      clear hc0 hc1 hc2
      obtain ⟨B0, hB0⟩ : ∃ B, B = w5.heap.size := ⟨_, rfl⟩
      have c0_hsz : B0 ≤ w5.heap.size := Nat.le_of_eq hB0
      have hw0B0 : w0.heap.size ≤ B0 := by rw [hB0]; exact hbw.size
      have c0_hle : w5.heap.size ≤ B0 := Nat.le_of_eq hB0.symm
      have c0_hk_g := blk_drew hk_g
      have c0_lt_g : g < B0 := by rw [hB0]; exact blk_lt hk_g
      have c0_hbw := bl_drew hbw
      clear hB0 hbw hk_g
      refine region_lin (n := 17) (st := ?st8) { R := [0, 1, 3, 7, 15, 0, 63, 127, 0, 511, 0, 0, 3072, 7168, 15360, 32767, 65535], kill := [[], [], [], [], [], [], [], [], [], [], [], [], [], [], [], [], []], cls := [0, 0, 0, 0, 0, 0, 0, 0, 0, 0, 0, 0, 0, 0, 0, 0, 0], dst := [some 41, some 42, some 43, some 44, some 45, some 46, some 47, some 48, some 49, some 50, some 51, some 52, some 53, some 54, some 55, some 56, some 13], pre := [[], [0], [1], [2], [3], [], [4, 5], [6], [], [7, 8], [], [], [10, 11], [12], [13], [9, 14], [15]], cov := [(0, 15)], fin := [15, 16], locs := [(15, 56)], tgt := [none], abt := [none, none, none, none, none, none, none, none, none, none, none, none, none, none, none, some 56, none] }
        [.v [41] (fun vs => (vs.getD 0 undef) = .pointer (some ⟨g, 0, none⟩)),
         .v [42] (fun vs => (vs.getD 0 undef) = .pointer (some ⟨g, 0, none⟩)),
         .v [43] (fun vs => (vs.getD 0 undef) = .pointer (some ⟨g, 9, none⟩)),
         .v [44] (fun vs => (vs.getD 0 undef) = .pointer (some ⟨g, 10, none⟩)),
         .v [45] (fun vs => (vs.getD 0 undef) = .slice (some ⟨bB, oB, none⟩) p.B.length cB),
         .v [46] (fun vs => (vs.getD 0 undef) = .int .i64 (i : Int)),
         .v [47] (fun vs => (vs.getD 0 undef) = .pointer (some ⟨bB, oB + i, none⟩)),
         .v [48] (fun vs => (vs.getD 0 undef) = .int .i64 Bi),
         .v [49] (fun vs => (vs.getD 0 undef) = .int .i64 u),
         .v [50] (fun vs => (vs.getD 0 undef) = .agg #[.int .i64 Bi, .int .i64 u]),
         .v [51] (fun vs => (vs.getD 0 undef) = .slice (some ⟨bw, ow, none⟩) lw.length cw),
         .v [52] (fun vs => (vs.getD 0 undef) = .int .i64 (i : Int)),
         .v [53] (fun vs => (vs.getD 0 undef) = .pointer (some ⟨bw, ow + i, none⟩)),
         .v [54] (fun vs => (vs.getD 0 undef) = .int .i64 Wi),
         .v [55] (fun vs => (vs.getD 0 undef) = .agg #[.int .i64 1, .int .i64 Wi]),
         .w [56] (fun vs w => ∃ g15 : Nat, (vs.getD 0 undef) = .slice (some ⟨g15, 0, none⟩) 2 2 ∧ B0 ≤ g15 ∧ w.heap[g15]? = some (.cells #[.int .i64 Bi, .int .i64 u, .int .i64 1, .int .i64 Wi] 76 (0, 0))),
         .v [13, 56] (fun vs => ∃ g15 : Nat, (vs.getD 1 undef) = .slice (some ⟨g15, 0, none⟩) 2 2 ∧ (vs.getD 0 undef) = .slice (some ⟨g15, 0, none⟩) 2 2)]
        (fun w => B0 ≤ w.heap.size ∧ w.heap[g]? = some (.cells #[.slice q1.aA p.A.length q1.cA, .slice q1.aB p.B.length q1.cB, .int .i64 p.inp.lo, .int .i64 p.inp.hi, .slice q1.aW p.W.length q1.cW, .slice q1.aI p.Inv.length q1.cI, .slice q1.aS p.Safe.length q1.cS, .slice q1.aG p.gain.length q1.cG, .int .i64 p.bias, .slice (some ⟨bA, oA, none⟩) p.A.length cA, .slice (some ⟨bB, oB, none⟩) p.B.length cB, .int .i64 p.inp.lo, .int .i64 p.inp.hi, .slice aW p.W.length cW, .slice aI p.Inv.length cI, .slice aS p.Safe.length cS, .slice aG p.gain.length cG, .int .i64 p.bias] 116 (0, 0)) ∧ g < B0 ∧ Below w0.heap.size w0 w ∧ Below w5.heap.size w5 w ∧ w.cell? ⟨bB, oB + i, none⟩ = some (.int .i64 Bi) ∧ w.cell? ⟨bw, ow + i, none⟩ = some (.int .i64 Wi))
        (fun c => ([fun s w w' => Below w.heap.size w w'] : List ((Nat → Value) → World → World → Prop)).getD c (fun s w w' => w' = w))
        [13, 41, 42, 43, 44, 45, 46, 47, 48, 49, 50, 51, 52, 53, 54, 55, 56] (by kernel_rfl) ⟨by kernel_rfl, by kernel_rfl, by kernel_rfl, by kernel_rfl, by kernel_rfl, by kernel_rfl, by kernel_rfl, by kernel_rfl⟩ (fun s => ?_) ?_ ?_ ?_ ?_ ?_ (fun s w hC hA => ?_)
      rotate_left
      · simp only [fillS, List.foldl, List.setIfInBounds_toArray, List.set_cons_zero, List.set_cons_succ]; rfl
      · exact ⟨c0_hsz, c0_hk_g, c0_lt_g, c0_hbw, c0_hb5, c0_hc1, c0_hc2⟩
      · intro c s w w' hE
        match c, hE with
        | 0, hE => exact Below.size hE
        | c + 1, hE => cases hE; exact Nat.le_refl _
      · rintro c s w w' ⟨hsz, hk_g, lt_g, hbw, hb5, hc1, hc2⟩ hE
        match c, hE with
        | 0, hE => replace hE : Below w.heap.size w w' := hE; exact ⟨Nat.le_trans hsz hE.size, bl_block hE hk_g, lt_g, bl_step hbw hE, bl_step hb5 hE, bl_cell hE hc1, bl_cell hE hc2⟩
        | c + 1, hE => cases hE; exact ⟨hsz, hk_g, lt_g, hbw, hb5, hc1, hc2⟩
      · refine ⟨?_, trivial⟩
        · intro s w w' hD hC hE hF
          replace hF : ∃ g15 : Nat, (s 56) = .slice (some ⟨g15, 0, none⟩) 2 2 ∧ B0 ≤ g15 ∧ w.heap[g15]? = some (.cells #[.int .i64 Bi, .int .i64 u, .int .i64 1, .int .i64 Wi] 76 (0, 0)) := hF
          show ∃ g15 : Nat, (s 56) = .slice (some ⟨g15, 0, none⟩) 2 2 ∧ B0 ≤ g15 ∧ w'.heap[g15]? = some (.cells #[.int .i64 Bi, .int .i64 u, .int .i64 1, .int .i64 Wi] 76 (0, 0))
          replace hE : Below w.heap.size w w' := hE
          obtain ⟨g15, h1, h2, h3⟩ := hF
          exact ⟨g15, h1, h2, bl_block hE h3⟩
      · skip
        refine StepsP.cons ?_ ?_
        · intro Q s w hC hA K hK
          clear hC
          clear hA
          refine guard_none (by rfl) ?_
          refine wp_value (v := .pointer (some ⟨g, 0, none⟩)) (w1 := w) ?_ (hK.out _ w (Below.refl _ _) rfl (fun h => by cases h))
          go_simp
          try (first | done | rfl | (simp; done))
        refine StepsP.cons ?_ ?_
        · intro Q s w hC hA K hK
          clear hC
          obtain ⟨f0, -⟩ := hA
          replace f0 : (s 41) = .pointer (some ⟨g, 0, none⟩) := f0
          refine guard_none (by rfl) ?_
          refine wp_value (v := .pointer (some ⟨g, 0, none⟩)) (w1 := w) ?_ (hK.out _ w (Below.refl _ _) rfl (fun h => by cases h))
          try simp only [f0]
          go_simp
          try (first | done | rfl | (simp; done))
        refine StepsP.cons ?_ ?_
        · intro Q s w hC hA K hK
          clear hC
          obtain ⟨f1, -⟩ := hA
          replace f1 : (s 42) = .pointer (some ⟨g, 0, none⟩) := f1
          refine guard_none (by rfl) ?_
          refine wp_value (v := .pointer (some ⟨g, 9, none⟩)) (w1 := w) ?_ (hK.out _ w (Below.refl _ _) rfl (fun h => by cases h))
          try simp only [f1]
          go_simp
          try (first | done | rfl | (simp; done))
        refine StepsP.cons ?_ ?_
        · intro Q s w hC hA K hK
          clear hC
          obtain ⟨f2, -⟩ := hA
          replace f2 : (s 43) = .pointer (some ⟨g, 9, none⟩) := f2
          refine guard_none (by rfl) ?_
          refine wp_value (v := .pointer (some ⟨g, 10, none⟩)) (w1 := w) ?_ (hK.out _ w (Below.refl _ _) rfl (fun h => by cases h))
          try simp only [f2]
          go_simp
          try (first | done | rfl | (simp; done))
        refine StepsP.cons ?_ ?_
        · intro Q s w hC hA K hK
          obtain ⟨hsz, hk_g, lt_g, hbw, hb5, hc1, hc2⟩ := hC
          obtain ⟨f3, -⟩ := hA
          replace f3 : (s 44) = .pointer (some ⟨g, 10, none⟩) := f3
          refine guard_none (by rfl) ?_
          have m0_g : w.cell? ⟨g, 0, none⟩ = some (.slice q1.aA p.A.length q1.cA) := blk_cell hk_g 0 (by rfl)
          have m1_g : w.cell? ⟨g, 1, none⟩ = some (.slice q1.aB p.B.length q1.cB) := blk_cell hk_g 1 (by rfl)
          have m2_g : w.cell? ⟨g, 2, none⟩ = some (.int .i64 p.inp.lo) := blk_cell hk_g 2 (by rfl)
          have m3_g : w.cell? ⟨g, 3, none⟩ = some (.int .i64 p.inp.hi) := blk_cell hk_g 3 (by rfl)
          have m4_g : w.cell? ⟨g, 4, none⟩ = some (.slice q1.aW p.W.length q1.cW) := blk_cell hk_g 4 (by rfl)
          have m5_g : w.cell? ⟨g, 5, none⟩ = some (.slice q1.aI p.Inv.length q1.cI) := blk_cell hk_g 5 (by rfl)
          have m6_g : w.cell? ⟨g, 6, none⟩ = some (.slice q1.aS p.Safe.length q1.cS) := blk_cell hk_g 6 (by rfl)
          have m7_g : w.cell? ⟨g, 7, none⟩ = some (.slice q1.aG p.gain.length q1.cG) := blk_cell hk_g 7 (by rfl)
          have m8_g : w.cell? ⟨g, 8, none⟩ = some (.int .i64 p.bias) := blk_cell hk_g 8 (by rfl)
          have m9_g : w.cell? ⟨g, 9, none⟩ = some (.slice (some ⟨bA, oA, none⟩) p.A.length cA) := blk_cell hk_g 9 (by rfl)
          have m10_g : w.cell? ⟨g, 10, none⟩ = some (.slice (some ⟨bB, oB, none⟩) p.B.length cB) := blk_cell hk_g 10 (by rfl)
          have m11_g : w.cell? ⟨g, 11, none⟩ = some (.int .i64 p.inp.lo) := blk_cell hk_g 11 (by rfl)
          have m12_g : w.cell? ⟨g, 12, none⟩ = some (.int .i64 p.inp.hi) := blk_cell hk_g 12 (by rfl)
          have m13_g : w.cell? ⟨g, 13, none⟩ = some (.slice aW p.W.length cW) := blk_cell hk_g 13 (by rfl)
          have m14_g : w.cell? ⟨g, 14, none⟩ = some (.slice aI p.Inv.length cI) := blk_cell hk_g 14 (by rfl)
          have m15_g : w.cell? ⟨g, 15, none⟩ = some (.slice aS p.Safe.length cS) := blk_cell hk_g 15 (by rfl)
          have m16_g : w.cell? ⟨g, 16, none⟩ = some (.slice aG p.gain.length cG) := blk_cell hk_g 16 (by rfl)
          have m17_g : w.cell? ⟨g, 17, none⟩ = some (.int .i64 p.bias) := blk_cell hk_g 17 (by rfl)
          refine wp_value (v := .slice (some ⟨bB, oB, none⟩) p.B.length cB) (w1 := w) ?_ (hK.out _ w (Below.refl _ _) rfl (fun h => by cases h))
          try simp only [f3]
          go_simp
          try (first | done | rfl | (simp; done))
        refine StepsP.cons ?_ ?_
        · intro Q s w hC hA K hK
          clear hC
          clear hA
          refine guard_none (by rfl) ?_
          refine wp_value (v := .int .i64 (i : Int)) (w1 := w) ?_ (hK.out _ w (Below.refl _ _) rfl (fun h => by cases h))
          go_simp
          try (first | done | rfl | (simp; done))
        refine StepsP.cons ?_ ?_
        · intro Q s w hC hA K hK
          clear hC
          obtain ⟨f4, f5, -⟩ := hA
          replace f4 : (s 45) = .slice (some ⟨bB, oB, none⟩) p.B.length cB := f4
          replace f5 : (s 46) = .int .i64 (i : Int) := f5
          refine guard_none (by rfl) ?_
          refine wp_value (v := .pointer (some ⟨bB, oB + i, none⟩)) (w1 := w) ?_ (hK.out _ w (Below.refl _ _) rfl (fun h => by cases h))
          try simp only [f4, f5]
          go_simp
          first | done | (simp [hd3]; done)
        refine StepsP.cons ?_ ?_
        · intro Q s w hC hA K hK
          obtain ⟨hsz, hk_g, lt_g, hbw, hb5, hc1, hc2⟩ := hC
          obtain ⟨f6, -⟩ := hA
          replace f6 : (s 47) = .pointer (some ⟨bB, oB + i, none⟩) := f6
          refine guard_none (by rfl) ?_
          refine wp_value (v := .int .i64 Bi) (w1 := w) ?_ (hK.out _ w (Below.refl _ _) rfl (fun h => by cases h))
          try simp only [f6]
          go_simp
          try (first | done | rfl | (simp; done))
        refine StepsP.cons ?_ ?_
        · intro Q s w hC hA K hK
          clear hC
          clear hA
          refine guard_none (by rfl) ?_
          refine wp_value (v := .int .i64 u) (w1 := w) ?_ (hK.out _ w (Below.refl _ _) rfl (fun h => by cases h))
          go_simp
          try (first | done | rfl | (simp; done))
        refine StepsP.cons ?_ ?_
        · intro Q s w hC hA K hK
          clear hC
          obtain ⟨f7, f8, -⟩ := hA
          replace f7 : (s 48) = .int .i64 Bi := f7
          replace f8 : (s 49) = .int .i64 u := f8
          refine guard_none (by rfl) ?_
          refine wp_value (v := .agg #[.int .i64 Bi, .int .i64 u]) (w1 := w) ?_ (hK.out _ w (Below.refl _ _) rfl (fun h => by cases h))
          try simp only [f7, f8]
          go_simp
          try (first | done | rfl | (simp; done))
        refine StepsP.cons ?_ ?_
        · intro Q s w hC hA K hK
          clear hC
          clear hA
          refine guard_none (by rfl) ?_
          refine wp_value (v := .slice (some ⟨bw, ow, none⟩) lw.length cw) (w1 := w) ?_ (hK.out _ w (Below.refl _ _) rfl (fun h => by cases h))
          go_simp
          try (first | done | rfl | (simp; done))
        refine StepsP.cons ?_ ?_
        · intro Q s w hC hA K hK
          clear hC
          clear hA
          refine guard_none (by rfl) ?_
          refine wp_value (v := .int .i64 (i : Int)) (w1 := w) ?_ (hK.out _ w (Below.refl _ _) rfl (fun h => by cases h))
          go_simp
          try (first | done | rfl | (simp; done))
        refine StepsP.cons ?_ ?_
        · intro Q s w hC hA K hK
          clear hC
          obtain ⟨f10, f11, -⟩ := hA
          replace f10 : (s 51) = .slice (some ⟨bw, ow, none⟩) lw.length cw := f10
          replace f11 : (s 52) = .int .i64 (i : Int) := f11
          refine guard_none (by rfl) ?_
          refine wp_value (v := .pointer (some ⟨bw, ow + i, none⟩)) (w1 := w) ?_ (hK.out _ w (Below.refl _ _) rfl (fun h => by cases h))
          try simp only [f10, f11]
          go_simp
          first | done | (simp [hd4]; done)
        refine StepsP.cons ?_ ?_
        · intro Q s w hC hA K hK
          obtain ⟨hsz, hk_g, lt_g, hbw, hb5, hc1, hc2⟩ := hC
          obtain ⟨f12, -⟩ := hA
          replace f12 : (s 53) = .pointer (some ⟨bw, ow + i, none⟩) := f12
          refine guard_none (by rfl) ?_
          refine wp_value (v := .int .i64 Wi) (w1 := w) ?_ (hK.out _ w (Below.refl _ _) rfl (fun h => by cases h))
          try simp only [f12]
          go_simp
          try (first | done | rfl | (simp; done))
        refine StepsP.cons ?_ ?_
        · intro Q s w hC hA K hK
          clear hC
          obtain ⟨f13, -⟩ := hA
          replace f13 : (s 54) = .int .i64 Wi := f13
          refine guard_none (by rfl) ?_
          refine wp_value (v := .agg #[.int .i64 1, .int .i64 Wi]) (w1 := w) ?_ (hK.out _ w (Below.refl _ _) rfl (fun h => by cases h))
          try simp only [f13]
          go_simp
          try (first | done | rfl | (simp; done))
        refine StepsP.cons ?_ ?_
        · intro Q s w hC hA K hK
          obtain ⟨hsz, hk_g, lt_g, hbw, hb5, hc1, hc2⟩ := hC
          obtain ⟨f9, f14, -⟩ := hA
          replace f9 : (s 50) = .agg #[.int .i64 Bi, .int .i64 u] := f9
          replace f14 : (s 55) = .agg #[.int .i64 1, .int .i64 Wi] := f14
          refine guard_none (by rfl) ?_
          refine wp_value (v := .slice (some ⟨w.heap.size, 0, none⟩) 2 2) (w1 := w.alloc (.cells #[.int .i64 Bi, .int .i64 u, .int .i64 1, .int .i64 Wi] 76)) ?_ (hK.out _ _ (bl_alloc (Below.refl _ _) _) ⟨w.heap.size, rfl, hsz, blk_new _ _⟩ (fun _ g h => fresh_alloc (by simpa [blkV] using h)))
          try simp only [f9, f14]
          go_simp
          try rfl
        refine StepsP.cons ?_ ?_
        · intro Q s w hC hA K hK
          clear hC
          obtain ⟨f15, -⟩ := hA
          replace f15 : ∃ g15 : Nat, (s 56) = .slice (some ⟨g15, 0, none⟩) 2 2 ∧ B0 ≤ g15 ∧ w.heap[g15]? = some (.cells #[.int .i64 Bi, .int .i64 u, .int .i64 1, .int .i64 Wi] 76 (0, 0)) := f15
          refine guard_none (by rfl) ?_
          obtain ⟨g15, a_g15, c_g15, hk_g15⟩ := f15
          refine wp_value (v := .slice (some ⟨g15, 0, none⟩) 2 2) (w1 := w) ?_ (hK.out _ w (Below.refl _ _) ⟨g15, a_g15, rfl⟩ (fun h => by cases h))
          try simp only [a_g15]
          go_simp
          try (first | done | rfl | (simp; done))
        exact StepsP.nil
      obtain ⟨hsz, hk_g, lt_g, hbw, hb5, hc1, hc2⟩ := hC
      obtain ⟨f15, f16, -⟩ := hA
      replace f15 : ∃ g15 : Nat, (s 56) = .slice (some ⟨g15, 0, none⟩) 2 2 ∧ B0 ≤ g15 ∧ w.heap[g15]? = some (.cells #[.int .i64 Bi, .int .i64 u, .int .i64 1, .int .i64 Wi] 76 (0, 0)) := f15
      replace f16 : ∃ g15 : Nat, (s 56) = .slice (some ⟨g15, 0, none⟩) 2 2 ∧ (s 13) = .slice (some ⟨g15, 0, none⟩) 2 2 := f16
      obtain ⟨g15, a_g15, c_g15, hk_g15⟩ := f15
      obtain ⟨g15_, a16_g15, e16⟩ := f16
      obtain rfl : g15_ = g15 := by have h_ := a16_g15.symm.trans a_g15; simpa using h_
      clear a16_g15
      refine act_eq (b' := ?b8) ?h8 ?q8
      case h8 => simp only [a_g15, e16]; rfl
      obtain ⟨g15, e15⟩ : ∃ z, z = g15_ := ⟨_, rfl⟩
      rw [← e15] at e16 a_g15 c_g15 hk_g15
      rw [← e15]
      have hop : w.ownsRow w5.heap.size 76 2 (.slice (some ⟨g15, 0, none⟩) 2 2) 2 (encS [⟨Bi, u⟩, ⟨1, Wi⟩]) := own_fresh (cs := #[.int .i64 Bi, .int .i64 u, .int .i64 1, .int .i64 Wi]) (Nat.le_trans c0_hle c_g15) hk_g15 (by rfl) (by omega)
      clear e15 e16 a_g15 c0_hsz c0_hk_g c0_lt_g c0_hbw c0_hb5 c0_hc1 c0_hc2 hc1 hc2 lt_g hsz hbw hk_g hk_g15 c_g15 hd3 hd4
      obtain ⟨ps, hps⟩ : ∃ z, z = fun j : Nat => ([⟨Bi, u⟩, ⟨1, Wi⟩] ++ (List.range j).map fun k => (⟨li.getD k 0, lx.getD k 0⟩ : Sp)) := ⟨_, rfl⟩
      have hpl : ∀ j, (ps j).length = 2 + j := fun j => by rw [hps]; simp; omega
      have hp0 : ps 0 = [⟨Bi, u⟩, ⟨1, Wi⟩] := by rw [hps]; rfl
      have hpS : ∀ j, ps (j + 1) = ps j ++ [⟨li.getD j 0, lx.getD j 0⟩] := fun j => by rw [hps]; simp [List.range_succ]
      rw [← hp0] at hop
      replace hp0 := hidI hp0
      replace hpS := hidI hpS
      replace hpl := hidI hpl
      replace hps := hidI hps
      go_wp2
      go_loopw [13, 14, 15, 59] (fun pv v14 v15 y wi => ∃ j : Nat, j ≤ n ∧ y = .int .i64 j ∧ Below w5.heap.size w5 wi ∧ wi.ownsRow w5.heap.size 76 2 pv (2 + j) (encS (ps j))) (fun _ _ _ y _ => (n - intOf y).toNat)
      case atStart => exact ⟨0, by omega, rfl, hb5, hop⟩
      case round =>
        clear hop hb5
        obtain ⟨j, hj, rfl, hb5, hop⟩ := hrel
        by_cases hjn : j < n
        · obtain ⟨b1, o1, rfl, hc0⟩ := (hrB.below hb5).at (show j < li.length by omega)
          obtain ⟨b2, o2, rfl, hc1⟩ := ((hx.below hbw5).below hb5).at (show j < lx.length by have := hlE.out; have := hn.out; omega)
          have hpj := hpS.out j
          generalize li.getD j 0 = m1 at *
          generalize lx.getD j 0 = m2 at *
          replace hpj := hidI hpj
          have hd5 : decide ((j : Int) < (n : Int)) = true := decide_eq_true (by omega)
          have hjx : j < lx.length := by have := hlE.out; have := hn.out; omega
          have hjl : decide ((j : Int) < (li.length : Int)) = true := decide_eq_true (by omega)
          obtain ⟨A1, c1, rfl, hc1', -, -, -⟩ := own_rdC hop
          go_wp2_with (first | (at_builtin; go_loud (refine list_appRd w5.heap.size rfl (.tmp 64) (.tmp 71) 124 76 _ 2 _ rfl Try.underlying124 infoA2 (by rfl) (by omega) (.slice A1 (2 + j) c1) (2 + j) (encS (ps j)) (some ⟨wr.heap.size, 0, none⟩) 1 1 (encS [⟨m1, m2⟩]) rfl rfl (own_alloc hop _) (by rfl) (fun k v hk => ⟨wr.heap.size, 0, rfl, by rw [Nat.zero_add, blkc (blk_new wr (.cells #[.int .i64 m1, .int .i64 m2] 76))]; simpa [encS] using hk⟩) (by intro v hv; simp [encS] at hv; rcases hv with rfl | rfl <;> rfl) (by omega) (by omega) (bl_alloc hb5 _).size ?_); intro v1 w1 ho1 hg1 ha1) | fail)
          go_roundw
          case rel => exact ⟨j + 1, by omega, by go_num, bl_grown (bl_alloc hb5 _) hg1 (fun k hk => (own_lt hop k hk).1), by rw [hpj.out, encS_app]; exact ho1⟩
          case measure => simp [intOf]; omega
        · have hje : j = n := by omega
          subst hje
          have hd5 : decide ((j : Int) < (li.length : Int)) = false := decide_eq_false (by omega)
          have hd6 : ¬ j < li.length := by omega
          have hpe : ps j = pairsP p u lw lx i := by
            rw [hps.out]
            unfold pairsP
            rw [hBi.out, hWi.out, hli.out]
            simp only []
            rw [z1]
          obtain ⟨pk1, pk2⟩ := pairs_ok hg (u := u) (i := i) (by have := hn.out; omega) iu0 iu1 iw ix
          have hrng := exS_rng _ pk2
          rw [pk1] at hrng
          obtain ⟨A1, c1, rfl, hc1', hrd, hn1, -⟩ := own_rdC hop
          rw [hpe] at hrd
          have hpl2 : (pairsP p u lw lx i).length = 2 + j := by rw [← hpe]; exact hpl.out j
          have hEx := hidI (fun W (hW : RdS W A1 (pairsP p u lw lx i)) => Exact_calls A1 (pairsP p u lw lx i) c1 W hW (fun q hq => by have := pk2 q hq; omega) (by have := hn.out; have := hn3; omega) (by have := hn.out; have := hn3; omega))
          rw [hpl2] at hEx
          have hZi : Hid (nextZ p u lw lx i = exS (pairsP p u lw lx i)) := rfl
          have hrdS : RdS wr A1 (pairsP p u lw lx i) := ⟨by rw [hpl2]; exact hn1, hrd⟩
          clear hrng pk1 pk2 hrd hpl2
          go_upto_region 14 with (first | (go_at_call 69; refine (hEx.out _ hrdS).mono ?_; rintro e we ⟨rfl, hbe⟩) | fail)
          have hbe5 := bl_step hb5 hbe
          have hbw6 : Below w0.heap.size w0 we := by
            have h := bl_step hbw5 hbe5; exact h
          have ho6 := own_below ho hbe5
          cases hft : fitsI (exS (pairsP p u lw lx i))
          · go_wp2
            go_ret2
            have hN := hnext.out
            have hall : ¬ ((List.range p.B.length).all (fun i => fitsI (nextZ p u lw lx i)) = true) := by
              intro h
              rw [List.all_eq_true] at h
              have := h i (List.mem_range.2 (by have := hn.out; omega))
              rw [hZi.out, hft] at this
              cases this
            rw [if_neg hall] at hN
            rw [hN]
            exact ⟨none, 0, rfl, ⟨by simp, RdC.nil _ _⟩, (by rw [← hw0.out]; exact hbw6), (fun a ha => by cases ha)⟩
          · have hw64 : wrap64 (wlo (exS (pairsP p u lw lx i))) = nextZ p u lw lx i := by
              rw [hZi.out]
              unfold fitsI at hft
              simp only [Bool.and_eq_true, decide_eq_true_eq] at hft
              exact wide_val _ hft.1 hft.2
            rw [hw64]
            clear hEx
            obtain ⟨A9, c9, rfl, hc9, -, -, -⟩ := own_rdC ho6
            obtain ⟨zi, hzi⟩ : ∃ z, nextZ p u lw lx i = z := ⟨_, rfl⟩
            rw [hzi]
            replace hzi := hidI hzi
            go_wp2_with (first | (at_builtin; go_loud (refine list_appRd w0.heap.size rfl (.tmp 81) (.tmp 83) 23 3 _ 1 _ rfl Try.underlying23 infoI (by rfl) (by omega) (.slice A9 i c9) i (encI ((List.range i).map (nextZ p u lw lx))) (some ⟨we.heap.size, 0, none⟩) 1 1 (encI [zi]) rfl rfl (own_alloc ho6 _) (by rfl) (fun k v hk => ⟨we.heap.size, 0, rfl, by rw [Nat.zero_add, blkc (blk_new we (.cells #[.int .i64 zi] 3))]; simpa [encI] using hk⟩) (by intro v hv; simp [encI] at hv; subst hv; rfl) (by omega) (by omega) (bl_alloc hbw6 _).size ?_); intro v1 w9 ho1 hg1 ha1) | fail)
            go_roundw
            case rel =>
              refine ⟨i + 1, by omega, by go_num, bl_grown (bl_alloc hbw6 _) hg1 (fun k hk => (own_lt ho6 k hk).1), ?_, fun m hm => ?_⟩
              · have e : encI ((List.range (i + 1)).map (nextZ p u lw lx)) = encI ((List.range i).map (nextZ p u lw lx)) ++ encI [zi] := by rw [List.range_succ, List.map_append, ← hzi.out]; simp [encI]
                rw [e]; exact ho1
              · by_cases hmi : m < i
                · exact hfit.out m hmi
                · obtain rfl : m = i := by omega
                  rw [hZi.out]; exact hft
            case measure => simp [intOf]; omega
    · have hie : i = n := by omega
      subst hie
      have hd : decide ((i : Int) < (p.A.length : Int)) = false := decide_eq_false (by have := hAn.out; omega)
      have hall : (List.range i).all (fun i => fitsI (nextZ p u lw lx i)) = true := by
        rw [List.all_eq_true]; intro j hj; exact hfit.out j (List.mem_range.1 hj)
      have hN := hnext.out
      rw [← hn.out, if_pos hall] at hN
      replace hN := hidI hN
      obtain ⟨A', c', rfl, hcc, hrd, hn', hfr⟩ := own_rdC ho
      replace hfr := hidI hfr
      have hd2 : ¬ i < p.A.length := by have := hAn.out; omega
      go_wp2
      go_ret2
      rw [hN.out]
      exact ⟨A', c', by simp, ⟨by simpa using hn', hrd⟩, (by rw [← hw0.out]; exact hbw), (fun a ha => by rw [← hw0.out]; exact hfr.out a ha)⟩
end Go.Proofs.Ythdaidmjjcmccaa
