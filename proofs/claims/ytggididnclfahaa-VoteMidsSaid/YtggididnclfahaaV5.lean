/- Proved here: lemmas and contracts (what a function of the program computes) that the proofs of the laws of this seat lean on. Conditions: as each theorem states. -/
import Derived.Test.YtggididnclfahaaV3b
import Derived.Test.YtggididnclfahaaV4
set_option linter.unusedVariables false
set_option linter.unusedSimpArgs false
namespace Go.Pk.Vt
open Go.RowKit Go.Pk
theorem counts_lt (V : Vo) (now : Int) : ∀ i ∈ V.counts now, i < 3 := fun i hi => by
  unfold Vo.counts at hi
  have := (List.mem_filter.1 hi).1
  simp at this
  omega
theorem counts_len (V : Vo) (now : Int) : (V.counts now).length ≤ 3 := by
  unfold Vo.counts
  exact Nat.le_trans (List.length_filter_le _ _) (by simp)
/-- What counts of the first k channels. -/
def Vo.cnt (V : Vo) (now : Int) (k : Nat) : List Nat := ([0, 1, 2].take k).filter (V.is now)
theorem cnt_le (V : Vo) (now : Int) (k : Nat) : (V.cnt now k).length ≤ 3 := by
  unfold Vo.cnt
  have h1 := List.length_filter_le (V.is now) ([0, 1, 2].take k)
  have h2 : ([0, 1, 2].take k).length ≤ 3 := by rw [List.length_take]; simp; omega
  omega
theorem cnt_succ (V : Vo) (now : Int) (k : Nat) (hk : k < 3) : V.cnt now (k + 1) = if V.is now k = true then V.cnt now k ++ [k] else V.cnt now k := by
  have h : [0, 1, 2].take (k + 1) = [0, 1, 2].take k ++ [k] := by
    rcases (by omega : k = 0 ∨ k = 1 ∨ k = 2) with rfl | rfl | rfl <;> rfl
  unfold Vo.cnt
  rw [h, List.filter_append]
  split
  · rename_i hp; simp [List.filter_cons, hp]
  · rename_i hp; simp [List.filter_cons, hp]
theorem cnt_all (V : Vo) (now : Int) : V.cnt now 3 = V.counts now := rfl
def Vo.vals (V : Vo) (l : List Nat) : List Int := l.map fun i => (V.get i).v
theorem vals_snoc (V : Vo) (l : List Nat) (i : Nat) : V.vals (l ++ [i]) = V.vals l ++ [(V.get i).v] := by unfold Vo.vals; simp
theorem vals_length (V : Vo) (l : List Nat) : (V.vals l).length = l.length := by unfold Vo.vals; simp
end Go.Pk.Vt
namespace Go.Proofs.Ytggididnclfahaa
open Go.RowKit Go.Pk Go.Pk.Vt
theorem vote_none (L N : Value) (w : World) (hN : Calls Try.prog 30 #[L] w fun e w' => e = .returned (.bool true) ∧ w' = w) : Calls Try.prog 15 #[L, N] w fun e w' => e = .returned (.tuple #[.int .i64 0, .int .i64 0]) ∧ w' = w := by
  replace hN := hidI hN
  go_enter Try.func15, Try.ntmps15
  go_wp2_with fail
  refine hN.out.mono ?_
  rintro e W2 ⟨rfl, hW2⟩
  subst hW2
  go_wp2
  go_ret2
  exact ⟨rfl, rfl⟩
set_option maxHeartbeats 8000000 in
set_option maxRecDepth 100000 in
theorem vote_calls (w0 : World) (gv : Nat) (V : Vo) (now : Int) (w : World) (hg : w0.heap.size ≤ gv) (hbw : Below w0.heap.size w0 w) (hkw : w.heap[gv]? = some (.cells V.arr 68 (0, 0))) (hV : V.ok) (hn : now ≤ 9223372036854775807) :
    Calls Try.prog 15 #[.pointer (some ⟨gv, 0, none⟩), .int .i64 now] w fun e w' => e = .returned (.tuple #[.int .i64 (V.vote now).last, .int .i64 (V.says now).length]) ∧ E1 w0 w w' gv ∧ w'.heap[gv]? = some (.cells (V.vote now).arr 68 (0, 0)) := by
  have ds : (V.strikes == 0) = false := by have := hV.strikes; simp; omega
  have hN := hidI (ds ▸ vNone_at gv V.strikes w (blk_cell hkw 17 (by rfl)))
  have hcs := hidI (cnt_succ V now)
  have hcl := hidI (cnt_le V now)
  obtain ⟨B, hB⟩ : ∃ B, B = w.heap.size := ⟨_, rfl⟩
  have hgB : gv < B := by have := blk_lt hkw; omega
  have hsB : B ≤ w.heap.size := by omega
  have hwB : w.heap.size ≤ B := by omega
  have hw0B : w0.heap.size ≤ B := by omega
  clear hB
  have ho3 : Own3 w B 3 (.slice none 0 0) (.slice none 0 0) (.slice none 0 0) (encN []) [] [] := Own3.nil _ _ _
  have hE0 : E1 w0 w w gv := E1.refl hbw
  replace hn := hidI hn
  clear ds hbw
  go_enter Try.func15, Try.ntmps15
  go_wp2_with fail
  refine hN.out.mono ?_
  rintro e W2 ⟨rfl, hW2⟩
  subst hW2
  clear hN
  go_wp2
  go_loopw [6, 7, 11] (fun x6 x7 x wr => ∃ k : Nat, k ≤ 3 ∧ x = .int .i64 k ∧ E1 w0 W2 wr gv ∧ B ≤ wr.heap.size ∧ wr.heap[gv]? = some (.cells V.arr 68 (0, 0)) ∧ Own3 wr B 3 x6 x7 (.slice none 0 0) (encN (V.cnt now k)) (V.vals (V.cnt now k)) []) (fun _ _ x _ => (3 - intOf x).toNat)
  case atStart => exact ⟨0, by omega, rfl, hE0, hsB, hkw, ho3⟩
  case round =>
    clear hE0 hkw hsB ho3
    obtain ⟨k, hk3, rfl, hE, hsB, hk, ho3⟩ := hrel
    rcases (by omega : k = 0 ∨ k = 1 ∨ k = 2 ∨ k = 3) with rfl | rfl | rfl | rfl
    · have hd' : decide ((0 : Int) < 3) = true := by decide
      have yb : wr.cell? ⟨gv, 3, none⟩ = some (.bool V.a.bad) := blk_cell hk 3 (by rfl)
      have hF := hidI (fresh0_calls gv V.a.t V.stale now wr (blk_cell hk 1 (by rfl)) (blk_cell hk 16 (by rfl)) hn.out)
      have hI : Hid (V.is now 0 = (freshT V.a.t V.stale now && !V.a.bad)) := rfl
      have hg1 : Hid ((V.get 0).v = V.a.v) := rfl
      cases hf : freshT V.a.t V.stale now
      · rw [hf] at hF hI
        have hI2 : Hid (V.is now 0 = false) := hI.out
        have hsn2 := hidI (show V.cnt now 1 = V.cnt now 0 from by rw [hcs.out 0 (by omega), if_neg (by rw [hI2.out]; decide)])
        replace hf := hidI hf
        go_wp2_with fail
        refine hF.out.mono ?_
        rintro e w2 ⟨rfl, hw2⟩
        subst hw2
        clear hF
        go_wp2
        go_roundw
        case rel => exact ⟨1, by omega, by go_num, hE, hsB, hk, by rw [hsn2.out]; exact ho3⟩
        case measure => simp [intOf]
      · rw [hf] at hF hI
        replace hf := hidI hf
        cases hb : V.a.bad
        · rw [hb] at hI yb
          have hI2 : Hid (V.is now 0 = true) := hI.out
          have hsn2 := hidI (show V.cnt now 1 = V.cnt now 0 ++ [0] from by rw [hcs.out 0 (by omega), if_pos hI2.out])
          replace hb := hidI hb
          go_wp2_with fail
          refine hF.out.mono ?_
          rintro e w2 ⟨rfl, hw2⟩
          subst hw2
          clear hF
          go_upto_region 10 with (first | (at_builtin; go_loud (refine list_app3 rfl (.tmp 29) (.tmp 31) 22 rfl rfl Try.underlying22 infoInt (ho3.alloc _) (some ⟨w2.heap.size, 0, none⟩) [0] 1 1 rfl (RdI.of_blk (l := [0]) (blk_new w2 (.cells #[.int .i64 (0)] 3)) (by simp)) rfl rfl (by rw [encN_length]; have := hcl.out 0; simp; omega) (Nat.le_trans hsB (bl_alloc (Below.refl _ _) _).size) ?_); intro va wa hoa hba) | fail)
          replace hE := (hE.ext (bl_alloc (Below.refl _ _) (.cells #[.int .i64 (0)] 3))).low hba hw0B hwB
          replace hk := (hba.block gv hgB).trans (blk_alloc hk (.cells #[.int .i64 (0)] 3))
          replace hsB : B ≤ wa.heap.size := Nat.le_trans (Nat.le_trans hsB (bl_alloc (Below.refl _ _) (.cells #[.int .i64 (0)] 3)).size) hba.size
          replace ho3 := hoa.rot
          clear hba hoa
          have yv : wa.cell? ⟨gv, 0, none⟩ = some (.int .i64 V.a.v) := blk_cell hk 0 (by rfl)
          clear yb
          go_upto_region 11 with (first | (at_builtin; go_loud (refine list_app3 rfl (.tmp 33) (.tmp 42) 22 rfl rfl Try.underlying22 infoInt (ho3.alloc _) (some ⟨wa.heap.size, 0, none⟩) [V.a.v] 1 1 rfl (RdI.of_blk (l := [V.a.v]) (blk_new wa (.cells #[.int .i64 (V.a.v)] 3)) (by simp)) rfl rfl (by rw [vals_length]; have := hcl.out 0; simp; omega) (Nat.le_trans hsB (bl_alloc (Below.refl _ _) _).size) ?_); intro va wb hoa hba) | fail)
          replace hE := (hE.ext (bl_alloc (Below.refl _ _) (.cells #[.int .i64 (V.a.v)] 3))).low hba hw0B hwB
          replace hk := (hba.block gv hgB).trans (blk_alloc hk (.cells #[.int .i64 (V.a.v)] 3))
          replace hsB : B ≤ wb.heap.size := Nat.le_trans (Nat.le_trans hsB (bl_alloc (Below.refl _ _) (.cells #[.int .i64 (V.a.v)] 3)).size) hba.size
          replace ho3 := hoa.rot
          clear hba hoa
          clear yv
          go_wp2
          go_roundw
          case rel => exact ⟨1, by omega, by go_num, hE, hsB, hk, by rw [hsn2.out, encN_snoc, vals_snoc, hg1.out]; exact ho3.rot⟩
          case measure => simp [intOf]
        · rw [hb] at hI yb
          have hI2 : Hid (V.is now 0 = false) := hI.out
          have hsn2 := hidI (show V.cnt now 1 = V.cnt now 0 from by rw [hcs.out 0 (by omega), if_neg (by rw [hI2.out]; decide)])
          replace hb := hidI hb
          go_wp2_with fail
          refine hF.out.mono ?_
          rintro e w2 ⟨rfl, hw2⟩
          subst hw2
          clear hF
          go_wp2
          go_roundw
          case rel => exact ⟨1, by omega, by go_num, hE, hsB, hk, by rw [hsn2.out]; exact ho3⟩
          case measure => simp [intOf]
    · have hd' : decide ((1 : Int) < 3) = true := by decide
      have yb : wr.cell? ⟨gv, 8, none⟩ = some (.bool V.b.bad) := blk_cell hk 8 (by rfl)
      have hF := hidI (fresh1_calls gv V.b.t V.stale now wr (blk_cell hk 6 (by rfl)) (blk_cell hk 16 (by rfl)) hn.out)
      have hI : Hid (V.is now 1 = (freshT V.b.t V.stale now && !V.b.bad)) := rfl
      have hg1 : Hid ((V.get 1).v = V.b.v) := rfl
      cases hf : freshT V.b.t V.stale now
      · rw [hf] at hF hI
        have hI2 : Hid (V.is now 1 = false) := hI.out
        have hsn2 := hidI (show V.cnt now 2 = V.cnt now 1 from by rw [hcs.out 1 (by omega), if_neg (by rw [hI2.out]; decide)])
        replace hf := hidI hf
        go_wp2_with fail
        refine hF.out.mono ?_
        rintro e w2 ⟨rfl, hw2⟩
        subst hw2
        clear hF
        go_wp2
        go_roundw
        case rel => exact ⟨2, by omega, by go_num, hE, hsB, hk, by rw [hsn2.out]; exact ho3⟩
        case measure => simp [intOf]
      · rw [hf] at hF hI
        replace hf := hidI hf
        cases hb : V.b.bad
        · rw [hb] at hI yb
          have hI2 : Hid (V.is now 1 = true) := hI.out
          have hsn2 := hidI (show V.cnt now 2 = V.cnt now 1 ++ [1] from by rw [hcs.out 1 (by omega), if_pos hI2.out])
          replace hb := hidI hb
          go_wp2_with fail
          refine hF.out.mono ?_
          rintro e w2 ⟨rfl, hw2⟩
          subst hw2
          clear hF
          go_upto_region 10 with (first | (at_builtin; go_loud (refine list_app3 rfl (.tmp 29) (.tmp 31) 22 rfl rfl Try.underlying22 infoInt (ho3.alloc _) (some ⟨w2.heap.size, 0, none⟩) [1] 1 1 rfl (RdI.of_blk (l := [1]) (blk_new w2 (.cells #[.int .i64 (1)] 3)) (by simp)) rfl rfl (by rw [encN_length]; have := hcl.out 1; simp; omega) (Nat.le_trans hsB (bl_alloc (Below.refl _ _) _).size) ?_); intro va wa hoa hba) | fail)
          replace hE := (hE.ext (bl_alloc (Below.refl _ _) (.cells #[.int .i64 (1)] 3))).low hba hw0B hwB
          replace hk := (hba.block gv hgB).trans (blk_alloc hk (.cells #[.int .i64 (1)] 3))
          replace hsB : B ≤ wa.heap.size := Nat.le_trans (Nat.le_trans hsB (bl_alloc (Below.refl _ _) (.cells #[.int .i64 (1)] 3)).size) hba.size
          replace ho3 := hoa.rot
          clear hba hoa
          have yv : wa.cell? ⟨gv, 5, none⟩ = some (.int .i64 V.b.v) := blk_cell hk 5 (by rfl)
          clear yb
          go_upto_region 11 with (first | (at_builtin; go_loud (refine list_app3 rfl (.tmp 33) (.tmp 42) 22 rfl rfl Try.underlying22 infoInt (ho3.alloc _) (some ⟨wa.heap.size, 0, none⟩) [V.b.v] 1 1 rfl (RdI.of_blk (l := [V.b.v]) (blk_new wa (.cells #[.int .i64 (V.b.v)] 3)) (by simp)) rfl rfl (by rw [vals_length]; have := hcl.out 1; simp; omega) (Nat.le_trans hsB (bl_alloc (Below.refl _ _) _).size) ?_); intro va wb hoa hba) | fail)
          replace hE := (hE.ext (bl_alloc (Below.refl _ _) (.cells #[.int .i64 (V.b.v)] 3))).low hba hw0B hwB
          replace hk := (hba.block gv hgB).trans (blk_alloc hk (.cells #[.int .i64 (V.b.v)] 3))
          replace hsB : B ≤ wb.heap.size := Nat.le_trans (Nat.le_trans hsB (bl_alloc (Below.refl _ _) (.cells #[.int .i64 (V.b.v)] 3)).size) hba.size
          replace ho3 := hoa.rot
          clear hba hoa
          clear yv
          go_wp2
          go_roundw
          case rel => exact ⟨2, by omega, by go_num, hE, hsB, hk, by rw [hsn2.out, encN_snoc, vals_snoc, hg1.out]; exact ho3.rot⟩
          case measure => simp [intOf]
        · rw [hb] at hI yb
          have hI2 : Hid (V.is now 1 = false) := hI.out
          have hsn2 := hidI (show V.cnt now 2 = V.cnt now 1 from by rw [hcs.out 1 (by omega), if_neg (by rw [hI2.out]; decide)])
          replace hb := hidI hb
          go_wp2_with fail
          refine hF.out.mono ?_
          rintro e w2 ⟨rfl, hw2⟩
          subst hw2
          clear hF
          go_wp2
          go_roundw
          case rel => exact ⟨2, by omega, by go_num, hE, hsB, hk, by rw [hsn2.out]; exact ho3⟩
          case measure => simp [intOf]
    · have hd' : decide ((2 : Int) < 3) = true := by decide
      have yb : wr.cell? ⟨gv, 13, none⟩ = some (.bool V.c.bad) := blk_cell hk 13 (by rfl)
      have hF := hidI (fresh2_calls gv V.c.t V.stale now wr (blk_cell hk 11 (by rfl)) (blk_cell hk 16 (by rfl)) hn.out)
      have hI : Hid (V.is now 2 = (freshT V.c.t V.stale now && !V.c.bad)) := rfl
      have hg1 : Hid ((V.get 2).v = V.c.v) := rfl
      cases hf : freshT V.c.t V.stale now
      · rw [hf] at hF hI
        have hI2 : Hid (V.is now 2 = false) := hI.out
        have hsn2 := hidI (show V.cnt now 3 = V.cnt now 2 from by rw [hcs.out 2 (by omega), if_neg (by rw [hI2.out]; decide)])
        replace hf := hidI hf
        go_wp2_with fail
        refine hF.out.mono ?_
        rintro e w2 ⟨rfl, hw2⟩
        subst hw2
        clear hF
        go_wp2
        go_roundw
        case rel => exact ⟨3, by omega, by go_num, hE, hsB, hk, by rw [hsn2.out]; exact ho3⟩
        case measure => simp [intOf]
      · rw [hf] at hF hI
        replace hf := hidI hf
        cases hb : V.c.bad
        · rw [hb] at hI yb
          have hI2 : Hid (V.is now 2 = true) := hI.out
          have hsn2 := hidI (show V.cnt now 3 = V.cnt now 2 ++ [2] from by rw [hcs.out 2 (by omega), if_pos hI2.out])
          replace hb := hidI hb
          go_wp2_with fail
          refine hF.out.mono ?_
          rintro e w2 ⟨rfl, hw2⟩
          subst hw2
          clear hF
          go_upto_region 10 with (first | (at_builtin; go_loud (refine list_app3 rfl (.tmp 29) (.tmp 31) 22 rfl rfl Try.underlying22 infoInt (ho3.alloc _) (some ⟨w2.heap.size, 0, none⟩) [2] 1 1 rfl (RdI.of_blk (l := [2]) (blk_new w2 (.cells #[.int .i64 (2)] 3)) (by simp)) rfl rfl (by rw [encN_length]; have := hcl.out 2; simp; omega) (Nat.le_trans hsB (bl_alloc (Below.refl _ _) _).size) ?_); intro va wa hoa hba) | fail)
          replace hE := (hE.ext (bl_alloc (Below.refl _ _) (.cells #[.int .i64 (2)] 3))).low hba hw0B hwB
          replace hk := (hba.block gv hgB).trans (blk_alloc hk (.cells #[.int .i64 (2)] 3))
          replace hsB : B ≤ wa.heap.size := Nat.le_trans (Nat.le_trans hsB (bl_alloc (Below.refl _ _) (.cells #[.int .i64 (2)] 3)).size) hba.size
          replace ho3 := hoa.rot
          clear hba hoa
          have yv : wa.cell? ⟨gv, 10, none⟩ = some (.int .i64 V.c.v) := blk_cell hk 10 (by rfl)
          clear yb
          go_upto_region 11 with (first | (at_builtin; go_loud (refine list_app3 rfl (.tmp 33) (.tmp 42) 22 rfl rfl Try.underlying22 infoInt (ho3.alloc _) (some ⟨wa.heap.size, 0, none⟩) [V.c.v] 1 1 rfl (RdI.of_blk (l := [V.c.v]) (blk_new wa (.cells #[.int .i64 (V.c.v)] 3)) (by simp)) rfl rfl (by rw [vals_length]; have := hcl.out 2; simp; omega) (Nat.le_trans hsB (bl_alloc (Below.refl _ _) _).size) ?_); intro va wb hoa hba) | fail)
          replace hE := (hE.ext (bl_alloc (Below.refl _ _) (.cells #[.int .i64 (V.c.v)] 3))).low hba hw0B hwB
          replace hk := (hba.block gv hgB).trans (blk_alloc hk (.cells #[.int .i64 (V.c.v)] 3))
          replace hsB : B ≤ wb.heap.size := Nat.le_trans (Nat.le_trans hsB (bl_alloc (Below.refl _ _) (.cells #[.int .i64 (V.c.v)] 3)).size) hba.size
          replace ho3 := hoa.rot
          clear hba hoa
          clear yv
          go_wp2
          go_roundw
          case rel => exact ⟨3, by omega, by go_num, hE, hsB, hk, by rw [hsn2.out, encN_snoc, vals_snoc, hg1.out]; exact ho3.rot⟩
          case measure => simp [intOf]
        · rw [hb] at hI yb
          have hI2 : Hid (V.is now 2 = false) := hI.out
          have hsn2 := hidI (show V.cnt now 3 = V.cnt now 2 from by rw [hcs.out 2 (by omega), if_neg (by rw [hI2.out]; decide)])
          replace hb := hidI hb
          go_wp2_with fail
          refine hF.out.mono ?_
          rintro e w2 ⟨rfl, hw2⟩
          subst hw2
          clear hF
          go_wp2
          go_roundw
          case rel => exact ⟨3, by omega, by go_num, hE, hsB, hk, by rw [hsn2.out]; exact ho3⟩
          case measure => simp [intOf]
    · have hd' : decide ((3 : Int) < 3) = false := by decide
      have hcl3 := counts_len V now
      have hclt := hidI (counts_lt V now)
      have hsy : Hid (V.says now = V.vals (V.counts now)) := rfl
      rw [cnt_all, ← hsy.out] at ho3
      have hvl : (V.says now).length = (V.counts now).length := by rw [hsy.out, vals_length]
      have hvo := hidI (show V.vote now = if V.says now = [] then V else if 1 < (V.says now).length then ({ V with last := midL (V.says now) } : Vo).strike (V.counts now) else { V with last := midL (V.says now) } from rfl)
      have hsok := hidI (says_ok hV now)
      obtain ⟨sy, hsy2⟩ : ∃ z, V.says now = z := ⟨_, rfl⟩
      obtain ⟨co, hco⟩ : ∃ z, V.counts now = z := ⟨_, rfl⟩
      obtain ⟨V9, hV9⟩ : ∃ z, V.vote now = z := ⟨_, rfl⟩
      rw [hsy2] at ho3 hvl hvo hsok
      rw [hco] at ho3 hvl hvo hcl3 hclt
      rw [hV9] at hvo
      replace hsy2 := hidI hsy2
      replace hV9 := hidI hV9
      clear hsy hco hcs hcl hn
      have hsy3 : sy.length ≤ 3 := by omega
      replace hvl := hidI hvl
      obtain ⟨Ac, cc, rfl, -, hrc, -, hfc⟩ := own_rdC ho3.o1
      obtain ⟨Av, cv, rfl, -, hrv, -, -⟩ := own_rdC ho3.o2
      have hrc2 : RdI wr Ac (encN co) := ⟨by rw [encN_length]; omega, hrc⟩
      have hrv2 : RdI wr Av sy := ⟨by omega, hrv⟩
      have hfc2 := hidI (show ∀ a : Addr, Ac = some a → a.block ≠ gv from fun a h => by have := hfc a h; omega)
      have hec := hidI (encN_length co)
      rw [hec.out]
      clear ho3 hrc hrv hfc
      by_cases hs0 : sy = []
      · subst hs0
        rw [if_pos rfl] at hvo
        have yl : wr.cell? ⟨gv, 18, none⟩ = some (.int .i64 V.last) := blk_cell hk 18 (by rfl)
        clear hd'
        have hd' : decide ((3 : Int) < 3) = false := by decide
        go_wp2
        go_ret2
        rw [hV9.out, hsy2.out, hvo.out]
        exact ⟨rfl, hE, hk⟩
      · have hl0 : 1 ≤ sy.length := by
          rcases Nat.eq_zero_or_pos sy.length with h | h
          · exact absurd (List.eq_nil_of_length_eq_zero h) hs0
          · omega
        have d0 : ((sy.length : Int) == 0) = false := by simp; omega
        have d1 : (sy.length == 0) = false := by simp; omega
        have hmd := hidI (fun W (h : RdI W Av sy) => mid_calls sy Av cv W h (by omega))
        have hmm := hidI (hsok.out _ (mid_mem hs0))
        rw [if_neg hs0] at hvo
        obtain ⟨md, hmd2⟩ : ∃ z, midL sy = z := ⟨_, rfl⟩
        rw [hmd2] at hmd hvo hmm
        replace hs0 := hidI hs0
        clear hmd2
        obtain ⟨n, hn_⟩ : ∃ z, sy.length = z := ⟨_, rfl⟩
        rw [hn_] at hl0 d0 d1 hvo hmd hsy3 ⊢
        replace hn_ := hidI hn_
        go_wp2_with fail
        refine (hmd.out _ hrv2).mono ?_
        rintro e wm ⟨rfl, hbm⟩
        replace hE := hE.ext hbm
        replace hk := bl_block hbm hk
        replace hrc2 := hrc2.below hbm
        clear hbm hmd hrv2
        have yl : wm.cell? ⟨gv, 18, none⟩ = some (.int .i64 V.last) := blk_cell hk 18 (by rfl)
        have zl := blkf hk 18
        go_upto_region 15 with fail
        have hk2 : (wm.setCell ⟨gv, 18, none⟩ (.int .i64 md)).heap[gv]? = some (.cells ({ V with last := md } : Vo).arr 68 (0, 0)) := blk_set hk 18 (.int .i64 md)
        replace hE := hE.set hg 18 (.int .i64 md)
        have hrc3 := hrc2.keepX ((KeepX.refl (· = gv) wm).set (p := ⟨gv, 18, none⟩) rfl (.int .i64 md)) (fun _ a ha => hfc2.out a ha)
        have hok9 : Hid (({ V with last := md } : Vo).ok) := ⟨hV.a, hV.b, hV.c, hV.tol, hV.stale, hV.strikes, hmm.out⟩
        clear hk hrc2 yl zl
        generalize wm.setCell ⟨gv, 18, none⟩ (.int .i64 md) = ws at *
        obtain ⟨V1, hV1⟩ : ∃ z : Vo, ({ V with last := md } : Vo) = z := ⟨_, rfl⟩
        rw [hV1] at hk2 hok9 hvo
        replace hV1 := hidI hV1
        have hb0 := hidI hE.b
        by_cases h1 : 1 < n
        · have dg : decide ((1 : Int) < (n : Int)) = true := decide_eq_true (by omega)
          have ng : decide (1 < n) = true := decide_eq_true h1
          rw [if_pos h1] at hvo
          have hst := hidI (strike_calls w0 gv V1 co Ac cc ws hg hb0.out hk2 hok9.out hrc3 hfc2.out hclt.out hcl3)
          rw [← hvo.out] at hst
          clear hk2 hrc3
          go_wp2_with fail
          refine hst.out.mono ?_
          rintro e wt ⟨rfl, hE2, hk3⟩
          replace hE := hE.trans hE2
          have yl : wt.cell? ⟨gv, 18, none⟩ = some (.int .i64 V9.last) := blk_cell hk3 18 (by rfl)
          clear hE2 hst
          go_wp2
          go_ret2
          rw [hV9.out, hsy2.out, hn_.out]
          exact ⟨rfl, hE, hk3⟩
        · have dg : decide ((1 : Int) < (n : Int)) = false := decide_eq_false (by omega)
          have ng : decide (1 < n) = false := decide_eq_false h1
          rw [if_neg h1] at hvo
          rw [← hvo.out] at hk2
          have yl : ws.cell? ⟨gv, 18, none⟩ = some (.int .i64 V9.last) := blk_cell hk2 18 (by rfl)
          go_wp2
          go_ret2
          rw [hV9.out, hsy2.out, hn_.out]
          exact ⟨rfl, hE, hk2⟩
end Go.Proofs.Ytggididnclfahaa
