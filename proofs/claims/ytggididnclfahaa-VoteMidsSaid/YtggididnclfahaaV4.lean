/- Proved here: lemmas and contracts (what a function of the program computes) that the proofs of the laws of this seat lean on. Conditions: as each theorem states. -/
import Derived.Test.YtggididnclfahaaV2
import Derived.Test.YtggididnclfahaaOwn3
set_option linter.unusedVariables false
set_option linter.unusedSimpArgs false
namespace Go.Pk
open Go.RowKit
theorem Own3.put {w : World} {base : Nat} {e : TypeId} {v1 v2 v3 : Value} {l1 l2 l3 : List Int} (h : Own3 w base e v1 v2 v3 l1 l2 l3) {a : Addr} (ha : a.block < base) (u : Value) : Own3 (w.setCell a u) base e v1 v2 v3 l1 l2 l3 :=
  ⟨own_set h.o1 (fun k => by have := own_lt h.o1 _ k.symm; omega) u, own_set h.o2 (fun k => by have := own_lt h.o2 _ k.symm; omega) u, own_set h.o3 (fun k => by have := own_lt h.o3 _ k.symm; omega) u, h.a12, h.a13, h.a23⟩
end Go.Pk
namespace Go.Pk.Vt
open Go.RowKit Go.Pk
theorem E1.low {w0 w w1 w2 : World} {g B : Nat} (h : E1 w0 w w1 g) (hb : Below B w1 w2) (h0 : w0.heap.size ≤ B) (hB : w.heap.size ≤ B) : E1 w0 w w2 g :=
  ⟨h.b.trans (hb.mono h0), fun k o hn ho => (hb.block k (Nat.lt_of_lt_of_le (blk_lt ho) hB)).trans (h.k k o hn ho), Nat.le_trans h.z hb.size⟩
theorem encN_length (l : List Nat) : (encN l).length = l.length := by unfold encN; simp
theorem encN_getD (l : List Nat) (k : Nat) : (encN l).getD k 0 = ((l.getD k 0 : Nat) : Int) := by
  unfold encN
  rw [List.getD_eq_getElem?_getD, List.getD_eq_getElem?_getD, List.getElem?_map]
  cases l[k]? <;> rfl
theorem encN_snoc (l : List Nat) (i : Nat) : encN (l ++ [i]) = encN l ++ [(i : Int)] := by unfold encN; simp
theorem takeN (l : List Nat) (k : Nat) (h : k < l.length) : l.take (k + 1) = l.take k ++ [l.getD k 0] := by
  rw [List.take_succ_eq_append_getElem h]; simp [List.getElem?_eq_getElem h]
theorem look2_mem {V : Vo} (l : List Nat) : ∀ (P : Vo × List Nat), (∀ i ∈ P.2, i < 3) → (∀ i ∈ l, i < 3) → ∀ i ∈ (l.foldl Vo.look2 P).2, i < 3 := by
  induction l with
  | nil => intro P h _; exact h
  | cons a l ih =>
    intro P h h2
    refine ih (Vo.look2 P a) ?_ (fun i hi => h2 i (by simp [hi]))
    unfold Vo.look2
    simp only []
    intro i hi
    split at hi
    · rcases List.mem_append.1 hi with hi | hi
      · exact h i hi
      · simp at hi; subst hi; exact h2 i (by simp)
    · exact h i hi
theorem look2_len (l : List Nat) : ∀ (P : Vo × List Nat), (l.foldl Vo.look2 P).2.length ≤ P.2.length + l.length := by
  induction l with
  | nil => intro P; simp
  | cons a l ih =>
    intro P
    have h := ih (Vo.look2 P a)
    have h2 : (Vo.look2 P a).2.length ≤ P.2.length + 1 := by
      unfold Vo.look2; simp only []; split <;> simp
    simp only [List.foldl_cons, List.length_cons]
    omega
end Go.Pk.Vt
namespace Go.Proofs.Ytggididnclfahaa
open Go.RowKit Go.Pk Go.Pk.Vt
theorem infoInt : (Try.prog.info? 3).map (fun i => (i.zero, i.size, i.bytes)) = some (some (.int .i64 0), 1, 8) := by kernel_rfl
set_option maxHeartbeats 8000000 in
set_option maxRecDepth 100000 in
theorem strike_calls (w0 : World) (gv : Nat) (V : Vo) (cs : List Nat) (A : Option Addr) (c : Nat) (w : World) (hg : w0.heap.size ≤ gv) (hbw : Below w0.heap.size w0 w) (hkw : w.heap[gv]? = some (.cells V.arr 68 (0, 0))) (hV : V.ok) (hA : RdI w A (encN cs)) (hne : ∀ a : Addr, A = some a → a.block ≠ gv) (h3 : ∀ i ∈ cs, i < 3) (hl3 : cs.length ≤ 3) :
    Calls Try.prog 32 #[.pointer (some ⟨gv, 0, none⟩), .slice A cs.length c] w fun e w' => e = .returned (.tuple #[]) ∧ E1 w0 w w' gv ∧ w'.heap[gv]? = some (.cells (V.strike cs).arr 68 (0, 0)) := by
  obtain ⟨S, hS⟩ : ∃ f : Nat → Vo × List Nat, f = fun k => (cs.take k).foldl Vo.look2 (V, []) := ⟨_, rfl⟩
  have hS0 : Hid (S 0 = (V, [])) := by show _ = _; rw [hS]; rfl
  have hSs := hidI (show ∀ k, k < cs.length → S (k + 1) = Vo.look2 (S k) (cs.getD k 0) from fun k hk => by rw [hS]; simp only []; rw [takeN _ _ hk, List.foldl_append]; rfl)
  have hSe : Hid (S cs.length = V.lookAll cs) := by show _ = _; rw [hS]; unfold Vo.lookAll; simp
  have hSk := hidI (show ∀ k, (S k).1.ok from fun k => by rw [hS]; exact foldl_ok (p := fun P : Vo × List Nat => P.1.ok) (fun a b h => look2_ok h b) _ _ hV)
  have hSl := hidI (show ∀ k, (S k).2.length ≤ cs.length from fun k => by rw [hS]; have h1 := look2_len (cs.take k) (V, []); have h2 := List.length_take_le k cs; simp only [List.length_nil, List.length_take] at h1 ⊢; omega)
  obtain ⟨B, hB⟩ : ∃ B, B = w.heap.size := ⟨_, rfl⟩
  have hgB : gv < B := by have := blk_lt hkw; omega
  have hsB : B ≤ w.heap.size := by omega
  have hwB : w.heap.size ≤ B := by omega
  have hw0B : w0.heap.size ≤ B := by omega
  clear hB
  have ho3 : Own3 w B 3 (.slice none 0 0) (.slice none 0 0) (.slice none 0 0) (encN []) [] [] := Own3.nil _ _ _
  have hE0 : E1 w0 w w gv := E1.refl hbw
  have hAl := hidI (encN_length cs)
  clear hS hbw hV
  go_enter Try.func32, Try.ntmps32
  go_wp2
  go_loopw [4, 12] (fun x4 x wr => ∃ k : Nat, k ≤ cs.length ∧ x = .int .i64 k ∧ E1 w0 w wr gv ∧ B ≤ wr.heap.size ∧ wr.heap[gv]? = some (.cells (S k).1.arr 68 (0, 0)) ∧ Own3 wr B 3 x4 (.slice none 0 0) (.slice none 0 0) (encN (S k).2) [] []) (fun _ x _ => (cs.length - intOf x).toNat)
  case atStart => exact ⟨0, by omega, rfl, hE0, hsB, by rw [hS0.out]; exact hkw, by rw [hS0.out]; exact ho3⟩
  case round =>
    clear hE0 hkw hsB ho3
    obtain ⟨k, hkl, rfl, hE, hsB, hk, ho3⟩ := hrel
    by_cases hlt : k < cs.length
    · have hd : decide ((k : Int) < (cs.length : Int)) = true := decide_eq_true (by omega)
      have nd : decide (k < cs.length) = true := decide_eq_true hlt
      obtain ⟨bb, off, rfl, hc0⟩ := hA.at (i := k) (by rw [hAl.out]; exact hlt)
      rw [encN_getD] at hc0
      have hsn := hidI (hSs.out k hlt)
      have hc := KeepX.cell (a := ⟨bb, off + k, none⟩) hE.k (fun h_ => hne ⟨bb, off, none⟩ rfl h_) hc0
      have hi3 : cs.getD k 0 < 3 := h3 _ (by rw [List.getD_eq_getElem?_getD, List.getElem?_eq_getElem hlt]; exact List.getElem_mem hlt)
      obtain ⟨i, hi⟩ : ∃ z, cs.getD k 0 = z := ⟨_, rfl⟩
      rw [hi] at hc hsn hi3
      have hok1 := hidI (hSk.out k)
      have hl1 := hidI (hSl.out k)
      obtain ⟨⟨V1, o1⟩, hV1⟩ : ∃ V1, S k = V1 := ⟨_, rfl⟩
      rw [hV1] at hk hsn ho3 hok1 hl1
      simp only [] at hk ho3 hok1 hl1
      clear hi hV1 hc0
      rcases (by omega : i = 0 ∨ i = 1 ∨ i = 2) with hq | hq | hq
      · subst hq
        have f0 : wr.cell? ⟨gv, 0, none⟩ = some (.int .i64 V1.a.v) := blk_cell hk 0 (by rfl)
        have f1 : wr.cell? ⟨gv, 18, none⟩ = some (.int .i64 V1.last) := blk_cell hk 18 (by rfl)
        have f2 : wr.cell? ⟨gv, 15, none⟩ = some (.int .i64 V1.tol) := blk_cell hk 15 (by rfl)
        have hF := hidI (fun W => far_calls V1.a.v V1.last V1.tol W hok1.out.a hok1.out.last hok1.out.tol)
        have hfd : Hid (V1.outs 0 = (farV V1.a.v V1.last V1.tol && decide (V1.strikes ≤ wrap64 (V1.a.k + 1)))) := rfl
        by_cases hf : farV V1.a.v V1.last V1.tol = true
        · rw [hf] at hF hfd
          have hx : Hid (V1.arr.setIfInBounds 4 (.int .i64 (wrap64 (V1.a.k + 1))) = (V1.look 0).arr) := by
            show _ = _; have hf2 : farV (V1.get 0).v V1.last V1.tol = true := hf
            unfold Vo.look; rw [if_pos hf2]; rfl
          replace hf := hidI hf
          go_wp2
          go_quiet ((go_at_call 40; exact Calls.quiet_of_same (hF.out _)))
          replace hk := blk_drewN hk nq
          replace hE := hE.ext (bl_drewN (Below.refl _ _) nq)
          replace ho3 : Own3 (wr.drewN nq) B 3 u4 (.slice none 0 0) (.slice none 0 0) (encN o1) [] [] := ⟨ho3.o1, ho3.o2, ho3.o3, ho3.a12, ho3.a13, ho3.a23⟩
          replace hsB : B ≤ (wr.drewN nq).heap.size := hsB
          clear f0 f1 f2 hc hF
          generalize wr.drewN nq = wd at *
          have f4 : wd.cell? ⟨gv, 4, none⟩ = some (.int .i64 V1.a.k) := blk_cell hk 4 (by rfl)
          have z4 := blkf hk 4
          obtain ⟨kk, hkk⟩ : ∃ z, wrap64 (V1.a.k + 1) = z := ⟨_, rfl⟩
          rw [hkk] at hx hfd
          go_upto_region 8 with fail
          rw [hkk]
          replace hkk := hidI hkk
          have hk2 := blk_set hk 4 (.int .i64 kk)
          have f5 : (wd.setCell ⟨gv, 4, none⟩ (.int .i64 kk)).cell? ⟨gv, 17, none⟩ = some (.int .i64 V1.strikes) := blk_cell hk2 17 (by rfl)
          have f6 : (wd.setCell ⟨gv, 4, none⟩ (.int .i64 kk)).cell? ⟨gv, 4, none⟩ = some (.int .i64 kk) := blk_cell hk2 4 (by rfl)
          rw [hx.out] at hk2
          replace hE := hE.set hg 4 (.int .i64 kk)
          replace ho3 := ho3.put (a := ⟨gv, 4, none⟩) hgB (.int .i64 kk)
          replace hsB : B ≤ (wd.setCell ⟨gv, 4, none⟩ (.int .i64 kk)).heap.size := by rw [setCell_size]; exact hsB
          clear hk f4 z4
          generalize wd.setCell ⟨gv, 4, none⟩ (.int .i64 kk) = we at *
          obtain ⟨sk, hsk⟩ : ∃ z, V1.strikes = z := ⟨_, rfl⟩
          rw [hsk] at f5 hfd
          replace hsk := hidI hsk
          by_cases hs : sk ≤ kk
          · have d1 : decide (sk ≤ kk) = true := decide_eq_true hs
            rw [d1] at hfd
            have hsn2 : Hid (S (k + 1) = (V1.look 0, o1 ++ [0])) := by
              show _ = _
              have hq_ : V1.outs 0 = true := hfd.out
              rw [hsn.out]; unfold Vo.look2; simp only [hq_, if_true]
            clear hsn hfd
            go_quiet (fail)
            replace hk2 := blk_drewN hk2 nq
            replace hE := hE.ext (bl_drewN (Below.refl _ _) nq)
            replace ho3 : Own3 (we.drewN nq) B 3 u4 (.slice none 0 0) (.slice none 0 0) (encN o1) [] [] := ⟨ho3.o1, ho3.o2, ho3.o3, ho3.a12, ho3.a13, ho3.a23⟩
            replace hsB : B ≤ (we.drewN nq).heap.size := hsB
            clear f5 f6
            generalize we.drewN nq = wf at *
            go_upto_region 10 with (first | (at_builtin; go_loud (refine list_app3 rfl (.tmp 55) (.tmp 57) 22 rfl rfl Try.underlying22 infoInt (ho3.alloc _) (some ⟨wf.heap.size, 0, none⟩) [0] 1 1 rfl (RdI.of_blk (l := [0]) (blk_new wf (.cells #[.int .i64 0] 3)) (by simp)) rfl rfl (by rw [encN_length]; have := hl1.out; simp; omega) (Nat.le_trans hsB (bl_alloc (Below.refl _ _) _).size) ?_); intro va wa hoa hba) | fail)
            replace hE := (hE.ext (bl_alloc (Below.refl _ _) (.cells #[.int .i64 0] 3))).low hba hw0B hwB
            replace hk2 := (hba.block gv hgB).trans (blk_alloc hk2 (.cells #[.int .i64 0] 3))
            replace hsB : B ≤ wa.heap.size := Nat.le_trans (Nat.le_trans hsB (bl_alloc (Below.refl _ _) (.cells #[.int .i64 0] 3)).size) hba.size
            clear hba ho3
            have hb64 : ((k : Int) + 1) ≤ 9223372036854775807 := by omega
            go_wp2
            go_roundw
            case rel => exact ⟨k + 1, by omega, by go_num, hE, hsB, by rw [hsn2.out]; exact hk2, by rw [hsn2.out, encN_snoc]; exact hoa⟩
            case measure => simp [intOf]; omega
          · have d1 : decide (sk ≤ kk) = false := decide_eq_false hs
            rw [d1] at hfd
            have hsn2 : Hid (S (k + 1) = (V1.look 0, o1)) := by
              show _ = _
              have hq_ : V1.outs 0 = false := hfd.out
              rw [hsn.out]; unfold Vo.look2; simp only [hq_]; rfl
            clear hsn hfd
            go_quiet (fail)
            replace hk2 := blk_drewN hk2 nq
            replace hE := hE.ext (bl_drewN (Below.refl _ _) nq)
            replace ho3 : Own3 (we.drewN nq) B 3 u4 (.slice none 0 0) (.slice none 0 0) (encN o1) [] [] := ⟨ho3.o1, ho3.o2, ho3.o3, ho3.a12, ho3.a13, ho3.a23⟩
            replace hsB : B ≤ (we.drewN nq).heap.size := hsB
            clear f5 f6
            generalize we.drewN nq = wf at *
            have hb64 : ((k : Int) + 1) ≤ 9223372036854775807 := by omega
            go_wp2
            go_roundw
            case rel => exact ⟨k + 1, by omega, by go_num, hE, hsB, by rw [hsn2.out]; exact hk2, by rw [hsn2.out]; exact ho3⟩
            case measure => simp [intOf]; omega
        · replace hf : farV V1.a.v V1.last V1.tol = false := by simpa using hf
          rw [hf] at hF hfd
          have hx : Hid (V1.arr.setIfInBounds 4 (.int .i64 0) = (V1.look 0).arr) := by
            show _ = _; have hf2 : farV (V1.get 0).v V1.last V1.tol = false := hf
            unfold Vo.look; rw [hf2]; rfl
          replace hf := hidI hf
          have hsn2 : Hid (S (k + 1) = (V1.look 0, o1)) := by
            show _ = _
            have hq_ : V1.outs 0 = false := hfd.out
            rw [hsn.out]; unfold Vo.look2; simp only [hq_]; rfl
          clear hsn hfd
          go_wp2
          go_quiet ((go_at_call 40; exact Calls.quiet_of_same (hF.out _)))
          replace hk := blk_drewN hk nq
          replace hE := hE.ext (bl_drewN (Below.refl _ _) nq)
          replace ho3 : Own3 (wr.drewN nq) B 3 u4 (.slice none 0 0) (.slice none 0 0) (encN o1) [] [] := ⟨ho3.o1, ho3.o2, ho3.o3, ho3.a12, ho3.a13, ho3.a23⟩
          replace hsB : B ≤ (wr.drewN nq).heap.size := hsB
          clear f0 f1 f2 hc hF
          generalize wr.drewN nq = wd at *
          have f4 : wd.cell? ⟨gv, 4, none⟩ = some (.int .i64 V1.a.k) := blk_cell hk 4 (by rfl)
          have z4 := blkf hk 4
          have hk2 := hidI (blk_set hk 4 (.int .i64 0))
          have hE2 := hidI (hE.set hg 4 (.int .i64 0))
          have ho4 := hidI (ho3.put (a := ⟨gv, 4, none⟩) hgB (.int .i64 0))
          have hsB2 : Hid (B ≤ (wd.setCell ⟨gv, 4, none⟩ (.int .i64 0)).heap.size) := by show _; rw [setCell_size]; exact hsB
          clear hk hE ho3
          have hb64 : ((k : Int) + 1) ≤ 9223372036854775807 := by omega
          go_wp2
          go_roundw
          case rel => exact ⟨k + 1, by omega, by go_num, hE2.out, hsB2.out, by rw [hsn2.out]; have h_ := hk2.out; rw [hx.out] at h_; exact h_, by rw [hsn2.out]; exact ho4.out⟩
          case measure => simp [intOf]; omega
      · subst hq
        have f0 : wr.cell? ⟨gv, 5, none⟩ = some (.int .i64 V1.b.v) := blk_cell hk 5 (by rfl)
        have f1 : wr.cell? ⟨gv, 18, none⟩ = some (.int .i64 V1.last) := blk_cell hk 18 (by rfl)
        have f2 : wr.cell? ⟨gv, 15, none⟩ = some (.int .i64 V1.tol) := blk_cell hk 15 (by rfl)
        have hF := hidI (fun W => far_calls V1.b.v V1.last V1.tol W hok1.out.b hok1.out.last hok1.out.tol)
        have hfd : Hid (V1.outs 1 = (farV V1.b.v V1.last V1.tol && decide (V1.strikes ≤ wrap64 (V1.b.k + 1)))) := rfl
        by_cases hf : farV V1.b.v V1.last V1.tol = true
        · rw [hf] at hF hfd
          have hx : Hid (V1.arr.setIfInBounds 9 (.int .i64 (wrap64 (V1.b.k + 1))) = (V1.look 1).arr) := by
            show _ = _; have hf2 : farV (V1.get 1).v V1.last V1.tol = true := hf
            unfold Vo.look; rw [if_pos hf2]; rfl
          replace hf := hidI hf
          go_wp2
          go_quiet ((go_at_call 40; exact Calls.quiet_of_same (hF.out _)))
          replace hk := blk_drewN hk nq
          replace hE := hE.ext (bl_drewN (Below.refl _ _) nq)
          replace ho3 : Own3 (wr.drewN nq) B 3 u4 (.slice none 0 0) (.slice none 0 0) (encN o1) [] [] := ⟨ho3.o1, ho3.o2, ho3.o3, ho3.a12, ho3.a13, ho3.a23⟩
          replace hsB : B ≤ (wr.drewN nq).heap.size := hsB
          clear f0 f1 f2 hc hF
          generalize wr.drewN nq = wd at *
          have f4 : wd.cell? ⟨gv, 9, none⟩ = some (.int .i64 V1.b.k) := blk_cell hk 9 (by rfl)
          have z4 := blkf hk 9
          obtain ⟨kk, hkk⟩ : ∃ z, wrap64 (V1.b.k + 1) = z := ⟨_, rfl⟩
          rw [hkk] at hx hfd
          go_upto_region 8 with fail
          rw [hkk]
          replace hkk := hidI hkk
          have hk2 := blk_set hk 9 (.int .i64 kk)
          have f5 : (wd.setCell ⟨gv, 9, none⟩ (.int .i64 kk)).cell? ⟨gv, 17, none⟩ = some (.int .i64 V1.strikes) := blk_cell hk2 17 (by rfl)
          have f6 : (wd.setCell ⟨gv, 9, none⟩ (.int .i64 kk)).cell? ⟨gv, 9, none⟩ = some (.int .i64 kk) := blk_cell hk2 9 (by rfl)
          rw [hx.out] at hk2
          replace hE := hE.set hg 9 (.int .i64 kk)
          replace ho3 := ho3.put (a := ⟨gv, 9, none⟩) hgB (.int .i64 kk)
          replace hsB : B ≤ (wd.setCell ⟨gv, 9, none⟩ (.int .i64 kk)).heap.size := by rw [setCell_size]; exact hsB
          clear hk f4 z4
          generalize wd.setCell ⟨gv, 9, none⟩ (.int .i64 kk) = we at *
          obtain ⟨sk, hsk⟩ : ∃ z, V1.strikes = z := ⟨_, rfl⟩
          rw [hsk] at f5 hfd
          replace hsk := hidI hsk
          by_cases hs : sk ≤ kk
          · have d1 : decide (sk ≤ kk) = true := decide_eq_true hs
            rw [d1] at hfd
            have hsn2 : Hid (S (k + 1) = (V1.look 1, o1 ++ [1])) := by
              show _ = _
              have hq_ : V1.outs 1 = true := hfd.out
              rw [hsn.out]; unfold Vo.look2; simp only [hq_, if_true]
            clear hsn hfd
            go_quiet (fail)
            replace hk2 := blk_drewN hk2 nq
            replace hE := hE.ext (bl_drewN (Below.refl _ _) nq)
            replace ho3 : Own3 (we.drewN nq) B 3 u4 (.slice none 0 0) (.slice none 0 0) (encN o1) [] [] := ⟨ho3.o1, ho3.o2, ho3.o3, ho3.a12, ho3.a13, ho3.a23⟩
            replace hsB : B ≤ (we.drewN nq).heap.size := hsB
            clear f5 f6
            generalize we.drewN nq = wf at *
            go_upto_region 10 with (first | (at_builtin; go_loud (refine list_app3 rfl (.tmp 55) (.tmp 57) 22 rfl rfl Try.underlying22 infoInt (ho3.alloc _) (some ⟨wf.heap.size, 0, none⟩) [1] 1 1 rfl (RdI.of_blk (l := [1]) (blk_new wf (.cells #[.int .i64 1] 3)) (by simp)) rfl rfl (by rw [encN_length]; have := hl1.out; simp; omega) (Nat.le_trans hsB (bl_alloc (Below.refl _ _) _).size) ?_); intro va wa hoa hba) | fail)
            replace hE := (hE.ext (bl_alloc (Below.refl _ _) (.cells #[.int .i64 1] 3))).low hba hw0B hwB
            replace hk2 := (hba.block gv hgB).trans (blk_alloc hk2 (.cells #[.int .i64 1] 3))
            replace hsB : B ≤ wa.heap.size := Nat.le_trans (Nat.le_trans hsB (bl_alloc (Below.refl _ _) (.cells #[.int .i64 1] 3)).size) hba.size
            clear hba ho3
            have hb64 : ((k : Int) + 1) ≤ 9223372036854775807 := by omega
            go_wp2
            go_roundw
            case rel => exact ⟨k + 1, by omega, by go_num, hE, hsB, by rw [hsn2.out]; exact hk2, by rw [hsn2.out, encN_snoc]; exact hoa⟩
            case measure => simp [intOf]; omega
          · have d1 : decide (sk ≤ kk) = false := decide_eq_false hs
            rw [d1] at hfd
            have hsn2 : Hid (S (k + 1) = (V1.look 1, o1)) := by
              show _ = _
              have hq_ : V1.outs 1 = false := hfd.out
              rw [hsn.out]; unfold Vo.look2; simp only [hq_]; rfl
            clear hsn hfd
            go_quiet (fail)
            replace hk2 := blk_drewN hk2 nq
            replace hE := hE.ext (bl_drewN (Below.refl _ _) nq)
            replace ho3 : Own3 (we.drewN nq) B 3 u4 (.slice none 0 0) (.slice none 0 0) (encN o1) [] [] := ⟨ho3.o1, ho3.o2, ho3.o3, ho3.a12, ho3.a13, ho3.a23⟩
            replace hsB : B ≤ (we.drewN nq).heap.size := hsB
            clear f5 f6
            generalize we.drewN nq = wf at *
            have hb64 : ((k : Int) + 1) ≤ 9223372036854775807 := by omega
            go_wp2
            go_roundw
            case rel => exact ⟨k + 1, by omega, by go_num, hE, hsB, by rw [hsn2.out]; exact hk2, by rw [hsn2.out]; exact ho3⟩
            case measure => simp [intOf]; omega
        · replace hf : farV V1.b.v V1.last V1.tol = false := by simpa using hf
          rw [hf] at hF hfd
          have hx : Hid (V1.arr.setIfInBounds 9 (.int .i64 0) = (V1.look 1).arr) := by
            show _ = _; have hf2 : farV (V1.get 1).v V1.last V1.tol = false := hf
            unfold Vo.look; rw [hf2]; rfl
          replace hf := hidI hf
          have hsn2 : Hid (S (k + 1) = (V1.look 1, o1)) := by
            show _ = _
            have hq_ : V1.outs 1 = false := hfd.out
            rw [hsn.out]; unfold Vo.look2; simp only [hq_]; rfl
          clear hsn hfd
          go_wp2
          go_quiet ((go_at_call 40; exact Calls.quiet_of_same (hF.out _)))
          replace hk := blk_drewN hk nq
          replace hE := hE.ext (bl_drewN (Below.refl _ _) nq)
          replace ho3 : Own3 (wr.drewN nq) B 3 u4 (.slice none 0 0) (.slice none 0 0) (encN o1) [] [] := ⟨ho3.o1, ho3.o2, ho3.o3, ho3.a12, ho3.a13, ho3.a23⟩
          replace hsB : B ≤ (wr.drewN nq).heap.size := hsB
          clear f0 f1 f2 hc hF
          generalize wr.drewN nq = wd at *
          have f4 : wd.cell? ⟨gv, 9, none⟩ = some (.int .i64 V1.b.k) := blk_cell hk 9 (by rfl)
          have z4 := blkf hk 9
          have hk2 := hidI (blk_set hk 9 (.int .i64 0))
          have hE2 := hidI (hE.set hg 9 (.int .i64 0))
          have ho4 := hidI (ho3.put (a := ⟨gv, 9, none⟩) hgB (.int .i64 0))
          have hsB2 : Hid (B ≤ (wd.setCell ⟨gv, 9, none⟩ (.int .i64 0)).heap.size) := by show _; rw [setCell_size]; exact hsB
          clear hk hE ho3
          have hb64 : ((k : Int) + 1) ≤ 9223372036854775807 := by omega
          go_wp2
          go_roundw
          case rel => exact ⟨k + 1, by omega, by go_num, hE2.out, hsB2.out, by rw [hsn2.out]; have h_ := hk2.out; rw [hx.out] at h_; exact h_, by rw [hsn2.out]; exact ho4.out⟩
          case measure => simp [intOf]; omega
      · subst hq
        have f0 : wr.cell? ⟨gv, 10, none⟩ = some (.int .i64 V1.c.v) := blk_cell hk 10 (by rfl)
        have f1 : wr.cell? ⟨gv, 18, none⟩ = some (.int .i64 V1.last) := blk_cell hk 18 (by rfl)
        have f2 : wr.cell? ⟨gv, 15, none⟩ = some (.int .i64 V1.tol) := blk_cell hk 15 (by rfl)
        have hF := hidI (fun W => far_calls V1.c.v V1.last V1.tol W hok1.out.c hok1.out.last hok1.out.tol)
        have hfd : Hid (V1.outs 2 = (farV V1.c.v V1.last V1.tol && decide (V1.strikes ≤ wrap64 (V1.c.k + 1)))) := rfl
        by_cases hf : farV V1.c.v V1.last V1.tol = true
        · rw [hf] at hF hfd
          have hx : Hid (V1.arr.setIfInBounds 14 (.int .i64 (wrap64 (V1.c.k + 1))) = (V1.look 2).arr) := by
            show _ = _; have hf2 : farV (V1.get 2).v V1.last V1.tol = true := hf
            unfold Vo.look; rw [if_pos hf2]; rfl
          replace hf := hidI hf
          go_wp2
          go_quiet ((go_at_call 40; exact Calls.quiet_of_same (hF.out _)))
          replace hk := blk_drewN hk nq
          replace hE := hE.ext (bl_drewN (Below.refl _ _) nq)
          replace ho3 : Own3 (wr.drewN nq) B 3 u4 (.slice none 0 0) (.slice none 0 0) (encN o1) [] [] := ⟨ho3.o1, ho3.o2, ho3.o3, ho3.a12, ho3.a13, ho3.a23⟩
          replace hsB : B ≤ (wr.drewN nq).heap.size := hsB
          clear f0 f1 f2 hc hF
          generalize wr.drewN nq = wd at *
          have f4 : wd.cell? ⟨gv, 14, none⟩ = some (.int .i64 V1.c.k) := blk_cell hk 14 (by rfl)
          have z4 := blkf hk 14
          obtain ⟨kk, hkk⟩ : ∃ z, wrap64 (V1.c.k + 1) = z := ⟨_, rfl⟩
          rw [hkk] at hx hfd
          go_upto_region 8 with fail
          rw [hkk]
          replace hkk := hidI hkk
          have hk2 := blk_set hk 14 (.int .i64 kk)
          have f5 : (wd.setCell ⟨gv, 14, none⟩ (.int .i64 kk)).cell? ⟨gv, 17, none⟩ = some (.int .i64 V1.strikes) := blk_cell hk2 17 (by rfl)
          have f6 : (wd.setCell ⟨gv, 14, none⟩ (.int .i64 kk)).cell? ⟨gv, 14, none⟩ = some (.int .i64 kk) := blk_cell hk2 14 (by rfl)
          rw [hx.out] at hk2
          replace hE := hE.set hg 14 (.int .i64 kk)
          replace ho3 := ho3.put (a := ⟨gv, 14, none⟩) hgB (.int .i64 kk)
          replace hsB : B ≤ (wd.setCell ⟨gv, 14, none⟩ (.int .i64 kk)).heap.size := by rw [setCell_size]; exact hsB
          clear hk f4 z4
          generalize wd.setCell ⟨gv, 14, none⟩ (.int .i64 kk) = we at *
          obtain ⟨sk, hsk⟩ : ∃ z, V1.strikes = z := ⟨_, rfl⟩
          rw [hsk] at f5 hfd
          replace hsk := hidI hsk
          by_cases hs : sk ≤ kk
          · have d1 : decide (sk ≤ kk) = true := decide_eq_true hs
            rw [d1] at hfd
            have hsn2 : Hid (S (k + 1) = (V1.look 2, o1 ++ [2])) := by
              show _ = _
              have hq_ : V1.outs 2 = true := hfd.out
              rw [hsn.out]; unfold Vo.look2; simp only [hq_, if_true]
            clear hsn hfd
            go_quiet (fail)
            replace hk2 := blk_drewN hk2 nq
            replace hE := hE.ext (bl_drewN (Below.refl _ _) nq)
            replace ho3 : Own3 (we.drewN nq) B 3 u4 (.slice none 0 0) (.slice none 0 0) (encN o1) [] [] := ⟨ho3.o1, ho3.o2, ho3.o3, ho3.a12, ho3.a13, ho3.a23⟩
            replace hsB : B ≤ (we.drewN nq).heap.size := hsB
            clear f5 f6
            generalize we.drewN nq = wf at *
            go_upto_region 10 with (first | (at_builtin; go_loud (refine list_app3 rfl (.tmp 55) (.tmp 57) 22 rfl rfl Try.underlying22 infoInt (ho3.alloc _) (some ⟨wf.heap.size, 0, none⟩) [2] 1 1 rfl (RdI.of_blk (l := [2]) (blk_new wf (.cells #[.int .i64 2] 3)) (by simp)) rfl rfl (by rw [encN_length]; have := hl1.out; simp; omega) (Nat.le_trans hsB (bl_alloc (Below.refl _ _) _).size) ?_); intro va wa hoa hba) | fail)
            replace hE := (hE.ext (bl_alloc (Below.refl _ _) (.cells #[.int .i64 2] 3))).low hba hw0B hwB
            replace hk2 := (hba.block gv hgB).trans (blk_alloc hk2 (.cells #[.int .i64 2] 3))
            replace hsB : B ≤ wa.heap.size := Nat.le_trans (Nat.le_trans hsB (bl_alloc (Below.refl _ _) (.cells #[.int .i64 2] 3)).size) hba.size
            clear hba ho3
            have hb64 : ((k : Int) + 1) ≤ 9223372036854775807 := by omega
            go_wp2
            go_roundw
            case rel => exact ⟨k + 1, by omega, by go_num, hE, hsB, by rw [hsn2.out]; exact hk2, by rw [hsn2.out, encN_snoc]; exact hoa⟩
            case measure => simp [intOf]; omega
          · have d1 : decide (sk ≤ kk) = false := decide_eq_false hs
            rw [d1] at hfd
            have hsn2 : Hid (S (k + 1) = (V1.look 2, o1)) := by
              show _ = _
              have hq_ : V1.outs 2 = false := hfd.out
              rw [hsn.out]; unfold Vo.look2; simp only [hq_]; rfl
            clear hsn hfd
            go_quiet (fail)
            replace hk2 := blk_drewN hk2 nq
            replace hE := hE.ext (bl_drewN (Below.refl _ _) nq)
            replace ho3 : Own3 (we.drewN nq) B 3 u4 (.slice none 0 0) (.slice none 0 0) (encN o1) [] [] := ⟨ho3.o1, ho3.o2, ho3.o3, ho3.a12, ho3.a13, ho3.a23⟩
            replace hsB : B ≤ (we.drewN nq).heap.size := hsB
            clear f5 f6
            generalize we.drewN nq = wf at *
            have hb64 : ((k : Int) + 1) ≤ 9223372036854775807 := by omega
            go_wp2
            go_roundw
            case rel => exact ⟨k + 1, by omega, by go_num, hE, hsB, by rw [hsn2.out]; exact hk2, by rw [hsn2.out]; exact ho3⟩
            case measure => simp [intOf]; omega
        · replace hf : farV V1.c.v V1.last V1.tol = false := by simpa using hf
          rw [hf] at hF hfd
          have hx : Hid (V1.arr.setIfInBounds 14 (.int .i64 0) = (V1.look 2).arr) := by
            show _ = _; have hf2 : farV (V1.get 2).v V1.last V1.tol = false := hf
            unfold Vo.look; rw [hf2]; rfl
          replace hf := hidI hf
          have hsn2 : Hid (S (k + 1) = (V1.look 2, o1)) := by
            show _ = _
            have hq_ : V1.outs 2 = false := hfd.out
            rw [hsn.out]; unfold Vo.look2; simp only [hq_]; rfl
          clear hsn hfd
          go_wp2
          go_quiet ((go_at_call 40; exact Calls.quiet_of_same (hF.out _)))
          replace hk := blk_drewN hk nq
          replace hE := hE.ext (bl_drewN (Below.refl _ _) nq)
          replace ho3 : Own3 (wr.drewN nq) B 3 u4 (.slice none 0 0) (.slice none 0 0) (encN o1) [] [] := ⟨ho3.o1, ho3.o2, ho3.o3, ho3.a12, ho3.a13, ho3.a23⟩
          replace hsB : B ≤ (wr.drewN nq).heap.size := hsB
          clear f0 f1 f2 hc hF
          generalize wr.drewN nq = wd at *
          have f4 : wd.cell? ⟨gv, 14, none⟩ = some (.int .i64 V1.c.k) := blk_cell hk 14 (by rfl)
          have z4 := blkf hk 14
          have hk2 := hidI (blk_set hk 14 (.int .i64 0))
          have hE2 := hidI (hE.set hg 14 (.int .i64 0))
          have ho4 := hidI (ho3.put (a := ⟨gv, 14, none⟩) hgB (.int .i64 0))
          have hsB2 : Hid (B ≤ (wd.setCell ⟨gv, 14, none⟩ (.int .i64 0)).heap.size) := by show _; rw [setCell_size]; exact hsB
          clear hk hE ho3
          have hb64 : ((k : Int) + 1) ≤ 9223372036854775807 := by omega
          go_wp2
          go_roundw
          case rel => exact ⟨k + 1, by omega, by go_num, hE2.out, hsB2.out, by rw [hsn2.out]; have h_ := hk2.out; rw [hx.out] at h_; exact h_, by rw [hsn2.out]; exact ho4.out⟩
          case measure => simp [intOf]; omega
    · have hd : decide ((k : Int) < (cs.length : Int)) = false := decide_eq_false (by omega)
      have nd : decide (k < cs.length) = false := decide_eq_false hlt
      obtain rfl : k = cs.length := by omega
      have hSt : Hid (V.strike cs = (V.lookAll cs).2.foldl (Vo.punish (V.lookAll cs).2.length) (V.lookAll cs).1) := rfl
      have hok1 := hidI (hSk.out cs.length)
      have hm1 := hidI (show ∀ i ∈ (V.lookAll cs).2, i < 3 from by unfold Vo.lookAll; exact look2_mem (V := V) cs (V, []) (fun i hi => nomatch hi) h3)
      have hl1 := hidI (hSl.out cs.length)
      rw [hSe.out] at hk ho3 hok1 hl1
      clear hSs hSk hSl hS0 hSe hA hne h3 hAl
      obtain ⟨⟨V1, o1⟩, hV1⟩ : ∃ z, V.lookAll cs = z := ⟨_, rfl⟩
      rw [hV1] at hk ho3 hSt hok1 hm1 hl1
      simp only [] at hk ho3 hSt hok1 hm1 hl1
      clear hV1
      obtain ⟨T, hT⟩ : ∃ f : Nat → Vo, f = fun k => (o1.take k).foldl (Vo.punish o1.length) V1 := ⟨_, rfl⟩
      have hT0 : Hid (T 0 = V1) := by show _ = _; rw [hT]; rfl
      have hTs := hidI (show ∀ k, k < o1.length → T (k + 1) = Vo.punish o1.length (T k) (o1.getD k 0) from fun k hk => by rw [hT]; simp only []; rw [takeN _ _ hk, List.foldl_append]; rfl)
      have hTe : Hid (T o1.length = V.strike cs) := by show _ = _; rw [hT, hSt.out]; simp
      have hTk := hidI (show ∀ k, (T k).ok from fun k => by rw [hT]; exact foldl_ok (p := Vo.ok) (fun a b h => punish_ok h b) _ _ hok1.out)
      obtain ⟨lo, hlo⟩ : ∃ z, Hid (encN o1 = z) := ⟨_, rfl⟩
      rw [hlo.out] at ho3
      have hll : Hid (lo.length = o1.length) := by show _ = _; rw [← hlo.out, encN_length]
      have hlg := hidI (show ∀ k, lo.getD k 0 = ((o1.getD k 0 : Nat) : Int) from fun k => by rw [← hlo.out, encN_getD])
      obtain ⟨n1, hn1⟩ : ∃ z, o1.length = z := ⟨_, rfl⟩
      have hm3 := hidI (show ∀ k, k < n1 → o1.getD k 0 < 3 from fun k hk => hm1.out _ (by rw [List.getD_eq_getElem?_getD, List.getElem?_eq_getElem (by omega)]; exact List.getElem_mem (by omega)))
      rw [hn1] at hTs hTe hll
      have hb3 : n1 ≤ 3 := by have := hl1.out; omega
      clear hT hSt hlo hn1 hm1 hl1
      obtain ⟨Ao, co, rfl, -, hro, -, hfo⟩ := own_rdC ho3.o1
      rw [hll.out]
      go_wp2
      go_loopw [62] (fun x wr => ∃ k : Nat, k ≤ n1 ∧ x = .int .i64 k ∧ E1 w0 w wr gv ∧ wr.heap[gv]? = some (.cells (T k).arr 68 (0, 0)) ∧ RdC wr Ao (encI lo)) (fun x _ => (n1 - intOf x).toNat)
      case atStart => exact ⟨0, by omega, rfl, hE, by rw [hT0.out]; exact hk, hro⟩
      case round =>
        clear hE hk hro hsB ho3
        obtain ⟨k, hkl, rfl, hE, hk, hro⟩ := hrel
        by_cases hlt : k < n1
        · have hd : decide ((k : Int) < (n1 : Int)) = true := decide_eq_true (by omega)
          have nd : decide (k < n1) = true := decide_eq_true hlt
          obtain ⟨bb, off, rfl, hc⟩ := RdI.at (l := lo) (i := k) ⟨by rw [hll.out]; omega, hro⟩ (by rw [hll.out]; exact hlt)
          rw [hlg.out] at hc
          have hi3 := hm3.out k hlt
          have hsn := hidI (hTs.out k hlt)
          have hok1 := hidI (hTk.out k)
          have hbne : bb ≠ gv := by have := hfo _ rfl; simp only [] at this; omega
          obtain ⟨i, hi⟩ : ∃ z, o1.getD k 0 = z := ⟨_, rfl⟩
          rw [hi] at hc hsn hi3
          obtain ⟨V2, hV2⟩ : ∃ z, T k = z := ⟨_, rfl⟩
          rw [hV2] at hk hsn hok1
          clear hi hV2
          have hb64 : ((k : Int) + 1) ≤ 9223372036854775807 := by omega
          have hkeep := hidI (fun (W : World) (h : KeepX (· = gv) wr W) => RdC.keepX hro h (fun _ a ha => by have := hfo a ha; intro e_; omega))
          rcases (by omega : i = 0 ∨ i = 1 ∨ i = 2) with hq | hq | hq
          · subst hq
            by_cases h1 : n1 = 1
            · have dn : ((n1 : Int) == 1) = true := by simp; omega
              have nn : (n1 == 1) = true := by simpa using h1
              have hx : Hid (V2.arr.setIfInBounds 3 (.bool true) = (Vo.punish n1 V2 0).arr) := by show _ = _; unfold Vo.punish; rw [if_pos h1]; rfl
              replace h1 := hidI h1
              have f4 : wr.cell? ⟨gv, 3, none⟩ = some (.bool V2.a.bad) := blk_cell hk 3 (by rfl)
              have z4 := blkf hk 3
              have hk2 := hidI (blk_set hk 3 (.bool true))
              have hE2 := hidI (hE.set hg 3 (.bool true))
              have hr2 := hidI (hkeep.out _ ((KeepX.refl (· = gv) wr).set (p := ⟨gv, 3, none⟩) rfl (.bool true)))
              clear hk hE hro hkeep
              go_wp2
              go_roundw
              case rel => exact ⟨k + 1, by omega, by go_num, hE2.out, by rw [hsn.out]; have h_ := hk2.out; rw [hx.out] at h_; exact h_, hr2.out⟩
              case measure => simp [intOf]; omega
            · have dn : ((n1 : Int) == 1) = false := by simp; omega
              have nn : (n1 == 1) = false := by simpa using h1
              have hx : Hid (V2.arr.setIfInBounds 4 (.int .i64 (V2.strikes - 1)) = (Vo.punish n1 V2 0).arr) := by show _ = _; unfold Vo.punish; rw [if_neg h1]; rfl
              have hw1 : IntKind.i64.wrap (V2.strikes - 1) = V2.strikes - 1 := IntWalk.i64_in _ (by have := hok1.out.strikes; omega)
              have hw2 : wrap64 (V2.strikes - 1) = V2.strikes - 1 := IntWalk.wrap64_in _ (by have := hok1.out.strikes; omega)
              have f5 : wr.cell? ⟨gv, 17, none⟩ = some (.int .i64 V2.strikes) := blk_cell hk 17 (by rfl)
              obtain ⟨sk, hsk⟩ : ∃ z, V2.strikes = z := ⟨_, rfl⟩
              rw [hsk] at hx hw1 hw2 f5
              have f4 : wr.cell? ⟨gv, 4, none⟩ = some (.int .i64 V2.a.k) := blk_cell hk 4 (by rfl)
              have z4 := blkf hk 4
              have hk2 := hidI (blk_set (blk_drew hk) 4 (.int .i64 (sk - 1)))
              have hE2 := hidI (hE.drew.set hg 4 (.int .i64 (sk - 1)))
              have hr2 := hidI (hkeep.out _ (((KeepX.refl (· = gv) wr).ext (bl_drew (Below.refl _ _))).set (p := ⟨gv, 4, none⟩) rfl (.int .i64 (sk - 1))))
              replace hsk := hidI hsk
              clear hk hE hro hkeep h1
              go_wp2
              go_region
              go_wp2
              go_roundw
              case rel => exact ⟨k + 1, by omega, by go_num, hE2.out, by rw [hsn.out]; have h_ := hk2.out; rw [hx.out] at h_; exact h_, hr2.out⟩
              case measure => simp [intOf]; omega
          · subst hq
            by_cases h1 : n1 = 1
            · have dn : ((n1 : Int) == 1) = true := by simp; omega
              have nn : (n1 == 1) = true := by simpa using h1
              have hx : Hid (V2.arr.setIfInBounds 8 (.bool true) = (Vo.punish n1 V2 1).arr) := by show _ = _; unfold Vo.punish; rw [if_pos h1]; rfl
              replace h1 := hidI h1
              have f4 : wr.cell? ⟨gv, 8, none⟩ = some (.bool V2.b.bad) := blk_cell hk 8 (by rfl)
              have z4 := blkf hk 8
              have hk2 := hidI (blk_set hk 8 (.bool true))
              have hE2 := hidI (hE.set hg 8 (.bool true))
              have hr2 := hidI (hkeep.out _ ((KeepX.refl (· = gv) wr).set (p := ⟨gv, 8, none⟩) rfl (.bool true)))
              clear hk hE hro hkeep
              go_wp2
              go_roundw
              case rel => exact ⟨k + 1, by omega, by go_num, hE2.out, by rw [hsn.out]; have h_ := hk2.out; rw [hx.out] at h_; exact h_, hr2.out⟩
              case measure => simp [intOf]; omega
            · have dn : ((n1 : Int) == 1) = false := by simp; omega
              have nn : (n1 == 1) = false := by simpa using h1
              have hx : Hid (V2.arr.setIfInBounds 9 (.int .i64 (V2.strikes - 1)) = (Vo.punish n1 V2 1).arr) := by show _ = _; unfold Vo.punish; rw [if_neg h1]; rfl
              have hw1 : IntKind.i64.wrap (V2.strikes - 1) = V2.strikes - 1 := IntWalk.i64_in _ (by have := hok1.out.strikes; omega)
              have hw2 : wrap64 (V2.strikes - 1) = V2.strikes - 1 := IntWalk.wrap64_in _ (by have := hok1.out.strikes; omega)
              have f5 : wr.cell? ⟨gv, 17, none⟩ = some (.int .i64 V2.strikes) := blk_cell hk 17 (by rfl)
              obtain ⟨sk, hsk⟩ : ∃ z, V2.strikes = z := ⟨_, rfl⟩
              rw [hsk] at hx hw1 hw2 f5
              have f4 : wr.cell? ⟨gv, 9, none⟩ = some (.int .i64 V2.b.k) := blk_cell hk 9 (by rfl)
              have z4 := blkf hk 9
              have hk2 := hidI (blk_set (blk_drew hk) 9 (.int .i64 (sk - 1)))
              have hE2 := hidI (hE.drew.set hg 9 (.int .i64 (sk - 1)))
              have hr2 := hidI (hkeep.out _ (((KeepX.refl (· = gv) wr).ext (bl_drew (Below.refl _ _))).set (p := ⟨gv, 9, none⟩) rfl (.int .i64 (sk - 1))))
              replace hsk := hidI hsk
              clear hk hE hro hkeep h1
              go_wp2
              go_region
              go_wp2
              go_roundw
              case rel => exact ⟨k + 1, by omega, by go_num, hE2.out, by rw [hsn.out]; have h_ := hk2.out; rw [hx.out] at h_; exact h_, hr2.out⟩
              case measure => simp [intOf]; omega
          · subst hq
            by_cases h1 : n1 = 1
            · have dn : ((n1 : Int) == 1) = true := by simp; omega
              have nn : (n1 == 1) = true := by simpa using h1
              have hx : Hid (V2.arr.setIfInBounds 13 (.bool true) = (Vo.punish n1 V2 2).arr) := by show _ = _; unfold Vo.punish; rw [if_pos h1]; rfl
              replace h1 := hidI h1
              have f4 : wr.cell? ⟨gv, 13, none⟩ = some (.bool V2.c.bad) := blk_cell hk 13 (by rfl)
              have z4 := blkf hk 13
              have hk2 := hidI (blk_set hk 13 (.bool true))
              have hE2 := hidI (hE.set hg 13 (.bool true))
              have hr2 := hidI (hkeep.out _ ((KeepX.refl (· = gv) wr).set (p := ⟨gv, 13, none⟩) rfl (.bool true)))
              clear hk hE hro hkeep
              go_wp2
              go_roundw
              case rel => exact ⟨k + 1, by omega, by go_num, hE2.out, by rw [hsn.out]; have h_ := hk2.out; rw [hx.out] at h_; exact h_, hr2.out⟩
              case measure => simp [intOf]; omega
            · have dn : ((n1 : Int) == 1) = false := by simp; omega
              have nn : (n1 == 1) = false := by simpa using h1
              have hx : Hid (V2.arr.setIfInBounds 14 (.int .i64 (V2.strikes - 1)) = (Vo.punish n1 V2 2).arr) := by show _ = _; unfold Vo.punish; rw [if_neg h1]; rfl
              have hw1 : IntKind.i64.wrap (V2.strikes - 1) = V2.strikes - 1 := IntWalk.i64_in _ (by have := hok1.out.strikes; omega)
              have hw2 : wrap64 (V2.strikes - 1) = V2.strikes - 1 := IntWalk.wrap64_in _ (by have := hok1.out.strikes; omega)
              have f5 : wr.cell? ⟨gv, 17, none⟩ = some (.int .i64 V2.strikes) := blk_cell hk 17 (by rfl)
              obtain ⟨sk, hsk⟩ : ∃ z, V2.strikes = z := ⟨_, rfl⟩
              rw [hsk] at hx hw1 hw2 f5
              have f4 : wr.cell? ⟨gv, 14, none⟩ = some (.int .i64 V2.c.k) := blk_cell hk 14 (by rfl)
              have z4 := blkf hk 14
              have hk2 := hidI (blk_set (blk_drew hk) 14 (.int .i64 (sk - 1)))
              have hE2 := hidI (hE.drew.set hg 14 (.int .i64 (sk - 1)))
              have hr2 := hidI (hkeep.out _ (((KeepX.refl (· = gv) wr).ext (bl_drew (Below.refl _ _))).set (p := ⟨gv, 14, none⟩) rfl (.int .i64 (sk - 1))))
              replace hsk := hidI hsk
              clear hk hE hro hkeep h1
              go_wp2
              go_region
              go_wp2
              go_roundw
              case rel => exact ⟨k + 1, by omega, by go_num, hE2.out, by rw [hsn.out]; have h_ := hk2.out; rw [hx.out] at h_; exact h_, hr2.out⟩
              case measure => simp [intOf]; omega
        · have hd : decide ((k : Int) < (n1 : Int)) = false := decide_eq_false (by omega)
          have nd : decide (k < n1) = false := decide_eq_false hlt
          obtain rfl : k = n1 := by omega
          rw [hTe.out] at hk
          go_wp2
          go_end0
          exact ⟨rfl, hE, hk⟩
end Go.Proofs.Ytggididnclfahaa
