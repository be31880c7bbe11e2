/- Proved here: lemmas and contracts (what a function of the program computes) that the proofs of the laws of this seat lean on. Conditions: as each theorem states. -/
import Derived.Test.YthdaidmjjcmccaaSpan4
set_option linter.unusedVariables false
set_option linter.unusedSimpArgs false
namespace Go.Pk
open Go.RowKit
theorem take_snocI2 (l : List Int) (k : Nat) (h : k < l.length) : l.take (k + 1) = l.take k ++ [l.getD k 0] := by
  rw [List.take_add_one, List.getElem?_eq_getElem h]
  simp [h]
theorem encI_snoc (l : List Int) (x : Int) : encI (l ++ [x]) = encI l ++ [.int .i64 x] := by simp [encI]
end Go.Pk
namespace Go.Proofs.Ythdaidmjjcmccaa
open Go.RowKit Go.Pk
set_option maxHeartbeats 4000000 in
set_option maxRecDepth 100000 in
theorem Products_calls (p : Option Addr) (o : Bool) (A B : Option Addr) (l m : List Int) (c d : Nat) (w : World) (hp : AccAt w p o) (hl : RdI w A l) (hm : RdI w B m) (hil : InI l) (him : InI m) (hsl : l.length ≤ 1000) (hsm : m.length ≤ 1000) :
    Calls Try.prog 100 #[.pointer p, .slice A l.length c, .slice B m.length d] w fun e w' => e = .returned (.agg #[.int .i64 (minL (prodL l m false)), .int .i64 (maxL (prodL l m true))]) ∧ Below w.heap.size (orCell w p (ovP l m)) w' := by
  have hlen := hl.1
  have hlem := hm.1
  go_enter Try.func100, Try.ntmps100
  go_wp2
  go_loopw [7, 8, 15] (fun v1 v2 i wr => ∃ k : Nat, k ≤ l.length ∧ i = .int .i64 k ∧ Below w.heap.size (orCell w p (ovP (l.take k) m)) wr ∧ wr.heap[w.heap.size]? = some (.cells #[.int .i64 0, .int .i64 0] 25 (0, 0)) ∧ wr.ownsRow (w.heap.size + 1) 3 1 v1 (k * m.length) (encI (prodL (l.take k) m false)) ∧ wr.ownsRow (w.heap.size + 1) 3 1 v2 (k * m.length) (encI (prodL (l.take k) m true)) ∧ (v1.ownBlock = none ∨ v1.ownBlock ≠ v2.ownBlock)) (fun _ _ i _ => l.length - (intOf i).toNat)
  case atStart => exact ⟨0, by omega, rfl, bl_orAlloc (bl_or0 (Below.refl _ _)) _, (by (repeat (first | with_reducible assumption | with_reducible exact blk_new _ _ | with_reducible apply blk_drew | (with_reducible refine blk_newE ?_; (first | done | (simp; done))) | with_reducible apply blk_put2 | (with_reducible refine blk_far ?_ (by first | omega | (simp; done) | (simp; omega)) _) | with_reducible apply blk_alloc | (with_reducible refine bl_block (by assumption) ?_) | (with_reducible refine blk_grown ?_ (by assumption) (by assumption)) | (with_reducible refine blk_acc (by assumption) ?_ (by assumption))))), by rw [Nat.zero_mul]; exact World.ownsRow_nil _ _ _ _, by rw [Nat.zero_mul]; exact World.ownsRow_nil _ _ _ _, Or.inl rfl⟩
  case round =>
    obtain ⟨k, hk, rfl, hB, hr, ho1, ho2, hne⟩ := hrel
    by_cases hlt : k < l.length
    · obtain ⟨b, off, rfl, hc⟩ := (hl.acc hp hB).at hlt
      have hxr := hil.getD k
      have hp1 := hidI (prodL_snoc (l.take k) m (l.getD k 0) false)
      have hp2 := hidI (prodL_snoc (l.take k) m (l.getD k 0) true)
      have hp3 := hidI (ovP_snoc (l.take k) m (l.getD k 0))
      have htk := hidI (take_snocI2 l k hlt)
      have hkm : k * m.length ≤ 1000000 := by
        have := Nat.mul_le_mul (show k ≤ 1000 by omega) hsm
        omega
      generalize l.getD k 0 = x at *
      generalize hP : prodL (l.take k) m false = P at *
      generalize hQ : prodL (l.take k) m true = Q at *
      generalize hO : ovP (l.take k) m = O at *
      clear hP hQ hO
      generalize hK : k * m.length = K at *
      replace hK := hidI hK
      go_wp2
      go_loopw [7, 8, 21] (fun v1 v2 i wr => ∃ j : Nat, j ≤ m.length ∧ i = .int .i64 j ∧ Below w.heap.size (orCell w p (O || (m.take j).any fun y => ovI (fmul x y false) || ovI (fmul x y true))) wr ∧ wr.heap[w.heap.size]? = some (.cells #[.int .i64 0, .int .i64 0] 25 (0, 0)) ∧ wr.ownsRow (w.heap.size + 1) 3 1 v1 (K + j) (encI (P ++ (m.take j).map fun y => clampI (fmul x y false))) ∧ wr.ownsRow (w.heap.size + 1) 3 1 v2 (K + j) (encI (Q ++ (m.take j).map fun y => clampI (fmul x y true))) ∧ (v1.ownBlock = none ∨ v1.ownBlock ≠ v2.ownBlock)) (fun _ _ i _ => m.length - (intOf i).toNat)
      case atStart => exact ⟨0, by omega, rfl, by simp only [List.take_zero, List.any_nil, Bool.or_false]; exact hB, hr, by simp only [List.take_zero, List.map_nil, List.append_nil, Nat.add_zero]; exact ho1, by simp only [List.take_zero, List.map_nil, List.append_nil, Nat.add_zero]; exact ho2, hne⟩
      case round =>
        obtain ⟨j, hj, rfl, hB, hr, ho1, ho2, hne⟩ := hrel
        by_cases hjt : j < m.length
        · obtain ⟨b2, off2, rfl, hc2⟩ := (hm.acc hp hB).at hjt
          have hyr := him.getD j
          have hE := take_snocI2 m j hjt
          have q1 := hidI (show P ++ (m.take (j + 1)).map (fun y => clampI (fmul x y false)) = (P ++ (m.take j).map (fun y => clampI (fmul x y false))) ++ [clampI (fmul x (m.getD j 0) false)] by rw [hE]; simp)
          have q2 := hidI (show Q ++ (m.take (j + 1)).map (fun y => clampI (fmul x y true)) = (Q ++ (m.take j).map (fun y => clampI (fmul x y true))) ++ [clampI (fmul x (m.getD j 0) true)] by rw [hE]; simp)
          have q3 := hidI (show (O || (m.take (j + 1)).any fun y => ovI (fmul x y false) || ovI (fmul x y true)) = (((O || (m.take j).any fun y => ovI (fmul x y false) || ovI (fmul x y true)) || ovI (fmul x (m.getD j 0) false)) || ovI (fmul x (m.getD j 0) true)) by rw [hE]; simp [Bool.or_assoc])
          clear hE
          generalize (O || (m.take j).any fun y => ovI (fmul x y false) || ovI (fmul x y true)) = O1 at *
          generalize P ++ (m.take j).map (fun y => clampI (fmul x y false)) = E1 at *
          generalize Q ++ (m.take j).map (fun y => clampI (fmul x y true)) = E2 at *
          generalize m.getD j 0 = y at *
          have hacc := hp.or hB
          have hn : K + j ≤ 2000000 := by omega
          go_wp2_with (first | (go_at_call 103; refine (acc_calls _ _).mono ?_; rintro e w9 ⟨rfl, rfl⟩) | fail)
          refine (Mul_calls p x y false _ _ hacc hxr.1 hxr.2 hyr.1 hyr.2).mono ?_
          rintro e w1 ⟨rfl, hb1⟩
          have hB1 := bl_or2 hB hb1
          have hr1 := blk_acc hb1 hr (hp.ne (Nat.le_refl _))
          have k1 := own_acc ho1 hb1 (fun q h => hp.ne (by have := own_row ho1 q h; omega))
          have k2 := own_acc ho2 hb1 (fun q h => hp.ne (by have := own_row ho2 q h; omega))
          clear hb1 hB hr ho1 ho2 hacc hc2 hc hl hm
          go_wp2_with (first | (at_builtin; refine list_ap (by rfl) _ _ _ (by rfl) (w.heap.size + 1) 3 _ 1 8 Try.underlying23 infoI rfl (by omega) u7 (K + j) (encI E1) (by rfl) ?ho _ [.int .i64 (clampI (fmul x y false))] (by rfl) rfl ?hG (by simp [Value.oneCell']) (by omega) (by omega) ?hB ?_; (case ho => exact own_alloc k1 _); (case hG => exact blk_new _ _); (case hB => (have h_ := blk_lt hr1; simp; omega)); intro g1 c1 w2 hown1 hgrow1 hat1 hlt1) | (go_at_call 103; refine (acc_calls _ _).mono ?_; rintro e w9 ⟨rfl, rfl⟩) | fail)
          have hB2 := bl_orGrown (bl_orAlloc hB1 (.cells #[.int .i64 (clampI (fmul x y false))] 3)) hgrow1 (fun q h => by have := own_row k1 q h; omega)
          have hr2 := blk_grown (blk_alloc hr1 (.cells #[.int .i64 (clampI (fmul x y false))] 3)) hgrow1 (fun e => by have := own_row k1 _ e.symm; omega)
          have a1 := apart_ap k1 k2 hne (by first | omega | (simp; done) | (simp; omega)) hat1
          have k3 := own_grown (own_alloc k2 (.cells #[.int .i64 (clampI (fmul x y false))] 3)) hgrow1 (apart_symm hne)
          clear k1 k2 hne hr1 hB1 hgrow1 hat1
          have hacc2 := hp.or hB2
          refine (Mul_calls p x y true _ _ hacc2 hxr.1 hxr.2 hyr.1 hyr.2).mono ?_
          rintro e w3 ⟨rfl, hb3⟩
          have hB3 := bl_or2 hB2 hb3
          have hr3 := blk_acc hb3 hr2 (hp.ne (Nat.le_refl _))
          have k4 := own_acc hown1 hb3 (fun q h => hp.ne (by have := own_row hown1 q h; omega))
          have k5 := own_acc k3 hb3 (fun q h => hp.ne (by have := own_row k3 q h; omega))
          have hlt3 := (own_lt k4 g1 rfl).2
          clear hb3 hB2 hr2 hown1 k3 hacc2 hlt1
          go_wp2_with (first | (at_builtin; refine list_ap (by rfl) _ _ _ (by rfl) (w.heap.size + 1) 3 _ 1 8 Try.underlying23 infoI rfl (by omega) u8 (K + j) (encI E2) (by rfl) ?ho _ [.int .i64 (clampI (fmul x y true))] (by rfl) rfl ?hG (by simp [Value.oneCell']) (by omega) (by omega) ?hB ?_; (case ho => exact own_alloc k5 _); (case hG => exact blk_new _ _); (case hB => (have h_ := blk_lt hr3; simp; omega)); intro g2 c2 w4 hown2 hgrow2 hat2 hlt2) | fail)
          have hB4 := bl_orGrown (bl_orAlloc hB3 (.cells #[.int .i64 (clampI (fmul x y true))] 3)) hgrow2 (fun q h => by have := own_row k5 q h; omega)
          have hr4 := blk_grown (blk_alloc hr3 (.cells #[.int .i64 (clampI (fmul x y true))] 3)) hgrow2 (fun e => by have := own_row k5 _ e.symm; omega)
          have b1 := apart_flip (n := K + j + 1) (c := c1) a1
          have a2 := apart_ap2 (n := K + j + 1) (m := K + j + 1) (c := c1) (d := c2) a1 (by first | omega | (simp; done) | (simp; omega)) hat2
          have k6 := own_grown (own_alloc k4 (.cells #[.int .i64 (clampI (fmul x y true))] 3)) hgrow2 b1
          go_roundw
          case rel => exact ⟨j + 1, by omega, by go_num, by rw [q3.out]; exact hB4, hr4, by rw [q1.out, encI_snoc]; exact k6, by rw [q2.out, encI_snoc]; exact hown2, a2⟩
          case measure => simp [intOf]; omega
        · have hjl : j = m.length := by omega
          subst hjl
          rw [List.take_length] at hB ho1 ho2
          go_wp2
          go_roundw
          case rel => exact ⟨k + 1, by omega, by go_num, by rw [htk.out, hp3.out]; exact hB, hr, by rw [htk.out, hp1.out, Nat.succ_mul, hK.out]; exact ho1, by rw [htk.out, hp2.out, Nat.succ_mul, hK.out]; exact ho2, hne⟩
          case measure => simp [intOf]; omega
    · have hkl : k = l.length := by omega
      subst hkl
      rw [List.take_length] at ho1 ho2 hB
      obtain ⟨A1, c1, rfl, hr1⟩ := own_readsI ho1
      obtain ⟨A2, c2, rfl, hr2⟩ := own_readsI ho2
      have m1 := blk_two hr
      go_wp2_with fail
      refine (Min_calls _ _ _ _ hr1).mono ?_
      rintro e w2 ⟨rfl, rfl⟩
      go_wp2_with fail
      refine (Max_calls _ _ _ _ hr2).mono ?_
      rintro e w3 ⟨rfl, rfl⟩
      go_wp2
      refine bodyPost_ret (results_cell_row rfl _ _ (w.heap.size) 25 #[.int .i64 (minL (prodL l m false)), .int .i64 (maxL (prodL l m true))] (0, 0) _ rfl (by (repeat (first | with_reducible assumption | with_reducible exact blk_new _ _ | with_reducible apply blk_drew | (with_reducible refine blk_newE ?_; (first | done | (simp; done))) | with_reducible apply blk_put2 | (with_reducible refine blk_far ?_ (by first | omega | (simp; done) | (simp; omega)) _) | with_reducible apply blk_alloc | (with_reducible refine bl_block (by assumption) ?_) | (with_reducible refine blk_grown ?_ (by assumption) (by assumption)) | (with_reducible refine blk_acc (by assumption) ?_ (by assumption))))) Try.underlying25 rfl (by kernel_rfl)) rfl ?_
      exact ⟨rfl, bl_orSet (bl_orSet hB (Nat.le_refl _) _) (Nat.le_refl _) _⟩
end Go.Proofs.Ythdaidmjjcmccaa
