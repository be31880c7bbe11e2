/- Proved here: lemmas and contracts (what a function of the program computes) that the proofs of the laws of this seat lean on. Conditions: as each theorem states. -/
import Derived.Test.YtjidbjmekpholaaAdS
import Derived.Test.YtjidbjmekpholaaFxp
import Derived.Test.YtjidbjmekpholaaAdB
import Derived.Laws.BitsAllLaws
set_option linter.unusedVariables false
set_option linter.unusedSimpArgs false
namespace Go.Pk.Ad
open Go.RowKit
theorem i64_or_low (a b : Int) (ha : 0 ≤ a) (ha2 : a < 1099511627776) (hb0 : 0 ≤ b) (hb : b < 256) : Go.bits .or .i64 (a * 256) b = a * 256 + b := by
  obtain ⟨A, rfl⟩ := Int.eq_ofNat_of_zero_le ha
  obtain ⟨B, rfl⟩ := Int.eq_ofNat_of_zero_le hb0
  have e : (A : Int) * 256 = ((A * 256 : Nat) : Int) := by simp
  rw [e]
  have hor : (A * 256) ||| B = A * 256 + B := by
    have h := Nat.shiftLeft_add_eq_or_of_lt (i := 8) (show B < 2 ^ 8 by omega) A
    rw [Nat.shiftLeft_eq] at h
    exact h.symm
  show IntKind.i64.wrap ((BitVec.ofInt 64 ((A * 256 : Nat) : Int) ||| BitVec.ofInt 64 (B : Int)).toNat : Int) = _
  rw [BitVec.toNat_or, ofInt_u64 _ (by omega), ofInt_u64 B (by omega), hor, IntWalk.i64_left]
  unfold wrap64
  omega
end Go.Pk.Ad
namespace Go.Proofs.Ytjidbjmekpholaa
open Go.RowKit Go.Pk Go.Pk.Ad Go.Pk.Fx Go.Proofs.YtjidbjmekpholaaW.PrintMore
theorem bt_strOf5 (v : Int) (j : Nat) (h : j < 5) : Go.Proofs.YtjidbjmekpholaaW.PrintWords.bt (strOfNums (putL v 5)) j = (v / 256 ^ (4 - j)) % 256 := by
  rw [Go.Proofs.Ytjidbjmekpholaa.AdB.bt_strOf]
  · rw [Int.toNat_natCast]
    simp [putL, List.getD_eq_getElem?_getD, h]
  · intro x hx
    simp only [putL, List.mem_map] at hx
    obtain ⟨i, -, rfl⟩ := hx
    omega
  · rw [Int.toNat_natCast]; simpa [putL] using h
set_option maxRecDepth 100000 in
set_option maxHeartbeats 100000000 in
/-- Five bytes, the first one 0. -/
theorem refGet5 (v : Int) (w : World) (h0 : 0 ≤ v) (h1 : v < 4294967296) : Calls Try.prog 65 #[.string (strOfNums (putL v 5))] w fun e w' => e = .returned (.tuple #[.int .i64 v, .int .i64 0]) ∧ Below w.heap.size w w' := by
  obtain ⟨S, hS⟩ : ∃ S, Hid (strOfNums (putL v 5) = S) := ⟨_, rfl⟩
  have hsz : S.size = 5 := by rw [← hS.out]; simp [strOfNums, putL, ByteArray.size]
  have hat : ∀ j (h : j < 5), ((S[j]'(by omega)).toNat : Int) = (v / 256 ^ (4 - j)) % 256 := by
    intro j hj
    have e := bt_strOf5 v j hj
    rw [hS.out] at e
    unfold Go.Proofs.YtjidbjmekpholaaW.PrintWords.bt at e
    rw [Int.toNat_natCast, dif_pos (by omega)] at e
    exact e
  have d0 : decide ((128 : Int) ≤ (S[0].toNat : Int)) = false := decide_eq_false (by rw [hat 0 (by omega)]; simp; omega)
  have HAT := hidI hat
  clear hat
  rw [hS.out]
  go_enter Try.func65, Try.ntmps65
  go_wp2
  go_loop [4, 5] (fun x i => ∃ k : Nat, k ≤ 5 ∧ i = .int .i64 k ∧ x = .int .i64 (v / 256 ^ (5 - k))) (fun _ i => (5 - intOf i).toNat)
  case atStart => exact ⟨0, by omega, rfl, by simp; omega⟩
  case round =>
    obtain ⟨k, hk, rfl, rfl⟩ := hrel
    by_cases h5 : k < 5
    · have hb := HAT.out k h5
      have hX : (v / 256 ^ (5 - k)) * 256 + (v / 256 ^ (4 - k)) % 256 = v / 256 ^ (5 - (k + 1)) ∧ 0 ≤ v / 256 ^ (5 - k) ∧ v / 256 ^ (5 - k) < 4294967296 := by
        rcases (show k = 0 ∨ k = 1 ∨ k = 2 ∨ k = 3 ∨ k = 4 by omega) with rfl | rfl | rfl | rfl | rfl <;> simp <;> omega
      have hN : 0 ≤ (v / 256 ^ (4 - k)) % 256 ∧ (v / 256 ^ (4 - k)) % 256 < 256 := by omega
      generalize (v / 256 ^ (4 - k)) % 256 = nb at *
      generalize v / 256 ^ (5 - k) = X at *
      obtain ⟨hX, x0, x1⟩ := hX
      have hw1 : wrap64 (X * 256) = X * 256 := w64 (by omega) (by omega)
      have hw2 : wrap64 nb = nb := w64 (by omega) (by omega)
      have hor := i64_or_low X nb x0 (by omega) hN.1 hN.2
      have hlt : decide ((k : Int) < 5) = true := decide_eq_true (by omega)
      go_wp2
      go_round
      case rel =>
        refine ⟨k + 1, by omega, by go_num, ?_⟩
        rw [show 5 - (k + 1) = 4 - k by omega]
      case measure => simp [intOf]; omega
    · obtain rfl : k = 5 := by omega
      go_wp2
      go_ret2
      exact ⟨by simp, Below.refl _ _⟩
set_option maxRecDepth 100000 in
set_option maxHeartbeats 100000000 in
theorem refPut5 (v : Int) (w : World) (h0 : 0 ≤ v) (h1 : v < 4294967296) : Calls Try.prog 48 #[.int .i64 v, .int .i64 5] w fun e w' => e = .returned (.tuple #[.string (strOfNums (putL v 5)), .int .i64 0]) ∧ Below w.heap.size w w' := by
  obtain ⟨ib, hib, hz0, hz1, hz2⟩ := info_parts fxInfoB
  go_enter Try.func48, Try.ntmps48
  have hmk : ∀ W : World, (Instr.makeSlice 35 (.int .i64 5) (.int .i64 5)).run Try.prog W = .ok (.slice (some ⟨W.heap.size, 0, none⟩) 5 5) (W.alloc (.cells (contA v 5 0) 5)) := by
    intro W
    have h := run_make (P := Try.prog) W 35 5 ib (.int .u8 0) Try.underlying35 hib hz0 .i64 .i64 5 5 (by omega) (by omega) (by rw [hz2]; omega) (by omega)
    rw [h, hz1, contA_zero]
    have e := made_rep (.int .u8 0) 5
    simp only [Value.cells, Nat.mul_one]
    show Result.ok _ (W.alloc (.cells (madeCells #[.int .u8 0] 5) 5)) = _
    rw [e]
    rfl
  go_wp2
  clear hmk
  go_loopw [7, 8] (fun x i wr => ∃ k : Nat, k ≤ 5 ∧ i = .int .i64 (4 - (k : Int)) ∧ x = .int .i64 (v / 256 ^ k) ∧ Below w.heap.size w wr ∧ wr.heap[w.heap.size]? = some (.cells (contA v 5 k) 5 (0, 0))) (fun _ i _ => (intOf i + 1).toNat)
  case atStart => exact ⟨0, by omega, by simp, by simp, (by (repeat (first | with_reducible exact Below.refl _ _ | with_reducible assumption | with_reducible apply bl_alloc | with_reducible apply bl_drew | with_reducible apply bl_drewN | (with_reducible refine bl_set ?_ (by first | omega | (simp; done) | (simp; omega)) _) | (with_reducible refine bl_step ?_ (by assumption)) | (with_reducible refine bl_grown ?_ (by assumption) (by assumption)) | (with_reducible refine bl_own ?_ (by assumption) (by assumption))))), blk_new _ _⟩
  case round =>
    obtain ⟨k, hk, rfl, rfl, hbw, hx⟩ := hrel
    by_cases hlt : k < 5
    · have hj : (4 : Int) - k = ((4 - k : Nat) : Int) := by omega
      rw [hj]
      clear hj
      have hc := blkc hx (4 - k)
      rw [contA_at v 5 k _ (by omega)] at hc
      have hz := blkf hx (4 - k)
      have hj5 : 4 - k < 5 := by omega
      go_wp2
      have hF := blk_set hx (4 - k) (.int .u8 ((v / 256 ^ k) % 256))
      rw [show (4 - k) = 5 - 1 - k by omega, contA_set v 5 k (by omega)] at hF
      go_roundw
      case rel => exact ⟨k + 1, by omega, by go_num, by rw [show v / 256 ^ (k + 1) = v / 256 ^ k / 256 by rcases (show k = 0 ∨ k = 1 ∨ k = 2 ∨ k = 3 ∨ k = 4 by omega) with rfl | rfl | rfl | rfl | rfl <;> simp <;> omega], bl_set hbw (by simp) _, hF⟩
      case measure => first | (simp [intOf]; done) | (simp [intOf]; omega)
    · have hk5 : k = 5 := by omega
      subst hk5
      have hown : wr.ownsRow w.heap.size 5 1 (.slice (some ⟨w.heap.size, 0, none⟩) 5 5) 5 ((putL v 5).map (Value.int .u8)) := contA_own v 5 wr hx (by decide)
      have hcv : (convert 35 9 (.slice (some ⟨w.heap.size, 0, none⟩) 5 5)).run Try.prog wr = .ok (.string (strOfNums (putL v 5))) wr := Go.Proofs.YtjidbjmekpholaaW.PrintWords.own_string Try.underlying35 Try.underlying5 Try.underlying9 hown
      have hget := hidI (refGet5 v wr h0 h1)
      obtain ⟨S, hS⟩ : ∃ S, Hid (strOfNums (putL v 5) = S) := ⟨_, rfl⟩
      rw [hS.out] at hcv hget
      go_wp2_with fail
      refine hget.out.mono ?_
      rintro e w1 ⟨rfl, hb1⟩
      have hown1 := own_below hown hb1
      have hcv1 : (convert 35 9 (.slice (some ⟨w.heap.size, 0, none⟩) 5 5)).run Try.prog w1 = .ok (.string S) w1 := by rw [← hS.out]; exact Go.Proofs.YtjidbjmekpholaaW.PrintWords.own_string Try.underlying35 Try.underlying5 Try.underlying9 hown1
      go_wp2
      go_ret2
      exact ⟨by rw [hS.out]; rfl, bl_step hbw hb1⟩
end Go.Proofs.Ytjidbjmekpholaa
