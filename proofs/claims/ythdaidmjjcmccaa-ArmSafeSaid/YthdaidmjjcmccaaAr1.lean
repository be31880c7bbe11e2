/- Proved here: lemmas and contracts (what a function of the program computes) that the proofs of the laws of this seat lean on. Conditions: as each theorem states. -/
import Derived.Test.YthdaidmjjcmccaaKimp
import Derived.Test.YthdaidmjjcmccaaPl1
set_option linter.unusedVariables false
set_option linter.unusedSimpArgs false
namespace Go.Pk
open Go.RowKit
/-! Eight bytes as a number. -/
def byK (b : ByteArray) (k : Nat) : Int := if h : k < b.size then ((b[k]'h).toNat : Int) else 0
def getK (b : ByteArray) : Nat → Int
  | 0 => wrap64 (IntKind.i8.wrap (byK b 0))
  | k + 1 => bits .or .i64 (wrap64 (getK b k * 256)) (byK b (k + 1))
theorem byK_eq (b : ByteArray) (k : Nat) (h : k < b.size) : ((b[k]'h).toNat : Int) = byK b k := by unfold byK; rw [dif_pos h]
theorem byK_rng (b : ByteArray) (k : Nat) : 0 ≤ byK b k ∧ byK b k ≤ 255 := by
  unfold byK
  split
  · rename_i h; have := (b[k]'h).toNat_lt; omega
  · omega
theorem bits_or_rng (a c : Int) : -9223372036854775808 ≤ bits .or .i64 a c ∧ bits .or .i64 a c ≤ 9223372036854775807 := by
  show -9223372036854775808 ≤ IntKind.i64.wrap _ ∧ IntKind.i64.wrap _ ≤ 9223372036854775807
  rw [IntKind.wrap_i64]
  omega
theorem getK_rng (b : ByteArray) (k : Nat) : -9223372036854775808 ≤ getK b k ∧ getK b k ≤ 9223372036854775807 := by
  cases k with
  | zero => unfold getK wrap64; omega
  | succ k => exact bits_or_rng _ _
def cmdU (b : ByteArray) : Int := if b.size = 8 then getK b 7 else 0
def cmdE (b : ByteArray) : Int := if b.size = 8 then 0 else 4
theorem cmdU_rng (b : ByteArray) : -9223372036854775808 ≤ cmdU b ∧ cmdU b ≤ 9223372036854775807 := by
  unfold cmdU
  split
  · exact getK_rng _ _
  · omega
end Go.Pk
namespace Go.Proofs.Ythdaidmjjcmccaa
open Go.RowKit Go.Pk Go.Proofs.YthdaidmjjcmccaaW.PrintLast
set_option maxHeartbeats 4000000 in
set_option maxRecDepth 100000 in
theorem Get_calls (b : ByteArray) (w : World) (h8 : b.size = 8) :
    Calls Try.prog 115 #[.string b] w fun e w' => e = .returned (.tuple #[.int .i64 (getK b 7), .int .i64 0]) ∧ w' = w := by
  have ha : b.size ≤ 8 := by omega
  have hb : 8 ≤ b.size := by omega
  have h0 := byK_eq b 0 (by omega)
  have hr := byK_rng b 0
  obtain ⟨r, hgr⟩ : ∃ z, Hid (getK b 7 = z) := ⟨_, rfl⟩
  rw [hgr.out]
  replace h8 := hidI h8
  have hk0 : getK b 0 = wrap64 (IntKind.i8.wrap (byK b 0)) := rfl
  replace hk0 := hidI hk0
  go_enter Try.func115, Try.ntmps115
  go_wp2
  rw [← hk0.out]
  clear h0 hr hk0
  go_loop [4, 5] (fun v i => ∃ k : Nat, 1 ≤ k ∧ k ≤ 8 ∧ i = .int .i64 k ∧ v = .int .i64 (getK b (k - 1))) (fun _ i => (8 - intOf i).toNat)
  case atStart => exact ⟨1, by omega, by omega, rfl, rfl⟩
  case round =>
    obtain ⟨k, hk1, hk, rfl, rfl⟩ := hrel
    by_cases hlt : k < 8
    · have hd : decide ((k : Int) < 8) = true := decide_eq_true (by omega)
      have hkb : k < b.size := by omega
      have hy := byK_eq b k hkb
      have hr := byK_rng b k
      have hs : getK b k = bits .or .i64 (wrap64 (getK b (k - 1) * 256)) (byK b k) := by
        obtain ⟨j, rfl⟩ : ∃ j, k = j + 1 := ⟨k - 1, by omega⟩
        rfl
      replace hs := hidI hs
      go_wp2
      go_round
      case rel => exact ⟨k + 1, by omega, by omega, by go_num, by rw [Nat.add_sub_cancel, hs.out]⟩
      case measure => simp [intOf]; omega
    · obtain rfl : k = 8 := by omega
      go_wp2
      go_ret2
      exact ⟨by rw [← hgr.out]; first | rfl | simp, rfl⟩
set_option maxHeartbeats 4000000 in
set_option maxRecDepth 100000 in
theorem Command17_calls (b : ByteArray) (w : World) (hmx : b.size ≤ 9223372036854775807) :
    Calls Try.prog 86 #[.string b] w fun e w' => e = .returned (.tuple #[.int .i64 (cmdU b), .int .i64 (cmdE b)]) ∧ w' = w := by
  by_cases h8 : b.size = 8
  · have hU : Hid (cmdU b = getK b 7) := by unfold Hid cmdU; rw [if_pos h8]
    have hE : Hid (cmdE b = 0) := by unfold Hid cmdE; rw [if_pos h8]
    rw [hU.out, hE.out]
    have hG := hidI (Get_calls b w h8)
    have hd : ((b.size : Int) != 8) = false := by simp; omega
    clear hU hE
    generalize getK b 7 = r at *
    replace h8 := hidI h8
    go_enter Try.func86, Try.ntmps86
    go_wp2_with fail
    refine hG.out.mono ?_
    rintro e w1 ⟨rfl, hw1⟩
    subst hw1
    go_wp2
    go_ret2
    exact ⟨rfl, rfl⟩
  · have hU : Hid (cmdU b = 0) := by unfold Hid cmdU; rw [if_neg h8]
    have hE : Hid (cmdE b = 4) := by unfold Hid cmdE; rw [if_neg h8]
    rw [hU.out, hE.out]
    have hd : ((b.size : Int) != 8) = true := by simp; omega
    clear hU hE
    replace h8 := hidI h8
    go_enter Try.func86, Try.ntmps86
    go_wp2
    go_ret2
    exact ⟨rfl, rfl⟩
end Go.Proofs.Ythdaidmjjcmccaa
