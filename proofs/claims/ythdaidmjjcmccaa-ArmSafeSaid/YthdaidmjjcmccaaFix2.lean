/- Proved here: lemmas and contracts (what a function of the program computes) that the proofs of the laws of this seat lean on. Conditions: as each theorem states. -/
import Derived.Test.YthdaidmjjcmccaaFix
import Derived.Shelf.Bits.Mul64
set_option linter.unusedVariables false
set_option linter.unusedSimpArgs false
namespace Go.Proofs.Ythdaidmjjcmccaa
open Go.RowKit Go.Pk

theorem Clamp_calls (x lo hi : Int) (w : World) :
    Calls Try.prog 22 #[.int .i64 x, .int .i64 lo, .int .i64 hi] w fun e w' => e = .returned (.int .i64 (clampTo x lo hi)) ∧ w' = w := by
  have d : clampTo x lo hi = if hi < x then hi else if x < lo then lo else x := rfl
  by_cases h1 : hi < x
  · rw [d, if_pos h1]; clear d
    go_enter Try.func22, Try.ntmps22
    go_wp2
    go_ret
    exact ⟨rfl, rfl⟩
  · rw [d, if_neg h1]; clear d
    by_cases h2 : x < lo
    · rw [if_pos h2]
      go_enter Try.func22, Try.ntmps22
      go_wp2
      go_ret
      exact ⟨rfl, rfl⟩
    · rw [if_neg h2]
      go_enter Try.func22, Try.ntmps22
      go_wp2
      go_ret
      exact ⟨rfl, rfl⟩
theorem Sub_calls (p : Option Addr) (x y : Int) (o : Bool) (w : World) (hp : AccAt w p o) (hx0 : -9223372036854775808 ≤ x) (hx1 : x ≤ 9223372036854775807) (hy0 : -9223372036854775808 ≤ y) (hy1 : y ≤ 9223372036854775807) :
    Calls Try.prog 122 #[.pointer p, .int .i64 x, .int .i64 y] w fun e w' =>
      e = .returned (.int .i64 (clampI (x - y))) ∧ Below w.heap.size (orCell w p (ovI (x - y))) w' := by
  go_enter Try.func122, Try.ntmps122
  go_wp2_with fail
  refine (of_calls _ _ hx0 hx1).mono ?_
  rintro e w1 ⟨rfl, hb1⟩
  go_wp2_with fail
  refine (of_calls _ _ hy0 hy1).mono ?_
  rintro e w2 ⟨rfl, hb2⟩
  go_wp2_with fail
  refine (neg_calls _ _).mono ?_
  rintro e w3 ⟨rfl, hb3⟩
  go_wp2_with fail
  refine (plus_calls _ _ _).mono ?_
  rintro e w4 ⟨rfl, hb4⟩
  go_wp2_with fail
  refine (fits_calls _ _ o _ ?_ ?_ ?_).mono ?_
  · exact AccAt.below hp (by (repeat (first | with_reducible exact Below.refl _ _ | with_reducible assumption | with_reducible apply bl_alloc | with_reducible apply bl_drew | with_reducible apply bl_drewN | (with_reducible refine bl_set ?_ (by first | omega | (simp; done) | (simp; omega)) _) | (with_reducible refine bl_step ?_ (by assumption)) | (with_reducible refine bl_grown ?_ (by assumption) (by assumption)) | (with_reducible refine bl_own ?_ (by assumption) (by assumption)))))
  · omega
  · omega
  rintro e w5 ⟨rfl, hb5⟩
  go_wp2
  go_ret
  rw [← Int.sub_eq_add_neg] at hb5 ⊢
  exact ⟨rfl, bl_thenOr (by (repeat (first | with_reducible exact Below.refl _ _ | with_reducible assumption | with_reducible apply bl_alloc | with_reducible apply bl_drew | with_reducible apply bl_drewN | (with_reducible refine bl_set ?_ (by first | omega | (simp; done) | (simp; omega)) _) | (with_reducible refine bl_step ?_ (by assumption)) | (with_reducible refine bl_grown ?_ (by assumption) (by assumption)) | (with_reducible refine bl_own ?_ (by assumption) (by assumption))))) hb5⟩
theorem Mul64_calls (x y : Nat) (hx : x < 18446744073709551616) (hy : y < 18446744073709551616) (w : World) :
    Calls Try.prog 104 #[.int .u64 x, .int .u64 y] w fun e w' => e = .returned (.tuple #[.int .u64 ((x * y / 18446744073709551616 : Nat) : Int), .int .u64 ((x * y % 18446744073709551616 : Nat) : Int)]) ∧ w' = w := by
  obtain ⟨bd, bt, bw, hhi⟩ := Lib.mul64_hi x y hx hy
  have ba := Lib.half_mul_le (a := x / 4294967296) (b := y / 4294967296) (by omega) (by omega)
  have bb := Lib.half_mul_le (a := x / 4294967296) (b := y % 4294967296) (by omega) (by omega)
  have bc := Lib.half_mul_le (a := x % 4294967296) (b := y / 4294967296) (by omega) (by omega)
  have ba' : x / 4294967296 * (y / 4294967296) < 18446744073709551616 := by omega
  have bb' : x / 4294967296 * (y % 4294967296) < 18446744073709551616 := by omega
  have bc' : x % 4294967296 * (y / 4294967296) < 18446744073709551616 := by omega
  have bh1 : x / 4294967296 * (y / 4294967296) + (x / 4294967296 * (y % 4294967296) + x % 4294967296 * (y % 4294967296) / 4294967296) / 4294967296 < 18446744073709551616 := by omega
  have bh : x / 4294967296 * (y / 4294967296) + (x / 4294967296 * (y % 4294967296) + x % 4294967296 * (y % 4294967296) / 4294967296) / 4294967296 + ((x / 4294967296 * (y % 4294967296) + x % 4294967296 * (y % 4294967296) / 4294967296) % 4294967296 + x % 4294967296 * (y / 4294967296)) / 4294967296 < 18446744073709551616 := by omega
  go_enter Try.func104, Try.ntmps104
  go_wp2
  simp only [Mul64.maskN x hx, Mul64.maskN y hy, Mul64.divN, Mul64.mulN, Mul64.addN, Mul64.wrapN _ bd, Mul64.wrapN _ bb', Mul64.wrapN _ bt, Mul64.maskN _ bt, Mul64.wrapN _ bc', Mul64.wrapN _ bw, Mul64.wrapN _ ba', Mul64.wrapN _ bh1, Mul64.wrapN _ bh, Mul64.wrapM (x * y)]
  rw [hhi]
  go_ret2
  exact ⟨rfl, rfl⟩
theorem size_calls (x : Int) (w : World) (h0 : -9223372036854775808 ≤ x) (h1 : x ≤ 9223372036854775807) :
    Calls Try.prog 105 #[.int .i64 x] w fun e w' => e = .returned (.int .u64 (x.natAbs : Int)) ∧ w' = w := by
  by_cases h : x < 0
  · go_enter Try.func105, Try.ntmps105
    go_wp2
    go_ret
    refine ⟨?_, rfl⟩
    show Ending.returned (.int .u64 _) = Ending.returned (.int .u64 _)
    congr 2
    unfold IntKind.wrap
    simp [IntKind.signed, IntKind.bits]
    omega
  · go_enter Try.func105, Try.ntmps105
    go_wp2
    go_ret
    refine ⟨?_, rfl⟩
    show Ending.returned (.int .u64 _) = Ending.returned (.int .u64 _)
    congr 2
    omega
theorem rounded_calls (p : Option Addr) (m : Int) (rest below up : Bool) (o : Bool) (w : World) (hp : AccAt w p o) (h0 : 0 ≤ m) (h1 : m < 85070591730234615865843651857942052864) :
    Calls Try.prog 106 #[.pointer p, .agg #[.int .u64 (whi m), .int .u64 (wlo m)], .bool rest, .bool below, .bool up] w fun e w' =>
      e = .returned (.int .i64 (clampI (roundTo m rest below up))) ∧ Below w.heap.size (orCell w p (ovI (roundTo m rest below up))) w' := by
  cases rest <;> cases below <;> cases up
  all_goals simp only [roundTo, Bool.false_and, Bool.true_and, bne_self_eq_false, Bool.false_eq_true, if_false, if_true, Bool.bne_false, Bool.bne_true, Bool.not_false, Bool.not_true, Int.add_zero]
  all_goals
    go_enter Try.func106, Try.ntmps106
    go_wp2_with (first | (go_at_call 81; refine (plus_any _ _ 0 1 _ (whi_rng m).1 (wlo_rng m).1 (by omega) (by omega) (wlo_rng m).2 (by omega)).mono ?_; rintro e w2 ⟨rfl, hb2⟩; simp only [whi_inc, wlo_inc]; have hk2 := bl_block hb2 (blk_new _ _); obtain ⟨he0, he1, hh0, hh1⟩ := blk_two hk2) | (go_at_call 121; refine (neg_calls _ _).mono ?_; rintro e w3 ⟨rfl, hb3⟩; have hk3 := bl_block (g := w.heap.size) (o := .cells #[.int .u64 (whi _), .int .u64 (wlo _)] 139 (0, 0)) hb3 (by first | exact blk_put2 hk2 _ _ | exact blk_new _ _); obtain ⟨hi0, hi1, hj0, hj1⟩ := blk_two hk3) | (go_at_call 83; refine (fits_calls _ _ o _ ?_ ?_ ?_).mono ?_; exact AccAt.below hp (by (repeat (first | with_reducible exact Below.refl _ _ | with_reducible assumption | with_reducible apply bl_alloc | with_reducible apply bl_drew | with_reducible apply bl_drewN | (with_reducible refine bl_set ?_ (by first | omega | (simp; done) | (simp; omega)) _) | (with_reducible refine bl_step ?_ (by assumption)) | (with_reducible refine bl_grown ?_ (by assumption) (by assumption)) | (with_reducible refine bl_own ?_ (by assumption) (by assumption))))); omega; omega; rintro e w5 ⟨rfl, hb5⟩))
    go_ret
    exact ⟨rfl, bl_thenOr (by (repeat (first | with_reducible exact Below.refl _ _ | with_reducible assumption | with_reducible apply bl_alloc | with_reducible apply bl_drew | with_reducible apply bl_drewN | (with_reducible refine bl_set ?_ (by first | omega | (simp; done) | (simp; omega)) _) | (with_reducible refine bl_step ?_ (by assumption)) | (with_reducible refine bl_grown ?_ (by assumption) (by assumption)) | (with_reducible refine bl_own ?_ (by assumption) (by assumption))))) hb5⟩
set_option maxHeartbeats 1000000 in
theorem Mul_calls (p : Option Addr) (x y : Int) (up : Bool) (o : Bool) (w : World) (hp : AccAt w p o) (hx0 : -9223372036854775808 ≤ x) (hx1 : x ≤ 9223372036854775807) (hy0 : -9223372036854775808 ≤ y) (hy1 : y ≤ 9223372036854775807) :
    Calls Try.prog 68 #[.pointer p, .int .i64 x, .int .i64 y, .bool up] w fun e w' =>
      e = .returned (.int .i64 (clampI (fmul x y up))) ∧ Below w.heap.size (orCell w p (ovI (fmul x y up))) w' := by
  have hX : x.natAbs ≤ 9223372036854775808 := by omega
  have hY : y.natAbs ≤ 9223372036854775808 := by omega
  have hN : x.natAbs * y.natAbs ≤ 85070591730234615865843651857942052864 := Nat.mul_le_mul hX hY
  have h1 := wide_mul_hi (x.natAbs * y.natAbs) (by omega)
  have h2 := wide_mul_lo (x.natAbs * y.natAbs)
  have h3 := wide_mul_rest (x.natAbs * y.natAbs)
  rw [Int.natCast_ediv, Int.natCast_mul] at h1
  rw [Int.natCast_ediv, Int.natCast_emod, Int.natCast_mul] at h2
  rw [Int.natCast_emod, Int.natCast_mul] at h3
  simp only [Int.cast_ofNat_Int] at h1 h2 h3
  have H1 : Hid _ := h1
  have H2 : Hid _ := h2
  have H3 : Hid _ := h3
  clear h1 h2 h3
  have H4 : Hid (roundTo _ _ (!decide (x < 0) == decide (y < 0)) up = _) := mul_round x y up
  go_enter Try.func68, Try.ntmps68
  go_wp2_with fail
  refine (size_calls _ _ hx0 hx1).mono ?_
  rintro e w1 ⟨rfl, hw1⟩
  obtain rfl := hw1
  go_wp2_with fail
  refine (size_calls _ _ hy0 hy1).mono ?_
  rintro e w2 ⟨rfl, hw2⟩
  obtain rfl := hw2
  go_wp2_with fail
  refine (Mul64_calls _ _ (by omega) (by omega) _).mono ?_
  rintro e w3 ⟨rfl, hw3⟩
  obtain rfl := hw3
  go_wp2_with fail
  rw [H1.out, H2.out, H3.out]
  refine (rounded_calls _ _ _ _ _ o _ ?_ ?_ ?_).mono ?_
  · exact AccAt.below hp (by (repeat (first | with_reducible exact Below.refl _ _ | with_reducible assumption | with_reducible apply bl_alloc | with_reducible apply bl_drew | with_reducible apply bl_drewN | (with_reducible refine bl_set ?_ (by first | omega | (simp; done) | (simp; omega)) _) | (with_reducible refine bl_step ?_ (by assumption)) | (with_reducible refine bl_grown ?_ (by assumption) (by assumption)) | (with_reducible refine bl_own ?_ (by assumption) (by assumption)))))
  · omega
  · omega
  rintro e w4 ⟨rfl, hb4⟩
  rw [H4.out] at hb4 ⊢
  go_wp2
  go_ret
  exact ⟨rfl, bl_thenOr (by (repeat (first | with_reducible exact Below.refl _ _ | with_reducible assumption | with_reducible apply bl_alloc | with_reducible apply bl_drew | with_reducible apply bl_drewN | (with_reducible refine bl_set ?_ (by first | omega | (simp; done) | (simp; omega)) _) | (with_reducible refine bl_step ?_ (by assumption)) | (with_reducible refine bl_grown ?_ (by assumption) (by assumption)) | (with_reducible refine bl_own ?_ (by assumption) (by assumption))))) hb4⟩
theorem Max_calls (A : Option Addr) (l : List Int) (c : Nat) (w : World) (hl : RdI w A l) :
    Calls Try.prog 120 #[.slice A l.length c] w fun e w' => e = .returned (.int .i64 (maxL l)) ∧ w' = w := by
  have hlen := hl.1
  go_enter Try.func120, Try.ntmps120
  go_wp2
  go_loop [3, 4, 5, 8] (fun m j x i => ∃ k : Nat, k ≤ l.length ∧ i = .int .i64 k ∧ m = .int .i64 (maxL (l.take k))) (fun _ _ _ i => l.length - (intOf i).toNat)
  case atStart => exact ⟨0, by omega, rfl, rfl⟩
  case round =>
    obtain ⟨k, hk, rfl, rfl⟩ := hrel
    by_cases hlt : k < l.length
    · obtain ⟨b, off, rfl, hc⟩ := hl.at hlt
      by_cases hz : k = 0
      · subst hz
        have hm : Hid (maxL (l.take (0 + 1)) = l.getD 0 0) := by rw [take_snocD l 0 hlt]; exact maxL_one _
        rw [Nat.add_zero] at hc
        generalize l.getD 0 0 = x at hc hm
        go_wp2
        go_round
        case rel => exact ⟨0 + 1, by omega, by go_num, by rw [hm.out]⟩
        case measure => simp [intOf]; omega
      · have hm : Hid (maxL (l.take (k + 1)) = if maxL (l.take k) < l.getD k 0 then l.getD k 0 else maxL (l.take k)) := by rw [take_snocD l k hlt]; exact maxL_snoc _ _ (take_ne_nil hz hlt)
        have hz1 : ((k : Int) == 0) = false := by rw [beq_eq_false_iff_ne]; omega
        generalize l.getD k 0 = x at hc hm
        generalize maxL (l.take k) = m at hm
        by_cases hg : m < x
        · go_wp2
          go_round
          case rel => exact ⟨k + 1, by omega, by go_num, by rw [hm.out, if_pos hg]⟩
          case measure => simp [intOf]; omega
        · go_wp2
          go_round
          case rel => exact ⟨k + 1, by omega, by go_num, by rw [hm.out, if_neg hg]⟩
          case measure => simp [intOf]; omega
    · have hkl : k = l.length := by omega
      subst hkl
      rw [List.take_length]
      go_wp2
      go_ret
      exact ⟨rfl, rfl⟩
theorem Min_calls (A : Option Addr) (l : List Int) (c : Nat) (w : World) (hl : RdI w A l) :
    Calls Try.prog 119 #[.slice A l.length c] w fun e w' => e = .returned (.int .i64 (minL l)) ∧ w' = w := by
  have hlen := hl.1
  go_enter Try.func119, Try.ntmps119
  go_wp2
  go_loop [3, 4, 5, 8] (fun m j x i => ∃ k : Nat, k ≤ l.length ∧ i = .int .i64 k ∧ m = .int .i64 (minL (l.take k))) (fun _ _ _ i => l.length - (intOf i).toNat)
  case atStart => exact ⟨0, by omega, rfl, rfl⟩
  case round =>
    obtain ⟨k, hk, rfl, rfl⟩ := hrel
    by_cases hlt : k < l.length
    · obtain ⟨b, off, rfl, hc⟩ := hl.at hlt
      by_cases hz : k = 0
      · subst hz
        have hm : Hid (minL (l.take (0 + 1)) = l.getD 0 0) := by rw [take_snocD l 0 hlt]; exact minL_one _
        rw [Nat.add_zero] at hc
        generalize l.getD 0 0 = x at hc hm
        go_wp2
        go_round
        case rel => exact ⟨0 + 1, by omega, by go_num, by rw [hm.out]⟩
        case measure => simp [intOf]; omega
      · have hm : Hid (minL (l.take (k + 1)) = if l.getD k 0 < minL (l.take k) then l.getD k 0 else minL (l.take k)) := by rw [take_snocD l k hlt]; exact minL_snoc _ _ (take_ne_nil hz hlt)
        have hz1 : ((k : Int) == 0) = false := by rw [beq_eq_false_iff_ne]; omega
        generalize l.getD k 0 = x at hc hm
        generalize minL (l.take k) = m at hm
        by_cases hg : x < m
        · go_wp2
          go_round
          case rel => exact ⟨k + 1, by omega, by go_num, by rw [hm.out, if_pos hg]⟩
          case measure => simp [intOf]; omega
        · go_wp2
          go_round
          case rel => exact ⟨k + 1, by omega, by go_num, by rw [hm.out, if_neg hg]⟩
          case measure => simp [intOf]; omega
    · have hkl : k = l.length := by omega
      subst hkl
      rw [List.take_length]
      go_wp2
      go_ret
      exact ⟨rfl, rfl⟩
end Go.Proofs.Ythdaidmjjcmccaa
