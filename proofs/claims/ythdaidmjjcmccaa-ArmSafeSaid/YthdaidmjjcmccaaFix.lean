/- Proved here: lemmas and contracts (what a function of the program computes) that the proofs of the laws of this seat lean on. Conditions: as each theorem states. -/
import Derived.Test.YthdaidmjjcmccaaChecked
import Derived.Test.YthdaidmjjcmccaaA0
import Derived.Test.YthdaidmjjcmccaaM0
set_option linter.unusedVariables false
set_option linter.unusedSimpArgs false
namespace Go.Proofs.Ythdaidmjjcmccaa
open Go.RowKit Go.Pk

theorem of_calls (x : Int) (w : World) (h0 : -9223372036854775808 ≤ x) (h1 : x ≤ 9223372036854775807) :
    Calls Try.prog 82 #[.int .i64 x] w fun e w' =>
      e = .returned (.agg #[.int .u64 (whi x), .int .u64 (wlo x)]) ∧ Below w.heap.size w w' := by
  go_enter Try.func82, Try.ntmps82
  go_wp2
  refine bodyPost_ret (v := .agg #[.int .u64 (IntKind.u64.wrap (x / 9223372036854775808)), .int .u64 (IntKind.u64.wrap x)]) (by simp [results, Try.results82, go_sem]) rfl ⟨?_, (by (repeat (first | with_reducible exact Below.refl _ _ | with_reducible assumption | with_reducible apply bl_alloc | with_reducible apply bl_drew | with_reducible apply bl_drewN | (with_reducible refine bl_set ?_ (by first | omega | (simp; done) | (simp; omega)) _) | (with_reducible refine bl_step ?_ (by assumption)) | (with_reducible refine bl_grown ?_ (by assumption) (by assumption)) | (with_reducible refine bl_own ?_ (by assumption) (by assumption)))))⟩
  have e1 : IntKind.u64.wrap (x / 9223372036854775808) = whi x := by unfold whi IntKind.wrap; simp [IntKind.signed, IntKind.bits]; omega
  have e2 : IntKind.u64.wrap x = wlo x := by unfold wlo IntKind.wrap; simp [IntKind.signed, IntKind.bits]
  rw [e1, e2]
theorem bits_Add64 (x y c : Int) (hx : 0 ≤ x) (hy : 0 ≤ y) (hc0 : 0 ≤ c) (hc : c ≤ 1) (w : World) :
    (callFunc 112 #[.int .u64 x, .int .u64 y, .int .u64 c]).run Try.prog w =
      .ok (.value (.tuple #[.int .u64 (s64 x y c), .int .u64 (k64 x y c)])) w := by
  rw [run_callFunc_extern (f := 112) (fn := Try.f112) (by kernel_rfl) (by kernel_rfl) (by kernel_rfl) (by kernel_rfl) (e := add64Entry) (by kernel_rfl), run_add64 x y c hx hy hc0 hc]
  rfl
theorem plus_any (a b c d : Int) (w : World) (ha : 0 ≤ a) (hb : 0 ≤ b) (hc : 0 ≤ c) (hd : 0 ≤ d) (hb2 : b < 18446744073709551616) (hd2 : d < 18446744073709551616) :
    Calls Try.prog 81 #[.agg #[.int .u64 a, .int .u64 b], .agg #[.int .u64 c, .int .u64 d]] w fun e w' =>
      e = .returned (.agg #[.int .u64 (s64 a c (k64 b d 0)), .int .u64 (s64 b d 0)]) ∧ Below w.heap.size w w' := by
  have hA := bits_Add64 b d 0 hb hd (by omega) (by omega)
  have hB := bits_Add64 a c (k64 b d 0) ha hc (k64_rng b d hb hd hb2 hd2).1 (k64_rng b d hb hd hb2 hd2).2
  clear ha hb hc hd hb2 hd2
  go_enter Try.func81, Try.ntmps81
  go_wp2
  refine bodyPost_ret (v := .agg #[.int .u64 (s64 a c (k64 b d 0)), .int .u64 (s64 b d 0)]) (by simp [results, Try.results81, go_sem]) rfl ⟨rfl, (by (repeat (first | with_reducible exact Below.refl _ _ | with_reducible assumption | with_reducible apply bl_alloc | with_reducible apply bl_drew | with_reducible apply bl_drewN | (with_reducible refine bl_set ?_ (by first | omega | (simp; done) | (simp; omega)) _) | (with_reducible refine bl_step ?_ (by assumption)) | (with_reducible refine bl_grown ?_ (by assumption) (by assumption)) | (with_reducible refine bl_own ?_ (by assumption) (by assumption)))))⟩
theorem plus_calls (a b : Int) (w : World) :
    Calls Try.prog 81 #[.agg #[.int .u64 (whi a), .int .u64 (wlo a)], .agg #[.int .u64 (whi b), .int .u64 (wlo b)]] w fun e w' => e = .returned (.agg #[.int .u64 (whi (a + b)), .int .u64 (wlo (a + b))]) ∧ Below w.heap.size w w' :=
  (plus_any _ _ _ _ w (whi_rng a).1 (wlo_rng a).1 (whi_rng b).1 (wlo_rng b).1 (wlo_rng a).2 (wlo_rng b).2).mono fun e w' ⟨h, k⟩ => ⟨by rw [h, wlo_add, whi_add], k⟩
theorem neg_calls (a : Int) (w : World) :
    Calls Try.prog 121 #[.agg #[.int .u64 (whi a), .int .u64 (wlo a)]] w fun e w' => e = .returned (.agg #[.int .u64 (whi (-a)), .int .u64 (wlo (-a))]) ∧ Below w.heap.size w w' := by
  have hs : IntKind.u64.signed = false := rfl
  have hx := xor_max_u64 (whi a) (whi_rng a).1 (whi_rng a).2
  have hy := xor_max_u64 (wlo a) (wlo_rng a).1 (wlo_rng a).2
  go_enter Try.func121, Try.ntmps121
  go_wp2_with (go_at_call 81; ((with_reducible refine (plus_any _ _ _ _ _ ?_ ?_ ?_ ?_ ?_ ?_).mono ?_); (have := whi_rng a; omega); (have := wlo_rng a; omega); omega; omega; (have := wlo_rng a; omega); omega; rintro e w1 ⟨rfl, hb⟩; obtain ⟨hc1, hf1⟩ := bcell hb))
  refine bodyPost_ret (v := .agg #[.int .u64 (s64 (18446744073709551615 - whi a) 0 (k64 (18446744073709551615 - wlo a) 1 0)), .int .u64 (s64 (18446744073709551615 - wlo a) 1 0)]) (by simp [results, Try.results121, go_sem, hc1, hf1]) rfl ⟨?_, (by (repeat (first | with_reducible exact Below.refl _ _ | with_reducible assumption | with_reducible apply bl_alloc | with_reducible apply bl_drew | with_reducible apply bl_drewN | (with_reducible refine bl_set ?_ (by first | omega | (simp; done) | (simp; omega)) _) | (with_reducible refine bl_step ?_ (by assumption)) | (with_reducible refine bl_grown ?_ (by assumption) (by assumption)) | (with_reducible refine bl_own ?_ (by assumption) (by assumption)))))⟩
  rw [whi_neg, wlo_neg]
theorem below_calls (a : Int) (w : World) (h0 : -170141183460469231731687303715884105728 ≤ a) (h1 : a < 170141183460469231731687303715884105728) :
    Calls Try.prog 114 #[.agg #[.int .u64 (whi a), .int .u64 (wlo a)]] w fun e w' => e = .returned (.bool (decide (a < 0))) ∧ Below w.heap.size w w' := by
  go_enter Try.func114, Try.ntmps114
  go_wp2
  go_ret
  exact ⟨show Ending.returned (.bool (bits .and .u64 (whi a) 9223372036854775808 != 0)) = _ by rw [and_sign_u64 _ (whi_rng a).1 (whi_rng a).2, whi_sign a h0 h1], (by (repeat (first | with_reducible exact Below.refl _ _ | with_reducible assumption | with_reducible apply bl_alloc | with_reducible apply bl_drew | with_reducible apply bl_drewN | (with_reducible refine bl_set ?_ (by first | omega | (simp; done) | (simp; omega)) _) | (with_reducible refine bl_step ?_ (by assumption)) | (with_reducible refine bl_grown ?_ (by assumption) (by assumption)) | (with_reducible refine bl_own ?_ (by assumption) (by assumption)))))⟩
theorem end_calls (p : Option Addr) (b o : Bool) (w : World) (hp : AccAt w p o) :
    Calls Try.prog 113 #[.pointer p, .bool b] w fun e w' =>
      e = .returned (.int .i64 (if b then -9223372036854775808 else 9223372036854775807)) ∧ w' = orCell w p true := by
  rcases p with _ | a <;> cases b
  · go_enter Try.func113, Try.ntmps113
    go_wp2
    go_ret
    exact ⟨rfl, rfl⟩
  · go_enter Try.func113, Try.ntmps113
    go_wp2
    go_ret
    exact ⟨rfl, rfl⟩
  · obtain ⟨h1, h2⟩ := hp
    simp only [orCell_true]
    go_enter Try.func113, Try.ntmps113
    go_wp2
    go_ret
    exact ⟨rfl, rfl⟩
  · obtain ⟨h1, h2⟩ := hp
    simp only [orCell_true]
    go_enter Try.func113, Try.ntmps113
    go_wp2
    go_ret
    exact ⟨rfl, rfl⟩
theorem wrap64_rng (z : Int) : -9223372036854775808 ≤ wrap64 z ∧ wrap64 z ≤ 9223372036854775807 := by unfold wrap64; omega
theorem fits_calls (p : Option Addr) (a : Int) (o : Bool) (w : World) (hp : AccAt w p o) (h0 : -170141183460469231731687303715884105728 ≤ a) (h1 : a < 170141183460469231731687303715884105728) :
    Calls Try.prog 83 #[.pointer p, .agg #[.int .u64 (whi a), .int .u64 (wlo a)]] w fun e w' =>
      e = .returned (.int .i64 (clampI a)) ∧ Below w.heap.size (orCell w p (ovI a)) w' := by
  by_cases hf : -9223372036854775808 ≤ a ∧ a ≤ 9223372036854775807
  · have he := (wide_fits a h0 h1).2 hf
    have hv := wide_val a hf.1 hf.2
    rw [clampI_id hf.1 hf.2, ovI_false hf.1 hf.2, orCell_false]
    have r0 := hf.1
    have r1 := hf.2
    clear h0 h1 hf he
    go_enter Try.func83, Try.ntmps83
    go_wp2_with fail
    go_region_held3 (fun w' => w'.cell? ⟨w.heap.size, 0, none⟩ = some (.int .u64 (whi a)) ∧ w'.cell? ⟨w.heap.size, 1, none⟩ = some (.int .u64 (wlo a))) (go_keep) ((go_at_call 82; refine (of_calls _ _ ?_ ?_).mono ?_; exact r0; exact r1; rintro e w1 ⟨rfl, hb⟩; obtain ⟨hc1, hf1⟩ := bcell hb))
    go_wp2
    go_ret
    exact ⟨rfl, (by (repeat (first | with_reducible exact Below.refl _ _ | with_reducible assumption | with_reducible apply bl_alloc | with_reducible apply bl_drew | with_reducible apply bl_drewN | (with_reducible refine bl_set ?_ (by first | omega | (simp; done) | (simp; omega)) _) | (with_reducible refine bl_step ?_ (by assumption)) | (with_reducible refine bl_grown ?_ (by assumption) (by assumption)) | (with_reducible refine bl_own ?_ (by assumption) (by assumption)))))⟩
  · have he : ¬ whi (wrap64 (wlo a)) = whi a := fun h => hf ((wide_fits a h0 h1).1 ⟨h, by unfold wlo wrap64; omega⟩)
    have hov : ovI a = true := by unfold ovI; simp; omega
    have hcl : (if decide (a < 0) = true then (-9223372036854775808 : Int) else 9223372036854775807) = clampI a := by unfold clampI; simp only [decide_eq_true_eq]; split <;> (try split) <;> (try split) <;> omega
    rw [hov]
    have r0 := (wrap64_rng (wlo a)).1
    have r1 := (wrap64_rng (wlo a)).2
    go_enter Try.func83, Try.ntmps83
    go_wp2_with fail
    go_region_held3 (fun w' => w'.cell? ⟨w.heap.size, 0, none⟩ = some (.int .u64 (whi a)) ∧ w'.cell? ⟨w.heap.size, 1, none⟩ = some (.int .u64 (wlo a))) (go_keep) ((go_at_call 82; refine (of_calls _ _ ?_ ?_).mono ?_; exact r0; exact r1; rintro e w1 ⟨rfl, hb⟩; obtain ⟨hc1, hf1⟩ := bcell hb))
    go_wp2_with (first | (go_at_call 114; refine (below_calls _ _ h0 h1).mono ?_; rintro e w2 ⟨rfl, hb2⟩) | (go_at_call 113; refine (end_calls _ _ o _ ?_).mono ?_; exact AccAt.below hp (by (repeat (first | with_reducible exact Below.refl _ _ | with_reducible assumption | with_reducible apply bl_alloc | with_reducible apply bl_drew | with_reducible apply bl_drewN | (with_reducible refine bl_set ?_ (by first | omega | (simp; done) | (simp; omega)) _) | (with_reducible refine bl_step ?_ (by assumption)) | (with_reducible refine bl_grown ?_ (by assumption) (by assumption)) | (with_reducible refine bl_own ?_ (by assumption) (by assumption))))); rintro e w3 ⟨rfl, rfl⟩))
    all_goals
      go_ret
      refine ⟨?_, bl_or (by (repeat (first | with_reducible exact Below.refl _ _ | with_reducible assumption | with_reducible apply bl_alloc | with_reducible apply bl_drew | with_reducible apply bl_drewN | (with_reducible refine bl_set ?_ (by first | omega | (simp; done) | (simp; omega)) _) | (with_reducible refine bl_step ?_ (by assumption)) | (with_reducible refine bl_grown ?_ (by assumption) (by assumption)) | (with_reducible refine bl_own ?_ (by assumption) (by assumption))))) _ _⟩
      unfold clampI
      show Ending.returned (.int .i64 _) = Ending.returned (.int .i64 _)
      congr 2
      (repeat' split) <;> omega
set_option maxHeartbeats 1000000 in
theorem Add_calls (p : Option Addr) (A : Option Addr) (l : List Int) (c : Nat) (o : Bool) (w : World) (hp : AccAt w p o) (hl : RdI w A l) (hin : InI l) :
    Calls Try.prog 34 #[.pointer p, .slice A l.length c] w fun e w' =>
      e = .returned (.int .i64 (clampI (sumI l))) ∧ Below w.heap.size (orCell w p (ovI (sumI l))) w' := by
  have hlen := hl.1
  go_enter Try.func34, Try.ntmps34
  go_wp2
  go_loopw [7, 10] (fun x i wr => ∃ k : Nat, k ≤ l.length ∧ i = .int .i64 k ∧ Below w.heap.size w wr ∧
      wr.heap[w.heap.size]? = some (.cells #[.int .u64 (whi (sumI (l.take k))), .int .u64 (wlo (sumI (l.take k)))] 139 (0, 0))) (fun _ i _ => l.length - (intOf i).toNat)
  case atStart => exact ⟨0, by omega, rfl, (by (repeat (first | with_reducible exact Below.refl _ _ | with_reducible assumption | with_reducible apply bl_alloc | with_reducible apply bl_drew | with_reducible apply bl_drewN | (with_reducible refine bl_set ?_ (by first | omega | (simp; done) | (simp; omega)) _) | (with_reducible refine bl_step ?_ (by assumption)) | (with_reducible refine bl_grown ?_ (by assumption) (by assumption)) | (with_reducible refine bl_own ?_ (by assumption) (by assumption))))), blk_new _ _⟩
  case round =>
    obtain ⟨k, hk, rfl, hb, hblk⟩ := hrel
    by_cases hlt : k < l.length
    · obtain ⟨b, off, rfl, hc⟩ := (hl.below hb).at hlt
      obtain ⟨hc0, hc1, hf0, hf1⟩ := blk_two hblk
      have r0 := (hin.getD k).1
      have r1 := (hin.getD k).2
      have hsn : Hid (sumI (l.take (k + 1)) = sumI (l.take k) + l.getD k 0) := by rw [take_snocD l k hlt]; exact sumI_snoc _ _
      generalize l.getD k 0 = x at hc r0 r1 hsn
      go_wp2_with fail
      go_region_with (first | (go_at_call 82; refine (of_calls _ _ r0 r1).mono ?_; rintro e w1 ⟨rfl, hb1⟩; have hblk1 := bl_block hb1 (blk_drew hblk); obtain ⟨hd0, hd1, hg0, hg1⟩ := blk_two hblk1) | (go_at_call 81; refine (plus_calls _ _ _).mono ?_; rintro e w2 ⟨rfl, hb2⟩; have hblk2 := bl_block hb2 hblk1; obtain ⟨he0, he1, hh0, hh1⟩ := blk_two hblk2))
      all_goals
        clear hc0 hc1 hf0 hf1 hd0 hd1 hg0 hg1 he0 he1 hh0 hh1 hblk hblk1
        go_wp2
        go_roundw
        case rel => exact ⟨k + 1, by omega, by go_num, (by (repeat (first | with_reducible exact Below.refl _ _ | with_reducible assumption | with_reducible apply bl_alloc | with_reducible apply bl_drew | with_reducible apply bl_drewN | (with_reducible refine bl_set ?_ (by first | omega | (simp; done) | (simp; omega)) _) | (with_reducible refine bl_step ?_ (by assumption)) | (with_reducible refine bl_grown ?_ (by assumption) (by assumption)) | (with_reducible refine bl_own ?_ (by assumption) (by assumption))))), by rw [hsn.out]; exact blk_set (blk_set hblk2 0 _) 1 _⟩
        case measure => simp [intOf]; omega
    · have hkl : k = l.length := by omega
      subst hkl
      rw [List.take_length] at hblk
      obtain ⟨hc0, hc1, hf0, hf1⟩ := blk_two hblk
      go_wp2_with (go_at_call 83; refine (fits_calls _ _ o _ ?_ ?_ ?_).mono ?_; exact AccAt.below hp hb; (have := sumI_rng l hin; omega); (have := sumI_rng l hin; omega); rintro e w1 ⟨rfl, hb1⟩)
      go_ret
      exact ⟨rfl, bl_thenOr hb hb1⟩
end Go.Proofs.Ythdaidmjjcmccaa
