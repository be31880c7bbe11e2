/- Proved here: lemmas and contracts (what a function of the program computes) that the proofs of the laws of this seat lean on. Conditions: as each theorem states. -/
import Derived.Test.YtggididnclfahaaV9p
set_option linter.unusedVariables false
set_option linter.unusedSimpArgs false
namespace Go.Proofs.Ytggididnclfahaa
open Go.RowKit Go.Pk Go.Pk.Vt
theorem vchan_calls (gv : Nat) (V : Vo) (i : Nat) (hi : i < 3) (now : Int) (w : World) (hk : w.heap[gv]? = some (.cells V.arr 68 (0, 0))) (hs : 1 ≤ V.strikes) (hn : now ≤ 9223372036854775807) :
    Calls Try.prog 16 #[.pointer (some ⟨gv, 0, none⟩), .int .i64 i, .int .i64 now] w fun e w' => e = .returned (.tuple #[.agg #[.int .i64 (V.get i).v, .int .i64 (V.get i).t, .bool (V.fresh i now), .bool (V.get i).bad], .int .i64 0]) ∧ Below w.heap.size w w' := by
  rcases (by omega : i = 0 ∨ i = 1 ∨ i = 2) with rfl | rfl | rfl
  · exact chan0_calls gv V now w hk hs hn
  · exact chan1_calls gv V now w hk hs hn
  · exact chan2_calls gv V now w hk hs hn
set_option maxHeartbeats 8000000 in
set_option maxRecDepth 100000 in
theorem VResets_walk (x off s a : Int) (w : World) :
    Calls Try.prog 9 #[.int .i64 x, .int .i64 off, .int .i64 s, .int .i64 a] w fun e w' => e = .returned (.bool true) ∧ Below w.heap.size w w' := by
  have hbw := Below.refl w.heap.size w
  by_cases h1 : off < 2
  · have d0 : decide (off < 2) = true := decide_eq_true h1
    clear h1
    go_enter Try.func9, Try.ntmps9
    go_wp2_with fail
    refine (alive22_calls _).mono ?_
    rintro e wz ⟨rfl, hbz⟩
    replace hbw := bl_step hbw hbz
    clear hbz
    go_wp2
    go_ret
    exact ⟨rfl, hbw⟩
  have d0 : decide (off < 2) = false := decide_eq_false h1
  have i0 := h1
  clear h1
  by_cases h1 : (1099511627776 : Int) < off
  · have d1 : decide ((1099511627776 : Int) < off) = true := decide_eq_true h1
    clear i0
    clear h1
    go_enter Try.func9, Try.ntmps9
    go_wp2_with fail
    refine (alive22_calls _).mono ?_
    rintro e wz ⟨rfl, hbz⟩
    replace hbw := bl_step hbw hbz
    clear hbz
    go_wp2
    go_ret
    exact ⟨rfl, hbw⟩
  have d1 : decide ((1099511627776 : Int) < off) = false := decide_eq_false h1
  have i1 := h1
  clear h1
  by_cases h1 : (1099511627776 : Int) < x
  · have d2 : decide ((1099511627776 : Int) < x) = true := decide_eq_true h1
    clear i0 i1
    clear h1
    go_enter Try.func9, Try.ntmps9
    go_wp2_with fail
    refine (alive22_calls _).mono ?_
    rintro e wz ⟨rfl, hbz⟩
    replace hbw := bl_step hbw hbz
    clear hbz
    go_wp2
    go_ret
    exact ⟨rfl, hbw⟩
  have d2 : decide ((1099511627776 : Int) < x) = false := decide_eq_false h1
  have i2 := h1
  clear h1
  by_cases h1 : x < -1099511627776
  · have d3 : decide (x < -1099511627776) = true := decide_eq_true h1
    clear i0 i1 i2
    clear h1
    go_enter Try.func9, Try.ntmps9
    go_wp2_with fail
    refine (alive22_calls _).mono ?_
    rintro e wz ⟨rfl, hbz⟩
    replace hbw := bl_step hbw hbz
    clear hbz
    go_wp2
    go_ret
    exact ⟨rfl, hbw⟩
  have d3 : decide (x < -1099511627776) = false := decide_eq_false h1
  have i3 := h1
  clear h1
  by_cases h1 : s < 1
  · have d4 : decide (s < 1) = true := decide_eq_true h1
    clear i0 i1 i2 i3
    clear h1
    go_enter Try.func9, Try.ntmps9
    go_wp2_with fail
    refine (alive22_calls _).mono ?_
    rintro e wz ⟨rfl, hbz⟩
    replace hbw := bl_step hbw hbz
    clear hbz
    go_wp2
    go_ret
    exact ⟨rfl, hbw⟩
  have d4 : decide (s < 1) = false := decide_eq_false h1
  have i4 := h1
  clear h1
  by_cases h1 : (100 : Int) < s
  · have d5 : decide ((100 : Int) < s) = true := decide_eq_true h1
    clear i0 i1 i2 i3 i4
    clear h1
    go_enter Try.func9, Try.ntmps9
    go_wp2_with fail
    refine (alive22_calls _).mono ?_
    rintro e wz ⟨rfl, hbz⟩
    replace hbw := bl_step hbw hbz
    clear hbz
    go_wp2
    go_ret
    exact ⟨rfl, hbw⟩
  have d5 : decide ((100 : Int) < s) = false := decide_eq_false h1
  have i5 := h1
  clear h1
  by_cases h1 : a < 0
  · have d6 : decide (a < 0) = true := decide_eq_true h1
    clear i0 i1 i2 i3 i4 i5
    clear h1
    go_enter Try.func9, Try.ntmps9
    go_wp2_with fail
    refine (alive22_calls _).mono ?_
    rintro e wz ⟨rfl, hbz⟩
    replace hbw := bl_step hbw hbz
    clear hbz
    go_wp2
    go_ret
    exact ⟨rfl, hbw⟩
  have d6 : decide (a < 0) = false := decide_eq_false h1
  have i6 := h1
  clear h1
  by_cases h1 : (2 : Int) < a
  · have d7 : decide ((2 : Int) < a) = true := decide_eq_true h1
    clear i0 i1 i2 i3 i4 i5 i6
    clear h1
    go_enter Try.func9, Try.ntmps9
    go_wp2_with fail
    refine (alive22_calls _).mono ?_
    rintro e wz ⟨rfl, hbz⟩
    replace hbw := bl_step hbw hbz
    clear hbz
    go_wp2
    go_ret
    exact ⟨rfl, hbw⟩
  have d7 : decide ((2 : Int) < a) = false := decide_eq_false h1
  have i7 := h1
  clear h1
  obtain ⟨i, hia⟩ : ∃ i : Nat, a = (i : Int) := ⟨a.toNat, by omega⟩
  subst hia
  obtain ⟨S, hS⟩ : ∃ S : Nat, (S : Int) = s := ⟨s.toNat, by omega⟩
  have hi : i < 3 := by omega
  have ho : 2 ≤ off := by omega
  have hok : ∀ t, (rV x off s i t).ok := fun t => by
    have h0 : I64 0 := by unfold I64; omega
    have hv : ∀ k, I64 (rS x off s i t k).v := fun k => by
      unfold rS rv I64; simp only []
      split
      · omega
      · split <;> omega
    refine ⟨hv 0, hv 1, hv 2, ⟨by show (0 : Int) ≤ 1; omega, by show (1 : Int) ≤ _; omega⟩, ⟨by show (0 : Int) ≤ 0; omega, by show (0 : Int) ≤ 1000; omega⟩, ⟨by show 1 ≤ s; omega, by show s ≤ 1000; omega⟩, ?_⟩
    show I64 (if t = 0 then 0 else x)
    unfold I64; split <;> omega
  have hokT : ∀ t, (rT x off s i t 3).ok := fun t => by
    have hrv : ∀ k, I64 (rv x off i k) := fun k => by unfold rv I64; split <;> omega
    exact said_ok (said_ok (said_ok (hok t) 0 (hrv 0) t) 1 (hrv 1) t) 2 (hrv 2) t
  have hnew := hidI (vNew_ok 1 0 s w (by unfold newOkV; simp; omega))
  have h0V : Vo.new 1 0 s = rV x off s i 0 := by
    unfold rV rS Vo.new
    have e : decide (((0 : Nat) : Int) = s) = false := decide_eq_false (by omega)
    simp [e]
    omega
  rw [h0V] at hnew
  clear h0V
  have hbad := hidI (show ∀ t : Nat, (t : Int) < s → ∀ g (W : World), W.heap[g]? = some (.cells (rV x off s i t).arr 68 (0, 0)) → Calls Try.prog 20 #[.pointer (some ⟨g, 0, none⟩)] W fun e w' => e = .returned (.int .i64 0) ∧ Below W.heap.size W w' from fun t ht g W hk => by
    have h := bad_calls g (rV x off s i t) W hk (by show 1 ≤ s; omega)
    have e : (rV x off s i t).bads = 0 := by
      have hf : decide ((t : Int) = s) = false := decide_eq_false (by omega)
      show b1 (decide (0 < 3) && (decide (0 = i) && decide ((t : Int) = s))) + b1 (decide (1 < 3) && (decide (1 = i) && decide ((t : Int) = s))) + b1 (decide (2 < 3) && (decide (2 = i) && decide ((t : Int) = s))) = 0
      rw [hf]; simp [b1]
    rw [e] at h
    exact h)
  have hput := hidI (fun (t k : Nat) (hk3 : k < 3) g W hg hb hk => vput_ok w g (rT x off s i t k) k hk3 (rv x off i k) t W hg hb hk (by rcases (by omega : k = 0 ∨ k = 1 ∨ k = 2) with rfl | rfl | rfl <;> (show 1 ≤ s; omega)) (by omega) (by rcases (by omega : k = 0 ∨ k = 1 ∨ k = 2) with rfl | rfl | rfl <;> (show (t : Int) - 1 < t; omega)))
  have hvt := hidI (show ∀ t : Nat, (t : Int) < s → ∀ g (W : World), w.heap.size ≤ g → Below w.heap.size w W → W.heap[g]? = some (.cells (rT x off s i t 3).arr 68 (0, 0)) → Calls Try.prog 15 #[.pointer (some ⟨g, 0, none⟩), .int .i64 t] W fun e w' => e = .returned (.tuple #[.int .i64 x, .int .i64 3]) ∧ E1 w W w' g ∧ w'.heap[g]? = some (.cells (rV x off s i (t + 1)).arr 68 (0, 0)) from fun t ht g W hg hb hk => by
    have h := vote_calls w g (rT x off s i t 3) t W hg hb hk (hokT t) (by omega)
    rw [r_step hi ht (by omega) ho, (r_says (x := x) hi ht ho).2.1] at h
    have e : (rV x off s i (t + 1)).last = x := by show (if t + 1 = 0 then 0 else x) = x; exact if_neg (by omega)
    rw [e] at h
    exact h)
  obtain ⟨e1, e2, e3, e4, e5, e6⟩ := r_end (x := x) hi hS (by omega) ho
  have hokE := hok S
  obtain ⟨VE, hVE⟩ : ∃ V, rV x off s i S = V := ⟨_, rfl⟩
  rw [hVE] at e1 e2 e3 e4 e5 e6 hokE
  have hc1 := hidI (fun g W hk => vchan_calls g VE i hi (s - 1) W hk (by have := hokE.strikes; omega) (by omega))
  rw [e1, e2] at hc1
  have hv2 := hidI (fun g W hg hb hk => vote_calls w g VE (s - 1) W hg hb hk hokE (by omega))
  rw [e3] at hv2
  have hok2 := vote_ok hokE (s - 1)
  obtain ⟨VF, hVF⟩ : ∃ V, VE.vote (s - 1) = V := ⟨_, rfl⟩
  rw [hVF] at e4 e5 e6 hv2 hok2
  have hrs := hidI (fun g W A c hg hb hk hA hne => reset_calls w g VF [(i : Int)] A c W hg hb hk (by have := hok2.strikes; omega) hA hne (by simp))
  have hok3 := reset_ok hok2 [(i : Int)]
  obtain ⟨VG, hVG⟩ : ∃ V, VF.reset [(i : Int)] = V := ⟨_, rfl⟩
  rw [hVG] at e4 e5 e6 hrs hok3
  have hc2 := hidI (fun g W hk => vchan_calls g VG i hi (s - 1) W hk (by have := hok3.strikes; omega) (by omega))
  rw [e4, e5] at hc2
  have hv3 := hidI (fun g W hg hb hk => vote_calls w g VG (s - 1) W hg hb hk hok3 (by omega))
  rw [e6] at hv3
  have hVE2 := hidI hVE
  obtain ⟨fr1, hfr1⟩ : ∃ z, VE.fresh i (s - 1) = z := ⟨_, rfl⟩
  obtain ⟨fr2, hfr2⟩ : ∃ z, VG.fresh i (s - 1) = z := ⟨_, rfl⟩
  obtain ⟨tk1, htk1⟩ : ∃ z, (VE.get i).t = z := ⟨_, rfl⟩
  obtain ⟨tk2, htk2⟩ : ∃ z, (VG.get i).t = z := ⟨_, rfl⟩
  rw [hfr1, htk1] at hc1
  rw [hfr2, htk2] at hc2
  have hxo : wrap64 (x + off) = x + off := IntWalk.wrap64_in _ (by omega)
  have hs1 : wrap64 (s - 1) = s - 1 := IntWalk.wrap64_in _ (by omega)
  have hSs : Hid ((S : Int) = s) := hS
  have hsb : s ≤ 100 := by omega
  replace hsb := hidI hsb
  clear e1 e2 e3 e4 e5 e6 hVE hVF hVG hfr1 hfr2 htk1 htk2 hokE hok2 hok3 hok hokT hS ho i0 i1 i2 i3 i4 i5 i6 i7
  go_enter Try.func9, Try.ntmps9
  go_wp2_with fail
  refine hnew.out.mono ?_
  rintro e w1 ⟨g, hg, rfl, hbw, hk⟩
  go_wp2
  go_loopw [11] (fun x11 wr => ∃ t : Nat, t ≤ S ∧ x11 = .int .i64 t ∧ Below w.heap.size w wr ∧ wr.heap[g]? = some (.cells (rV x off s i t).arr 68 (0, 0))) (fun x11 _ => (S - intOf x11).toNat)
  case atStart => exact ⟨0, by omega, rfl, hbw, hk⟩
  case round =>
    clear hbw hk
    obtain ⟨t, ht, rfl, hbw, hk⟩ := hrel
    by_cases hlt : t < S
    · have hlt2 : (t : Int) < s := by rw [← hSs.out]; omega
      have hd : decide ((t : Int) < s) = true := decide_eq_true hlt2
      have pb := hidI (hbad.out t hlt2)
      have pv := hidI (hvt.out t hlt2)
      have hb64 : ((t : Int) + 1) ≤ 9223372036854775807 := by have h_ := hsb.out; omega
      replace hlt2 := hidI hlt2
      go_wp2_with fail
      refine (pb.out g _ hk).mono ?_
      rintro e w2 ⟨rfl, hb2⟩
      replace hbw := bl_step hbw hb2
      have hk2 : w2.heap[g]? = some (.cells (rT x off s i t 0).arr 68 (0, 0)) := bl_block hb2 hk
      clear hk hb2 pb
      obtain ⟨wo, hwo⟩ : ∃ wo, wo = wr := ⟨_, rfl⟩
      subst hwo
      go_wp2
      go_loopw [12] (fun x12 wi => ∃ k : Nat, k ≤ 3 ∧ x12 = .int .i64 k ∧ Below w.heap.size w wi ∧ wi.heap[g]? = some (.cells (rT x off s i t k).arr 68 (0, 0))) (fun x12 _ => (3 - intOf x12).toNat)
      case atStart => exact ⟨0, by omega, rfl, hbw, hk2⟩
      case round =>
        clear hbw hk2
        obtain ⟨k, hk3, rfl, hbw, hk⟩ := hrel
        by_cases hkl : k < 3
        · have hd3 : decide ((k : Int) < 3) = true := decide_eq_true (by omega)
          have pp := hidI (hput.out t k hkl g)
          have hb65 : ((k : Int) + 1) ≤ 9223372036854775807 := by omega
          have hst : Hid (rT x off s i t (k + 1) = (rT x off s i t k).said k (rv x off i k) t) := rfl
          by_cases hki : k = i
          · have hq : ((k : Int) == (i : Int)) = true := by simp; omega
            have hn : (k == i) = true := by simp; omega
            have hr : rv x off i k = x + off := by unfold rv; rw [if_pos hki]
            rw [hr] at pp hst
            clear hr
            replace hki := hidI hki
            go_wp2_with fail
            refine (pp.out _ hg hbw hk).mono ?_
            rintro e w3 ⟨rfl, hE, hk⟩
            replace hbw := hE.b
            clear hE pp
            go_wp2
            clear hxo hs1
            go_roundw
            case rel => exact ⟨k + 1, by omega, by go_num, hbw, by rw [hst.out]; exact hk⟩
            case measure => simp [intOf]; omega
          · have hq : ((k : Int) == (i : Int)) = false := by simp; omega
            have hn : (k == i) = false := by simp; omega
            have hr : rv x off i k = x := by unfold rv; rw [if_neg hki]
            rw [hr] at pp hst
            clear hr
            replace hki := hidI hki
            go_wp2_with fail
            refine (pp.out _ hg hbw hk).mono ?_
            rintro e w3 ⟨rfl, hE, hk⟩
            replace hbw := hE.b
            clear hE pp
            go_wp2
            clear hxo hs1
            go_roundw
            case rel => exact ⟨k + 1, by omega, by go_num, hbw, by rw [hst.out]; exact hk⟩
            case measure => simp [intOf]; omega
        · obtain rfl : k = 3 := by omega
          have hd3 : decide ((3 : Int) < 3) = false := by decide
          go_wp2_with fail
          refine (pv.out g _ hg hbw hk).mono ?_
          rintro e w3 ⟨rfl, hE, hk⟩
          replace hbw := hE.b
          clear hE pv
          go_wp2
          clear hxo hs1
          go_roundw
          case rel => exact ⟨t + 1, by omega, by go_num, hbw, hk⟩
          case measure => simp [intOf]; omega
    · obtain rfl : t = S := by omega
      have hd : decide ((t : Int) < s) = false := decide_eq_false (by rw [hSs.out]; omega)
      rw [hVE2.out] at hk
      go_wp2_with fail
      refine (hc1.out g _ hk).mono ?_
      rintro e w2 ⟨rfl, hb_⟩
      replace hbw := bl_step hbw hb_
      replace hk := bl_block hb_ hk
      clear hb_ hc1
      go_upto_region 24 with fail
      have hkc := blk_new w2 (.cells #[.int .i64 (x + off), .int .i64 tk1, .bool fr1, .bool true] 40)
      have hgc : g < w2.heap.size := blk_lt hk
      replace hbw := bl_alloc hbw (.cells #[.int .i64 (x + off), .int .i64 tk1, .bool fr1, .bool true] 40)
      replace hk := blk_alloc hk (.cells #[.int .i64 (x + off), .int .i64 tk1, .bool fr1, .bool true] 40)
      generalize w2.alloc (.cells #[.int .i64 (x + off), .int .i64 tk1, .bool fr1, .bool true] 40) = w3 at *
      obtain ⟨gc, hgc_⟩ : ∃ z, w2.heap.size = z := ⟨_, rfl⟩
      rw [hgc_] at hkc hgc
      rw [hgc_]
      have hnc : gc ≠ g := by omega
      clear hgc_ hgc
      go_wp2_with fail
      refine (hv2.out g _ hg hbw hk).mono ?_
      rintro e w4 ⟨rfl, hE, hk⟩
      replace hbw := hE.b
      replace hkc := hE.blk hnc hkc
      clear hE hv2
      go_wp2_with fail
      refine (hrs.out g _ (some ⟨w4.heap.size, 0, none⟩) 1 hg (bl_alloc hbw (.cells #[.int .i64 i] 3)) (blk_alloc hk (.cells #[.int .i64 i] 3)) (RdI.of_blk (l := [(i : Int)]) (blk_new w4 (.cells #[.int .i64 i] 3)) (by simp)) (fun a_ h_ => by injection h_ with h_; rw [← h_]; have := blk_lt hk; simp only []; omega)).mono ?_
      rintro e w5 ⟨rfl, hE, hk⟩
      replace hbw := hE.b
      replace hkc := hE.blk hnc (blk_alloc hkc (.cells #[.int .i64 i] 3))
      clear hE hrs
      go_wp2_with fail
      refine (hc2.out g _ hk).mono ?_
      rintro e w6 ⟨rfl, hb_⟩
      replace hbw := bl_step hbw hb_
      replace hk := bl_block hb_ hk
      replace hkc := bl_block hb_ hkc
      clear hb_ hc2
      go_upto_region 27 with fail
      have hkd := blk_new w6 (.cells #[.int .i64 (x + off), .int .i64 tk2, .bool fr2, .bool false] 40)
      have hgd : g < w6.heap.size := blk_lt hk
      replace hbw := bl_alloc hbw (.cells #[.int .i64 (x + off), .int .i64 tk2, .bool fr2, .bool false] 40)
      replace hk := blk_alloc hk (.cells #[.int .i64 (x + off), .int .i64 tk2, .bool fr2, .bool false] 40)
      replace hkc := blk_alloc hkc (.cells #[.int .i64 (x + off), .int .i64 tk2, .bool fr2, .bool false] 40)
      generalize w6.alloc (.cells #[.int .i64 (x + off), .int .i64 tk2, .bool fr2, .bool false] 40) = w7 at *
      obtain ⟨gd, hgd_⟩ : ∃ z, w6.heap.size = z := ⟨_, rfl⟩
      rw [hgd_] at hkd hgd
      rw [hgd_]
      have hnd : gd ≠ g := by omega
      clear hgd_ hgd
      go_wp2_with fail
      refine (hv3.out g _ hg hbw hk).mono ?_
      rintro e w8 ⟨rfl, hE, hk⟩
      replace hbw := hE.b
      replace hkc := hE.blk hnc hkc
      replace hkd := hE.blk hnd hkd
      clear hE hv3 hk
      go_wp2_with fail
      refine (alive22_calls _).mono ?_
      rintro e w9 ⟨rfl, hb_⟩
      replace hbw := bl_step hbw hb_
      replace hkc := bl_block hb_ hkc
      replace hkd := bl_block hb_ hkd
      clear hb_
      have c0 : w9.cell? ⟨gc, 0, none⟩ = some (.int .i64 (x + off)) := blk_cell hkc 0 (by rfl)
      have c3 : w9.cell? ⟨gc, 3, none⟩ = some (.bool true) := blk_cell hkc 3 (by rfl)
      have d0 : w9.cell? ⟨gd, 0, none⟩ = some (.int .i64 (x + off)) := blk_cell hkd 0 (by rfl)
      have d3 : w9.cell? ⟨gd, 3, none⟩ = some (.bool false) := blk_cell hkd 3 (by rfl)
      go_wp2
      go_ret
      exact ⟨rfl, hbw⟩
end Go.Proofs.Ytggididnclfahaa
