/- Proved here: lemmas and contracts (what a function of the program computes) that the proofs of the laws of this seat lean on. Conditions: as each theorem states. -/
import Derived.Test.YtggididnclfahaaV10p
import Derived.Test.YtggididnclfahaaV9
import Derived.Test.YtggididnclfahaaBg7
import Derived.Test.YtggididnclfahaaLin
set_option linter.unusedVariables false
set_option linter.unusedSimpArgs false
namespace Go.Pk.Vt
open Go.RowKit Go.Pk
theorem cmp_far (g0 g1 tol : Int) : decide (0 < Bg.cmpV (((g0 + -g1).natAbs : Nat) : Int) tol) = farV g0 g1 tol := by
  have e : (farV g0 g1 tol = true) ↔ (tol < g0 - g1 ∨ tol < g1 - g0) := far_iff
  unfold Bg.cmpV
  by_cases h : tol < g0 - g1 ∨ tol < g1 - g0
  · rw [e.2 h, if_neg (by omega), if_neg (by omega)]; rfl
  · have hf : farV g0 g1 tol = false := by cases hc : farV g0 g1 tol; rfl; exact absurd (e.1 hc) h
    rw [hf]
    split
    · rfl
    · rw [if_pos (by omega)]; rfl
end Go.Pk.Vt
namespace Go.Proofs.Ytggididnclfahaa
open Go.RowKit Go.Pk Go.Pk.Vt Go.Proofs.YtggididnclfahaaW.PrintLast
set_option maxHeartbeats 16000000 in
set_option maxRecDepth 100000 in
theorem VHealthy_walk (tol sk a : Int) (lg : List Sp) (lb : List Int) (Ag Ab : Option Addr) (cg cb : Nat) (w0 : World) (ht0 : I64 tol) (hg0 : RdS w0 Ag lg) (hgI : InS lg) (hb0 : RdI w0 Ab lb) (hbI : InI lb) :
    Calls Try.prog 6 #[.int .i64 tol, .int .i64 sk, .int .i64 a, .slice Ag lg.length cg, .slice Ab lb.length cb] w0 fun e w' => e = .returned (.bool true) ∧ Below w0.heap.size w0 w' := by
  have hbw := Below.refl w0.heap.size w0
  replace ht0 := hidI ht0
  by_cases h1 : tol < 0
  · have d0 : decide (tol < 0) = true := decide_eq_true h1
    clear h1
    go_enter Try.func6, Try.ntmps6
    go_wp2_with fail
    refine (alive22_calls _).mono ?_
    rintro e wz ⟨rfl, hbz⟩
    replace hbw := bl_step hbw hbz
    clear hbz
    go_wp2
    go_ret
    exact ⟨rfl, hbw⟩
  have d0 : decide (tol < 0) = false := decide_eq_false h1
  have i0 := h1
  clear h1
  by_cases h1 : sk < 1
  · have d1 : decide (sk < 1) = true := decide_eq_true h1
    clear i0
    clear h1
    go_enter Try.func6, Try.ntmps6
    go_wp2_with fail
    refine (alive22_calls _).mono ?_
    rintro e wz ⟨rfl, hbz⟩
    replace hbw := bl_step hbw hbz
    clear hbz
    go_wp2
    go_ret
    exact ⟨rfl, hbw⟩
  have d1 : decide (sk < 1) = false := decide_eq_false h1
  have i1 := h1
  clear h1
  by_cases h1 : (100 : Int) < sk
  · have d2 : decide ((100 : Int) < sk) = true := decide_eq_true h1
    clear i0 i1
    clear h1
    go_enter Try.func6, Try.ntmps6
    go_wp2_with fail
    refine (alive22_calls _).mono ?_
    rintro e wz ⟨rfl, hbz⟩
    replace hbw := bl_step hbw hbz
    clear hbz
    go_wp2
    go_ret
    exact ⟨rfl, hbw⟩
  have d2 : decide ((100 : Int) < sk) = false := decide_eq_false h1
  have i2 := h1
  clear h1
  by_cases h1 : (60 : Int) < (lg.length : Int)
  · have d3 : decide ((60 : Int) < (lg.length : Int)) = true := decide_eq_true h1
    have n3 : decide ((60 : Nat) < lg.length) = true := decide_eq_true (by omega)
    clear i0 i1 i2
    clear h1
    go_enter Try.func6, Try.ntmps6
    go_wp2_with fail
    refine (alive22_calls _).mono ?_
    rintro e wz ⟨rfl, hbz⟩
    replace hbw := bl_step hbw hbz
    clear hbz
    go_wp2
    go_ret
    exact ⟨rfl, hbw⟩
  have d3 : decide ((60 : Int) < (lg.length : Int)) = false := decide_eq_false h1
  have n3 : decide ((60 : Nat) < lg.length) = false := decide_eq_false (by omega)
  have i3 := h1
  clear h1
  by_cases h1 : lb.length = 0
  · have d4 : ((lb.length : Int) == 0) = true := by simp [h1]
    have n4 : (lb.length == 0) = true := by simp [h1]
    clear i0 i1 i2 i3
    clear h1
    go_enter Try.func6, Try.ntmps6
    go_wp2_with fail
    refine (alive22_calls _).mono ?_
    rintro e wz ⟨rfl, hbz⟩
    replace hbw := bl_step hbw hbz
    clear hbz
    go_wp2
    go_ret
    exact ⟨rfl, hbw⟩
  have d4 : ((lb.length : Int) == 0) = false := by simpa using h1
  have n4 : (lb.length == 0) = false := by simpa using h1
  have i4 := h1
  clear h1
  by_cases h1 : a < 0
  · have d5 : decide (a < 0) = true := decide_eq_true h1
    clear i0 i1 i2 i3 i4
    clear h1
    go_enter Try.func6, Try.ntmps6
    go_wp2_with fail
    refine (alive22_calls _).mono ?_
    rintro e wz ⟨rfl, hbz⟩
    replace hbw := bl_step hbw hbz
    clear hbz
    go_wp2
    go_ret
    exact ⟨rfl, hbw⟩
  have d5 : decide (a < 0) = false := decide_eq_false h1
  have i5 := h1
  clear h1
  by_cases h1 : (2 : Int) < a
  · have d6 : decide ((2 : Int) < a) = true := decide_eq_true h1
    clear i0 i1 i2 i3 i4 i5
    clear h1
    go_enter Try.func6, Try.ntmps6
    go_wp2_with fail
    refine (alive22_calls _).mono ?_
    rintro e wz ⟨rfl, hbz⟩
    replace hbw := bl_step hbw hbz
    clear hbz
    go_wp2
    go_ret
    exact ⟨rfl, hbw⟩
  have d6 : decide ((2 : Int) < a) = false := decide_eq_false h1
  have i6 := h1
  clear h1
  obtain ⟨ill, hia⟩ : ∃ i : Nat, a = (i : Int) := ⟨a.toNat, by omega⟩
  subst hia
  have hill : ill < 3 := by omega
  have hlb : 1 ≤ lb.length := by omega
  have hlg : lg.length ≤ 60 := by omega
  have ht0' := ht0.out
  have hV0 := h_new (tol := tol) (s := sk) ill (by omega) ht0'.2 (by omega) (by omega)
  have hnew := hidI (vNew_ok tol 0 sk w0 (by unfold newOkV; simp; omega))
  have hs1 : 1 ≤ sk := by omega
  have hof := hidI (fun W => of_calls tol ht0'.1 ht0'.2 W)
  have htl : Hid (0 ≤ tol ∧ tol ≤ 9223372036854775807) := ⟨by omega, ht0'.2⟩
  clear i0 i1 i2 i3 i4 i5 i6 ht0'
  go_enter Try.func6, Try.ntmps6
  go_wp2_with fail
  refine hnew.out.mono ?_
  rintro e w1 ⟨g, hg, rfl, hbw, hk⟩
  clear hnew
  go_wp2
  go_loopw [13] (fun x13 wr => ∃ (t : Nat) (V : Vo), t ≤ lg.length ∧ x13 = .int .i64 t ∧ Below w0.heap.size w0 wr ∧ Hid (HInv tol sk ill t V) ∧ wr.heap[g]? = some (.cells V.arr 68 (0, 0))) (fun x13 _ => (lg.length - intOf x13).toNat)
  case atStart => exact ⟨0, _, by omega, rfl, hbw, hV0, hk⟩
  case round =>
    clear hbw hk hV0
    obtain ⟨t, V, ht, rfl, hbw, hV, hk⟩ := hrel
    by_cases hlt : t < lg.length
    · have hd : decide ((t : Int) < (lg.length : Int)) = true := decide_eq_true (by omega)
      have nd : decide (t < lg.length) = true := decide_eq_true hlt
      obtain ⟨bg, og, rfl, cg0, cg1⟩ := hg0.at (k := t) hlt
      obtain ⟨j, hj⟩ : ∃ j, j = t % lb.length := ⟨_, rfl⟩
      have hjl : j < lb.length := by rw [hj]; exact Nat.mod_lt _ (by omega)
      have hq1 : ((t : Nat) : Int).tmod (lb.length : Int) = (j : Int) := by rw [hj]; rfl
      have hq2 : ((t : Nat) : Int) % (lb.length : Int) = (j : Int) := by rw [hj]; rfl
      have hlne : ¬ lb = [] := fun h => by rw [h] at hlb; simp at hlb
      obtain ⟨bb, ob, rfl, cb0⟩ := hb0.at (i := j) hjl
      have iy : I64 (lb.getD j 0) := InI.getD hbI j
      have ig : I64 (lg.getD t ⟨0, 0⟩).lo ∧ I64 (lg.getD t ⟨0, 0⟩).hi := by
        have h_ := hgI (lg.getD t ⟨0, 0⟩) (by rw [List.getD_eq_getElem?_getD, List.getElem?_eq_getElem hlt]; exact List.getElem_mem hlt)
        exact h_
      obtain ⟨y, hy⟩ : ∃ q, lb.getD j 0 = q := ⟨_, rfl⟩
      obtain ⟨g0, hg0_⟩ : ∃ q, (lg.getD t ⟨0, 0⟩).lo = q := ⟨_, rfl⟩
      obtain ⟨g1, hg1_⟩ : ∃ q, (lg.getD t ⟨0, 0⟩).hi = q := ⟨_, rfl⟩
      rw [hy] at cb0 iy
      rw [hg0_] at cg0 ig
      rw [hg1_] at cg1 ig
      clear hy hg0_ hg1_ hj
      have hst := hidI (healthy hV.out hill (by omega) y g0 g1 iy ig.1 ig.2)
      have hok1 := hidI (sT_ok hV.out.ok (t := t) (fun k => hF_ok iy ig.1 ig.2 k (ill := ill)))
      have hput := hidI (fun (k : Nat) (hk3 : k < 3) W hb hk => vput_ok w0 g (sT V t (hF ill y g0 g1) k) k hk3 (hF ill y g0 g1 k) t W hg hb hk (by rw [sT_strikes V t _ (by omega), hV.out.strikes]; exact hs1) (by omega) (by rw [sT_get V t _ hk3, hV.out.tick k hk3]; omega))
      have hvt := hidI (fun W hb hk => vote_calls w0 g (sT V t (hF ill y g0 g1) 3) t W hg hb hk (hok1.out 3) (by omega))
      have hfar := hidI (fun W => farB_calls g0 g1 ig.1.1 ig.1.2 ig.2.1 ig.2.2 W)
      have hcmp := hidI (fun W => (show Calls Try.prog 17 #[.agg (Bg.bigC false (g0 + -g1).natAbs), .agg (Bg.bigZ tol)] W fun e w' => e = .returned (.int .i64 (Bg.cmpV (((g0 + -g1).natAbs : Nat) : Int) tol)) ∧ Below W.heap.size W w' from by
        have h_ := compare_calls (((g0 + -g1).natAbs : Nat) : Int) tol (by rw [Bg.pw_v]; obtain ⟨⟨a1, a2⟩, b1, b2⟩ := ig; have := htl.out; omega) W
        have e_ : Bg.bigZ (((g0 + -g1).natAbs : Nat) : Int) = Bg.bigC false (g0 + -g1).natAbs := by unfold Bg.bigZ; rw [decide_eq_false (by omega), Int.natAbs_natCast]
        rw [e_] at h_
        exact h_))
      have hcf := hidI (cmp_far g0 g1 tol)
      obtain ⟨cv, hcv⟩ : ∃ q, Bg.cmpV (((g0 + -g1).natAbs : Nat) : Int) tol = q := ⟨_, rfl⟩
      rw [hcv] at hcmp hcf
      obtain ⟨vf, hvf⟩ : ∃ q : Value, q = .agg (Bg.bigC false (g0 + -g1).natAbs) := ⟨_, rfl⟩
      obtain ⟨vo, hvo⟩ : ∃ q : Value, q = .agg (Bg.bigZ tol) := ⟨_, rfl⟩
      rw [← hvf] at hfar hcmp
      rw [← hvo] at hcmp
      have hof2 := hof
      rw [← hvo] at hof2
      clear hcv hvf hvo
      have hb64 : ((t : Int) + 1) ≤ 9223372036854775807 := by omega
      replace hd := hd
      obtain ⟨wo, hwo⟩ : ∃ wo, wo = wr := ⟨_, rfl⟩
      subst hwo
      replace ig := hidI ig
      replace iy := hidI iy
      replace hq1 := hq1
      have hq1' := hidI hq1
      have hq2' := hidI hq2
      clear hq1 hq2
      have hat0 : Hid (atN ill 0 = 0) := by show _ = _; unfold atN; rw [if_neg (by omega)]
      have hT0 : Hid (sT V t (hF ill y g0 g1) 0 = V) := rfl
      obtain ⟨n, hn⟩ : ∃ n, ((sT V t (hF ill y g0 g1) 3).says t).length = n := ⟨_, rfl⟩
      rw [hn] at hvt
      go_wp2
      go_loopw [14, 15] (fun x14 x15 wi => ∃ i : Nat, i ≤ 3 ∧ x15 = .int .i64 i ∧ x14 = .int .i64 (atN ill i : Nat) ∧ Below w0.heap.size w0 wi ∧ wi.heap[g]? = some (.cells (sT V t (hF ill y g0 g1) i).arr 68 (0, 0))) (fun _ x15 _ => (3 - intOf x15).toNat)
      case atStart => exact ⟨0, by omega, rfl, by rw [hat0.out]; rfl, hbw, by rw [hT0.out]; exact hk⟩
      case round =>
        clear hbw hk
        obtain ⟨i, hi3, rfl, rfl, hbw, hk⟩ := hrel
        by_cases hil : i < 3
        · have hd3 : decide ((i : Int) < 3) = true := decide_eq_true (by omega)
          have pp := hidI (hput.out i hil)
          have hb65 : ((i : Int) + 1) ≤ 9223372036854775807 := by omega
          have hst2 : Hid (sT V t (hF ill y g0 g1) (i + 1) = (sT V t (hF ill y g0 g1) i).said i (hF ill y g0 g1 i) t) := rfl
          have cb1 := bl_cell hbw cb0
          have hq1 := hq1'.out
          have hq2 := hq2'.out
          by_cases hii : i = ill
          · have hq : ((i : Int) != (ill : Int)) = false := by simp; omega
            have hnn : (i != ill) = false := by simp; omega
            have hf : hF ill y g0 g1 i = y := by unfold hF; rw [if_pos hii]
            have hat : Hid (atN ill (i + 1) = atN ill i) := by show _ = _; unfold atN; rw [if_pos (by omega), if_neg (by omega)]; omega
            rw [hf] at pp hst2
            clear hf
            replace hii := hidI hii
            obtain ⟨at_, hat_⟩ : ∃ q, atN ill i = q := ⟨_, rfl⟩
            rw [hat_] at hat ⊢
            clear hat_
            go_wp2_with fail
            clear hq1 hq2
            refine (pp.out _ hbw hk).mono ?_
            rintro e w3 ⟨rfl, hE, hk⟩
            replace hbw := hE.b
            clear hE pp cb1
            go_wp2
            go_roundw
            case rel => exact ⟨i + 1, by omega, by go_num, by rw [hat.out], hbw, by rw [hst2.out]; exact hk⟩
            case measure => simp [intOf]; omega
          · have hq : ((i : Int) != (ill : Int)) = true := by simp; omega
            have hnn : (i != ill) = true := by simp; omega
            have hf : hF ill y g0 g1 i = gvN g0 g1 (atN ill i) := by unfold hF; rw [if_neg hii]
            have hat : Hid (atN ill (i + 1) = atN ill i + 1) := by show _ = _; unfold atN; split <;> split <;> omega
            have hal : atN ill i < 2 := by unfold atN; split <;> omega
            rw [hf] at pp hst2
            clear hf
            replace hii := hidI hii
            obtain ⟨at_, hat_⟩ : ∃ q, atN ill i = q := ⟨_, rfl⟩
            rw [hat_] at hat hal pp hst2 ⊢
            clear hat_
            have da : decide ((at_ : Int) < 2) = true := decide_eq_true (by omega)
            have hb66 : ((at_ : Int) + 1) ≤ 9223372036854775807 := by omega
            have cgv : wr.cell? ⟨bg, og + t * 2 + at_, none⟩ = some (.int .i64 (gvN g0 g1 at_)) := by
              rcases (by omega : at_ = 0 ∨ at_ = 1) with rfl | rfl
              · exact bl_cell hbw cg0
              · exact bl_cell hbw cg1
            obtain ⟨gv, hgv⟩ : ∃ q, gvN g0 g1 at_ = q := ⟨_, rfl⟩
            rw [hgv] at cgv pp hst2
            clear hgv
            go_upto_region 16 with fail
            clear hq1 hq2 cb1
            go_wp2_with fail
            refine (pp.out _ hbw hk).mono ?_
            rintro e w3 ⟨rfl, hE, hk⟩
            replace hbw := hE.b
            clear hE pp cgv
            go_wp2
            go_roundw
            case rel => exact ⟨i + 1, by omega, by go_num, by rw [hat.out]; go_num, hbw, by rw [hst2.out]; exact hk⟩
            case measure => simp [intOf]; omega
        · obtain rfl : i = 3 := by omega
          have hd3 : decide ((3 : Int) < 3) = false := by decide
          have hok2 := hidI (vote_ok (hok1.out 3) t)
          clear hput hok1 hat0 hT0
          obtain ⟨h_n, h_mid, h_two, h_near⟩ := hst.out
          rw [hn] at h_n h_mid h_two
          obtain ⟨V2, hV2⟩ : ∃ q, (sT V t (hF ill y g0 g1) 3).vote t = q := ⟨_, rfl⟩
          rw [hV2] at h_mid h_two h_near hvt hok2
          obtain ⟨lx, hlx⟩ : ∃ q, V2.last = q := ⟨_, rfl⟩
          rw [hlx] at h_mid hvt
          have hch := hidI (fun W hk => vchan_calls g V2 ill hill t W hk hok2.out.strikes.1 (by omega))
          have hbad := hidI (fun W hk => bad_calls g V2 W hk hok2.out.strikes.1)
          obtain ⟨cw, hcw⟩ : ∃ q, (V2.get ill).v = q := ⟨_, rfl⟩
          obtain ⟨ctk, hctk⟩ : ∃ q, (V2.get ill).t = q := ⟨_, rfl⟩
          obtain ⟨cfr, hcfr⟩ : ∃ q, V2.fresh ill t = q := ⟨_, rfl⟩
          obtain ⟨Bq, hBq⟩ : ∃ q, (V2.get ill).bad = q := ⟨_, rfl⟩
          obtain ⟨bs, hbs⟩ : ∃ q, V2.bads = q := ⟨_, rfl⟩
          rw [hcw, hctk, hcfr, hBq] at hch
          rw [hbs] at hbad
          rw [hBq] at h_two
          rw [hBq, hbs] at h_near
          have hmn : mnV g0 g1 = min g0 g1 := by unfold mnV; split <;> omega
          have hmx : mxV g0 g1 = max g0 g1 := by unfold mxV; split <;> omega
          rw [hmn, hmx] at h_mid
          clear hmn hmx
          replace h_near := hidI h_near
          replace h_two := hidI h_two
          clear hst hV hn hV2 hlx hcw hctk hcfr hBq hbs hok2
          rcases h_n with hn | hn
          · subst hn
            clear h_mid
            replace h_two := hidI (h_two.out rfl)
            go_wp2_with fail
            refine (hvt.out _ hbw hk).mono ?_
            rintro e wA ⟨rfl, hE, hk⟩
            replace hbw := hE.b
            clear hE hvt
            go_wp2_with fail
            refine (hch.out _ hk).mono ?_
            rintro e wB ⟨rfl, hb_⟩
            replace hbw := bl_step hbw hb_
            replace hk := bl_block hb_ hk
            clear hb_ hch
            go_upto_region 23 with fail
            have hkc := blk_new wB (.cells #[.int .i64 cw, .int .i64 ctk, .bool cfr, .bool Bq] 40)
            replace hbw := bl_alloc hbw (.cells #[.int .i64 cw, .int .i64 ctk, .bool cfr, .bool Bq] 40)
            replace hk := blk_alloc hk (.cells #[.int .i64 cw, .int .i64 ctk, .bool cfr, .bool Bq] 40)
            generalize wB.alloc (.cells #[.int .i64 cw, .int .i64 ctk, .bool cfr, .bool Bq] 40) = wC at *
            generalize wB.heap.size = gc at *
            have c0_hk := blk_drew hk
            have c0_hkc := blk_drew hkc
            have c0_cc0 : wC.drew.cell? ⟨bg, og + t * 2, none⟩ = some (.int .i64 g0) := bl_cell hbw cg0
            have c0_cc1 : wC.drew.cell? ⟨bg, og + t * 2 + 1, none⟩ = some (.int .i64 g1) := bl_cell hbw cg1
            clear hk hkc
            obtain ⟨B0, hB0⟩ : ∃ B, B = wC.heap.size := ⟨_, rfl⟩
            have c0_hsz : B0 ≤ wC.heap.size := Nat.le_of_eq hB0
            have hw0B0 : w0.heap.size ≤ B0 := by rw [hB0]; exact hbw.size
            have c0_hle : wC.heap.size ≤ B0 := Nat.le_of_eq hB0.symm
            have c0_hbw := bl_drew hbw
            clear hB0 hbw 
            refine region_lin (n := 32) (st := ?st2) { R := [0, 1, 3, 7, 7, 7, 55, 119, 247, 7, 7, 1543, 3591, 7687, 16375, 32767, 65535, 131071, 131071, 131071, 917503, 1966079, 4063231, 131071, 131071, 25296895, 58851327, 125960191, 268304383, 536870911, 1073741823, 2147483647], kill := [[], [], [], [], [], [], [], [], [], [], [], [], [], [], [], [], [], [], [], [], [], [], [], [], [], [], [], [], [], [], [], []], cls := [0, 0, 0, 0, 0, 0, 0, 0, 0, 0, 0, 0, 0, 0, 0, 0, 0, 0, 0, 0, 0, 0, 0, 0, 0, 0, 0, 0, 0, 0, 0, 0], dst := [some 111, some 112, some 113, some 114, some 115, some 116, some 117, some 118, some 119, some 120, some 121, some 122, some 123, some 124, some 125, some 126, some 127, some 128, some 129, some 130, some 131, some 132, some 133, some 134, some 135, some 136, some 137, some 138, some 139, some 140, some 141, some 142], pre := [[], [0], [1], [2], [2], [2], [2], [2], [2], [2], [2], [2], [2], [2], [2], [2], [2], [16], [16], [16], [16], [16], [16], [16], [16], [16], [16], [16], [16], [16], [2], [2]], cov := [], fin := [31], locs := [], tgt := [none], abt := [none, none, none, none, none, none, none, none, none, none, none, none, none, none, none, none, none, none, none, none, none, none, none, none, none, none, none, none, none, none, none, none] }
              [.v [111] (fun vs => (vs.getD 0 undef) = .int .i64 2),
               .v [112] (fun vs => (vs.getD 0 undef) = .bool false),
               .v [113] (fun vs => (vs.getD 0 undef) = .bool false),
               .v [114] (fun vs => (vs.getD 0 undef) = undef),
               .v [115] (fun vs => (vs.getD 0 undef) = undef),
               .v [116] (fun vs => (vs.getD 0 undef) = undef),
               .v [117] (fun vs => (vs.getD 0 undef) = undef),
               .v [118] (fun vs => (vs.getD 0 undef) = undef),
               .v [119] (fun vs => (vs.getD 0 undef) = undef),
               .v [120] (fun vs => (vs.getD 0 undef) = undef),
               .v [121] (fun vs => (vs.getD 0 undef) = undef),
               .v [122] (fun vs => (vs.getD 0 undef) = undef),
               .v [123] (fun vs => (vs.getD 0 undef) = undef),
               .v [124] (fun vs => (vs.getD 0 undef) = undef),
               .v [125] (fun vs => (vs.getD 0 undef) = undef),
               .v [126] (fun vs => (vs.getD 0 undef) = undef),
               .v [127] (fun vs => (vs.getD 0 undef) = undef),
               .v [128] (fun vs => (vs.getD 0 undef) = undef),
               .v [129] (fun vs => (vs.getD 0 undef) = undef),
               .v [130] (fun vs => (vs.getD 0 undef) = undef),
               .v [131] (fun vs => (vs.getD 0 undef) = undef),
               .v [132] (fun vs => (vs.getD 0 undef) = undef),
               .v [133] (fun vs => (vs.getD 0 undef) = undef),
               .v [134] (fun vs => (vs.getD 0 undef) = undef),
               .v [135] (fun vs => (vs.getD 0 undef) = undef),
               .v [136] (fun vs => (vs.getD 0 undef) = undef),
               .v [137] (fun vs => (vs.getD 0 undef) = undef),
               .v [138] (fun vs => (vs.getD 0 undef) = undef),
               .v [139] (fun vs => (vs.getD 0 undef) = undef),
               .v [140] (fun vs => (vs.getD 0 undef) = undef),
               .v [141] (fun vs => (vs.getD 0 undef) = undef),
               .v [142] (fun vs => (vs.getD 0 undef) = .bool false)]
              (fun w => B0 ≤ w.heap.size ∧ Below w0.heap.size w0 w ∧ w.heap[g]? = some (.cells V2.arr 68 (0, 0)) ∧ w.heap[gc]? = some (.cells #[.int .i64 cw, .int .i64 ctk, .bool cfr, .bool Bq] 40 (0, 0)) ∧ w.cell? ⟨bg, og + t * 2, none⟩ = some (.int .i64 g0) ∧ w.cell? ⟨bg, og + t * 2 + 1, none⟩ = some (.int .i64 g1))
              (fun c => ([fun s w w' => Below w.heap.size w w'] : List ((Nat → Value) → World → World → Prop)).getD c (fun s w w' => w' = w))
              [111, 112, 113, 114, 115, 116, 117, 118, 119, 120, 121, 122, 123, 124, 125, 126, 127, 128, 129, 130, 131, 132, 133, 134, 135, 136, 137, 138, 139, 140, 141, 142] (by kernel_rfl) ⟨by kernel_rfl, by kernel_rfl, by kernel_rfl, by kernel_rfl, by kernel_rfl, by kernel_rfl, by kernel_rfl, by kernel_rfl⟩ (fun s => ?_) ?_ ?_ ?_ ?_ ?_ (fun s w hC hA => ?_)
            rotate_left
            · simp only [fillS, List.foldl, List.setIfInBounds_toArray, List.set_cons_zero, List.set_cons_succ]; rfl
            · exact ⟨c0_hsz, c0_hbw, c0_hk, c0_hkc, c0_cc0, c0_cc1⟩
            · intro c s w w' hE
              match c, hE with
              | 0, hE => exact Below.size hE
              | c + 1, hE => cases hE; exact Nat.le_refl _
            · rintro c s w w' ⟨hsz, hbw, hk, hkc, cc0, cc1⟩ hE
              match c, hE with
              | 0, hE => replace hE : Below w.heap.size w w' := hE; exact ⟨Nat.le_trans hsz hE.size, bl_step hbw hE, bl_block hE hk, bl_block hE hkc, bl_cell hE cc0, bl_cell hE cc1⟩
              | c + 1, hE => cases hE; exact ⟨hsz, hbw, hk, hkc, cc0, cc1⟩
            · exact trivial
            · skip
              refine StepsP.cons ?_ ?_
              · intro Q s w hC hA K hK
                clear hC
                clear hA
                refine guard_none (by rfl) ?_
                refine wp_value (v := .int .i64 2) (w1 := w) ?_ (hK.out _ w (Below.refl _ _) rfl (fun h => by cases h))
                go_simp
                try (first | done | rfl | (simp; done))
              refine StepsP.cons ?_ ?_
              · intro Q s w hC hA K hK
                clear hC
                obtain ⟨f0, -⟩ := hA
                replace f0 : (s 111) = .int .i64 2 := f0
                refine guard_none (by rfl) ?_
                refine wp_value (v := .bool false) (w1 := w) ?_ (hK.out _ w (Below.refl _ _) rfl (fun h => by cases h))
                try simp only [f0]
                go_simp
                try (first | done | rfl | (simp; done))
              refine StepsP.cons ?_ ?_
              · intro Q s w hC hA K hK
                clear hC
                obtain ⟨f1, -⟩ := hA
                replace f1 : (s 112) = .bool false := f1
                refine guard_none (by rfl) ?_
                refine wp_value (v := .bool false) (w1 := w) ?_ (hK.out _ w (Below.refl _ _) rfl (fun h => by cases h))
                try simp only [f1]
                go_simp
                try (first | done | rfl | (simp; done))
              refine StepsP.cons ?_ ?_
              · intro Q s w hC hA K hK
                clear hC
                obtain ⟨f2, -⟩ := hA
                replace f2 : (s 113) = .bool false := f2
                refine guard_off (d := 113) (want := true) (by rfl) (by rfl) ?_ ?_
                · show s 113 ≠ .bool true
                  rw [f2]; first | (simp; done) | (intro h_; cases h_)
                exact hK.out _ w (Below.refl _ _) (show undef = undef from rfl) (fun h => by cases h)
              refine StepsP.cons ?_ ?_
              · intro Q s w hC hA K hK
                clear hC
                obtain ⟨f2, -⟩ := hA
                replace f2 : (s 113) = .bool false := f2
                refine guard_off (d := 113) (want := true) (by rfl) (by rfl) ?_ ?_
                · show s 113 ≠ .bool true
                  rw [f2]; first | (simp; done) | (intro h_; cases h_)
                exact hK.out _ w (Below.refl _ _) (show undef = undef from rfl) (fun h => by cases h)
              refine StepsP.cons ?_ ?_
              · intro Q s w hC hA K hK
                clear hC
                obtain ⟨f2, -⟩ := hA
                replace f2 : (s 113) = .bool false := f2
                refine guard_off (d := 113) (want := true) (by rfl) (by rfl) ?_ ?_
                · show s 113 ≠ .bool true
                  rw [f2]; first | (simp; done) | (intro h_; cases h_)
                exact hK.out _ w (Below.refl _ _) (show undef = undef from rfl) (fun h => by cases h)
              refine StepsP.cons ?_ ?_
              · intro Q s w hC hA K hK
                clear hC
                obtain ⟨f2, -⟩ := hA
                replace f2 : (s 113) = .bool false := f2
                refine guard_off (d := 113) (want := true) (by rfl) (by rfl) ?_ ?_
                · show s 113 ≠ .bool true
                  rw [f2]; first | (simp; done) | (intro h_; cases h_)
                exact hK.out _ w (Below.refl _ _) (show undef = undef from rfl) (fun h => by cases h)
              refine StepsP.cons ?_ ?_
              · intro Q s w hC hA K hK
                clear hC
                obtain ⟨f2, -⟩ := hA
                replace f2 : (s 113) = .bool false := f2
                refine guard_off (d := 113) (want := true) (by rfl) (by rfl) ?_ ?_
                · show s 113 ≠ .bool true
                  rw [f2]; first | (simp; done) | (intro h_; cases h_)
                exact hK.out _ w (Below.refl _ _) (show undef = undef from rfl) (fun h => by cases h)
              refine StepsP.cons ?_ ?_
              · intro Q s w hC hA K hK
                clear hC
                obtain ⟨f2, -⟩ := hA
                replace f2 : (s 113) = .bool false := f2
                refine guard_off (d := 113) (want := true) (by rfl) (by rfl) ?_ ?_
                · show s 113 ≠ .bool true
                  rw [f2]; first | (simp; done) | (intro h_; cases h_)
                exact hK.out _ w (Below.refl _ _) (show undef = undef from rfl) (fun h => by cases h)
              refine StepsP.cons ?_ ?_
              · intro Q s w hC hA K hK
                clear hC
                obtain ⟨f2, -⟩ := hA
                replace f2 : (s 113) = .bool false := f2
                refine guard_off (d := 113) (want := true) (by rfl) (by rfl) ?_ ?_
                · show s 113 ≠ .bool true
                  rw [f2]; first | (simp; done) | (intro h_; cases h_)
                exact hK.out _ w (Below.refl _ _) (show undef = undef from rfl) (fun h => by cases h)
              refine StepsP.cons ?_ ?_
              · intro Q s w hC hA K hK
                clear hC
                obtain ⟨f2, -⟩ := hA
                replace f2 : (s 113) = .bool false := f2
                refine guard_off (d := 113) (want := true) (by rfl) (by rfl) ?_ ?_
                · show s 113 ≠ .bool true
                  rw [f2]; first | (simp; done) | (intro h_; cases h_)
                exact hK.out _ w (Below.refl _ _) (show undef = undef from rfl) (fun h => by cases h)
              refine StepsP.cons ?_ ?_
              · intro Q s w hC hA K hK
                clear hC
                obtain ⟨f2, -⟩ := hA
                replace f2 : (s 113) = .bool false := f2
                refine guard_off (d := 113) (want := true) (by rfl) (by rfl) ?_ ?_
                · show s 113 ≠ .bool true
                  rw [f2]; first | (simp; done) | (intro h_; cases h_)
                exact hK.out _ w (Below.refl _ _) (show undef = undef from rfl) (fun h => by cases h)
              refine StepsP.cons ?_ ?_
              · intro Q s w hC hA K hK
                clear hC
                obtain ⟨f2, -⟩ := hA
                replace f2 : (s 113) = .bool false := f2
                refine guard_off (d := 113) (want := true) (by rfl) (by rfl) ?_ ?_
                · show s 113 ≠ .bool true
                  rw [f2]; first | (simp; done) | (intro h_; cases h_)
                exact hK.out _ w (Below.refl _ _) (show undef = undef from rfl) (fun h => by cases h)
              refine StepsP.cons ?_ ?_
              · intro Q s w hC hA K hK
                clear hC
                obtain ⟨f2, -⟩ := hA
                replace f2 : (s 113) = .bool false := f2
                refine guard_off (d := 113) (want := true) (by rfl) (by rfl) ?_ ?_
                · show s 113 ≠ .bool true
                  rw [f2]; first | (simp; done) | (intro h_; cases h_)
                exact hK.out _ w (Below.refl _ _) (show undef = undef from rfl) (fun h => by cases h)
              refine StepsP.cons ?_ ?_
              · intro Q s w hC hA K hK
                clear hC
                obtain ⟨f2, -⟩ := hA
                replace f2 : (s 113) = .bool false := f2
                refine guard_off (d := 113) (want := true) (by rfl) (by rfl) ?_ ?_
                · show s 113 ≠ .bool true
                  rw [f2]; first | (simp; done) | (intro h_; cases h_)
                exact hK.out _ w (Below.refl _ _) (show undef = undef from rfl) (fun h => by cases h)
              refine StepsP.cons ?_ ?_
              · intro Q s w hC hA K hK
                clear hC
                obtain ⟨f2, -⟩ := hA
                replace f2 : (s 113) = .bool false := f2
                refine guard_off (d := 113) (want := true) (by rfl) (by rfl) ?_ ?_
                · show s 113 ≠ .bool true
                  rw [f2]; first | (simp; done) | (intro h_; cases h_)
                exact hK.out _ w (Below.refl _ _) (show undef = undef from rfl) (fun h => by cases h)
              refine StepsP.cons ?_ ?_
              · intro Q s w hC hA K hK
                clear hC
                obtain ⟨f2, -⟩ := hA
                replace f2 : (s 113) = .bool false := f2
                refine guard_off (d := 113) (want := true) (by rfl) (by rfl) ?_ ?_
                · show s 113 ≠ .bool true
                  rw [f2]; first | (simp; done) | (intro h_; cases h_)
                exact hK.out _ w (Below.refl _ _) (show undef = undef from rfl) (fun h => by cases h)
              refine StepsP.cons ?_ ?_
              · intro Q s w hC hA K hK
                clear hC
                obtain ⟨f16, -⟩ := hA
                replace f16 : (s 127) = undef := f16
                refine guard_off (d := 127) (want := false) (by rfl) (by rfl) ?_ ?_
                · show s 127 ≠ .bool false
                  rw [f16]; first | (simp; done) | (intro h_; cases h_)
                exact hK.out _ w (Below.refl _ _) (show undef = undef from rfl) (fun h => by cases h)
              refine StepsP.cons ?_ ?_
              · intro Q s w hC hA K hK
                clear hC
                obtain ⟨f16, -⟩ := hA
                replace f16 : (s 127) = undef := f16
                refine guard_off (d := 127) (want := false) (by rfl) (by rfl) ?_ ?_
                · show s 127 ≠ .bool false
                  rw [f16]; first | (simp; done) | (intro h_; cases h_)
                exact hK.out _ w (Below.refl _ _) (show undef = undef from rfl) (fun h => by cases h)
              refine StepsP.cons ?_ ?_
              · intro Q s w hC hA K hK
                clear hC
                obtain ⟨f16, -⟩ := hA
                replace f16 : (s 127) = undef := f16
                refine guard_off (d := 127) (want := false) (by rfl) (by rfl) ?_ ?_
                · show s 127 ≠ .bool false
                  rw [f16]; first | (simp; done) | (intro h_; cases h_)
                exact hK.out _ w (Below.refl _ _) (show undef = undef from rfl) (fun h => by cases h)
              refine StepsP.cons ?_ ?_
              · intro Q s w hC hA K hK
                clear hC
                obtain ⟨f16, -⟩ := hA
                replace f16 : (s 127) = undef := f16
                refine guard_off (d := 127) (want := false) (by rfl) (by rfl) ?_ ?_
                · show s 127 ≠ .bool false
                  rw [f16]; first | (simp; done) | (intro h_; cases h_)
                exact hK.out _ w (Below.refl _ _) (show undef = undef from rfl) (fun h => by cases h)
              refine StepsP.cons ?_ ?_
              · intro Q s w hC hA K hK
                clear hC
                obtain ⟨f16, -⟩ := hA
                replace f16 : (s 127) = undef := f16
                refine guard_off (d := 127) (want := false) (by rfl) (by rfl) ?_ ?_
                · show s 127 ≠ .bool false
                  rw [f16]; first | (simp; done) | (intro h_; cases h_)
                exact hK.out _ w (Below.refl _ _) (show undef = undef from rfl) (fun h => by cases h)
              refine StepsP.cons ?_ ?_
              · intro Q s w hC hA K hK
                clear hC
                obtain ⟨f16, -⟩ := hA
                replace f16 : (s 127) = undef := f16
                refine guard_off (d := 127) (want := false) (by rfl) (by rfl) ?_ ?_
                · show s 127 ≠ .bool false
                  rw [f16]; first | (simp; done) | (intro h_; cases h_)
                exact hK.out _ w (Below.refl _ _) (show undef = undef from rfl) (fun h => by cases h)
              refine StepsP.cons ?_ ?_
              · intro Q s w hC hA K hK
                clear hC
                obtain ⟨f16, -⟩ := hA
                replace f16 : (s 127) = undef := f16
                refine guard_off (d := 127) (want := false) (by rfl) (by rfl) ?_ ?_
                · show s 127 ≠ .bool false
                  rw [f16]; first | (simp; done) | (intro h_; cases h_)
                exact hK.out _ w (Below.refl _ _) (show undef = undef from rfl) (fun h => by cases h)
              refine StepsP.cons ?_ ?_
              · intro Q s w hC hA K hK
                clear hC
                obtain ⟨f16, -⟩ := hA
                replace f16 : (s 127) = undef := f16
                refine guard_off (d := 127) (want := false) (by rfl) (by rfl) ?_ ?_
                · show s 127 ≠ .bool false
                  rw [f16]; first | (simp; done) | (intro h_; cases h_)
                exact hK.out _ w (Below.refl _ _) (show undef = undef from rfl) (fun h => by cases h)
              refine StepsP.cons ?_ ?_
              · intro Q s w hC hA K hK
                clear hC
                obtain ⟨f16, -⟩ := hA
                replace f16 : (s 127) = undef := f16
                refine guard_off (d := 127) (want := false) (by rfl) (by rfl) ?_ ?_
                · show s 127 ≠ .bool false
                  rw [f16]; first | (simp; done) | (intro h_; cases h_)
                exact hK.out _ w (Below.refl _ _) (show undef = undef from rfl) (fun h => by cases h)
              refine StepsP.cons ?_ ?_
              · intro Q s w hC hA K hK
                clear hC
                obtain ⟨f16, -⟩ := hA
                replace f16 : (s 127) = undef := f16
                refine guard_off (d := 127) (want := false) (by rfl) (by rfl) ?_ ?_
                · show s 127 ≠ .bool false
                  rw [f16]; first | (simp; done) | (intro h_; cases h_)
                exact hK.out _ w (Below.refl _ _) (show undef = undef from rfl) (fun h => by cases h)
              refine StepsP.cons ?_ ?_
              · intro Q s w hC hA K hK
                clear hC
                obtain ⟨f16, -⟩ := hA
                replace f16 : (s 127) = undef := f16
                refine guard_off (d := 127) (want := false) (by rfl) (by rfl) ?_ ?_
                · show s 127 ≠ .bool false
                  rw [f16]; first | (simp; done) | (intro h_; cases h_)
                exact hK.out _ w (Below.refl _ _) (show undef = undef from rfl) (fun h => by cases h)
              refine StepsP.cons ?_ ?_
              · intro Q s w hC hA K hK
                clear hC
                obtain ⟨f16, -⟩ := hA
                replace f16 : (s 127) = undef := f16
                refine guard_off (d := 127) (want := false) (by rfl) (by rfl) ?_ ?_
                · show s 127 ≠ .bool false
                  rw [f16]; first | (simp; done) | (intro h_; cases h_)
                exact hK.out _ w (Below.refl _ _) (show undef = undef from rfl) (fun h => by cases h)
              refine StepsP.cons ?_ ?_
              · intro Q s w hC hA K hK
                clear hC
                obtain ⟨f16, -⟩ := hA
                replace f16 : (s 127) = undef := f16
                refine guard_off (d := 127) (want := false) (by rfl) (by rfl) ?_ ?_
                · show s 127 ≠ .bool false
                  rw [f16]; first | (simp; done) | (intro h_; cases h_)
                exact hK.out _ w (Below.refl _ _) (show undef = undef from rfl) (fun h => by cases h)
              refine StepsP.cons ?_ ?_
              · intro Q s w hC hA K hK
                clear hC
                obtain ⟨f2, -⟩ := hA
                replace f2 : (s 113) = .bool false := f2
                refine guard_off (d := 113) (want := true) (by rfl) (by rfl) ?_ ?_
                · show s 113 ≠ .bool true
                  rw [f2]; first | (simp; done) | (intro h_; cases h_)
                exact hK.out _ w (Below.refl _ _) (show undef = undef from rfl) (fun h => by cases h)
              refine StepsP.cons ?_ ?_
              · intro Q s w hC hA K hK
                clear hC
                obtain ⟨f2, -⟩ := hA
                replace f2 : (s 113) = .bool false := f2
                refine guard_none (by rfl) ?_
                refine wp_value (v := .bool false) (w1 := w) ?_ (hK.out _ w (Below.refl _ _) rfl (fun h => by cases h))
                try simp only [f2]
                go_simp
                try (first | done | rfl | (simp; done))
              exact StepsP.nil
            obtain ⟨hsz, hbw, hk, hkc, cc0, cc1⟩ := hC
            obtain ⟨f31, -⟩ := hA
            replace f31 : (s 142) = .bool false := f31
            refine act_eq (b' := ?b2) ?h2 ?q2
            case h2 => simp only [f31]; rfl
            clear hsz
            go_wp2
            have c0_hk := blk_drew hk
            have c0_hkc := blk_drew hkc
            have c0_cc0 : w.drew.cell? ⟨bg, og + t * 2, none⟩ = some (.int .i64 g0) := cc0
            have c0_cc1 : w.drew.cell? ⟨bg, og + t * 2 + 1, none⟩ = some (.int .i64 g1) := cc1
            clear hk hkc cc0 cc1 hw0B0
            obtain ⟨wD, hwD⟩ : ∃ q, q = w := ⟨_, rfl⟩
            rw [← hwD] at c0_hk c0_hkc c0_cc0 c0_cc1 hbw ⊢
            clear hwD
            obtain ⟨B9, hB9⟩ : ∃ q, q = B0 := ⟨_, rfl⟩
            clear hB9
            obtain ⟨B1, hB1⟩ : ∃ B, B = wD.heap.size := ⟨_, rfl⟩
            have c0_hsz : B1 ≤ wD.heap.size := Nat.le_of_eq hB1
            have hw0B1 : w0.heap.size ≤ B1 := by rw [hB1]; exact hbw.size
            have c0_hle : wD.heap.size ≤ B1 := Nat.le_of_eq hB1.symm
            have c0_hbw := bl_drew hbw
            clear hB1 hbw 
            refine region_lin (n := 15) (st := ?st3) { R := [0, 0, 3, 7, 15, 0, 0, 96, 224, 480, 1023, 0, 4095, 8191, 16383], kill := [[], [], [], [], [], [], [], [], [], [], [], [], [], [], []], cls := [0, 0, 0, 0, 0, 0, 0, 0, 0, 0, 0, 0, 0, 0, 0], dst := [some 143, some 144, some 145, some 146, some 147, some 148, some 149, some 150, some 151, some 152, some 153, some 154, some 155, some 156, some 157], pre := [[], [], [0, 1], [2], [3], [], [], [5, 6], [7], [8], [4, 9], [], [11], [10, 12], [13]], cov := [], fin := [14], locs := [], tgt := [none], abt := [none, none, none, none, none, none, none, none, none, none, none, none, none, none, none] }
              [.v [143] (fun vs => (vs.getD 0 undef) = .slice (some ⟨bg, og, none⟩) lg.length cg),
               .v [144] (fun vs => (vs.getD 0 undef) = .int .i64 (t : Int)),
               .v [145] (fun vs => (vs.getD 0 undef) = .pointer (some ⟨bg, og + t * 2, none⟩)),
               .v [146] (fun vs => (vs.getD 0 undef) = .pointer (some ⟨bg, og + t * 2, none⟩)),
               .v [147] (fun vs => (vs.getD 0 undef) = .int .i64 g0),
               .v [148] (fun vs => (vs.getD 0 undef) = .slice (some ⟨bg, og, none⟩) lg.length cg),
               .v [149] (fun vs => (vs.getD 0 undef) = .int .i64 (t : Int)),
               .v [150] (fun vs => (vs.getD 0 undef) = .pointer (some ⟨bg, og + t * 2, none⟩)),
               .v [151] (fun vs => (vs.getD 0 undef) = .pointer (some ⟨bg, og + t * 2 + 1, none⟩)),
               .v [152] (fun vs => (vs.getD 0 undef) = .int .i64 g1),
               .v [153] (fun vs => (vs.getD 0 undef) = vf),
               .v [154] (fun vs => (vs.getD 0 undef) = .int .i64 tol),
               .v [155] (fun vs => (vs.getD 0 undef) = vo),
               .v [156] (fun vs => (vs.getD 0 undef) = .int .i64 cv),
               .v [157] (fun vs => (vs.getD 0 undef) = .bool (decide (0 < cv)))]
              (fun w => B1 ≤ w.heap.size ∧ Below w0.heap.size w0 w ∧ w.heap[g]? = some (.cells V2.arr 68 (0, 0)) ∧ w.heap[gc]? = some (.cells #[.int .i64 cw, .int .i64 ctk, .bool cfr, .bool Bq] 40 (0, 0)) ∧ w.cell? ⟨bg, og + t * 2, none⟩ = some (.int .i64 g0) ∧ w.cell? ⟨bg, og + t * 2 + 1, none⟩ = some (.int .i64 g1))
              (fun c => ([fun s w w' => Below w.heap.size w w'] : List ((Nat → Value) → World → World → Prop)).getD c (fun s w w' => w' = w))
              [143, 144, 145, 146, 147, 148, 149, 150, 151, 152, 153, 154, 155, 156, 157] (by kernel_rfl) ⟨by kernel_rfl, by kernel_rfl, by kernel_rfl, by kernel_rfl, by kernel_rfl, by kernel_rfl, by kernel_rfl, by kernel_rfl⟩ (fun s => ?_) ?_ ?_ ?_ ?_ ?_ (fun s w hC hA => ?_)
            rotate_left
            · simp only [fillS, List.foldl, List.setIfInBounds_toArray, List.set_cons_zero, List.set_cons_succ]; rfl
            · exact ⟨c0_hsz, c0_hbw, c0_hk, c0_hkc, c0_cc0, c0_cc1⟩
            · intro c s w w' hE
              match c, hE with
              | 0, hE => exact Below.size hE
              | c + 1, hE => cases hE; exact Nat.le_refl _
            · rintro c s w w' ⟨hsz, hbw, hk, hkc, cc0, cc1⟩ hE
              match c, hE with
              | 0, hE => replace hE : Below w.heap.size w w' := hE; exact ⟨Nat.le_trans hsz hE.size, bl_step hbw hE, bl_block hE hk, bl_block hE hkc, bl_cell hE cc0, bl_cell hE cc1⟩
              | c + 1, hE => cases hE; exact ⟨hsz, hbw, hk, hkc, cc0, cc1⟩
            · exact trivial
            · skip
              refine StepsP.cons ?_ ?_
              · intro Q s w hC hA K hK
                clear hC
                clear hA
                refine guard_none (by rfl) ?_
                refine wp_value (v := .slice (some ⟨bg, og, none⟩) lg.length cg) (w1 := w) ?_ (hK.out _ w (Below.refl _ _) rfl (fun h => by cases h))
                go_simp
                try (first | done | rfl | (simp; done))
              refine StepsP.cons ?_ ?_
              · intro Q s w hC hA K hK
                clear hC
                clear hA
                refine guard_none (by rfl) ?_
                refine wp_value (v := .int .i64 (t : Int)) (w1 := w) ?_ (hK.out _ w (Below.refl _ _) rfl (fun h => by cases h))
                go_simp
                try (first | done | rfl | (simp; done))
              refine StepsP.cons ?_ ?_
              · intro Q s w hC hA K hK
                clear hC
                obtain ⟨f0, f1, -⟩ := hA
                replace f0 : (s 143) = .slice (some ⟨bg, og, none⟩) lg.length cg := f0
                replace f1 : (s 144) = .int .i64 (t : Int) := f1
                refine guard_none (by rfl) ?_
                refine wp_value (v := .pointer (some ⟨bg, og + t * 2, none⟩)) (w1 := w) ?_ (hK.out _ w (Below.refl _ _) rfl (fun h => by cases h))
                try simp only [f0, f1]
                go_simp
                try (first | done | rfl | (simp; done))
              refine StepsP.cons ?_ ?_
              · intro Q s w hC hA K hK
                clear hC
                obtain ⟨f2, -⟩ := hA
                replace f2 : (s 145) = .pointer (some ⟨bg, og + t * 2, none⟩) := f2
                refine guard_none (by rfl) ?_
                refine wp_value (v := .pointer (some ⟨bg, og + t * 2, none⟩)) (w1 := w) ?_ (hK.out _ w (Below.refl _ _) rfl (fun h => by cases h))
                try simp only [f2]
                go_simp
                try (first | done | rfl | (simp; done))
              refine StepsP.cons ?_ ?_
              · intro Q s w hC hA K hK
                obtain ⟨hsz, hbw, hk, hkc, cc0, cc1⟩ := hC
                obtain ⟨f3, -⟩ := hA
                replace f3 : (s 146) = .pointer (some ⟨bg, og + t * 2, none⟩) := f3
                refine guard_none (by rfl) ?_
                refine wp_value (v := .int .i64 g0) (w1 := w) ?_ (hK.out _ w (Below.refl _ _) rfl (fun h => by cases h))
                try simp only [f3]
                go_simp
                try (first | done | rfl | (simp; done))
              refine StepsP.cons ?_ ?_
              · intro Q s w hC hA K hK
                clear hC
                clear hA
                refine guard_none (by rfl) ?_
                refine wp_value (v := .slice (some ⟨bg, og, none⟩) lg.length cg) (w1 := w) ?_ (hK.out _ w (Below.refl _ _) rfl (fun h => by cases h))
                go_simp
                try (first | done | rfl | (simp; done))
              refine StepsP.cons ?_ ?_
              · intro Q s w hC hA K hK
                clear hC
                clear hA
                refine guard_none (by rfl) ?_
                refine wp_value (v := .int .i64 (t : Int)) (w1 := w) ?_ (hK.out _ w (Below.refl _ _) rfl (fun h => by cases h))
                go_simp
                try (first | done | rfl | (simp; done))
              refine StepsP.cons ?_ ?_
              · intro Q s w hC hA K hK
                clear hC
                obtain ⟨f5, f6, -⟩ := hA
                replace f5 : (s 148) = .slice (some ⟨bg, og, none⟩) lg.length cg := f5
                replace f6 : (s 149) = .int .i64 (t : Int) := f6
                refine guard_none (by rfl) ?_
                refine wp_value (v := .pointer (some ⟨bg, og + t * 2, none⟩)) (w1 := w) ?_ (hK.out _ w (Below.refl _ _) rfl (fun h => by cases h))
                try simp only [f5, f6]
                go_simp
                try (first | done | rfl | (simp; done))
              refine StepsP.cons ?_ ?_
              · intro Q s w hC hA K hK
                clear hC
                obtain ⟨f7, -⟩ := hA
                replace f7 : (s 150) = .pointer (some ⟨bg, og + t * 2, none⟩) := f7
                refine guard_none (by rfl) ?_
                refine wp_value (v := .pointer (some ⟨bg, og + t * 2 + 1, none⟩)) (w1 := w) ?_ (hK.out _ w (Below.refl _ _) rfl (fun h => by cases h))
                try simp only [f7]
                go_simp
                try (first | done | rfl | (simp; done))
              refine StepsP.cons ?_ ?_
              · intro Q s w hC hA K hK
                obtain ⟨hsz, hbw, hk, hkc, cc0, cc1⟩ := hC
                obtain ⟨f8, -⟩ := hA
                replace f8 : (s 151) = .pointer (some ⟨bg, og + t * 2 + 1, none⟩) := f8
                refine guard_none (by rfl) ?_
                refine wp_value (v := .int .i64 g1) (w1 := w) ?_ (hK.out _ w (Below.refl _ _) rfl (fun h => by cases h))
                try simp only [f8]
                go_simp
                try (first | done | rfl | (simp; done))
              refine StepsP.cons ?_ ?_
              · intro Q s w hC hA K hK
                obtain ⟨hsz, hbw, hk, hkc, cc0, cc1⟩ := hC
                obtain ⟨f4, f9, -⟩ := hA
                replace f4 : (s 147) = .int .i64 g0 := f4
                replace f9 : (s 152) = .int .i64 g1 := f9
                refine guard_none (by rfl) ?_
                refine wp_call (N := some 153) (by rfl) Try.func18 (by kernel_rfl) #[.int .i64 g0, .int .i64 g1] rfl (by rfl) ?_ ?_
                · show [s 147, s 152] = [.int .i64 g0, .int .i64 g1]
                  first | rfl | simp only [f4, f9]
                refine (hfar.out _).mono ?_
                rintro e w1 ⟨rfl, hb⟩
                refine ⟨_, rfl, ?_⟩
                exact hK.out _ _ hb rfl (fun h => by cases h)
              refine StepsP.cons ?_ ?_
              · intro Q s w hC hA K hK
                clear hC
                clear hA
                refine guard_none (by rfl) ?_
                refine wp_value (v := .int .i64 tol) (w1 := w) ?_ (hK.out _ w (Below.refl _ _) rfl (fun h => by cases h))
                go_simp
                try (first | done | rfl | (simp; done))
              refine StepsP.cons ?_ ?_
              · intro Q s w hC hA K hK
                obtain ⟨hsz, hbw, hk, hkc, cc0, cc1⟩ := hC
                obtain ⟨f11, -⟩ := hA
                replace f11 : (s 154) = .int .i64 tol := f11
                refine guard_none (by rfl) ?_
                refine wp_call (N := some 155) (by rfl) Try.func19 (by kernel_rfl) #[.int .i64 tol] rfl (by rfl) ?_ ?_
                · show [s 154] = [.int .i64 tol]
                  first | rfl | simp only [f11]
                refine (hof2.out _).mono ?_
                rintro e w1 ⟨rfl, hb⟩
                refine ⟨_, rfl, ?_⟩
                exact hK.out _ _ hb rfl (fun h => by cases h)
              refine StepsP.cons ?_ ?_
              · intro Q s w hC hA K hK
                obtain ⟨hsz, hbw, hk, hkc, cc0, cc1⟩ := hC
                obtain ⟨f10, f12, -⟩ := hA
                replace f10 : (s 153) = vf := f10
                replace f12 : (s 155) = vo := f12
                refine guard_none (by rfl) ?_
                refine wp_call (N := some 156) (by rfl) Try.func17 (by kernel_rfl) #[vf, vo] rfl (by rfl) ?_ ?_
                · show [s 153, s 155] = [vf, vo]
                  first | rfl | simp only [f10, f12]
                refine (hcmp.out _).mono ?_
                rintro e w1 ⟨rfl, hb⟩
                refine ⟨_, rfl, ?_⟩
                exact hK.out _ _ hb rfl (fun h => by cases h)
              refine StepsP.cons ?_ ?_
              · intro Q s w hC hA K hK
                clear hC
                obtain ⟨f13, -⟩ := hA
                replace f13 : (s 156) = .int .i64 cv := f13
                refine guard_none (by rfl) ?_
                refine wp_value (v := .bool (decide (0 < cv))) (w1 := w) ?_ (hK.out _ w (Below.refl _ _) rfl (fun h => by cases h))
                try simp only [f13]
                go_simp
                try (first | done | rfl | (simp; done))
              exact StepsP.nil
            obtain ⟨hsz, hbw, hk, hkc, cc0, cc1⟩ := hC
            obtain ⟨f14, -⟩ := hA
            replace f14 : (s 157) = .bool (decide (0 < cv)) := f14
            refine act_eq (b' := ?b3) ?h3 ?q3
            case h3 => simp only [f14]; rfl
            clear hsz hw0B1 hfar hof2 hcmp cc0 cc1
            cases hF : farV g0 g1 tol
            · have dcv : decide (0 < cv) = false := by rw [hcf.out]; exact hF
              simp only [dcv]
              obtain ⟨hV', hbs_⟩ := h_near.out hF
              replace hV' : Hid (HInv tol sk ill ((t + 1 : Nat) : Int) V2) := by show HInv tol sk ill ((t + 1 : Nat) : Int) V2; rw [show ((t + 1 : Nat) : Int) = (t : Int) + 1 by omega]; exact hV'
              clear hcf h_near hF
              have hB1 := h_two.out
              subst hB1
              subst hbs_
              replace hbad := hidI (fun W hk => (show Calls Try.prog 20 #[.pointer (some ⟨g, 0, none⟩)] W (fun e w' => e = .returned (.int .i64 1) ∧ Below W.heap.size W w') from hbad.out W hk))
              clear h_two
              by_cases hpos : 0 < t
              · skip
                have dt : decide ((0 : Int) < (t : Int)) = true := by first | exact decide_eq_true (by omega) | exact decide_eq_false (by omega)
                have dtn : decide (0 < t) = true := by first | exact decide_eq_true (by omega) | exact decide_eq_false (by omega)
                have cb3 : w.cell? ⟨gc, 3, none⟩ = some (.bool true) := blk_cell hkc 3 (by rfl)
                replace hpos := hidI hpos
                go_wp2_with fail
                refine (hbad.out _ hk).mono ?_
                rintro e wF ⟨rfl, hb_⟩
                replace hbw := bl_step hbw hb_
                replace hk := bl_block hb_ hk
                replace cb3 := bl_cell hb_ cb3
                clear hb_
                go_wp2_with fail
                refine (hbad.out _ hk).mono ?_
                rintro e wG ⟨rfl, hb_⟩
                replace hbw := bl_step hbw hb_
                replace hk := bl_block hb_ hk
                replace cb3 := bl_cell hb_ cb3
                clear hb_ hbad
                go_wp2
                go_roundw
                case rel => exact ⟨t + 1, V2, by omega, by go_num, hbw, hV'.out, hk⟩
                case measure => simp [intOf]; omega
              · skip
                have dt : decide ((0 : Int) < (t : Int)) = false := by first | exact decide_eq_true (by omega) | exact decide_eq_false (by omega)
                have dtn : decide (0 < t) = false := by first | exact decide_eq_true (by omega) | exact decide_eq_false (by omega)
                have cb3 : w.cell? ⟨gc, 3, none⟩ = some (.bool true) := blk_cell hkc 3 (by rfl)
                replace hpos := hidI hpos
                go_wp2_with fail
                refine (hbad.out _ hk).mono ?_
                rintro e wF ⟨rfl, hb_⟩
                replace hbw := bl_step hbw hb_
                replace hk := bl_block hb_ hk
                replace cb3 := bl_cell hb_ cb3
                clear hb_
                go_wp2_with fail
                refine (hbad.out _ hk).mono ?_
                rintro e wG ⟨rfl, hb_⟩
                replace hbw := bl_step hbw hb_
                replace hk := bl_block hb_ hk
                replace cb3 := bl_cell hb_ cb3
                clear hb_ hbad
                go_wp2
                go_roundw
                case rel => exact ⟨t + 1, V2, by omega, by go_num, hbw, hV'.out, hk⟩
                case measure => simp [intOf]; omega
            · have dcv : decide (0 < cv) = true := by rw [hcf.out]; exact hF
              simp only [dcv]
              clear hcf h_near hF h_two hk hkc
              go_wp2_with fail
              refine (alive22_calls _).mono ?_
              rintro e wz ⟨rfl, hbz⟩
              replace hbw := bl_step hbw hbz
              clear hbz
              go_wp2
              go_ret
              exact ⟨rfl, hbw⟩
          · subst hn
            obtain ⟨m0, m1⟩ := h_mid rfl
            have dm0 : decide (lx < min g0 g1) = false := decide_eq_false (by omega)
            have dm1 : decide (max g0 g1 < lx) = false := decide_eq_false (by omega)
            clear m0 m1 h_mid
            go_wp2_with fail
            refine (hvt.out _ hbw hk).mono ?_
            rintro e wA ⟨rfl, hE, hk⟩
            replace hbw := hE.b
            clear hE hvt
            go_wp2_with fail
            refine (hch.out _ hk).mono ?_
            rintro e wB ⟨rfl, hb_⟩
            replace hbw := bl_step hbw hb_
            replace hk := bl_block hb_ hk
            clear hb_ hch
            go_upto_region 23 with fail
            have hkc := blk_new wB (.cells #[.int .i64 cw, .int .i64 ctk, .bool cfr, .bool Bq] 40)
            replace hbw := bl_alloc hbw (.cells #[.int .i64 cw, .int .i64 ctk, .bool cfr, .bool Bq] 40)
            replace hk := blk_alloc hk (.cells #[.int .i64 cw, .int .i64 ctk, .bool cfr, .bool Bq] 40)
            generalize wB.alloc (.cells #[.int .i64 cw, .int .i64 ctk, .bool cfr, .bool Bq] 40) = wC at *
            generalize wB.heap.size = gc at *
            have c0_hk := blk_drew hk
            have c0_hkc := blk_drew hkc
            have c0_cc0 : wC.drew.cell? ⟨bg, og + t * 2, none⟩ = some (.int .i64 g0) := bl_cell hbw cg0
            have c0_cc1 : wC.drew.cell? ⟨bg, og + t * 2 + 1, none⟩ = some (.int .i64 g1) := bl_cell hbw cg1
            clear hk hkc
            obtain ⟨B0, hB0⟩ : ∃ B, B = wC.heap.size := ⟨_, rfl⟩
            have c0_hsz : B0 ≤ wC.heap.size := Nat.le_of_eq hB0
            have hw0B0 : w0.heap.size ≤ B0 := by rw [hB0]; exact hbw.size
            have c0_hle : wC.heap.size ≤ B0 := Nat.le_of_eq hB0.symm
            have c0_hbw := bl_drew hbw
            clear hB0 hbw 
            refine region_lin (n := 32) (st := ?st4) { R := [0, 1, 3, 7, 7, 7, 55, 119, 247, 7, 7, 1543, 3591, 7687, 16375, 32767, 65535, 131071, 131071, 131071, 917503, 1966079, 4063231, 131071, 131071, 25296895, 58851327, 125960191, 268304383, 536870911, 1073741823, 2147483647], kill := [[], [], [], [], [], [], [], [], [], [], [], [], [], [], [], [], [], [], [], [], [], [], [], [], [], [], [], [], [], [], [], []], cls := [0, 0, 0, 0, 0, 0, 0, 0, 0, 0, 0, 0, 0, 0, 0, 0, 0, 0, 0, 0, 0, 0, 0, 0, 0, 0, 0, 0, 0, 0, 0, 0], dst := [some 111, some 112, some 113, some 114, some 115, some 116, some 117, some 118, some 119, some 120, some 121, some 122, some 123, some 124, some 125, some 126, some 127, some 128, some 129, some 130, some 131, some 132, some 133, some 134, some 135, some 136, some 137, some 138, some 139, some 140, some 141, some 142], pre := [[], [0], [1], [2], [2], [2], [2, 4, 5], [2, 6], [2, 7], [2], [2], [2, 9, 10], [2, 11], [2, 12], [2, 8, 13], [2, 3, 14], [2, 15], [16], [16], [16], [16, 18, 19], [16, 20], [16, 21], [16], [16], [16, 23, 24], [16, 25], [16, 26], [16, 22, 27], [16, 17, 28], [2, 16, 29], [2, 30]], cov := [], fin := [31], locs := [], tgt := [none], abt := [none, none, none, none, none, none, none, none, none, none, none, none, none, none, none, none, none, none, none, none, none, none, none, none, none, none, none, none, none, none, none, none] }
              [.v [111] (fun vs => (vs.getD 0 undef) = .int .i64 3),
               .v [112] (fun vs => (vs.getD 0 undef) = .bool true),
               .v [113] (fun vs => (vs.getD 0 undef) = .bool true),
               .v [114] (fun vs => (vs.getD 0 undef) = .int .i64 lx),
               .v [115] (fun vs => (vs.getD 0 undef) = .slice (some ⟨bg, og, none⟩) lg.length cg),
               .v [116] (fun vs => (vs.getD 0 undef) = .int .i64 (t : Int)),
               .v [117] (fun vs => (vs.getD 0 undef) = .pointer (some ⟨bg, og + t * 2, none⟩)),
               .v [118] (fun vs => (vs.getD 0 undef) = .pointer (some ⟨bg, og + t * 2, none⟩)),
               .v [119] (fun vs => (vs.getD 0 undef) = .int .i64 g0),
               .v [120] (fun vs => (vs.getD 0 undef) = .slice (some ⟨bg, og, none⟩) lg.length cg),
               .v [121] (fun vs => (vs.getD 0 undef) = .int .i64 (t : Int)),
               .v [122] (fun vs => (vs.getD 0 undef) = .pointer (some ⟨bg, og + t * 2, none⟩)),
               .v [123] (fun vs => (vs.getD 0 undef) = .pointer (some ⟨bg, og + t * 2 + 1, none⟩)),
               .v [124] (fun vs => (vs.getD 0 undef) = .int .i64 g1),
               .v [125] (fun vs => (vs.getD 0 undef) = .int .i64 (min g0 g1)),
               .v [126] (fun vs => (vs.getD 0 undef) = .bool false),
               .v [127] (fun vs => (vs.getD 0 undef) = .bool false),
               .v [128] (fun vs => (vs.getD 0 undef) = .int .i64 lx),
               .v [129] (fun vs => (vs.getD 0 undef) = .slice (some ⟨bg, og, none⟩) lg.length cg),
               .v [130] (fun vs => (vs.getD 0 undef) = .int .i64 (t : Int)),
               .v [131] (fun vs => (vs.getD 0 undef) = .pointer (some ⟨bg, og + t * 2, none⟩)),
               .v [132] (fun vs => (vs.getD 0 undef) = .pointer (some ⟨bg, og + t * 2, none⟩)),
               .v [133] (fun vs => (vs.getD 0 undef) = .int .i64 g0),
               .v [134] (fun vs => (vs.getD 0 undef) = .slice (some ⟨bg, og, none⟩) lg.length cg),
               .v [135] (fun vs => (vs.getD 0 undef) = .int .i64 (t : Int)),
               .v [136] (fun vs => (vs.getD 0 undef) = .pointer (some ⟨bg, og + t * 2, none⟩)),
               .v [137] (fun vs => (vs.getD 0 undef) = .pointer (some ⟨bg, og + t * 2 + 1, none⟩)),
               .v [138] (fun vs => (vs.getD 0 undef) = .int .i64 g1),
               .v [139] (fun vs => (vs.getD 0 undef) = .int .i64 (max g0 g1)),
               .v [140] (fun vs => (vs.getD 0 undef) = .bool false),
               .v [141] (fun vs => (vs.getD 0 undef) = .bool false),
               .v [142] (fun vs => (vs.getD 0 undef) = .bool false)]
              (fun w => B0 ≤ w.heap.size ∧ Below w0.heap.size w0 w ∧ w.heap[g]? = some (.cells V2.arr 68 (0, 0)) ∧ w.heap[gc]? = some (.cells #[.int .i64 cw, .int .i64 ctk, .bool cfr, .bool Bq] 40 (0, 0)) ∧ w.cell? ⟨bg, og + t * 2, none⟩ = some (.int .i64 g0) ∧ w.cell? ⟨bg, og + t * 2 + 1, none⟩ = some (.int .i64 g1))
              (fun c => ([fun s w w' => Below w.heap.size w w'] : List ((Nat → Value) → World → World → Prop)).getD c (fun s w w' => w' = w))
              [111, 112, 113, 114, 115, 116, 117, 118, 119, 120, 121, 122, 123, 124, 125, 126, 127, 128, 129, 130, 131, 132, 133, 134, 135, 136, 137, 138, 139, 140, 141, 142] (by kernel_rfl) ⟨by kernel_rfl, by kernel_rfl, by kernel_rfl, by kernel_rfl, by kernel_rfl, by kernel_rfl, by kernel_rfl, by kernel_rfl⟩ (fun s => ?_) ?_ ?_ ?_ ?_ ?_ (fun s w hC hA => ?_)
            rotate_left
            · simp only [fillS, List.foldl, List.setIfInBounds_toArray, List.set_cons_zero, List.set_cons_succ]; rfl
            · exact ⟨c0_hsz, c0_hbw, c0_hk, c0_hkc, c0_cc0, c0_cc1⟩
            · intro c s w w' hE
              match c, hE with
              | 0, hE => exact Below.size hE
              | c + 1, hE => cases hE; exact Nat.le_refl _
            · rintro c s w w' ⟨hsz, hbw, hk, hkc, cc0, cc1⟩ hE
              match c, hE with
              | 0, hE => replace hE : Below w.heap.size w w' := hE; exact ⟨Nat.le_trans hsz hE.size, bl_step hbw hE, bl_block hE hk, bl_block hE hkc, bl_cell hE cc0, bl_cell hE cc1⟩
              | c + 1, hE => cases hE; exact ⟨hsz, hbw, hk, hkc, cc0, cc1⟩
            · exact trivial
            · skip
              refine StepsP.cons ?_ ?_
              · intro Q s w hC hA K hK
                clear hC
                clear hA
                refine guard_none (by rfl) ?_
                refine wp_value (v := .int .i64 3) (w1 := w) ?_ (hK.out _ w (Below.refl _ _) rfl (fun h => by cases h))
                go_simp
                try (first | done | rfl | (simp; done))
              refine StepsP.cons ?_ ?_
              · intro Q s w hC hA K hK
                clear hC
                obtain ⟨f0, -⟩ := hA
                replace f0 : (s 111) = .int .i64 3 := f0
                refine guard_none (by rfl) ?_
                refine wp_value (v := .bool true) (w1 := w) ?_ (hK.out _ w (Below.refl _ _) rfl (fun h => by cases h))
                try simp only [f0]
                go_simp
                try (first | done | rfl | (simp; done))
              refine StepsP.cons ?_ ?_
              · intro Q s w hC hA K hK
                clear hC
                obtain ⟨f1, -⟩ := hA
                replace f1 : (s 112) = .bool true := f1
                refine guard_none (by rfl) ?_
                refine wp_value (v := .bool true) (w1 := w) ?_ (hK.out _ w (Below.refl _ _) rfl (fun h => by cases h))
                try simp only [f1]
                go_simp
                try (first | done | rfl | (simp; done))
              refine StepsP.cons ?_ ?_
              · intro Q s w hC hA K hK
                clear hC
                obtain ⟨f2, -⟩ := hA
                replace f2 : (s 113) = .bool true := f2
                refine guard_on (d := 113) (want := true) (by rfl) (by rfl) ?_ ?_
                · exact f2
                refine wp_value (v := .int .i64 lx) (w1 := w) ?_ (hK.out _ w (Below.refl _ _) rfl (fun h => by cases h))
                try simp only [f2]
                go_simp
                try (first | done | rfl | (simp; done))
              refine StepsP.cons ?_ ?_
              · intro Q s w hC hA K hK
                clear hC
                obtain ⟨f2, -⟩ := hA
                replace f2 : (s 113) = .bool true := f2
                refine guard_on (d := 113) (want := true) (by rfl) (by rfl) ?_ ?_
                · exact f2
                refine wp_value (v := .slice (some ⟨bg, og, none⟩) lg.length cg) (w1 := w) ?_ (hK.out _ w (Below.refl _ _) rfl (fun h => by cases h))
                try simp only [f2]
                go_simp
                try (first | done | rfl | (simp; done))
              refine StepsP.cons ?_ ?_
              · intro Q s w hC hA K hK
                clear hC
                obtain ⟨f2, -⟩ := hA
                replace f2 : (s 113) = .bool true := f2
                refine guard_on (d := 113) (want := true) (by rfl) (by rfl) ?_ ?_
                · exact f2
                refine wp_value (v := .int .i64 (t : Int)) (w1 := w) ?_ (hK.out _ w (Below.refl _ _) rfl (fun h => by cases h))
                try simp only [f2]
                go_simp
                try (first | done | rfl | (simp; done))
              refine StepsP.cons ?_ ?_
              · intro Q s w hC hA K hK
                clear hC
                obtain ⟨f2, f4, f5, -⟩ := hA
                replace f2 : (s 113) = .bool true := f2
                replace f4 : (s 115) = .slice (some ⟨bg, og, none⟩) lg.length cg := f4
                replace f5 : (s 116) = .int .i64 (t : Int) := f5
                refine guard_on (d := 113) (want := true) (by rfl) (by rfl) ?_ ?_
                · exact f2
                refine wp_value (v := .pointer (some ⟨bg, og + t * 2, none⟩)) (w1 := w) ?_ (hK.out _ w (Below.refl _ _) rfl (fun h => by cases h))
                try simp only [f2, f4, f5]
                go_simp
                try (first | done | rfl | (simp; done))
              refine StepsP.cons ?_ ?_
              · intro Q s w hC hA K hK
                clear hC
                obtain ⟨f2, f6, -⟩ := hA
                replace f2 : (s 113) = .bool true := f2
                replace f6 : (s 117) = .pointer (some ⟨bg, og + t * 2, none⟩) := f6
                refine guard_on (d := 113) (want := true) (by rfl) (by rfl) ?_ ?_
                · exact f2
                refine wp_value (v := .pointer (some ⟨bg, og + t * 2, none⟩)) (w1 := w) ?_ (hK.out _ w (Below.refl _ _) rfl (fun h => by cases h))
                try simp only [f2, f6]
                go_simp
                try (first | done | rfl | (simp; done))
              refine StepsP.cons ?_ ?_
              · intro Q s w hC hA K hK
                obtain ⟨hsz, hbw, hk, hkc, cc0, cc1⟩ := hC
                obtain ⟨f2, f7, -⟩ := hA
                replace f2 : (s 113) = .bool true := f2
                replace f7 : (s 118) = .pointer (some ⟨bg, og + t * 2, none⟩) := f7
                refine guard_on (d := 113) (want := true) (by rfl) (by rfl) ?_ ?_
                · exact f2
                refine wp_value (v := .int .i64 g0) (w1 := w) ?_ (hK.out _ w (Below.refl _ _) rfl (fun h => by cases h))
                try simp only [f2, f7]
                go_simp
                try (first | done | rfl | (simp; done))
              refine StepsP.cons ?_ ?_
              · intro Q s w hC hA K hK
                clear hC
                obtain ⟨f2, -⟩ := hA
                replace f2 : (s 113) = .bool true := f2
                refine guard_on (d := 113) (want := true) (by rfl) (by rfl) ?_ ?_
                · exact f2
                refine wp_value (v := .slice (some ⟨bg, og, none⟩) lg.length cg) (w1 := w) ?_ (hK.out _ w (Below.refl _ _) rfl (fun h => by cases h))
                try simp only [f2]
                go_simp
                try (first | done | rfl | (simp; done))
              refine StepsP.cons ?_ ?_
              · intro Q s w hC hA K hK
                clear hC
                obtain ⟨f2, -⟩ := hA
                replace f2 : (s 113) = .bool true := f2
                refine guard_on (d := 113) (want := true) (by rfl) (by rfl) ?_ ?_
                · exact f2
                refine wp_value (v := .int .i64 (t : Int)) (w1 := w) ?_ (hK.out _ w (Below.refl _ _) rfl (fun h => by cases h))
                try simp only [f2]
                go_simp
                try (first | done | rfl | (simp; done))
              refine StepsP.cons ?_ ?_
              · intro Q s w hC hA K hK
                clear hC
                obtain ⟨f2, f9, f10, -⟩ := hA
                replace f2 : (s 113) = .bool true := f2
                replace f9 : (s 120) = .slice (some ⟨bg, og, none⟩) lg.length cg := f9
                replace f10 : (s 121) = .int .i64 (t : Int) := f10
                refine guard_on (d := 113) (want := true) (by rfl) (by rfl) ?_ ?_
                · exact f2
                refine wp_value (v := .pointer (some ⟨bg, og + t * 2, none⟩)) (w1 := w) ?_ (hK.out _ w (Below.refl _ _) rfl (fun h => by cases h))
                try simp only [f2, f9, f10]
                go_simp
                try (first | done | rfl | (simp; done))
              refine StepsP.cons ?_ ?_
              · intro Q s w hC hA K hK
                clear hC
                obtain ⟨f2, f11, -⟩ := hA
                replace f2 : (s 113) = .bool true := f2
                replace f11 : (s 122) = .pointer (some ⟨bg, og + t * 2, none⟩) := f11
                refine guard_on (d := 113) (want := true) (by rfl) (by rfl) ?_ ?_
                · exact f2
                refine wp_value (v := .pointer (some ⟨bg, og + t * 2 + 1, none⟩)) (w1 := w) ?_ (hK.out _ w (Below.refl _ _) rfl (fun h => by cases h))
                try simp only [f2, f11]
                go_simp
                try (first | done | rfl | (simp; done))
              refine StepsP.cons ?_ ?_
              · intro Q s w hC hA K hK
                obtain ⟨hsz, hbw, hk, hkc, cc0, cc1⟩ := hC
                obtain ⟨f2, f12, -⟩ := hA
                replace f2 : (s 113) = .bool true := f2
                replace f12 : (s 123) = .pointer (some ⟨bg, og + t * 2 + 1, none⟩) := f12
                refine guard_on (d := 113) (want := true) (by rfl) (by rfl) ?_ ?_
                · exact f2
                refine wp_value (v := .int .i64 g1) (w1 := w) ?_ (hK.out _ w (Below.refl _ _) rfl (fun h => by cases h))
                try simp only [f2, f12]
                go_simp
                try (first | done | rfl | (simp; done))
              refine StepsP.cons ?_ ?_
              · intro Q s w hC hA K hK
                clear hC
                obtain ⟨f2, f8, f13, -⟩ := hA
                replace f2 : (s 113) = .bool true := f2
                replace f8 : (s 119) = .int .i64 g0 := f8
                replace f13 : (s 124) = .int .i64 g1 := f13
                refine guard_on (d := 113) (want := true) (by rfl) (by rfl) ?_ ?_
                · exact f2
                refine wp_value (v := .int .i64 (min g0 g1)) (w1 := w) ?_ (hK.out _ w (Below.refl _ _) rfl (fun h => by cases h))
                try simp only [f2, f8, f13]
                go_simp
                try (first | done | rfl | (simp; done))
              refine StepsP.cons ?_ ?_
              · intro Q s w hC hA K hK
                clear hC
                obtain ⟨f2, f3, f14, -⟩ := hA
                replace f2 : (s 113) = .bool true := f2
                replace f3 : (s 114) = .int .i64 lx := f3
                replace f14 : (s 125) = .int .i64 (min g0 g1) := f14
                refine guard_on (d := 113) (want := true) (by rfl) (by rfl) ?_ ?_
                · exact f2
                refine wp_value (v := .bool false) (w1 := w) ?_ (hK.out _ w (Below.refl _ _) rfl (fun h => by cases h))
                try simp only [f2, f3, f14]
                go_simp
                try (first | done | rfl | (simp; done))
              refine StepsP.cons ?_ ?_
              · intro Q s w hC hA K hK
                clear hC
                obtain ⟨f2, f15, -⟩ := hA
                replace f2 : (s 113) = .bool true := f2
                replace f15 : (s 126) = .bool false := f15
                refine guard_on (d := 113) (want := true) (by rfl) (by rfl) ?_ ?_
                · exact f2
                refine wp_value (v := .bool false) (w1 := w) ?_ (hK.out _ w (Below.refl _ _) rfl (fun h => by cases h))
                try simp only [f2, f15]
                go_simp
                try (first | done | rfl | (simp; done))
              refine StepsP.cons ?_ ?_
              · intro Q s w hC hA K hK
                clear hC
                obtain ⟨f16, -⟩ := hA
                replace f16 : (s 127) = .bool false := f16
                refine guard_on (d := 127) (want := false) (by rfl) (by rfl) ?_ ?_
                · exact f16
                refine wp_value (v := .int .i64 lx) (w1 := w) ?_ (hK.out _ w (Below.refl _ _) rfl (fun h => by cases h))
                try simp only [f16]
                go_simp
                try (first | done | rfl | (simp; done))
              refine StepsP.cons ?_ ?_
              · intro Q s w hC hA K hK
                clear hC
                obtain ⟨f16, -⟩ := hA
                replace f16 : (s 127) = .bool false := f16
                refine guard_on (d := 127) (want := false) (by rfl) (by rfl) ?_ ?_
                · exact f16
                refine wp_value (v := .slice (some ⟨bg, og, none⟩) lg.length cg) (w1 := w) ?_ (hK.out _ w (Below.refl _ _) rfl (fun h => by cases h))
                try simp only [f16]
                go_simp
                try (first | done | rfl | (simp; done))
              refine StepsP.cons ?_ ?_
              · intro Q s w hC hA K hK
                clear hC
                obtain ⟨f16, -⟩ := hA
                replace f16 : (s 127) = .bool false := f16
                refine guard_on (d := 127) (want := false) (by rfl) (by rfl) ?_ ?_
                · exact f16
                refine wp_value (v := .int .i64 (t : Int)) (w1 := w) ?_ (hK.out _ w (Below.refl _ _) rfl (fun h => by cases h))
                try simp only [f16]
                go_simp
                try (first | done | rfl | (simp; done))
              refine StepsP.cons ?_ ?_
              · intro Q s w hC hA K hK
                clear hC
                obtain ⟨f16, f18, f19, -⟩ := hA
                replace f16 : (s 127) = .bool false := f16
                replace f18 : (s 129) = .slice (some ⟨bg, og, none⟩) lg.length cg := f18
                replace f19 : (s 130) = .int .i64 (t : Int) := f19
                refine guard_on (d := 127) (want := false) (by rfl) (by rfl) ?_ ?_
                · exact f16
                refine wp_value (v := .pointer (some ⟨bg, og + t * 2, none⟩)) (w1 := w) ?_ (hK.out _ w (Below.refl _ _) rfl (fun h => by cases h))
                try simp only [f16, f18, f19]
                go_simp
                try (first | done | rfl | (simp; done))
              refine StepsP.cons ?_ ?_
              · intro Q s w hC hA K hK
                clear hC
                obtain ⟨f16, f20, -⟩ := hA
                replace f16 : (s 127) = .bool false := f16
                replace f20 : (s 131) = .pointer (some ⟨bg, og + t * 2, none⟩) := f20
                refine guard_on (d := 127) (want := false) (by rfl) (by rfl) ?_ ?_
                · exact f16
                refine wp_value (v := .pointer (some ⟨bg, og + t * 2, none⟩)) (w1 := w) ?_ (hK.out _ w (Below.refl _ _) rfl (fun h => by cases h))
                try simp only [f16, f20]
                go_simp
                try (first | done | rfl | (simp; done))
              refine StepsP.cons ?_ ?_
              · intro Q s w hC hA K hK
                obtain ⟨hsz, hbw, hk, hkc, cc0, cc1⟩ := hC
                obtain ⟨f16, f21, -⟩ := hA
                replace f16 : (s 127) = .bool false := f16
                replace f21 : (s 132) = .pointer (some ⟨bg, og + t * 2, none⟩) := f21
                refine guard_on (d := 127) (want := false) (by rfl) (by rfl) ?_ ?_
                · exact f16
                refine wp_value (v := .int .i64 g0) (w1 := w) ?_ (hK.out _ w (Below.refl _ _) rfl (fun h => by cases h))
                try simp only [f16, f21]
                go_simp
                try (first | done | rfl | (simp; done))
              refine StepsP.cons ?_ ?_
              · intro Q s w hC hA K hK
                clear hC
                obtain ⟨f16, -⟩ := hA
                replace f16 : (s 127) = .bool false := f16
                refine guard_on (d := 127) (want := false) (by rfl) (by rfl) ?_ ?_
                · exact f16
                refine wp_value (v := .slice (some ⟨bg, og, none⟩) lg.length cg) (w1 := w) ?_ (hK.out _ w (Below.refl _ _) rfl (fun h => by cases h))
                try simp only [f16]
                go_simp
                try (first | done | rfl | (simp; done))
              refine StepsP.cons ?_ ?_
              · intro Q s w hC hA K hK
                clear hC
                obtain ⟨f16, -⟩ := hA
                replace f16 : (s 127) = .bool false := f16
                refine guard_on (d := 127) (want := false) (by rfl) (by rfl) ?_ ?_
                · exact f16
                refine wp_value (v := .int .i64 (t : Int)) (w1 := w) ?_ (hK.out _ w (Below.refl _ _) rfl (fun h => by cases h))
                try simp only [f16]
                go_simp
                try (first | done | rfl | (simp; done))
              refine StepsP.cons ?_ ?_
              · intro Q s w hC hA K hK
                clear hC
                obtain ⟨f16, f23, f24, -⟩ := hA
                replace f16 : (s 127) = .bool false := f16
                replace f23 : (s 134) = .slice (some ⟨bg, og, none⟩) lg.length cg := f23
                replace f24 : (s 135) = .int .i64 (t : Int) := f24
                refine guard_on (d := 127) (want := false) (by rfl) (by rfl) ?_ ?_
                · exact f16
                refine wp_value (v := .pointer (some ⟨bg, og + t * 2, none⟩)) (w1 := w) ?_ (hK.out _ w (Below.refl _ _) rfl (fun h => by cases h))
                try simp only [f16, f23, f24]
                go_simp
                try (first | done | rfl | (simp; done))
              refine StepsP.cons ?_ ?_
              · intro Q s w hC hA K hK
                clear hC
                obtain ⟨f16, f25, -⟩ := hA
                replace f16 : (s 127) = .bool false := f16
                replace f25 : (s 136) = .pointer (some ⟨bg, og + t * 2, none⟩) := f25
                refine guard_on (d := 127) (want := false) (by rfl) (by rfl) ?_ ?_
                · exact f16
                refine wp_value (v := .pointer (some ⟨bg, og + t * 2 + 1, none⟩)) (w1 := w) ?_ (hK.out _ w (Below.refl _ _) rfl (fun h => by cases h))
                try simp only [f16, f25]
                go_simp
                try (first | done | rfl | (simp; done))
              refine StepsP.cons ?_ ?_
              · intro Q s w hC hA K hK
                obtain ⟨hsz, hbw, hk, hkc, cc0, cc1⟩ := hC
                obtain ⟨f16, f26, -⟩ := hA
                replace f16 : (s 127) = .bool false := f16
                replace f26 : (s 137) = .pointer (some ⟨bg, og + t * 2 + 1, none⟩) := f26
                refine guard_on (d := 127) (want := false) (by rfl) (by rfl) ?_ ?_
                · exact f16
                refine wp_value (v := .int .i64 g1) (w1 := w) ?_ (hK.out _ w (Below.refl _ _) rfl (fun h => by cases h))
                try simp only [f16, f26]
                go_simp
                try (first | done | rfl | (simp; done))
              refine StepsP.cons ?_ ?_
              · intro Q s w hC hA K hK
                clear hC
                obtain ⟨f16, f22, f27, -⟩ := hA
                replace f16 : (s 127) = .bool false := f16
                replace f22 : (s 133) = .int .i64 g0 := f22
                replace f27 : (s 138) = .int .i64 g1 := f27
                refine guard_on (d := 127) (want := false) (by rfl) (by rfl) ?_ ?_
                · exact f16
                refine wp_value (v := .int .i64 (max g0 g1)) (w1 := w) ?_ (hK.out _ w (Below.refl _ _) rfl (fun h => by cases h))
                try simp only [f16, f22, f27]
                go_simp
                try (first | done | rfl | (simp; done))
              refine StepsP.cons ?_ ?_
              · intro Q s w hC hA K hK
                clear hC
                obtain ⟨f16, f17, f28, -⟩ := hA
                replace f16 : (s 127) = .bool false := f16
                replace f17 : (s 128) = .int .i64 lx := f17
                replace f28 : (s 139) = .int .i64 (max g0 g1) := f28
                refine guard_on (d := 127) (want := false) (by rfl) (by rfl) ?_ ?_
                · exact f16
                refine wp_value (v := .bool false) (w1 := w) ?_ (hK.out _ w (Below.refl _ _) rfl (fun h => by cases h))
                try simp only [f16, f17, f28]
                go_simp
                try (first | done | rfl | (simp; done))
              refine StepsP.cons ?_ ?_
              · intro Q s w hC hA K hK
                clear hC
                obtain ⟨f2, f16, f29, -⟩ := hA
                replace f2 : (s 113) = .bool true := f2
                replace f16 : (s 127) = .bool false := f16
                replace f29 : (s 140) = .bool false := f29
                refine guard_on (d := 113) (want := true) (by rfl) (by rfl) ?_ ?_
                · exact f2
                refine wp_value (v := .bool false) (w1 := w) ?_ (hK.out _ w (Below.refl _ _) rfl (fun h => by cases h))
                try simp only [f2, f16, f29]
                go_simp
                try (first | done | rfl | (simp; done))
              refine StepsP.cons ?_ ?_
              · intro Q s w hC hA K hK
                clear hC
                obtain ⟨f2, f30, -⟩ := hA
                replace f2 : (s 113) = .bool true := f2
                replace f30 : (s 141) = .bool false := f30
                refine guard_none (by rfl) ?_
                refine wp_value (v := .bool false) (w1 := w) ?_ (hK.out _ w (Below.refl _ _) rfl (fun h => by cases h))
                try simp only [f2, f30]
                go_simp
                try (first | done | rfl | (simp; done))
              exact StepsP.nil
            obtain ⟨hsz, hbw, hk, hkc, cc0, cc1⟩ := hC
            obtain ⟨f31, -⟩ := hA
            replace f31 : (s 142) = .bool false := f31
            refine act_eq (b' := ?b4) ?h4 ?q4
            case h4 => simp only [f31]; rfl
            clear hsz
            go_wp2
            have c0_hk := blk_drew hk
            have c0_hkc := blk_drew hkc
            have c0_cc0 : w.drew.cell? ⟨bg, og + t * 2, none⟩ = some (.int .i64 g0) := cc0
            have c0_cc1 : w.drew.cell? ⟨bg, og + t * 2 + 1, none⟩ = some (.int .i64 g1) := cc1
            clear hk hkc cc0 cc1 hw0B0
            obtain ⟨wD, hwD⟩ : ∃ q, q = w := ⟨_, rfl⟩
            rw [← hwD] at c0_hk c0_hkc c0_cc0 c0_cc1 hbw ⊢
            clear hwD
            obtain ⟨B9, hB9⟩ : ∃ q, q = B0 := ⟨_, rfl⟩
            clear hB9
            obtain ⟨B1, hB1⟩ : ∃ B, B = wD.heap.size := ⟨_, rfl⟩
            have c0_hsz : B1 ≤ wD.heap.size := Nat.le_of_eq hB1
            have hw0B1 : w0.heap.size ≤ B1 := by rw [hB1]; exact hbw.size
            have c0_hle : wD.heap.size ≤ B1 := Nat.le_of_eq hB1.symm
            have c0_hbw := bl_drew hbw
            clear hB1 hbw 
            refine region_lin (n := 15) (st := ?st5) { R := [0, 0, 3, 7, 15, 0, 0, 96, 224, 480, 1023, 0, 4095, 8191, 16383], kill := [[], [], [], [], [], [], [], [], [], [], [], [], [], [], []], cls := [0, 0, 0, 0, 0, 0, 0, 0, 0, 0, 0, 0, 0, 0, 0], dst := [some 143, some 144, some 145, some 146, some 147, some 148, some 149, some 150, some 151, some 152, some 153, some 154, some 155, some 156, some 157], pre := [[], [], [0, 1], [2], [3], [], [], [5, 6], [7], [8], [4, 9], [], [11], [10, 12], [13]], cov := [], fin := [14], locs := [], tgt := [none], abt := [none, none, none, none, none, none, none, none, none, none, none, none, none, none, none] }
              [.v [143] (fun vs => (vs.getD 0 undef) = .slice (some ⟨bg, og, none⟩) lg.length cg),
               .v [144] (fun vs => (vs.getD 0 undef) = .int .i64 (t : Int)),
               .v [145] (fun vs => (vs.getD 0 undef) = .pointer (some ⟨bg, og + t * 2, none⟩)),
               .v [146] (fun vs => (vs.getD 0 undef) = .pointer (some ⟨bg, og + t * 2, none⟩)),
               .v [147] (fun vs => (vs.getD 0 undef) = .int .i64 g0),
               .v [148] (fun vs => (vs.getD 0 undef) = .slice (some ⟨bg, og, none⟩) lg.length cg),
               .v [149] (fun vs => (vs.getD 0 undef) = .int .i64 (t : Int)),
               .v [150] (fun vs => (vs.getD 0 undef) = .pointer (some ⟨bg, og + t * 2, none⟩)),
               .v [151] (fun vs => (vs.getD 0 undef) = .pointer (some ⟨bg, og + t * 2 + 1, none⟩)),
               .v [152] (fun vs => (vs.getD 0 undef) = .int .i64 g1),
               .v [153] (fun vs => (vs.getD 0 undef) = vf),
               .v [154] (fun vs => (vs.getD 0 undef) = .int .i64 tol),
               .v [155] (fun vs => (vs.getD 0 undef) = vo),
               .v [156] (fun vs => (vs.getD 0 undef) = .int .i64 cv),
               .v [157] (fun vs => (vs.getD 0 undef) = .bool (decide (0 < cv)))]
              (fun w => B1 ≤ w.heap.size ∧ Below w0.heap.size w0 w ∧ w.heap[g]? = some (.cells V2.arr 68 (0, 0)) ∧ w.heap[gc]? = some (.cells #[.int .i64 cw, .int .i64 ctk, .bool cfr, .bool Bq] 40 (0, 0)) ∧ w.cell? ⟨bg, og + t * 2, none⟩ = some (.int .i64 g0) ∧ w.cell? ⟨bg, og + t * 2 + 1, none⟩ = some (.int .i64 g1))
              (fun c => ([fun s w w' => Below w.heap.size w w'] : List ((Nat → Value) → World → World → Prop)).getD c (fun s w w' => w' = w))
              [143, 144, 145, 146, 147, 148, 149, 150, 151, 152, 153, 154, 155, 156, 157] (by kernel_rfl) ⟨by kernel_rfl, by kernel_rfl, by kernel_rfl, by kernel_rfl, by kernel_rfl, by kernel_rfl, by kernel_rfl, by kernel_rfl⟩ (fun s => ?_) ?_ ?_ ?_ ?_ ?_ (fun s w hC hA => ?_)
            rotate_left
            · simp only [fillS, List.foldl, List.setIfInBounds_toArray, List.set_cons_zero, List.set_cons_succ]; rfl
            · exact ⟨c0_hsz, c0_hbw, c0_hk, c0_hkc, c0_cc0, c0_cc1⟩
            · intro c s w w' hE
              match c, hE with
              | 0, hE => exact Below.size hE
              | c + 1, hE => cases hE; exact Nat.le_refl _
            · rintro c s w w' ⟨hsz, hbw, hk, hkc, cc0, cc1⟩ hE
              match c, hE with
              | 0, hE => replace hE : Below w.heap.size w w' := hE; exact ⟨Nat.le_trans hsz hE.size, bl_step hbw hE, bl_block hE hk, bl_block hE hkc, bl_cell hE cc0, bl_cell hE cc1⟩
              | c + 1, hE => cases hE; exact ⟨hsz, hbw, hk, hkc, cc0, cc1⟩
            · exact trivial
            · skip
              refine StepsP.cons ?_ ?_
              · intro Q s w hC hA K hK
                clear hC
                clear hA
                refine guard_none (by rfl) ?_
                refine wp_value (v := .slice (some ⟨bg, og, none⟩) lg.length cg) (w1 := w) ?_ (hK.out _ w (Below.refl _ _) rfl (fun h => by cases h))
                go_simp
                try (first | done | rfl | (simp; done))
              refine StepsP.cons ?_ ?_
              · intro Q s w hC hA K hK
                clear hC
                clear hA
                refine guard_none (by rfl) ?_
                refine wp_value (v := .int .i64 (t : Int)) (w1 := w) ?_ (hK.out _ w (Below.refl _ _) rfl (fun h => by cases h))
                go_simp
                try (first | done | rfl | (simp; done))
              refine StepsP.cons ?_ ?_
              · intro Q s w hC hA K hK
                clear hC
                obtain ⟨f0, f1, -⟩ := hA
                replace f0 : (s 143) = .slice (some ⟨bg, og, none⟩) lg.length cg := f0
                replace f1 : (s 144) = .int .i64 (t : Int) := f1
                refine guard_none (by rfl) ?_
                refine wp_value (v := .pointer (some ⟨bg, og + t * 2, none⟩)) (w1 := w) ?_ (hK.out _ w (Below.refl _ _) rfl (fun h => by cases h))
                try simp only [f0, f1]
                go_simp
                try (first | done | rfl | (simp; done))
              refine StepsP.cons ?_ ?_
              · intro Q s w hC hA K hK
                clear hC
                obtain ⟨f2, -⟩ := hA
                replace f2 : (s 145) = .pointer (some ⟨bg, og + t * 2, none⟩) := f2
                refine guard_none (by rfl) ?_
                refine wp_value (v := .pointer (some ⟨bg, og + t * 2, none⟩)) (w1 := w) ?_ (hK.out _ w (Below.refl _ _) rfl (fun h => by cases h))
                try simp only [f2]
                go_simp
                try (first | done | rfl | (simp; done))
              refine StepsP.cons ?_ ?_
              · intro Q s w hC hA K hK
                obtain ⟨hsz, hbw, hk, hkc, cc0, cc1⟩ := hC
                obtain ⟨f3, -⟩ := hA
                replace f3 : (s 146) = .pointer (some ⟨bg, og + t * 2, none⟩) := f3
                refine guard_none (by rfl) ?_
                refine wp_value (v := .int .i64 g0) (w1 := w) ?_ (hK.out _ w (Below.refl _ _) rfl (fun h => by cases h))
                try simp only [f3]
                go_simp
                try (first | done | rfl | (simp; done))
              refine StepsP.cons ?_ ?_
              · intro Q s w hC hA K hK
                clear hC
                clear hA
                refine guard_none (by rfl) ?_
                refine wp_value (v := .slice (some ⟨bg, og, none⟩) lg.length cg) (w1 := w) ?_ (hK.out _ w (Below.refl _ _) rfl (fun h => by cases h))
                go_simp
                try (first | done | rfl | (simp; done))
              refine StepsP.cons ?_ ?_
              · intro Q s w hC hA K hK
                clear hC
                clear hA
                refine guard_none (by rfl) ?_
                refine wp_value (v := .int .i64 (t : Int)) (w1 := w) ?_ (hK.out _ w (Below.refl _ _) rfl (fun h => by cases h))
                go_simp
                try (first | done | rfl | (simp; done))
              refine StepsP.cons ?_ ?_
              · intro Q s w hC hA K hK
                clear hC
                obtain ⟨f5, f6, -⟩ := hA
                replace f5 : (s 148) = .slice (some ⟨bg, og, none⟩) lg.length cg := f5
                replace f6 : (s 149) = .int .i64 (t : Int) := f6
                refine guard_none (by rfl) ?_
                refine wp_value (v := .pointer (some ⟨bg, og + t * 2, none⟩)) (w1 := w) ?_ (hK.out _ w (Below.refl _ _) rfl (fun h => by cases h))
                try simp only [f5, f6]
                go_simp
                try (first | done | rfl | (simp; done))
              refine StepsP.cons ?_ ?_
              · intro Q s w hC hA K hK
                clear hC
                obtain ⟨f7, -⟩ := hA
                replace f7 : (s 150) = .pointer (some ⟨bg, og + t * 2, none⟩) := f7
                refine guard_none (by rfl) ?_
                refine wp_value (v := .pointer (some ⟨bg, og + t * 2 + 1, none⟩)) (w1 := w) ?_ (hK.out _ w (Below.refl _ _) rfl (fun h => by cases h))
                try simp only [f7]
                go_simp
                try (first | done | rfl | (simp; done))
              refine StepsP.cons ?_ ?_
              · intro Q s w hC hA K hK
                obtain ⟨hsz, hbw, hk, hkc, cc0, cc1⟩ := hC
                obtain ⟨f8, -⟩ := hA
                replace f8 : (s 151) = .pointer (some ⟨bg, og + t * 2 + 1, none⟩) := f8
                refine guard_none (by rfl) ?_
                refine wp_value (v := .int .i64 g1) (w1 := w) ?_ (hK.out _ w (Below.refl _ _) rfl (fun h => by cases h))
                try simp only [f8]
                go_simp
                try (first | done | rfl | (simp; done))
              refine StepsP.cons ?_ ?_
              · intro Q s w hC hA K hK
                obtain ⟨hsz, hbw, hk, hkc, cc0, cc1⟩ := hC
                obtain ⟨f4, f9, -⟩ := hA
                replace f4 : (s 147) = .int .i64 g0 := f4
                replace f9 : (s 152) = .int .i64 g1 := f9
                refine guard_none (by rfl) ?_
                refine wp_call (N := some 153) (by rfl) Try.func18 (by kernel_rfl) #[.int .i64 g0, .int .i64 g1] rfl (by rfl) ?_ ?_
                · show [s 147, s 152] = [.int .i64 g0, .int .i64 g1]
                  first | rfl | simp only [f4, f9]
                refine (hfar.out _).mono ?_
                rintro e w1 ⟨rfl, hb⟩
                refine ⟨_, rfl, ?_⟩
                exact hK.out _ _ hb rfl (fun h => by cases h)
              refine StepsP.cons ?_ ?_
              · intro Q s w hC hA K hK
                clear hC
                clear hA
                refine guard_none (by rfl) ?_
                refine wp_value (v := .int .i64 tol) (w1 := w) ?_ (hK.out _ w (Below.refl _ _) rfl (fun h => by cases h))
                go_simp
                try (first | done | rfl | (simp; done))
              refine StepsP.cons ?_ ?_
              · intro Q s w hC hA K hK
                obtain ⟨hsz, hbw, hk, hkc, cc0, cc1⟩ := hC
                obtain ⟨f11, -⟩ := hA
                replace f11 : (s 154) = .int .i64 tol := f11
                refine guard_none (by rfl) ?_
                refine wp_call (N := some 155) (by rfl) Try.func19 (by kernel_rfl) #[.int .i64 tol] rfl (by rfl) ?_ ?_
                · show [s 154] = [.int .i64 tol]
                  first | rfl | simp only [f11]
                refine (hof2.out _).mono ?_
                rintro e w1 ⟨rfl, hb⟩
                refine ⟨_, rfl, ?_⟩
                exact hK.out _ _ hb rfl (fun h => by cases h)
              refine StepsP.cons ?_ ?_
              · intro Q s w hC hA K hK
                obtain ⟨hsz, hbw, hk, hkc, cc0, cc1⟩ := hC
                obtain ⟨f10, f12, -⟩ := hA
                replace f10 : (s 153) = vf := f10
                replace f12 : (s 155) = vo := f12
                refine guard_none (by rfl) ?_
                refine wp_call (N := some 156) (by rfl) Try.func17 (by kernel_rfl) #[vf, vo] rfl (by rfl) ?_ ?_
                · show [s 153, s 155] = [vf, vo]
                  first | rfl | simp only [f10, f12]
                refine (hcmp.out _).mono ?_
                rintro e w1 ⟨rfl, hb⟩
                refine ⟨_, rfl, ?_⟩
                exact hK.out _ _ hb rfl (fun h => by cases h)
              refine StepsP.cons ?_ ?_
              · intro Q s w hC hA K hK
                clear hC
                obtain ⟨f13, -⟩ := hA
                replace f13 : (s 156) = .int .i64 cv := f13
                refine guard_none (by rfl) ?_
                refine wp_value (v := .bool (decide (0 < cv))) (w1 := w) ?_ (hK.out _ w (Below.refl _ _) rfl (fun h => by cases h))
                try simp only [f13]
                go_simp
                try (first | done | rfl | (simp; done))
              exact StepsP.nil
            obtain ⟨hsz, hbw, hk, hkc, cc0, cc1⟩ := hC
            obtain ⟨f14, -⟩ := hA
            replace f14 : (s 157) = .bool (decide (0 < cv)) := f14
            refine act_eq (b' := ?b5) ?h5 ?q5
            case h5 => simp only [f14]; rfl
            clear hsz hw0B1 hfar hof2 hcmp cc0 cc1
            cases hF : farV g0 g1 tol
            · have dcv : decide (0 < cv) = false := by rw [hcf.out]; exact hF
              simp only [dcv]
              obtain ⟨hV', hbs_⟩ := h_near.out hF
              replace hV' : Hid (HInv tol sk ill ((t + 1 : Nat) : Int) V2) := by show HInv tol sk ill ((t + 1 : Nat) : Int) V2; rw [show ((t + 1 : Nat) : Int) = (t : Int) + 1 by omega]; exact hV'
              clear hcf h_near hF
              clear h_two
              cases Bq
              · subst hbs_
                replace hbad := hidI (fun W hk => (show Calls Try.prog 20 #[.pointer (some ⟨g, 0, none⟩)] W (fun e w' => e = .returned (.int .i64 0) ∧ Below W.heap.size W w') from hbad.out W hk))
                by_cases hpos : 0 < t
                · skip
                  have dt : decide ((0 : Int) < (t : Int)) = true := by first | exact decide_eq_true (by omega) | exact decide_eq_false (by omega)
                  have dtn : decide (0 < t) = true := by first | exact decide_eq_true (by omega) | exact decide_eq_false (by omega)
                  have cb3 : w.cell? ⟨gc, 3, none⟩ = some (.bool false) := blk_cell hkc 3 (by rfl)
                  replace hpos := hidI hpos
                  go_wp2_with fail
                  refine (hbad.out _ hk).mono ?_
                  rintro e wF ⟨rfl, hb_⟩
                  replace hbw := bl_step hbw hb_
                  replace hk := bl_block hb_ hk
                  replace cb3 := bl_cell hb_ cb3
                  clear hb_
                  go_wp2_with fail
                  refine (hbad.out _ hk).mono ?_
                  rintro e wG ⟨rfl, hb_⟩
                  replace hbw := bl_step hbw hb_
                  replace hk := bl_block hb_ hk
                  replace cb3 := bl_cell hb_ cb3
                  clear hb_ hbad
                  go_wp2
                  go_roundw
                  case rel => exact ⟨t + 1, V2, by omega, by go_num, hbw, hV'.out, hk⟩
                  case measure => simp [intOf]; omega
                · skip
                  have dt : decide ((0 : Int) < (t : Int)) = false := by first | exact decide_eq_true (by omega) | exact decide_eq_false (by omega)
                  have dtn : decide (0 < t) = false := by first | exact decide_eq_true (by omega) | exact decide_eq_false (by omega)
                  have cb3 : w.cell? ⟨gc, 3, none⟩ = some (.bool false) := blk_cell hkc 3 (by rfl)
                  replace hpos := hidI hpos
                  go_wp2_with fail
                  refine (hbad.out _ hk).mono ?_
                  rintro e wF ⟨rfl, hb_⟩
                  replace hbw := bl_step hbw hb_
                  replace hk := bl_block hb_ hk
                  replace cb3 := bl_cell hb_ cb3
                  clear hb_
                  go_wp2_with fail
                  refine (hbad.out _ hk).mono ?_
                  rintro e wG ⟨rfl, hb_⟩
                  replace hbw := bl_step hbw hb_
                  replace hk := bl_block hb_ hk
                  replace cb3 := bl_cell hb_ cb3
                  clear hb_ hbad
                  go_wp2
                  go_roundw
                  case rel => exact ⟨t + 1, V2, by omega, by go_num, hbw, hV'.out, hk⟩
                  case measure => simp [intOf]; omega
              · subst hbs_
                replace hbad := hidI (fun W hk => (show Calls Try.prog 20 #[.pointer (some ⟨g, 0, none⟩)] W (fun e w' => e = .returned (.int .i64 1) ∧ Below W.heap.size W w') from hbad.out W hk))
                by_cases hpos : 0 < t
                · skip
                  have dt : decide ((0 : Int) < (t : Int)) = true := by first | exact decide_eq_true (by omega) | exact decide_eq_false (by omega)
                  have dtn : decide (0 < t) = true := by first | exact decide_eq_true (by omega) | exact decide_eq_false (by omega)
                  have cb3 : w.cell? ⟨gc, 3, none⟩ = some (.bool true) := blk_cell hkc 3 (by rfl)
                  replace hpos := hidI hpos
                  go_wp2_with fail
                  refine (hbad.out _ hk).mono ?_
                  rintro e wF ⟨rfl, hb_⟩
                  replace hbw := bl_step hbw hb_
                  replace hk := bl_block hb_ hk
                  replace cb3 := bl_cell hb_ cb3
                  clear hb_
                  go_wp2_with fail
                  refine (hbad.out _ hk).mono ?_
                  rintro e wG ⟨rfl, hb_⟩
                  replace hbw := bl_step hbw hb_
                  replace hk := bl_block hb_ hk
                  replace cb3 := bl_cell hb_ cb3
                  clear hb_ hbad
                  go_wp2
                  go_roundw
                  case rel => exact ⟨t + 1, V2, by omega, by go_num, hbw, hV'.out, hk⟩
                  case measure => simp [intOf]; omega
                · skip
                  have dt : decide ((0 : Int) < (t : Int)) = false := by first | exact decide_eq_true (by omega) | exact decide_eq_false (by omega)
                  have dtn : decide (0 < t) = false := by first | exact decide_eq_true (by omega) | exact decide_eq_false (by omega)
                  have cb3 : w.cell? ⟨gc, 3, none⟩ = some (.bool true) := blk_cell hkc 3 (by rfl)
                  replace hpos := hidI hpos
                  go_wp2_with fail
                  refine (hbad.out _ hk).mono ?_
                  rintro e wF ⟨rfl, hb_⟩
                  replace hbw := bl_step hbw hb_
                  replace hk := bl_block hb_ hk
                  replace cb3 := bl_cell hb_ cb3
                  clear hb_
                  go_wp2_with fail
                  refine (hbad.out _ hk).mono ?_
                  rintro e wG ⟨rfl, hb_⟩
                  replace hbw := bl_step hbw hb_
                  replace hk := bl_block hb_ hk
                  replace cb3 := bl_cell hb_ cb3
                  clear hb_ hbad
                  go_wp2
                  go_roundw
                  case rel => exact ⟨t + 1, V2, by omega, by go_num, hbw, hV'.out, hk⟩
                  case measure => simp [intOf]; omega
            · have dcv : decide (0 < cv) = true := by rw [hcf.out]; exact hF
              simp only [dcv]
              clear hcf h_near hF h_two hk hkc
              go_wp2_with fail
              refine (alive22_calls _).mono ?_
              rintro e wz ⟨rfl, hbz⟩
              replace hbw := bl_step hbw hbz
              clear hbz
              go_wp2
              go_ret
              exact ⟨rfl, hbw⟩
    · have hd : decide ((t : Int) < (lg.length : Int)) = false := decide_eq_false (by omega)
      have nd : decide (t < lg.length) = false := decide_eq_false hlt
      clear hk
      go_wp2_with fail
      refine (alive22_calls _).mono ?_
      rintro e wz ⟨rfl, hbz⟩
      replace hbw := bl_step hbw hbz
      clear hbz
      go_wp2
      go_ret
      exact ⟨rfl, hbw⟩
end Go.Proofs.Ytggididnclfahaa
