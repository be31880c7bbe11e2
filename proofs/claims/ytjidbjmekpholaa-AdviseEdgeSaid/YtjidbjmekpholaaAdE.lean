/- Proved here: lemmas and contracts (what a function of the program computes) that the proofs of the laws of this seat lean on. Conditions: as each theorem states. -/
import Derived.Test.YtjidbjmekpholaaAdQ
import Derived.Test.YtjidbjmekpholaaLin
set_option linter.unusedVariables false
set_option linter.unusedSimpArgs false
namespace Go.Proofs.Ytjidbjmekpholaa.AdQ
open Go.RowKit Go.Pk Go.Pk.Ad Go.Proofs.Ytjidbjmekpholaa.GA Go.Proofs.YtjidbjmekpholaaW.PrintWords
def costR (high T near climb : Int) (S : ByteArray) (h k : Int) (plan : List Int) : Int := ofW high (costK high near climb (planF high S (min (max k 0) T).toNat plan) (min (max k 0) T).toNat) (stayI h high)
theorem costK_cong {high near climb : Int} {f g : Nat → Int → Int} : ∀ n : Nat, (∀ m : Nat, m < n → ∀ x, f (m + 1) x = g (m + 1) x) → costK high near climb f n = costK high near climb g n
  | 0, _ => rfl
  | n + 1, h => by
    show planW high climb (costK high near climb f n) (f (n + 1)) = planW high climb (costK high near climb g n) (g (n + 1))
    rw [costK_cong n (fun m hm x => h m (by omega) x), show f (n + 1) = g (n + 1) from funext fun x => h n (by omega) x]
theorem edge_cost {high T : Int} (near climb : Int) (S : ByteArray) (h k : Int) (plan : List Int) (hh : 0 ≤ high) (ht : 0 ≤ T) : costR high T near climb S (stayI h high) (min (max k 0) T) plan = costR high T near climb S h k plan := by
  unfold costR
  rw [show min (max (min (max k 0) T) 0) T = min (max k 0) T by omega, show stayI (stayI h high) high = stayI h high by unfold stayI; omega]
theorem edge_long {high T : Int} (near climb : Int) (S : ByteArray) (h k : Int) (plan more : List Int) (ht : 0 ≤ T) (hl : min (max k 0) T ≤ (plan.length : Int)) : costR high T near climb S h k (plan ++ more) = costR high T near climb S h k plan := by
  unfold costR
  rw [costK_cong (f := planF high S (min (max k 0) T).toNat (plan ++ more)) (g := planF high S (min (max k 0) T).toNat plan)]
  intro m hm x
  unfold planF
  rw [if_pos (by rw [List.length_append]; omega), if_pos (by omega), List.getD_eq_getElem?_getD, List.getD_eq_getElem?_getD, List.getElem?_append_left (by omega)]
theorem edge_zero {high T : Int} (near climb : Int) (S : ByteArray) (h : Int) (plan : List Int) (ht : 0 ≤ T) : costR high T near climb S h 0 plan = costR high T near climb S h 0 [] := by
  unfold costR
  rw [show (min (max (0 : Int) 0) T).toNat = 0 by omega]
  rfl
theorem edge_ask (high near climb : Int) (T : Nat) (hm : mayB high T near climb = true) (h k : Int) : ∃ r, advise_Ask.f high T near climb (tbl high near climb T) h k = some r ∧ advise_Ask.f high T near climb (tbl high near climb T) (stayI h high) (min (max k 0) (T : Int)) = some r := by
  have hb := mayB_iff.1 hm
  have a1 := ask_tbl high near climb T (by omega) (by omega) (by omega) h k
  have a2 := ask_tbl high near climb T (by omega) (by omega) (by omega) (stayI h high) (min (max k 0) (T : Int))
  rw [show min (max (min (max k 0) (T : Int)) 0) (T : Int) = min (max k 0) (T : Int) by omega, show stayI (stayI h high) high = stayI h high by unfold stayI; omega] at a2
  exact ⟨_, a1, a2⟩
theorem reads_of_A {w : World} {A : Option Addr} {l : List Int} (h : RdA w A l) : ReadsInt w .i64 A l.length l := by
  refine ⟨rfl, h.1, fun hn => ?_⟩
  obtain ⟨ad, e, h0⟩ := h.at hn
  refine ⟨ad, e, fun j hj => ?_⟩
  obtain ⟨ad2, e2, h2⟩ := h.at hj
  rw [e] at e2
  injection e2 with e2
  subst e2
  exact h2
theorem reads_to_A {w : World} {A : Option Addr} {n : Nat} {l : List Int} (h : ReadsInt w .i64 A n l) : RdA w A l := by
  have h1 := h.1
  refine ⟨by rw [h1]; exact h.2.1, fun i hi => ?_⟩
  obtain ⟨ad, e, hc⟩ := h.2.2 (by omega)
  exact ⟨ad, e, hc i (by omega)⟩
end Go.Proofs.Ytjidbjmekpholaa.AdQ
namespace Go.Proofs.Ytjidbjmekpholaa
open Go.RowKit Go.Pk Go.Pk.Ad Go.Proofs.Ytjidbjmekpholaa.AdQ Go.Proofs.Ytjidbjmekpholaa.GA Go.Proofs.YtjidbjmekpholaaW.PrintMore
attribute [local go_sem] max2_int min2_int max_two min_two
theorem adCost_R (high near climb h k : Int) (T : Nat) (A : Option Addr) (c : Nat) (plan : List Int) (w : World) (hp : RdA w A plan) (hm : mayB high T near climb = true) :
    Calls Try.prog 26 #[.agg #[.int .i64 high, .int .i64 T, .int .i64 near, .int .i64 climb, .string (tbl high near climb T)], .int .i64 h, .int .i64 k, .slice A plan.length c] w fun e w' => e = .returned (.int .i64 (costR high T near climb (tbl high near climb T) h k plan)) ∧ Below w.heap.size w w' := by
  have hb := mayB_iff.1 hm
  exact adCost_yes high T near climb h k _ A c plan w hp (by omega) (by omega) (by omega) (by omega) (by omega) (by omega) (by omega) (by omega) (by rw [tbl_size _ _ _ _ (by omega)]; simp)
set_option maxHeartbeats 100000000 in
set_option maxRecDepth 100000 in
theorem AdviseEdge_walk (high ticks near climb h k : Int) (A6 : Option Addr) (c6 : Nat) (plan : List Int) (A7 : Option Addr) (c7 : Nat) (more : List Int) (w : World) (hr6 : RdA w A6 plan) (hr7 : RdA w A7 more) :
    Calls Try.prog 8 #[.int .i64 high, .int .i64 ticks, .int .i64 near, .int .i64 climb, .int .i64 h, .int .i64 k, .slice A6 plan.length c6, .slice A7 more.length c7] w fun e w' => e = .returned (.bool true) ∧ Below w.heap.size w w' := by
  obtain ⟨ka, hka⟩ := alive18
  replace hka := hidI hka
  by_cases hm : mayB high ticks near climb = true
  · have hb := mayB_iff.1 hm
    obtain ⟨T, hT⟩ := Int.eq_ofNat_of_zero_le (show 0 ≤ ticks by omega)
    subst hT
    have hmk := hidI (make_tbl high near climb T hm)
    rw [Int.toNat_natCast] at hmk
    by_cases h1 : (60 : Int) < (plan.length : Int)
    · replace h1 : decide ((60 : Int) < (plan.length : Int)) = true := decide_eq_true h1
      generalize tbl high near climb T = S at *
      go_enter Try.func8, Try.ntmps8
      go_wp2_with (first | (go_at_call 18; refine (advise_Make.calls _ _ _ _ _ _ _ _ _ _ _ hmk.out).mono ?_; rintro e w1 ⟨rfl, hb1⟩) | (go_at_call 17; refine (picketlaw18_alive.calls ka true _ hka.out).mono ?_; rintro e w2 ⟨rfl, hb2⟩) | fail)
      go_ret
      exact ⟨rfl, (by (repeat (first | with_reducible exact Below.refl _ _ | with_reducible assumption | with_reducible apply bl_alloc | with_reducible apply bl_drew | with_reducible apply bl_drewN | (with_reducible refine bl_set ?_ (by first | omega | (simp; done) | (simp; omega)) _) | (with_reducible refine bl_step ?_ (by assumption)) | (with_reducible refine bl_grown ?_ (by assumption) (by assumption)) | (with_reducible refine bl_own ?_ (by assumption) (by assumption)))))⟩
    by_cases h2 : (60 : Int) < (more.length : Int)
    · replace h1 : decide ((60 : Int) < (plan.length : Int)) = false := decide_eq_false h1
      replace h2 : decide ((60 : Int) < (more.length : Int)) = true := decide_eq_true h2
      generalize tbl high near climb T = S at *
      go_enter Try.func8, Try.ntmps8
      go_wp2_with (first | (go_at_call 18; refine (advise_Make.calls _ _ _ _ _ _ _ _ _ _ _ hmk.out).mono ?_; rintro e w1 ⟨rfl, hb1⟩) | (go_at_call 17; refine (picketlaw18_alive.calls ka true _ hka.out).mono ?_; rintro e w2 ⟨rfl, hb2⟩) | fail)
      go_ret
      exact ⟨rfl, (by (repeat (first | with_reducible exact Below.refl _ _ | with_reducible assumption | with_reducible apply bl_alloc | with_reducible apply bl_drew | with_reducible apply bl_drewN | (with_reducible refine bl_set ?_ (by first | omega | (simp; done) | (simp; omega)) _) | (with_reducible refine bl_step ?_ (by assumption)) | (with_reducible refine bl_grown ?_ (by assumption) (by assumption)) | (with_reducible refine bl_own ?_ (by assumption) (by assumption)))))⟩
    by_cases h3 : (30 : Int) < high
    · replace h1 : decide ((60 : Int) < (plan.length : Int)) = false := decide_eq_false h1
      replace h2 : decide ((60 : Int) < (more.length : Int)) = false := decide_eq_false h2
      replace h3 : decide ((30 : Int) < high) = true := decide_eq_true h3
      generalize tbl high near climb T = S at *
      go_enter Try.func8, Try.ntmps8
      go_wp2_with (first | (go_at_call 18; refine (advise_Make.calls _ _ _ _ _ _ _ _ _ _ _ hmk.out).mono ?_; rintro e w1 ⟨rfl, hb1⟩) | (go_at_call 17; refine (picketlaw18_alive.calls ka true _ hka.out).mono ?_; rintro e w2 ⟨rfl, hb2⟩) | fail)
      go_ret
      exact ⟨rfl, (by (repeat (first | with_reducible exact Below.refl _ _ | with_reducible assumption | with_reducible apply bl_alloc | with_reducible apply bl_drew | with_reducible apply bl_drewN | (with_reducible refine bl_set ?_ (by first | omega | (simp; done) | (simp; omega)) _) | (with_reducible refine bl_step ?_ (by assumption)) | (with_reducible refine bl_grown ?_ (by assumption) (by assumption)) | (with_reducible refine bl_own ?_ (by assumption) (by assumption)))))⟩
    by_cases h4 : (30 : Int) < (T : Int)
    · replace h1 : decide ((60 : Int) < (plan.length : Int)) = false := decide_eq_false h1
      replace h2 : decide ((60 : Int) < (more.length : Int)) = false := decide_eq_false h2
      replace h3 : decide ((30 : Int) < high) = false := decide_eq_false h3
      replace h4 : decide ((30 : Int) < (T : Int)) = true := decide_eq_true h4
      generalize tbl high near climb T = S at *
      go_enter Try.func8, Try.ntmps8
      go_wp2_with (first | (go_at_call 18; refine (advise_Make.calls _ _ _ _ _ _ _ _ _ _ _ hmk.out).mono ?_; rintro e w1 ⟨rfl, hb1⟩) | (go_at_call 17; refine (picketlaw18_alive.calls ka true _ hka.out).mono ?_; rintro e w2 ⟨rfl, hb2⟩) | fail)
      go_ret
      exact ⟨rfl, (by (repeat (first | with_reducible exact Below.refl _ _ | with_reducible assumption | with_reducible apply bl_alloc | with_reducible apply bl_drew | with_reducible apply bl_drewN | (with_reducible refine bl_set ?_ (by first | omega | (simp; done) | (simp; omega)) _) | (with_reducible refine bl_step ?_ (by assumption)) | (with_reducible refine bl_grown ?_ (by assumption) (by assumption)) | (with_reducible refine bl_own ?_ (by assumption) (by assumption)))))⟩
    have hlp : plan.length ≤ 60 := by omega
    have hlm : more.length ≤ 60 := by omega
    replace h1 : decide ((60 : Int) < (plan.length : Int)) = false := decide_eq_false h1
    replace h2 : decide ((60 : Int) < (more.length : Int)) = false := decide_eq_false h2
    replace h3 : decide ((30 : Int) < high) = false := decide_eq_false h3
    replace h4 : decide ((30 : Int) < (T : Int)) = false := decide_eq_false h4
    have hcost := hidI (fun hh kk A c l W (hp : RdA W A l) => adCost_R high near climb hh kk T A c l W hp hm)
    obtain ⟨r, R1, R2⟩ := edge_ask high near climb T hm h k
    have hneg : IntKind.i64.wrap (-high) = -high := IntWalk.i64_in _ (by omega)
    generalize tbl high near climb T = S at *
    have X2 := edge_cost near climb S h k plan (show 0 ≤ high by omega) (show (0 : Int) ≤ T by omega)
    have X3 := edge_long (high := high) near climb S h k plan more (show (0 : Int) ≤ T by omega)
    have X4 := edge_zero near climb S h plan (high := high) (show (0 : Int) ≤ T by omega)
    have e19 : (if high < (if h < -high then -high else h) then high else (if h < -high then -high else h)) = stayI h high := by unfold stayI; split <;> split <;> omega
    have e20 : (if (T : Int) < (if k < 0 then 0 else k) then (T : Int) else (if k < 0 then 0 else k)) = min (max k 0) T := by split <;> split <;> omega
    replace e19 := hidI e19
    replace e20 := hidI e20
    go_enter Try.func8, Try.ntmps8
    go_upto_region 5 with (first | (go_at_call 18; refine (advise_Make.calls _ _ _ _ _ _ _ _ _ _ _ hmk.out).mono ?_; rintro e w1 ⟨rfl, hb1⟩) | fail)
    rw [e19.out, e20.out]
    clear e19 e20 hmk
    generalize stayI h high = hh at *
    generalize min (max k 0) (T : Int) = bb at *
    have hk_g0 := blk_new w1 (.cells #[.int .i64 high, .int .i64 T, .int .i64 near, .int .i64 climb, .string S] 38)
    have hbw := bl_alloc hb1 (.cells #[.int .i64 high, .int .i64 T, .int .i64 near, .int .i64 climb, .string S] 38)
    clear hb1
    generalize w1.alloc (.cells #[.int .i64 high, .int .i64 T, .int .i64 near, .int .i64 climb, .string S] 38) = W1 at *
    generalize w1.heap.size = g0 at *
    obtain ⟨w0, hw0⟩ : ∃ z : World, z = w := ⟨_, rfl⟩
    rw [← hw0] at hbw hr6 hr7
    replace hr6 := hr6.below hbw
    replace hr7 := hr7.below hbw
    have hn0 : ∀ kk, (Value.slice none 0 0).ownBlock = some kk → W1.heap.size ≤ kk := fun kk hk => by cases hk
    go_upto_region 6 with (first | ((with_reducible refine Go.Proofs.YtjidbjmekpholaaW.PrintWords.gate_builtin (b := .append) (xs := #[.const (.slice none 0 0), .tmp 61]) rfl ?_); (at_builtin; refine Go.Proofs.YtjidbjmekpholaaW.PrintWords.print_append_row (w0 := w0) w0.heap.size rfl (.const (.slice none 0 0)) (.tmp 61) 24 3 .i64 8 rfl Try.underlying24 adInfoI (by decide) (.slice none 0 0) [] plan A6 plan.length c6 rfl rfl (World.ownsRow_nil _ _ _ _) (reads_of_A hr6) hbw hbw.size (by simp; omega) ?_; intro v1 w2 ho1 hb1 hg1 ha1; rw [List.nil_append] at ho1; have hb12 := (Below.refl W1.heap.size W1).grown hg1 (Nat.le_refl _) hn0; have hr7b := hr7.below hb12)) | ((with_reducible refine Go.Proofs.YtjidbjmekpholaaW.PrintWords.gate_builtin (b := .append) (xs := #[.tmp 62, .tmp 63]) rfl ?_); (at_builtin; refine Go.Proofs.YtjidbjmekpholaaW.PrintWords.print_append_row (w0 := w0) w0.heap.size rfl (.tmp 62) (.tmp 63) 24 3 .i64 8 rfl Try.underlying24 adInfoI (by decide) v1 plan more A7 more.length c7 rfl rfl ho1 (reads_of_A hr7b) hb1 hb1.size (by omega) ?_; intro v3 w3 ho3 hb3 hg3 ha3)) | fail)
    obtain ⟨A8, c8, rfl, hr8⟩ := Go.Proofs.YtjidbjmekpholaaW.PrintWords.own_reads ho3
    have hn1 : ∀ kk, v1.ownBlock = some kk → W1.heap.size ≤ kk := fun kk hk => by
      rcases ha1 with e | ⟨b, e, hl⟩
      · rw [hk] at e; cases e
      · rw [hk] at e; injection e with e; omega
    have hb13 := hb12.grown hg3 hb12.size hn1
    replace hr6 := hr6.below hb13
    replace hr8 := reads_to_A hr8
    replace hk_g0 := bl_block hb13 hk_g0
    replace hbw := hb3
    clear hb12 hb13 hg1 hg3 ha1 ha3 hn0 hn1 ho1 ho3 hr7 hr7b hb1 hb3
    obtain ⟨c1, hc1⟩ : ∃ z, Hid (costR high T near climb S h k plan = z) := ⟨_, rfl⟩
    obtain ⟨c2, hc2⟩ : ∃ z, Hid (costR high T near climb S h k (plan ++ more) = z) := ⟨_, rfl⟩
    obtain ⟨c3, hc3⟩ : ∃ z, Hid (costR high T near climb S h 0 [] = z) := ⟨_, rfl⟩
    rw [hc1.out] at X2 X3
    rw [hc2.out] at X3
    rw [hc3.out] at X4
    replace X2 := hidI X2
    replace X4 := hidI X4
    replace R1 := hidI R1
    replace R2 := hidI R2
    have X3' : decide ((plan.length : Int) < bb) = false → c2 = c1 := fun e => X3 (by have := of_decide_eq_false e; omega)
    clear X3
    have c0_hr6 := hr6.below (bl_drew (Below.refl w3.heap.size w3))
    have c0_hr8 := hr8.below (bl_drew (Below.refl w3.heap.size w3))
    obtain ⟨B0, hB0⟩ : ∃ B, B = w3.heap.size := ⟨_, rfl⟩
    have c0_hsz : B0 ≤ w3.heap.size := Nat.le_of_eq hB0
    have hw0B0 : w0.heap.size ≤ B0 := by rw [hB0]; exact hbw.size
    have c0_hk_g0 := blk_drew hk_g0
    have c0_lt_g0 : g0 < B0 := by rw [hB0]; exact blk_lt hk_g0
    have c0_hbw := bl_drew hbw
    clear hB0 hbw hk_g0
    refine region_lin (n := 55) (st := ?st1) { R := [0, 1, 3, 3, 3, 31, 3, 3, 3, 511, 1023, 2047, 4095, 8191, 8191, 8191, 8191, 131071, 8191, 8191, 8191, 8191, 4194303, 8388607, 16777215, 33554431, 67108863, 134217727, 67108863, 536870911, 1073741823, 2147483647, 2147483647, 2147483647, 2147483647, 34359738367, 2147483647, 2147483647, 2147483647, 2147483647, 1099511627775, 2199023255551, 4398046511103, 8796093022207, 17592186044415, 35184372088831, 35184372088831, 35184372088831, 281474976710655, 35184372088831, 35184372088831, 2251799813685247, 4503599627370495, 9007199254740991, 18014398509481983], kill := [[], [], [], [], [], [], [], [], [], [], [], [], [], [], [], [], [], [], [], [], [], [], [], [], [], [], [], [], [], [], [], [], [], [], [], [], [], [], [], [], [], [], [], [], [], [], [], [], [], [], [], [], [], [], []], cls := [0, 0, 0, 0, 0, 0, 0, 0, 0, 0, 0, 0, 0, 0, 0, 0, 0, 0, 0, 0, 0, 0, 0, 0, 0, 0, 0, 0, 0, 0, 0, 0, 0, 0, 0, 0, 0, 0, 0, 0, 0, 0, 0, 0, 0, 0, 0, 0, 0, 0, 0, 0, 0, 0, 0], dst := [some 65, some 66, some 67, some 68, some 69, some 70, some 71, some 72, some 73, some 74, some 75, some 76, some 77, some 78, some 79, some 80, some 81, some 82, some 83, some 84, some 85, some 86, some 87, some 88, some 89, some 90, some 91, some 92, some 93, some 94, some 95, some 96, some 97, some 98, some 99, some 100, some 101, some 102, some 103, some 104, some 105, some 106, some 107, some 108, some 109, some 110, some 111, some 112, some 113, some 114, some 115, some 116, some 117, some 118, some 16], pre := [[], [0], [1], [1], [1], [1, 2, 3, 4], [1], [1], [1], [1, 6, 7, 8], [1, 5, 9], [1, 10], [11], [12], [12], [12], [12], [12, 13, 14, 15, 16], [12], [12], [12], [12], [12, 18, 19, 20, 21], [12, 17, 22], [12, 23], [24], [25], [25, 26], [25], [25, 27, 28], [25, 29], [30], [30], [30], [30], [30, 31, 32, 33, 34], [30], [30], [30], [30], [30, 36, 37, 38, 39], [30, 35, 40], [25, 30, 41], [25, 42], [43], [44], [44], [44], [44, 45, 46, 47], [44], [44], [44, 49, 50], [44, 48, 51], [44, 52], [53]], cov := [], fin := [54], locs := [], tgt := [none], abt := [none, none, none, none, none, none, none, none, none, none, none, none, none, none, none, none, none, none, none, none, none, none, none, none, none, none, none, none, none, none, none, none, none, none, none, none, none, none, none, none, none, none, none, none, none, none, none, none, none, none, none, none, none, none, none] }
      [.v [65] (fun vs => (vs.getD 0 undef) = .bool true),
       .v [66] (fun vs => (vs.getD 0 undef) = .bool true),
       .v [67] (fun vs => (vs.getD 0 undef) = .agg #[.int .i64 high, .int .i64 (T : Int), .int .i64 near, .int .i64 climb, .string S]),
       .v [68] (fun vs => (vs.getD 0 undef) = .int .i64 h),
       .v [69] (fun vs => (vs.getD 0 undef) = .int .i64 k),
       .v [70] (fun vs => (vs.getD 0 undef) = .int .i64 r),
       .v [71] (fun vs => (vs.getD 0 undef) = .agg #[.int .i64 high, .int .i64 (T : Int), .int .i64 near, .int .i64 climb, .string S]),
       .v [72] (fun vs => (vs.getD 0 undef) = .int .i64 hh),
       .v [73] (fun vs => (vs.getD 0 undef) = .int .i64 bb),
       .v [74] (fun vs => (vs.getD 0 undef) = .int .i64 r),
       .v [75] (fun vs => (vs.getD 0 undef) = .bool true),
       .v [76] (fun vs => (vs.getD 0 undef) = .bool true),
       .v [77] (fun vs => (vs.getD 0 undef) = .bool true),
       .v [78] (fun vs => (vs.getD 0 undef) = .agg #[.int .i64 high, .int .i64 (T : Int), .int .i64 near, .int .i64 climb, .string S]),
       .v [79] (fun vs => (vs.getD 0 undef) = .int .i64 h),
       .v [80] (fun vs => (vs.getD 0 undef) = .int .i64 k),
       .v [81] (fun vs => (vs.getD 0 undef) = .slice A6 plan.length c6),
       .v [82] (fun vs => (vs.getD 0 undef) = .int .i64 c1),
       .v [83] (fun vs => (vs.getD 0 undef) = .agg #[.int .i64 high, .int .i64 (T : Int), .int .i64 near, .int .i64 climb, .string S]),
       .v [84] (fun vs => (vs.getD 0 undef) = .int .i64 hh),
       .v [85] (fun vs => (vs.getD 0 undef) = .int .i64 bb),
       .v [86] (fun vs => (vs.getD 0 undef) = .slice A6 plan.length c6),
       .v [87] (fun vs => (vs.getD 0 undef) = .int .i64 c1),
       .v [88] (fun vs => (vs.getD 0 undef) = .bool true),
       .v [89] (fun vs => (vs.getD 0 undef) = .bool true),
       .v [90] (fun vs => (vs.getD 0 undef) = .bool true),
       .v [91] (fun vs => (vs.getD 0 undef) = .slice A6 plan.length c6),
       .v [92] (fun vs => (vs.getD 0 undef) = .int .i64 (plan.length : Int)),
       .v [93] (fun vs => (vs.getD 0 undef) = .int .i64 bb),
       .v [94] (fun vs => (vs.getD 0 undef) = .bool (decide ((plan.length : Int) < bb))),
       .v [95] (fun vs => (vs.getD 0 undef) = .bool (decide ((plan.length : Int) < bb))),
       .v [96] (fun vs => ((!(decide ((plan.length : Int) < bb))) = true → (vs.getD 0 undef) = .agg #[.int .i64 high, .int .i64 (T : Int), .int .i64 near, .int .i64 climb, .string S]) ∧ ((!(decide ((plan.length : Int) < bb))) = false → (vs.getD 0 undef) = undef)),
       .v [97] (fun vs => ((!(decide ((plan.length : Int) < bb))) = true → (vs.getD 0 undef) = .int .i64 h) ∧ ((!(decide ((plan.length : Int) < bb))) = false → (vs.getD 0 undef) = undef)),
       .v [98] (fun vs => ((!(decide ((plan.length : Int) < bb))) = true → (vs.getD 0 undef) = .int .i64 k) ∧ ((!(decide ((plan.length : Int) < bb))) = false → (vs.getD 0 undef) = undef)),
       .v [99] (fun vs => ((!(decide ((plan.length : Int) < bb))) = true → (vs.getD 0 undef) = .slice A8 (plan ++ more).length c8) ∧ ((!(decide ((plan.length : Int) < bb))) = false → (vs.getD 0 undef) = undef)),
       .v [100] (fun vs => ((!(decide ((plan.length : Int) < bb))) = true → (vs.getD 0 undef) = .int .i64 c2) ∧ ((!(decide ((plan.length : Int) < bb))) = false → (vs.getD 0 undef) = undef)),
       .v [101] (fun vs => ((!(decide ((plan.length : Int) < bb))) = true → (vs.getD 0 undef) = .agg #[.int .i64 high, .int .i64 (T : Int), .int .i64 near, .int .i64 climb, .string S]) ∧ ((!(decide ((plan.length : Int) < bb))) = false → (vs.getD 0 undef) = undef)),
       .v [102] (fun vs => ((!(decide ((plan.length : Int) < bb))) = true → (vs.getD 0 undef) = .int .i64 h) ∧ ((!(decide ((plan.length : Int) < bb))) = false → (vs.getD 0 undef) = undef)),
       .v [103] (fun vs => ((!(decide ((plan.length : Int) < bb))) = true → (vs.getD 0 undef) = .int .i64 k) ∧ ((!(decide ((plan.length : Int) < bb))) = false → (vs.getD 0 undef) = undef)),
       .v [104] (fun vs => ((!(decide ((plan.length : Int) < bb))) = true → (vs.getD 0 undef) = .slice A6 plan.length c6) ∧ ((!(decide ((plan.length : Int) < bb))) = false → (vs.getD 0 undef) = undef)),
       .v [105] (fun vs => ((!(decide ((plan.length : Int) < bb))) = true → (vs.getD 0 undef) = .int .i64 c1) ∧ ((!(decide ((plan.length : Int) < bb))) = false → (vs.getD 0 undef) = undef)),
       .v [106] (fun vs => ((!(decide ((plan.length : Int) < bb))) = true → (vs.getD 0 undef) = .bool (c2 == c1)) ∧ ((!(decide ((plan.length : Int) < bb))) = false → (vs.getD 0 undef) = undef)),
       .v [107] (fun vs => (vs.getD 0 undef) = .bool true),
       .v [108] (fun vs => (vs.getD 0 undef) = .bool true),
       .v [109] (fun vs => (vs.getD 0 undef) = .bool true),
       .v [110] (fun vs => (vs.getD 0 undef) = .agg #[.int .i64 high, .int .i64 (T : Int), .int .i64 near, .int .i64 climb, .string S]),
       .v [111] (fun vs => (vs.getD 0 undef) = .int .i64 h),
       .v [112] (fun vs => (vs.getD 0 undef) = .slice A6 plan.length c6),
       .v [113] (fun vs => (vs.getD 0 undef) = .int .i64 c3),
       .v [114] (fun vs => (vs.getD 0 undef) = .agg #[.int .i64 high, .int .i64 (T : Int), .int .i64 near, .int .i64 climb, .string S]),
       .v [115] (fun vs => (vs.getD 0 undef) = .int .i64 h),
       .v [116] (fun vs => (vs.getD 0 undef) = .int .i64 c3),
       .v [117] (fun vs => (vs.getD 0 undef) = .bool true),
       .v [118] (fun vs => (vs.getD 0 undef) = .bool true),
       .v [16] (fun vs => (vs.getD 0 undef) = .bool true)]
      (fun w => B0 ≤ w.heap.size ∧ w.heap[g0]? = some (.cells #[.int .i64 high, .int .i64 (T : Int), .int .i64 near, .int .i64 climb, .string S] 38 (0, 0)) ∧ g0 < B0 ∧ Below w0.heap.size w0 w ∧ RdA w A6 plan ∧ RdA w A8 (plan ++ more))
      (fun c => ([fun s w w' => Below w.heap.size w w'] : List ((Nat → Value) → World → World → Prop)).getD c (fun s w w' => w' = w))
      [16, 65, 66, 67, 68, 69, 70, 71, 72, 73, 74, 75, 76, 77, 78, 79, 80, 81, 82, 83, 84, 85, 86, 87, 88, 89, 90, 91, 92, 93, 94, 95, 96, 97, 98, 99, 100, 101, 102, 103, 104, 105, 106, 107, 108, 109, 110, 111, 112, 113, 114, 115, 116, 117, 118] (by kernel_rfl) ⟨by kernel_rfl, by kernel_rfl, by kernel_rfl, by kernel_rfl, by kernel_rfl, by kernel_rfl, by kernel_rfl, by kernel_rfl⟩ (fun s => ?_) ?_ ?_ ?_ ?_ ?_ (fun s w hC hA => ?_)
    rotate_left
    · simp only [fillS, List.foldl, List.setIfInBounds_toArray, List.set_cons_zero, List.set_cons_succ]; rfl
    · exact ⟨c0_hsz, c0_hk_g0, c0_lt_g0, c0_hbw, c0_hr6, c0_hr8⟩
    · intro c s w w' hE
      match c, hE with
      | 0, hE => exact Below.size hE
      | c + 1, hE => cases hE; exact Nat.le_refl _
    · rintro c s w w' ⟨hsz, hk_g0, lt_g0, hbw, hr6, hr8⟩ hE
      match c, hE with
      | 0, hE => replace hE : Below w.heap.size w w' := hE; exact ⟨Nat.le_trans hsz hE.size, bl_block hE hk_g0, lt_g0, bl_step hbw hE, hr6.below hE, hr8.below hE⟩
      | c + 1, hE => cases hE; exact ⟨hsz, hk_g0, lt_g0, hbw, hr6, hr8⟩
    · exact trivial
    · skip
      refine StepsP.cons ?_ ?_
      · intro Q s w hC hA K hK
        obtain ⟨hsz, hk_g0, lt_g0, hbw, hr6, hr8⟩ := hC
        clear hA
        refine guard_none (by rfl) ?_
        refine wp_call (N := some 65) (by rfl) Try.func17 (by kernel_rfl) #[] rfl (by rfl) ?_ ?_
        · show [] = []
          first | rfl | simp only []
        refine (picketlaw18_alive.calls ka true _ hka.out).mono ?_
        rintro e w1 ⟨rfl, hb⟩
        refine ⟨_, rfl, ?_⟩
        exact hK.out _ _ hb rfl (fun h => by cases h)
      refine StepsP.cons ?_ ?_
      · intro Q s w hC hA K hK
        clear hC
        obtain ⟨f0, -⟩ := hA
        replace f0 : (s 65) = .bool true := f0
        refine guard_none (by rfl) ?_
        refine wp_value (v := .bool true) (w1 := w) ?_ (hK.out _ w (Below.refl _ _) rfl (fun h => by cases h))
        try simp only [f0]
        go_simp
        try (first | done | rfl | (simp; done))
      refine StepsP.cons ?_ ?_
      · intro Q s w hC hA K hK
        obtain ⟨hsz, hk_g0, lt_g0, hbw, hr6, hr8⟩ := hC
        obtain ⟨f1, -⟩ := hA
        replace f1 : (s 66) = .bool true := f1
        refine guard_on (d := 66) (want := true) (by rfl) (by rfl) ?_ ?_
        · exact f1
        have m0_g0 : w.cell? ⟨g0, 0, none⟩ = some (.int .i64 high) := blk_cell hk_g0 0 (by rfl)
        have m1_g0 : w.cell? ⟨g0, 1, none⟩ = some (.int .i64 (T : Int)) := blk_cell hk_g0 1 (by rfl)
        have m2_g0 : w.cell? ⟨g0, 2, none⟩ = some (.int .i64 near) := blk_cell hk_g0 2 (by rfl)
        have m3_g0 : w.cell? ⟨g0, 3, none⟩ = some (.int .i64 climb) := blk_cell hk_g0 3 (by rfl)
        have m4_g0 : w.cell? ⟨g0, 4, none⟩ = some (.string S) := blk_cell hk_g0 4 (by rfl)
        refine wp_value (v := .agg #[.int .i64 high, .int .i64 (T : Int), .int .i64 near, .int .i64 climb, .string S]) (w1 := w) ?_ (hK.out _ w (Below.refl _ _) rfl (fun h => by cases h))
        try simp only [f1]
        go_simp
        try (first | done | rfl | (simp; done))
      refine StepsP.cons ?_ ?_
      · intro Q s w hC hA K hK
        clear hC
        obtain ⟨f1, -⟩ := hA
        replace f1 : (s 66) = .bool true := f1
        refine guard_on (d := 66) (want := true) (by rfl) (by rfl) ?_ ?_
        · exact f1
        refine wp_value (v := .int .i64 h) (w1 := w) ?_ (hK.out _ w (Below.refl _ _) rfl (fun h => by cases h))
        try simp only [f1]
        go_simp
        try (first | done | rfl | (simp; done))
      refine StepsP.cons ?_ ?_
      · intro Q s w hC hA K hK
        clear hC
        obtain ⟨f1, -⟩ := hA
        replace f1 : (s 66) = .bool true := f1
        refine guard_on (d := 66) (want := true) (by rfl) (by rfl) ?_ ?_
        · exact f1
        refine wp_value (v := .int .i64 k) (w1 := w) ?_ (hK.out _ w (Below.refl _ _) rfl (fun h => by cases h))
        try simp only [f1]
        go_simp
        try (first | done | rfl | (simp; done))
      refine StepsP.cons ?_ ?_
      · intro Q s w hC hA K hK
        obtain ⟨hsz, hk_g0, lt_g0, hbw, hr6, hr8⟩ := hC
        obtain ⟨f1, f2, f3, f4, -⟩ := hA
        replace f1 : (s 66) = .bool true := f1
        replace f2 : (s 67) = .agg #[.int .i64 high, .int .i64 (T : Int), .int .i64 near, .int .i64 climb, .string S] := f2
        replace f3 : (s 68) = .int .i64 h := f3
        replace f4 : (s 69) = .int .i64 k := f4
        refine guard_on (d := 66) (want := true) (by rfl) (by rfl) ?_ ?_
        · exact f1
        refine wp_call (N := some 70) (by rfl) Try.func24 (by kernel_rfl) #[.agg #[.int .i64 high, .int .i64 (T : Int), .int .i64 near, .int .i64 climb, .string S], .int .i64 h, .int .i64 k] rfl (by rfl) ?_ ?_
        · show [s 67, s 68, s 69] = [.agg #[.int .i64 high, .int .i64 (T : Int), .int .i64 near, .int .i64 climb, .string S], .int .i64 h, .int .i64 k]
          first | rfl | simp only [f1, f2, f3, f4]
        refine (advise_Ask.calls _ _ _ _ _ _ _ r _ R1.out).mono ?_
        rintro e w1 ⟨rfl, hb⟩
        refine ⟨_, rfl, ?_⟩
        exact hK.out _ _ hb rfl (fun h => by cases h)
      refine StepsP.cons ?_ ?_
      · intro Q s w hC hA K hK
        obtain ⟨hsz, hk_g0, lt_g0, hbw, hr6, hr8⟩ := hC
        obtain ⟨f1, -⟩ := hA
        replace f1 : (s 66) = .bool true := f1
        refine guard_on (d := 66) (want := true) (by rfl) (by rfl) ?_ ?_
        · exact f1
        have m0_g0 : w.cell? ⟨g0, 0, none⟩ = some (.int .i64 high) := blk_cell hk_g0 0 (by rfl)
        have m1_g0 : w.cell? ⟨g0, 1, none⟩ = some (.int .i64 (T : Int)) := blk_cell hk_g0 1 (by rfl)
        have m2_g0 : w.cell? ⟨g0, 2, none⟩ = some (.int .i64 near) := blk_cell hk_g0 2 (by rfl)
        have m3_g0 : w.cell? ⟨g0, 3, none⟩ = some (.int .i64 climb) := blk_cell hk_g0 3 (by rfl)
        have m4_g0 : w.cell? ⟨g0, 4, none⟩ = some (.string S) := blk_cell hk_g0 4 (by rfl)
        refine wp_value (v := .agg #[.int .i64 high, .int .i64 (T : Int), .int .i64 near, .int .i64 climb, .string S]) (w1 := w) ?_ (hK.out _ w (Below.refl _ _) rfl (fun h => by cases h))
        try simp only [f1]
        go_simp
        try (first | done | rfl | (simp; done))
      refine StepsP.cons ?_ ?_
      · intro Q s w hC hA K hK
        clear hC
        obtain ⟨f1, -⟩ := hA
        replace f1 : (s 66) = .bool true := f1
        refine guard_on (d := 66) (want := true) (by rfl) (by rfl) ?_ ?_
        · exact f1
        refine wp_value (v := .int .i64 hh) (w1 := w) ?_ (hK.out _ w (Below.refl _ _) rfl (fun h => by cases h))
        try simp only [f1]
        go_simp
        try (first | done | rfl | (simp; done))
      refine StepsP.cons ?_ ?_
      · intro Q s w hC hA K hK
        clear hC
        obtain ⟨f1, -⟩ := hA
        replace f1 : (s 66) = .bool true := f1
        refine guard_on (d := 66) (want := true) (by rfl) (by rfl) ?_ ?_
        · exact f1
        refine wp_value (v := .int .i64 bb) (w1 := w) ?_ (hK.out _ w (Below.refl _ _) rfl (fun h => by cases h))
        try simp only [f1]
        go_simp
        try (first | done | rfl | (simp; done))
      refine StepsP.cons ?_ ?_
      · intro Q s w hC hA K hK
        obtain ⟨hsz, hk_g0, lt_g0, hbw, hr6, hr8⟩ := hC
        obtain ⟨f1, f6, f7, f8, -⟩ := hA
        replace f1 : (s 66) = .bool true := f1
        replace f6 : (s 71) = .agg #[.int .i64 high, .int .i64 (T : Int), .int .i64 near, .int .i64 climb, .string S] := f6
        replace f7 : (s 72) = .int .i64 hh := f7
        replace f8 : (s 73) = .int .i64 bb := f8
        refine guard_on (d := 66) (want := true) (by rfl) (by rfl) ?_ ?_
        · exact f1
        refine wp_call (N := some 74) (by rfl) Try.func24 (by kernel_rfl) #[.agg #[.int .i64 high, .int .i64 (T : Int), .int .i64 near, .int .i64 climb, .string S], .int .i64 hh, .int .i64 bb] rfl (by rfl) ?_ ?_
        · show [s 71, s 72, s 73] = [.agg #[.int .i64 high, .int .i64 (T : Int), .int .i64 near, .int .i64 climb, .string S], .int .i64 hh, .int .i64 bb]
          first | rfl | simp only [f1, f6, f7, f8]
        refine (advise_Ask.calls _ _ _ _ _ _ _ r _ R2.out).mono ?_
        rintro e w1 ⟨rfl, hb⟩
        refine ⟨_, rfl, ?_⟩
        exact hK.out _ _ hb rfl (fun h => by cases h)
      refine StepsP.cons ?_ ?_
      · intro Q s w hC hA K hK
        clear hC
        obtain ⟨f1, f5, f9, -⟩ := hA
        replace f1 : (s 66) = .bool true := f1
        replace f5 : (s 70) = .int .i64 r := f5
        replace f9 : (s 74) = .int .i64 r := f9
        refine guard_on (d := 66) (want := true) (by rfl) (by rfl) ?_ ?_
        · exact f1
        refine wp_value (v := .bool true) (w1 := w) ?_ (hK.out _ w (Below.refl _ _) rfl (fun h => by cases h))
        try simp only [f1, f5, f9]
        go_simp
        try (first | done | rfl | (simp; done))
      refine StepsP.cons ?_ ?_
      · intro Q s w hC hA K hK
        clear hC
        obtain ⟨f1, f10, -⟩ := hA
        replace f1 : (s 66) = .bool true := f1
        replace f10 : (s 75) = .bool true := f10
        refine guard_none (by rfl) ?_
        refine wp_value (v := .bool true) (w1 := w) ?_ (hK.out _ w (Below.refl _ _) rfl (fun h => by cases h))
        try simp only [f1, f10]
        go_simp
        try (first | done | rfl | (simp; done))
      refine StepsP.cons ?_ ?_
      · intro Q s w hC hA K hK
        clear hC
        obtain ⟨f11, -⟩ := hA
        replace f11 : (s 76) = .bool true := f11
        refine guard_none (by rfl) ?_
        refine wp_value (v := .bool true) (w1 := w) ?_ (hK.out _ w (Below.refl _ _) rfl (fun h => by cases h))
        try simp only [f11]
        go_simp
        try (first | done | rfl | (simp; done))
      refine StepsP.cons ?_ ?_
      · intro Q s w hC hA K hK
        obtain ⟨hsz, hk_g0, lt_g0, hbw, hr6, hr8⟩ := hC
        obtain ⟨f12, -⟩ := hA
        replace f12 : (s 77) = .bool true := f12
        refine guard_on (d := 77) (want := true) (by rfl) (by rfl) ?_ ?_
        · exact f12
        have m0_g0 : w.cell? ⟨g0, 0, none⟩ = some (.int .i64 high) := blk_cell hk_g0 0 (by rfl)
        have m1_g0 : w.cell? ⟨g0, 1, none⟩ = some (.int .i64 (T : Int)) := blk_cell hk_g0 1 (by rfl)
        have m2_g0 : w.cell? ⟨g0, 2, none⟩ = some (.int .i64 near) := blk_cell hk_g0 2 (by rfl)
        have m3_g0 : w.cell? ⟨g0, 3, none⟩ = some (.int .i64 climb) := blk_cell hk_g0 3 (by rfl)
        have m4_g0 : w.cell? ⟨g0, 4, none⟩ = some (.string S) := blk_cell hk_g0 4 (by rfl)
        refine wp_value (v := .agg #[.int .i64 high, .int .i64 (T : Int), .int .i64 near, .int .i64 climb, .string S]) (w1 := w) ?_ (hK.out _ w (Below.refl _ _) rfl (fun h => by cases h))
        try simp only [f12]
        go_simp
        try (first | done | rfl | (simp; done))
      refine StepsP.cons ?_ ?_
      · intro Q s w hC hA K hK
        clear hC
        obtain ⟨f12, -⟩ := hA
        replace f12 : (s 77) = .bool true := f12
        refine guard_on (d := 77) (want := true) (by rfl) (by rfl) ?_ ?_
        · exact f12
        refine wp_value (v := .int .i64 h) (w1 := w) ?_ (hK.out _ w (Below.refl _ _) rfl (fun h => by cases h))
        try simp only [f12]
        go_simp
        try (first | done | rfl | (simp; done))
      refine StepsP.cons ?_ ?_
      · intro Q s w hC hA K hK
        clear hC
        obtain ⟨f12, -⟩ := hA
        replace f12 : (s 77) = .bool true := f12
        refine guard_on (d := 77) (want := true) (by rfl) (by rfl) ?_ ?_
        · exact f12
        refine wp_value (v := .int .i64 k) (w1 := w) ?_ (hK.out _ w (Below.refl _ _) rfl (fun h => by cases h))
        try simp only [f12]
        go_simp
        try (first | done | rfl | (simp; done))
      refine StepsP.cons ?_ ?_
      · intro Q s w hC hA K hK
        clear hC
        obtain ⟨f12, -⟩ := hA
        replace f12 : (s 77) = .bool true := f12
        refine guard_on (d := 77) (want := true) (by rfl) (by rfl) ?_ ?_
        · exact f12
        refine wp_value (v := .slice A6 plan.length c6) (w1 := w) ?_ (hK.out _ w (Below.refl _ _) rfl (fun h => by cases h))
        try simp only [f12]
        go_simp
        try (first | done | rfl | (simp; done))
      refine StepsP.cons ?_ ?_
      · intro Q s w hC hA K hK
        obtain ⟨hsz, hk_g0, lt_g0, hbw, hr6, hr8⟩ := hC
        obtain ⟨f12, f13, f14, f15, f16, -⟩ := hA
        replace f12 : (s 77) = .bool true := f12
        replace f13 : (s 78) = .agg #[.int .i64 high, .int .i64 (T : Int), .int .i64 near, .int .i64 climb, .string S] := f13
        replace f14 : (s 79) = .int .i64 h := f14
        replace f15 : (s 80) = .int .i64 k := f15
        replace f16 : (s 81) = .slice A6 plan.length c6 := f16
        refine guard_on (d := 77) (want := true) (by rfl) (by rfl) ?_ ?_
        · exact f12
        refine wp_call (N := some 82) (by rfl) Try.func26 (by kernel_rfl) #[.agg #[.int .i64 high, .int .i64 (T : Int), .int .i64 near, .int .i64 climb, .string S], .int .i64 h, .int .i64 k, .slice A6 plan.length c6] rfl (by rfl) ?_ ?_
        · show [s 78, s 79, s 80, s 81] = [.agg #[.int .i64 high, .int .i64 (T : Int), .int .i64 near, .int .i64 climb, .string S], .int .i64 h, .int .i64 k, .slice A6 plan.length c6]
          first | rfl | simp only [f12, f13, f14, f15, f16]
        refine (hcost.out _ _ A6 c6 plan _ hr6).mono ?_
        rintro e w1 ⟨rfl, hb⟩
        refine ⟨_, rfl, ?_⟩
        rw [hc1.out]
        exact hK.out _ _ hb rfl (fun h => by cases h)
      refine StepsP.cons ?_ ?_
      · intro Q s w hC hA K hK
        obtain ⟨hsz, hk_g0, lt_g0, hbw, hr6, hr8⟩ := hC
        obtain ⟨f12, -⟩ := hA
        replace f12 : (s 77) = .bool true := f12
        refine guard_on (d := 77) (want := true) (by rfl) (by rfl) ?_ ?_
        · exact f12
        have m0_g0 : w.cell? ⟨g0, 0, none⟩ = some (.int .i64 high) := blk_cell hk_g0 0 (by rfl)
        have m1_g0 : w.cell? ⟨g0, 1, none⟩ = some (.int .i64 (T : Int)) := blk_cell hk_g0 1 (by rfl)
        have m2_g0 : w.cell? ⟨g0, 2, none⟩ = some (.int .i64 near) := blk_cell hk_g0 2 (by rfl)
        have m3_g0 : w.cell? ⟨g0, 3, none⟩ = some (.int .i64 climb) := blk_cell hk_g0 3 (by rfl)
        have m4_g0 : w.cell? ⟨g0, 4, none⟩ = some (.string S) := blk_cell hk_g0 4 (by rfl)
        refine wp_value (v := .agg #[.int .i64 high, .int .i64 (T : Int), .int .i64 near, .int .i64 climb, .string S]) (w1 := w) ?_ (hK.out _ w (Below.refl _ _) rfl (fun h => by cases h))
        try simp only [f12]
        go_simp
        try (first | done | rfl | (simp; done))
      refine StepsP.cons ?_ ?_
      · intro Q s w hC hA K hK
        clear hC
        obtain ⟨f12, -⟩ := hA
        replace f12 : (s 77) = .bool true := f12
        refine guard_on (d := 77) (want := true) (by rfl) (by rfl) ?_ ?_
        · exact f12
        refine wp_value (v := .int .i64 hh) (w1 := w) ?_ (hK.out _ w (Below.refl _ _) rfl (fun h => by cases h))
        try simp only [f12]
        go_simp
        try (first | done | rfl | (simp; done))
      refine StepsP.cons ?_ ?_
      · intro Q s w hC hA K hK
        clear hC
        obtain ⟨f12, -⟩ := hA
        replace f12 : (s 77) = .bool true := f12
        refine guard_on (d := 77) (want := true) (by rfl) (by rfl) ?_ ?_
        · exact f12
        refine wp_value (v := .int .i64 bb) (w1 := w) ?_ (hK.out _ w (Below.refl _ _) rfl (fun h => by cases h))
        try simp only [f12]
        go_simp
        try (first | done | rfl | (simp; done))
      refine StepsP.cons ?_ ?_
      · intro Q s w hC hA K hK
        clear hC
        obtain ⟨f12, -⟩ := hA
        replace f12 : (s 77) = .bool true := f12
        refine guard_on (d := 77) (want := true) (by rfl) (by rfl) ?_ ?_
        · exact f12
        refine wp_value (v := .slice A6 plan.length c6) (w1 := w) ?_ (hK.out _ w (Below.refl _ _) rfl (fun h => by cases h))
        try simp only [f12]
        go_simp
        try (first | done | rfl | (simp; done))
      refine StepsP.cons ?_ ?_
      · intro Q s w hC hA K hK
        obtain ⟨hsz, hk_g0, lt_g0, hbw, hr6, hr8⟩ := hC
        obtain ⟨f12, f18, f19, f20, f21, -⟩ := hA
        replace f12 : (s 77) = .bool true := f12
        replace f18 : (s 83) = .agg #[.int .i64 high, .int .i64 (T : Int), .int .i64 near, .int .i64 climb, .string S] := f18
        replace f19 : (s 84) = .int .i64 hh := f19
        replace f20 : (s 85) = .int .i64 bb := f20
        replace f21 : (s 86) = .slice A6 plan.length c6 := f21
        refine guard_on (d := 77) (want := true) (by rfl) (by rfl) ?_ ?_
        · exact f12
        refine wp_call (N := some 87) (by rfl) Try.func26 (by kernel_rfl) #[.agg #[.int .i64 high, .int .i64 (T : Int), .int .i64 near, .int .i64 climb, .string S], .int .i64 hh, .int .i64 bb, .slice A6 plan.length c6] rfl (by rfl) ?_ ?_
        · show [s 83, s 84, s 85, s 86] = [.agg #[.int .i64 high, .int .i64 (T : Int), .int .i64 near, .int .i64 climb, .string S], .int .i64 hh, .int .i64 bb, .slice A6 plan.length c6]
          first | rfl | simp only [f12, f18, f19, f20, f21]
        refine (hcost.out _ _ A6 c6 plan _ hr6).mono ?_
        rintro e w1 ⟨rfl, hb⟩
        refine ⟨_, rfl, ?_⟩
        rw [X2.out]
        exact hK.out _ _ hb rfl (fun h => by cases h)
      refine StepsP.cons ?_ ?_
      · intro Q s w hC hA K hK
        clear hC
        obtain ⟨f12, f17, f22, -⟩ := hA
        replace f12 : (s 77) = .bool true := f12
        replace f17 : (s 82) = .int .i64 c1 := f17
        replace f22 : (s 87) = .int .i64 c1 := f22
        refine guard_on (d := 77) (want := true) (by rfl) (by rfl) ?_ ?_
        · exact f12
        refine wp_value (v := .bool true) (w1 := w) ?_ (hK.out _ w (Below.refl _ _) rfl (fun h => by cases h))
        try simp only [f12, f17, f22]
        go_simp
        try (first | done | rfl | (simp; done))
      refine StepsP.cons ?_ ?_
      · intro Q s w hC hA K hK
        clear hC
        obtain ⟨f12, f23, -⟩ := hA
        replace f12 : (s 77) = .bool true := f12
        replace f23 : (s 88) = .bool true := f23
        refine guard_none (by rfl) ?_
        refine wp_value (v := .bool true) (w1 := w) ?_ (hK.out _ w (Below.refl _ _) rfl (fun h => by cases h))
        try simp only [f12, f23]
        go_simp
        try (first | done | rfl | (simp; done))
      refine StepsP.cons ?_ ?_
      · intro Q s w hC hA K hK
        clear hC
        obtain ⟨f24, -⟩ := hA
        replace f24 : (s 89) = .bool true := f24
        refine guard_none (by rfl) ?_
        refine wp_value (v := .bool true) (w1 := w) ?_ (hK.out _ w (Below.refl _ _) rfl (fun h => by cases h))
        try simp only [f24]
        go_simp
        try (first | done | rfl | (simp; done))
      refine StepsP.cons ?_ ?_
      · intro Q s w hC hA K hK
        clear hC
        obtain ⟨f25, -⟩ := hA
        replace f25 : (s 90) = .bool true := f25
        refine guard_on (d := 90) (want := true) (by rfl) (by rfl) ?_ ?_
        · exact f25
        refine wp_value (v := .slice A6 plan.length c6) (w1 := w) ?_ (hK.out _ w (Below.refl _ _) rfl (fun h => by cases h))
        try simp only [f25]
        go_simp
        try (first | done | rfl | (simp; done))
      refine StepsP.cons ?_ ?_
      · intro Q s w hC hA K hK
        clear hC
        obtain ⟨f25, f26, -⟩ := hA
        replace f25 : (s 90) = .bool true := f25
        replace f26 : (s 91) = .slice A6 plan.length c6 := f26
        refine guard_on (d := 90) (want := true) (by rfl) (by rfl) ?_ ?_
        · exact f25
        refine wp_value (v := .int .i64 (plan.length : Int)) (w1 := w) ?_ (hK.out _ w (Below.refl _ _) rfl (fun h => by cases h))
        try simp only [f25, f26]
        go_simp
        try (first | done | rfl | (simp; done))
      refine StepsP.cons ?_ ?_
      · intro Q s w hC hA K hK
        clear hC
        obtain ⟨f25, -⟩ := hA
        replace f25 : (s 90) = .bool true := f25
        refine guard_on (d := 90) (want := true) (by rfl) (by rfl) ?_ ?_
        · exact f25
        refine wp_value (v := .int .i64 bb) (w1 := w) ?_ (hK.out _ w (Below.refl _ _) rfl (fun h => by cases h))
        try simp only [f25]
        go_simp
        try (first | done | rfl | (simp; done))
      refine StepsP.cons ?_ ?_
      · intro Q s w hC hA K hK
        clear hC
        obtain ⟨f25, f27, f28, -⟩ := hA
        replace f25 : (s 90) = .bool true := f25
        replace f27 : (s 92) = .int .i64 (plan.length : Int) := f27
        replace f28 : (s 93) = .int .i64 bb := f28
        refine guard_on (d := 90) (want := true) (by rfl) (by rfl) ?_ ?_
        · exact f25
        refine wp_value (v := .bool (decide ((plan.length : Int) < bb))) (w1 := w) ?_ (hK.out _ w (Below.refl _ _) rfl (fun h => by cases h))
        try simp only [f25, f27, f28]
        go_simp
        try (first | done | rfl | (simp; done))
      refine StepsP.cons ?_ ?_
      · intro Q s w hC hA K hK
        clear hC
        obtain ⟨f25, f29, -⟩ := hA
        replace f25 : (s 90) = .bool true := f25
        replace f29 : (s 94) = .bool (decide ((plan.length : Int) < bb)) := f29
        refine guard_on (d := 90) (want := true) (by rfl) (by rfl) ?_ ?_
        · exact f25
        refine wp_value (v := .bool (decide ((plan.length : Int) < bb))) (w1 := w) ?_ (hK.out _ w (Below.refl _ _) rfl (fun h => by cases h))
        try simp only [f25, f29]
        go_simp
        try (first | done | rfl | (simp; done))
      refine StepsP.cons ?_ ?_
      · intro Q s w hC hA K hK
        obtain ⟨hsz, hk_g0, lt_g0, hbw, hr6, hr8⟩ := hC
        obtain ⟨f30, -⟩ := hA
        replace f30 : (s 95) = .bool (decide ((plan.length : Int) < bb)) := f30
        cases hc : (!(decide ((plan.length : Int) < bb)))
        · refine guard_off (d := 95) (want := false) (by rfl) (by rfl) ?_ ?_
          · show s 95 ≠ .bool false
            · intro h_
              rw [f30] at h_; injection h_ with h_; rw [Bool.eq_false_iff] at hc; exact hc (by simp_all)
          exact hK.out _ w (Below.refl _ _) ⟨fun h_ => (by rw [hc] at h_; cases h_), fun _ => rfl⟩ (fun _ g h => by cases h)
        · refine guard_on (d := 95) (want := false) (by rfl) (by rfl) ?_ ?_
          · exact (f30).trans (by rw [show (decide ((plan.length : Int) < bb)) = false by simp_all])
          have m0_g0 : w.cell? ⟨g0, 0, none⟩ = some (.int .i64 high) := blk_cell hk_g0 0 (by rfl)
          have m1_g0 : w.cell? ⟨g0, 1, none⟩ = some (.int .i64 (T : Int)) := blk_cell hk_g0 1 (by rfl)
          have m2_g0 : w.cell? ⟨g0, 2, none⟩ = some (.int .i64 near) := blk_cell hk_g0 2 (by rfl)
          have m3_g0 : w.cell? ⟨g0, 3, none⟩ = some (.int .i64 climb) := blk_cell hk_g0 3 (by rfl)
          have m4_g0 : w.cell? ⟨g0, 4, none⟩ = some (.string S) := blk_cell hk_g0 4 (by rfl)
          refine wp_value (v := .agg #[.int .i64 high, .int .i64 (T : Int), .int .i64 near, .int .i64 climb, .string S]) (w1 := w) ?_ (hK.out _ w (Below.refl _ _) ⟨fun _ => rfl, fun h_ => (by rw [hc] at h_; cases h_)⟩ (fun h => by cases h))
          try simp only [f30]
          go_simp
          try (first | done | rfl | (simp; done))
      refine StepsP.cons ?_ ?_
      · intro Q s w hC hA K hK
        clear hC
        obtain ⟨f30, -⟩ := hA
        replace f30 : (s 95) = .bool (decide ((plan.length : Int) < bb)) := f30
        cases hc : (!(decide ((plan.length : Int) < bb)))
        · refine guard_off (d := 95) (want := false) (by rfl) (by rfl) ?_ ?_
          · show s 95 ≠ .bool false
            · intro h_
              rw [f30] at h_; injection h_ with h_; rw [Bool.eq_false_iff] at hc; exact hc (by simp_all)
          exact hK.out _ w (Below.refl _ _) ⟨fun h_ => (by rw [hc] at h_; cases h_), fun _ => rfl⟩ (fun _ g h => by cases h)
        · refine guard_on (d := 95) (want := false) (by rfl) (by rfl) ?_ ?_
          · exact (f30).trans (by rw [show (decide ((plan.length : Int) < bb)) = false by simp_all])
          refine wp_value (v := .int .i64 h) (w1 := w) ?_ (hK.out _ w (Below.refl _ _) ⟨fun _ => rfl, fun h_ => (by rw [hc] at h_; cases h_)⟩ (fun h => by cases h))
          try simp only [f30]
          go_simp
          try (first | done | rfl | (simp; done))
      refine StepsP.cons ?_ ?_
      · intro Q s w hC hA K hK
        clear hC
        obtain ⟨f30, -⟩ := hA
        replace f30 : (s 95) = .bool (decide ((plan.length : Int) < bb)) := f30
        cases hc : (!(decide ((plan.length : Int) < bb)))
        · refine guard_off (d := 95) (want := false) (by rfl) (by rfl) ?_ ?_
          · show s 95 ≠ .bool false
            · intro h_
              rw [f30] at h_; injection h_ with h_; rw [Bool.eq_false_iff] at hc; exact hc (by simp_all)
          exact hK.out _ w (Below.refl _ _) ⟨fun h_ => (by rw [hc] at h_; cases h_), fun _ => rfl⟩ (fun _ g h => by cases h)
        · refine guard_on (d := 95) (want := false) (by rfl) (by rfl) ?_ ?_
          · exact (f30).trans (by rw [show (decide ((plan.length : Int) < bb)) = false by simp_all])
          refine wp_value (v := .int .i64 k) (w1 := w) ?_ (hK.out _ w (Below.refl _ _) ⟨fun _ => rfl, fun h_ => (by rw [hc] at h_; cases h_)⟩ (fun h => by cases h))
          try simp only [f30]
          go_simp
          try (first | done | rfl | (simp; done))
      refine StepsP.cons ?_ ?_
      · intro Q s w hC hA K hK
        clear hC
        obtain ⟨f30, -⟩ := hA
        replace f30 : (s 95) = .bool (decide ((plan.length : Int) < bb)) := f30
        cases hc : (!(decide ((plan.length : Int) < bb)))
        · refine guard_off (d := 95) (want := false) (by rfl) (by rfl) ?_ ?_
          · show s 95 ≠ .bool false
            · intro h_
              rw [f30] at h_; injection h_ with h_; rw [Bool.eq_false_iff] at hc; exact hc (by simp_all)
          exact hK.out _ w (Below.refl _ _) ⟨fun h_ => (by rw [hc] at h_; cases h_), fun _ => rfl⟩ (fun _ g h => by cases h)
        · refine guard_on (d := 95) (want := false) (by rfl) (by rfl) ?_ ?_
          · exact (f30).trans (by rw [show (decide ((plan.length : Int) < bb)) = false by simp_all])
          refine wp_value (v := .slice A8 (plan ++ more).length c8) (w1 := w) ?_ (hK.out _ w (Below.refl _ _) ⟨fun _ => rfl, fun h_ => (by rw [hc] at h_; cases h_)⟩ (fun h => by cases h))
          try simp only [f30]
          go_simp
          try (first | done | rfl | (simp; done))
      refine StepsP.cons ?_ ?_
      · intro Q s w hC hA K hK
        obtain ⟨hsz, hk_g0, lt_g0, hbw, hr6, hr8⟩ := hC
        obtain ⟨f30, f31, f32, f33, f34, -⟩ := hA
        replace f30 : (s 95) = .bool (decide ((plan.length : Int) < bb)) := f30
        replace f31 : ((!(decide ((plan.length : Int) < bb))) = true → (s 96) = .agg #[.int .i64 high, .int .i64 (T : Int), .int .i64 near, .int .i64 climb, .string S]) ∧ ((!(decide ((plan.length : Int) < bb))) = false → (s 96) = undef) := f31
        replace f32 : ((!(decide ((plan.length : Int) < bb))) = true → (s 97) = .int .i64 h) ∧ ((!(decide ((plan.length : Int) < bb))) = false → (s 97) = undef) := f32
        replace f33 : ((!(decide ((plan.length : Int) < bb))) = true → (s 98) = .int .i64 k) ∧ ((!(decide ((plan.length : Int) < bb))) = false → (s 98) = undef) := f33
        replace f34 : ((!(decide ((plan.length : Int) < bb))) = true → (s 99) = .slice A8 (plan ++ more).length c8) ∧ ((!(decide ((plan.length : Int) < bb))) = false → (s 99) = undef) := f34
        cases hc : (!(decide ((plan.length : Int) < bb)))
        · refine guard_off (d := 95) (want := false) (by rfl) (by rfl) ?_ ?_
          · show s 95 ≠ .bool false
            · intro h_
              rw [f30] at h_; injection h_ with h_; rw [Bool.eq_false_iff] at hc; exact hc (by simp_all)
          exact hK.out _ w (Below.refl _ _) ⟨fun h_ => (by rw [hc] at h_; cases h_), fun _ => rfl⟩ (fun _ g h => by cases h)
        · refine guard_on (d := 95) (want := false) (by rfl) (by rfl) ?_ ?_
          · exact (f30).trans (by rw [show (decide ((plan.length : Int) < bb)) = false by simp_all])
          replace f31 := f31.1 (by exact hc)
          replace f32 := f32.1 (by exact hc)
          replace f33 := f33.1 (by exact hc)
          replace f34 := f34.1 (by exact hc)
          refine wp_call (N := some 100) (by rfl) Try.func26 (by kernel_rfl) #[.agg #[.int .i64 high, .int .i64 (T : Int), .int .i64 near, .int .i64 climb, .string S], .int .i64 h, .int .i64 k, .slice A8 (plan ++ more).length c8] rfl (by rfl) ?_ ?_
          · show [s 96, s 97, s 98, s 99] = [.agg #[.int .i64 high, .int .i64 (T : Int), .int .i64 near, .int .i64 climb, .string S], .int .i64 h, .int .i64 k, .slice A8 (plan ++ more).length c8]
            first | rfl | simp only [f30, f31, f32, f33, f34]
          refine (hcost.out _ _ A8 c8 (plan ++ more) _ hr8).mono ?_
          rintro e w1 ⟨rfl, hb⟩
          refine ⟨_, rfl, ?_⟩
          rw [hc2.out]
          exact hK.out _ _ hb ⟨fun _ => rfl, fun h_ => (by rw [hc] at h_; cases h_)⟩ (fun h => by cases h)
      refine StepsP.cons ?_ ?_
      · intro Q s w hC hA K hK
        obtain ⟨hsz, hk_g0, lt_g0, hbw, hr6, hr8⟩ := hC
        obtain ⟨f30, -⟩ := hA
        replace f30 : (s 95) = .bool (decide ((plan.length : Int) < bb)) := f30
        cases hc : (!(decide ((plan.length : Int) < bb)))
        · refine guard_off (d := 95) (want := false) (by rfl) (by rfl) ?_ ?_
          · show s 95 ≠ .bool false
            · intro h_
              rw [f30] at h_; injection h_ with h_; rw [Bool.eq_false_iff] at hc; exact hc (by simp_all)
          exact hK.out _ w (Below.refl _ _) ⟨fun h_ => (by rw [hc] at h_; cases h_), fun _ => rfl⟩ (fun _ g h => by cases h)
        · refine guard_on (d := 95) (want := false) (by rfl) (by rfl) ?_ ?_
          · exact (f30).trans (by rw [show (decide ((plan.length : Int) < bb)) = false by simp_all])
          have m0_g0 : w.cell? ⟨g0, 0, none⟩ = some (.int .i64 high) := blk_cell hk_g0 0 (by rfl)
          have m1_g0 : w.cell? ⟨g0, 1, none⟩ = some (.int .i64 (T : Int)) := blk_cell hk_g0 1 (by rfl)
          have m2_g0 : w.cell? ⟨g0, 2, none⟩ = some (.int .i64 near) := blk_cell hk_g0 2 (by rfl)
          have m3_g0 : w.cell? ⟨g0, 3, none⟩ = some (.int .i64 climb) := blk_cell hk_g0 3 (by rfl)
          have m4_g0 : w.cell? ⟨g0, 4, none⟩ = some (.string S) := blk_cell hk_g0 4 (by rfl)
          refine wp_value (v := .agg #[.int .i64 high, .int .i64 (T : Int), .int .i64 near, .int .i64 climb, .string S]) (w1 := w) ?_ (hK.out _ w (Below.refl _ _) ⟨fun _ => rfl, fun h_ => (by rw [hc] at h_; cases h_)⟩ (fun h => by cases h))
          try simp only [f30]
          go_simp
          try (first | done | rfl | (simp; done))
      refine StepsP.cons ?_ ?_
      · intro Q s w hC hA K hK
        clear hC
        obtain ⟨f30, -⟩ := hA
        replace f30 : (s 95) = .bool (decide ((plan.length : Int) < bb)) := f30
        cases hc : (!(decide ((plan.length : Int) < bb)))
        · refine guard_off (d := 95) (want := false) (by rfl) (by rfl) ?_ ?_
          · show s 95 ≠ .bool false
            · intro h_
              rw [f30] at h_; injection h_ with h_; rw [Bool.eq_false_iff] at hc; exact hc (by simp_all)
          exact hK.out _ w (Below.refl _ _) ⟨fun h_ => (by rw [hc] at h_; cases h_), fun _ => rfl⟩ (fun _ g h => by cases h)
        · refine guard_on (d := 95) (want := false) (by rfl) (by rfl) ?_ ?_
          · exact (f30).trans (by rw [show (decide ((plan.length : Int) < bb)) = false by simp_all])
          refine wp_value (v := .int .i64 h) (w1 := w) ?_ (hK.out _ w (Below.refl _ _) ⟨fun _ => rfl, fun h_ => (by rw [hc] at h_; cases h_)⟩ (fun h => by cases h))
          try simp only [f30]
          go_simp
          try (first | done | rfl | (simp; done))
      refine StepsP.cons ?_ ?_
      · intro Q s w hC hA K hK
        clear hC
        obtain ⟨f30, -⟩ := hA
        replace f30 : (s 95) = .bool (decide ((plan.length : Int) < bb)) := f30
        cases hc : (!(decide ((plan.length : Int) < bb)))
        · refine guard_off (d := 95) (want := false) (by rfl) (by rfl) ?_ ?_
          · show s 95 ≠ .bool false
            · intro h_
              rw [f30] at h_; injection h_ with h_; rw [Bool.eq_false_iff] at hc; exact hc (by simp_all)
          exact hK.out _ w (Below.refl _ _) ⟨fun h_ => (by rw [hc] at h_; cases h_), fun _ => rfl⟩ (fun _ g h => by cases h)
        · refine guard_on (d := 95) (want := false) (by rfl) (by rfl) ?_ ?_
          · exact (f30).trans (by rw [show (decide ((plan.length : Int) < bb)) = false by simp_all])
          refine wp_value (v := .int .i64 k) (w1 := w) ?_ (hK.out _ w (Below.refl _ _) ⟨fun _ => rfl, fun h_ => (by rw [hc] at h_; cases h_)⟩ (fun h => by cases h))
          try simp only [f30]
          go_simp
          try (first | done | rfl | (simp; done))
      refine StepsP.cons ?_ ?_
      · intro Q s w hC hA K hK
        clear hC
        obtain ⟨f30, -⟩ := hA
        replace f30 : (s 95) = .bool (decide ((plan.length : Int) < bb)) := f30
        cases hc : (!(decide ((plan.length : Int) < bb)))
        · refine guard_off (d := 95) (want := false) (by rfl) (by rfl) ?_ ?_
          · show s 95 ≠ .bool false
            · intro h_
              rw [f30] at h_; injection h_ with h_; rw [Bool.eq_false_iff] at hc; exact hc (by simp_all)
          exact hK.out _ w (Below.refl _ _) ⟨fun h_ => (by rw [hc] at h_; cases h_), fun _ => rfl⟩ (fun _ g h => by cases h)
        · refine guard_on (d := 95) (want := false) (by rfl) (by rfl) ?_ ?_
          · exact (f30).trans (by rw [show (decide ((plan.length : Int) < bb)) = false by simp_all])
          refine wp_value (v := .slice A6 plan.length c6) (w1 := w) ?_ (hK.out _ w (Below.refl _ _) ⟨fun _ => rfl, fun h_ => (by rw [hc] at h_; cases h_)⟩ (fun h => by cases h))
          try simp only [f30]
          go_simp
          try (first | done | rfl | (simp; done))
      refine StepsP.cons ?_ ?_
      · intro Q s w hC hA K hK
        obtain ⟨hsz, hk_g0, lt_g0, hbw, hr6, hr8⟩ := hC
        obtain ⟨f30, f36, f37, f38, f39, -⟩ := hA
        replace f30 : (s 95) = .bool (decide ((plan.length : Int) < bb)) := f30
        replace f36 : ((!(decide ((plan.length : Int) < bb))) = true → (s 101) = .agg #[.int .i64 high, .int .i64 (T : Int), .int .i64 near, .int .i64 climb, .string S]) ∧ ((!(decide ((plan.length : Int) < bb))) = false → (s 101) = undef) := f36
        replace f37 : ((!(decide ((plan.length : Int) < bb))) = true → (s 102) = .int .i64 h) ∧ ((!(decide ((plan.length : Int) < bb))) = false → (s 102) = undef) := f37
        replace f38 : ((!(decide ((plan.length : Int) < bb))) = true → (s 103) = .int .i64 k) ∧ ((!(decide ((plan.length : Int) < bb))) = false → (s 103) = undef) := f38
        replace f39 : ((!(decide ((plan.length : Int) < bb))) = true → (s 104) = .slice A6 plan.length c6) ∧ ((!(decide ((plan.length : Int) < bb))) = false → (s 104) = undef) := f39
        cases hc : (!(decide ((plan.length : Int) < bb)))
        · refine guard_off (d := 95) (want := false) (by rfl) (by rfl) ?_ ?_
          · show s 95 ≠ .bool false
            · intro h_
              rw [f30] at h_; injection h_ with h_; rw [Bool.eq_false_iff] at hc; exact hc (by simp_all)
          exact hK.out _ w (Below.refl _ _) ⟨fun h_ => (by rw [hc] at h_; cases h_), fun _ => rfl⟩ (fun _ g h => by cases h)
        · refine guard_on (d := 95) (want := false) (by rfl) (by rfl) ?_ ?_
          · exact (f30).trans (by rw [show (decide ((plan.length : Int) < bb)) = false by simp_all])
          replace f36 := f36.1 (by exact hc)
          replace f37 := f37.1 (by exact hc)
          replace f38 := f38.1 (by exact hc)
          replace f39 := f39.1 (by exact hc)
          refine wp_call (N := some 105) (by rfl) Try.func26 (by kernel_rfl) #[.agg #[.int .i64 high, .int .i64 (T : Int), .int .i64 near, .int .i64 climb, .string S], .int .i64 h, .int .i64 k, .slice A6 plan.length c6] rfl (by rfl) ?_ ?_
          · show [s 101, s 102, s 103, s 104] = [.agg #[.int .i64 high, .int .i64 (T : Int), .int .i64 near, .int .i64 climb, .string S], .int .i64 h, .int .i64 k, .slice A6 plan.length c6]
            first | rfl | simp only [f30, f36, f37, f38, f39]
          refine (hcost.out _ _ A6 c6 plan _ hr6).mono ?_
          rintro e w1 ⟨rfl, hb⟩
          refine ⟨_, rfl, ?_⟩
          rw [hc1.out]
          exact hK.out _ _ hb ⟨fun _ => rfl, fun h_ => (by rw [hc] at h_; cases h_)⟩ (fun h => by cases h)
      refine StepsP.cons ?_ ?_
      · intro Q s w hC hA K hK
        clear hC
        obtain ⟨f30, f35, f40, -⟩ := hA
        replace f30 : (s 95) = .bool (decide ((plan.length : Int) < bb)) := f30
        replace f35 : ((!(decide ((plan.length : Int) < bb))) = true → (s 100) = .int .i64 c2) ∧ ((!(decide ((plan.length : Int) < bb))) = false → (s 100) = undef) := f35
        replace f40 : ((!(decide ((plan.length : Int) < bb))) = true → (s 105) = .int .i64 c1) ∧ ((!(decide ((plan.length : Int) < bb))) = false → (s 105) = undef) := f40
        cases hc : (!(decide ((plan.length : Int) < bb)))
        · refine guard_off (d := 95) (want := false) (by rfl) (by rfl) ?_ ?_
          · show s 95 ≠ .bool false
            · intro h_
              rw [f30] at h_; injection h_ with h_; rw [Bool.eq_false_iff] at hc; exact hc (by simp_all)
          exact hK.out _ w (Below.refl _ _) ⟨fun h_ => (by rw [hc] at h_; cases h_), fun _ => rfl⟩ (fun _ g h => by cases h)
        · refine guard_on (d := 95) (want := false) (by rfl) (by rfl) ?_ ?_
          · exact (f30).trans (by rw [show (decide ((plan.length : Int) < bb)) = false by simp_all])
          replace f35 := f35.1 (by exact hc)
          replace f40 := f40.1 (by exact hc)
          refine wp_value (v := .bool (c2 == c1)) (w1 := w) ?_ (hK.out _ w (Below.refl _ _) ⟨fun _ => rfl, fun h_ => (by rw [hc] at h_; cases h_)⟩ (fun h => by cases h))
          try simp only [f30, f35, f40]
          go_simp
          try (first | done | rfl | (simp; done))
      refine StepsP.cons ?_ ?_
      · intro Q s w hC hA K hK
        clear hC
        obtain ⟨f25, f30, f41, -⟩ := hA
        replace f25 : (s 90) = .bool true := f25
        replace f30 : (s 95) = .bool (decide ((plan.length : Int) < bb)) := f30
        replace f41 : ((!(decide ((plan.length : Int) < bb))) = true → (s 106) = .bool (c2 == c1)) ∧ ((!(decide ((plan.length : Int) < bb))) = false → (s 106) = undef) := f41
        refine guard_on (d := 90) (want := true) (by rfl) (by rfl) ?_ ?_
        · exact f25
        refine wp_value (v := .bool true) (w1 := w) ?_ (hK.out _ w (Below.refl _ _) rfl (fun h => by cases h))
        cases ht : decide ((plan.length : Int) < bb)
        · have hy_ := f41.1 (by simp_all)
          have hct_ : s 95 = .bool false := by rw [f30, ht]
          simp only [hct_, hy_]
          go_simp
          first | done | (have q_ := X3'; simp_all)
        · skip
          have hct_ : s 95 = .bool true := by rw [f30, ht]
          simp only [hct_]
          go_simp
          first | done | (have q_ := X3'; simp_all)
      refine StepsP.cons ?_ ?_
      · intro Q s w hC hA K hK
        clear hC
        obtain ⟨f25, f42, -⟩ := hA
        replace f25 : (s 90) = .bool true := f25
        replace f42 : (s 107) = .bool true := f42
        refine guard_none (by rfl) ?_
        refine wp_value (v := .bool true) (w1 := w) ?_ (hK.out _ w (Below.refl _ _) rfl (fun h => by cases h))
        try simp only [f25, f42]
        go_simp
        try (first | done | rfl | (simp; done))
      refine StepsP.cons ?_ ?_
      · intro Q s w hC hA K hK
        clear hC
        obtain ⟨f43, -⟩ := hA
        replace f43 : (s 108) = .bool true := f43
        refine guard_none (by rfl) ?_
        refine wp_value (v := .bool true) (w1 := w) ?_ (hK.out _ w (Below.refl _ _) rfl (fun h => by cases h))
        try simp only [f43]
        go_simp
        try (first | done | rfl | (simp; done))
      refine StepsP.cons ?_ ?_
      · intro Q s w hC hA K hK
        obtain ⟨hsz, hk_g0, lt_g0, hbw, hr6, hr8⟩ := hC
        obtain ⟨f44, -⟩ := hA
        replace f44 : (s 109) = .bool true := f44
        refine guard_on (d := 109) (want := true) (by rfl) (by rfl) ?_ ?_
        · exact f44
        have m0_g0 : w.cell? ⟨g0, 0, none⟩ = some (.int .i64 high) := blk_cell hk_g0 0 (by rfl)
        have m1_g0 : w.cell? ⟨g0, 1, none⟩ = some (.int .i64 (T : Int)) := blk_cell hk_g0 1 (by rfl)
        have m2_g0 : w.cell? ⟨g0, 2, none⟩ = some (.int .i64 near) := blk_cell hk_g0 2 (by rfl)
        have m3_g0 : w.cell? ⟨g0, 3, none⟩ = some (.int .i64 climb) := blk_cell hk_g0 3 (by rfl)
        have m4_g0 : w.cell? ⟨g0, 4, none⟩ = some (.string S) := blk_cell hk_g0 4 (by rfl)
        refine wp_value (v := .agg #[.int .i64 high, .int .i64 (T : Int), .int .i64 near, .int .i64 climb, .string S]) (w1 := w) ?_ (hK.out _ w (Below.refl _ _) rfl (fun h => by cases h))
        try simp only [f44]
        go_simp
        try (first | done | rfl | (simp; done))
      refine StepsP.cons ?_ ?_
      · intro Q s w hC hA K hK
        clear hC
        obtain ⟨f44, -⟩ := hA
        replace f44 : (s 109) = .bool true := f44
        refine guard_on (d := 109) (want := true) (by rfl) (by rfl) ?_ ?_
        · exact f44
        refine wp_value (v := .int .i64 h) (w1 := w) ?_ (hK.out _ w (Below.refl _ _) rfl (fun h => by cases h))
        try simp only [f44]
        go_simp
        try (first | done | rfl | (simp; done))
      refine StepsP.cons ?_ ?_
      · intro Q s w hC hA K hK
        clear hC
        obtain ⟨f44, -⟩ := hA
        replace f44 : (s 109) = .bool true := f44
        refine guard_on (d := 109) (want := true) (by rfl) (by rfl) ?_ ?_
        · exact f44
        refine wp_value (v := .slice A6 plan.length c6) (w1 := w) ?_ (hK.out _ w (Below.refl _ _) rfl (fun h => by cases h))
        try simp only [f44]
        go_simp
        try (first | done | rfl | (simp; done))
      refine StepsP.cons ?_ ?_
      · intro Q s w hC hA K hK
        obtain ⟨hsz, hk_g0, lt_g0, hbw, hr6, hr8⟩ := hC
        obtain ⟨f44, f45, f46, f47, -⟩ := hA
        replace f44 : (s 109) = .bool true := f44
        replace f45 : (s 110) = .agg #[.int .i64 high, .int .i64 (T : Int), .int .i64 near, .int .i64 climb, .string S] := f45
        replace f46 : (s 111) = .int .i64 h := f46
        replace f47 : (s 112) = .slice A6 plan.length c6 := f47
        refine guard_on (d := 109) (want := true) (by rfl) (by rfl) ?_ ?_
        · exact f44
        refine wp_call (N := some 113) (by rfl) Try.func26 (by kernel_rfl) #[.agg #[.int .i64 high, .int .i64 (T : Int), .int .i64 near, .int .i64 climb, .string S], .int .i64 h, .int .i64 0, .slice A6 plan.length c6] rfl (by rfl) ?_ ?_
        · show [s 110, s 111, .int .i64 0, s 112] = [.agg #[.int .i64 high, .int .i64 (T : Int), .int .i64 near, .int .i64 climb, .string S], .int .i64 h, .int .i64 0, .slice A6 plan.length c6]
          first | rfl | simp only [f44, f45, f46, f47]
        refine (hcost.out _ _ A6 c6 plan _ hr6).mono ?_
        rintro e w1 ⟨rfl, hb⟩
        refine ⟨_, rfl, ?_⟩
        rw [X4.out]
        exact hK.out _ _ hb rfl (fun h => by cases h)
      refine StepsP.cons ?_ ?_
      · intro Q s w hC hA K hK
        obtain ⟨hsz, hk_g0, lt_g0, hbw, hr6, hr8⟩ := hC
        obtain ⟨f44, -⟩ := hA
        replace f44 : (s 109) = .bool true := f44
        refine guard_on (d := 109) (want := true) (by rfl) (by rfl) ?_ ?_
        · exact f44
        have m0_g0 : w.cell? ⟨g0, 0, none⟩ = some (.int .i64 high) := blk_cell hk_g0 0 (by rfl)
        have m1_g0 : w.cell? ⟨g0, 1, none⟩ = some (.int .i64 (T : Int)) := blk_cell hk_g0 1 (by rfl)
        have m2_g0 : w.cell? ⟨g0, 2, none⟩ = some (.int .i64 near) := blk_cell hk_g0 2 (by rfl)
        have m3_g0 : w.cell? ⟨g0, 3, none⟩ = some (.int .i64 climb) := blk_cell hk_g0 3 (by rfl)
        have m4_g0 : w.cell? ⟨g0, 4, none⟩ = some (.string S) := blk_cell hk_g0 4 (by rfl)
        refine wp_value (v := .agg #[.int .i64 high, .int .i64 (T : Int), .int .i64 near, .int .i64 climb, .string S]) (w1 := w) ?_ (hK.out _ w (Below.refl _ _) rfl (fun h => by cases h))
        try simp only [f44]
        go_simp
        try (first | done | rfl | (simp; done))
      refine StepsP.cons ?_ ?_
      · intro Q s w hC hA K hK
        clear hC
        obtain ⟨f44, -⟩ := hA
        replace f44 : (s 109) = .bool true := f44
        refine guard_on (d := 109) (want := true) (by rfl) (by rfl) ?_ ?_
        · exact f44
        refine wp_value (v := .int .i64 h) (w1 := w) ?_ (hK.out _ w (Below.refl _ _) rfl (fun h => by cases h))
        try simp only [f44]
        go_simp
        try (first | done | rfl | (simp; done))
      refine StepsP.cons ?_ ?_
      · intro Q s w hC hA K hK
        obtain ⟨hsz, hk_g0, lt_g0, hbw, hr6, hr8⟩ := hC
        obtain ⟨f44, f49, f50, -⟩ := hA
        replace f44 : (s 109) = .bool true := f44
        replace f49 : (s 114) = .agg #[.int .i64 high, .int .i64 (T : Int), .int .i64 near, .int .i64 climb, .string S] := f49
        replace f50 : (s 115) = .int .i64 h := f50
        refine guard_on (d := 109) (want := true) (by rfl) (by rfl) ?_ ?_
        · exact f44
        refine wp_call (N := some 116) (by rfl) Try.func26 (by kernel_rfl) #[.agg #[.int .i64 high, .int .i64 (T : Int), .int .i64 near, .int .i64 climb, .string S], .int .i64 h, .int .i64 0, (Value.slice none 0 0)] rfl (by rfl) ?_ ?_
        · show [s 114, s 115, .int .i64 0, (Value.slice none 0 0)] = [.agg #[.int .i64 high, .int .i64 (T : Int), .int .i64 near, .int .i64 climb, .string S], .int .i64 h, .int .i64 0, (Value.slice none 0 0)]
          first | rfl | simp only [f44, f49, f50]
        refine (hcost.out _ _ none 0 [] _ ⟨by simp, fun i hi => absurd hi (by simp)⟩).mono ?_
        rintro e w1 ⟨rfl, hb⟩
        refine ⟨_, rfl, ?_⟩
        rw [hc3.out]
        exact hK.out _ _ hb rfl (fun h => by cases h)
      refine StepsP.cons ?_ ?_
      · intro Q s w hC hA K hK
        clear hC
        obtain ⟨f44, f48, f51, -⟩ := hA
        replace f44 : (s 109) = .bool true := f44
        replace f48 : (s 113) = .int .i64 c3 := f48
        replace f51 : (s 116) = .int .i64 c3 := f51
        refine guard_on (d := 109) (want := true) (by rfl) (by rfl) ?_ ?_
        · exact f44
        refine wp_value (v := .bool true) (w1 := w) ?_ (hK.out _ w (Below.refl _ _) rfl (fun h => by cases h))
        try simp only [f44, f48, f51]
        go_simp
        try (first | done | rfl | (simp; done))
      refine StepsP.cons ?_ ?_
      · intro Q s w hC hA K hK
        clear hC
        obtain ⟨f44, f52, -⟩ := hA
        replace f44 : (s 109) = .bool true := f44
        replace f52 : (s 117) = .bool true := f52
        refine guard_none (by rfl) ?_
        refine wp_value (v := .bool true) (w1 := w) ?_ (hK.out _ w (Below.refl _ _) rfl (fun h => by cases h))
        try simp only [f44, f52]
        go_simp
        try (first | done | rfl | (simp; done))
      refine StepsP.cons ?_ ?_
      · intro Q s w hC hA K hK
        clear hC
        obtain ⟨f53, -⟩ := hA
        replace f53 : (s 118) = .bool true := f53
        refine guard_none (by rfl) ?_
        refine wp_value (v := .bool true) (w1 := w) ?_ (hK.out _ w (Below.refl _ _) rfl (fun h => by cases h))
        try simp only [f53]
        go_simp
        try (first | done | rfl | (simp; done))
      exact StepsP.nil
    obtain ⟨hsz, hk_g0, lt_g0, hbw, hr6, hr8⟩ := hC
    obtain ⟨f54, -⟩ := hA
    replace f54 : (s 16) = .bool true := f54
    refine act_eq (b' := ?b1) ?h1 ?q1
    case h1 => simp only [f54]; rfl
    go_wp2
    all_goals (go_ret; subst hw0; exact ⟨rfl, hbw⟩)
  · have hmk := hidI (make_no high near climb ticks hm)
    go_enter Try.func8, Try.ntmps8
    go_wp2_with (first | (go_at_call 18; refine (advise_Make.calls _ _ _ _ _ _ _ _ _ _ _ hmk.out).mono ?_; rintro e w1 ⟨rfl, hb1⟩) | (go_at_call 17; refine (picketlaw18_alive.calls ka true _ hka.out).mono ?_; rintro e w2 ⟨rfl, hb2⟩) | fail)
    go_ret
    exact ⟨rfl, (by (repeat (first | with_reducible exact Below.refl _ _ | with_reducible assumption | with_reducible apply bl_alloc | with_reducible apply bl_drew | with_reducible apply bl_drewN | (with_reducible refine bl_set ?_ (by first | omega | (simp; done) | (simp; omega)) _) | (with_reducible refine bl_step ?_ (by assumption)) | (with_reducible refine bl_grown ?_ (by assumption) (by assumption)) | (with_reducible refine bl_own ?_ (by assumption) (by assumption)))))⟩
end Go.Proofs.Ytjidbjmekpholaa
