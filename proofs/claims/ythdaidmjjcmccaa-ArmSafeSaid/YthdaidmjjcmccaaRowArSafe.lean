/- Proved here: ArmSafe: whatever a controller says, numbers that begin in the Inv stay in it, tick behind tick. Conditions: none beyond the row's own. -/
import Derived.Test.YthdaidmjjcmccaaRows
import Derived.Test.YthdaidmjjcmccaaR1
import Derived.Test.YthdaidmjjcmccaaR4
import Derived.Test.YthdaidmjjcmccaaAr13
import Derived.WalkKit
import Derived.ProofKit
import Derived.OpenShut
import Derived.ShutString
import Derived.ChangeOld
import Derived.Below
namespace Go.Proofs.Ythdaidmjjcmccaa
open Go.RowKit Go.Pk Go.ChangeShapes Go.WideShapes Go.ChangeAt
open Go.ChangeMaps (open_string shut_string)
set_option linter.unusedVariables false
set_option linter.unusedSimpArgs false
theorem armSafeCell3 : Try.prog.cellsOf 3 = 1 := by kernel_rfl
theorem armSafeCell9 : Try.prog.cellsOf 9 = 1 := by kernel_rfl
theorem armSafeCell22 : Try.prog.cellsOf 22 = 1 := by kernel_rfl
theorem armSafeCell23 : Try.prog.cellsOf 23 = 1 := by kernel_rfl
theorem armSafeCell25 : Try.prog.cellsOf 25 = 2 := by kernel_rfl
theorem armSafeCell26 : Try.prog.cellsOf 26 = 1 := by kernel_rfl
theorem armSafeCell28 : Try.prog.cellsOf 28 = 9 := by kernel_rfl
theorem armSafeCell30 : Try.prog.cellsOf 30 = 1 := by kernel_rfl
theorem armSafeCell86 : Try.prog.cellsOf 86 = 4 := by kernel_rfl
theorem armSafeOwn : ownKnob Try.prog.godebug = none := by kernel_rfl
theorem armSafeLaid : laidOutB Try.prog = true := by kernel_rfl
set_option maxHeartbeats 4000000 in
set_option maxRecDepth 100000 in
theorem armSafeLifted (os : Os) (started : os.Started) (H : Type) (enc : TypeId × Value → H) :
    ReturnsInHanded {} Try.checked os 11 .any (Rows.armSafeSpec.pre6 enc Try.prog Try.f11 Rows.armSafeRow.domain false) (Rows.armSafeSpec.post enc Try.prog Try.f11 false true false false) := by
  refine returnsInHanded_of_change (C := Try.checked) armSafeOwn started (by kernel_rfl) Try.func11
    (ChangeSpec.witness6 (enc := enc) (C := Try.checked) false ⟨#[], #[.agg #[.slice none 0 0, .slice none 0 0, .int .i64 0, .int .i64 0, .slice none 0 0, .slice none 0 0, .slice none 0 0, .slice none 0 0, .int .i64 0], .int .i64 0, .slice none 0 0, .slice none 0 0, .slice none 0 0, .slice none 0 0, .slice none 0 0], []⟩ 8 (by kernel_rfl) (by kernel_rfl) (by kernel_rfl) (by kernel_rfl)) ?_
  intro W base args ds gs before hval0 hW hcnd _
  have hval : ∀ (j : Nat) t v, Try.f11.params[j]? = some t → args[j]? = some v → Value.okWide Try.prog W .any base t v := hval0
  have hW' := hW
  obtain ⟨p, q, hA0, hV, rfl, hfz, hnd⟩ := hW
  have hA : DataW.TrodAll enc Try.prog W 0 (fun _ => true) true Try.f11.params.toList args.toList ds p := hA0
  rw [Try.params11] at hA hval
  obtain ⟨v0, vs0, d0, ds0, p0, q0, hargs, rfl, rfl, h0, r0⟩ := trodAll_cons hA
  obtain ⟨v1, vs1, d1, ds1, p1, q1, rfl, rfl, rfl, h1, r1⟩ := trodAll_cons r0
  obtain ⟨v2, vs2, d2, ds2, p2, q2, rfl, rfl, rfl, h2, r2⟩ := trodAll_cons r1
  obtain ⟨v3, vs3, d3, ds3, p3, q3, rfl, rfl, rfl, h3, r3⟩ := trodAll_cons r2
  obtain ⟨v4, vs4, d4, ds4, p4, q4, rfl, rfl, rfl, h4, r4⟩ := trodAll_cons r3
  obtain ⟨v5, vs5, d5, ds5, p5, q5, rfl, rfl, rfl, h5, r5⟩ := trodAll_cons r4
  obtain ⟨v6, vs6, d6, ds6, p6, q6, rfl, rfl, rfl, h6, r6⟩ := trodAll_cons r5
  obtain ⟨rfl, rfl, rfl⟩ := trodAll_nil r6
  obtain rfl : args = #[v0, v1, v2, v3, v4, v5, v6] := by cases args; simp_all
  obtain ⟨rfl, rfl⟩ := trodVars_none hV
  have k0 := h0
  have lt0 : ∀ x ∈ p0, x.block < W.heap.size := by obtain ⟨m, hm⟩ := k0; exact DataW.trod_lt m _ _ _ hm
  have k1 := h1
  have lt1 : ∀ x ∈ p1, x.block < W.heap.size := by obtain ⟨m, hm⟩ := k1; exact DataW.trod_lt m _ _ _ hm
  have k2 := h2
  have lt2 : ∀ x ∈ p2, x.block < W.heap.size := by obtain ⟨m, hm⟩ := k2; exact DataW.trod_lt m _ _ _ hm
  have k3 := h3
  have lt3 : ∀ x ∈ p3, x.block < W.heap.size := by obtain ⟨m, hm⟩ := k3; exact DataW.trod_lt m _ _ _ hm
  have k4 := h4
  have lt4 : ∀ x ∈ p4, x.block < W.heap.size := by obtain ⟨m, hm⟩ := k4; exact DataW.trod_lt m _ _ _ hm
  have k5 := h5
  have lt5 : ∀ x ∈ p5, x.block < W.heap.size := by obtain ⟨m, hm⟩ := k5; exact DataW.trod_lt m _ _ _ hm
  have k6 := h6
  have lt6 : ∀ x ∈ p6, x.block < W.heap.size := by obtain ⟨m, hm⟩ := k6; exact DataW.trod_lt m _ _ _ hm
  obtain ⟨cs0, fu0, xx0, rfl, hl0, hx0⟩ := open_agg Try.underlying28 (hval 0 28 v0 rfl rfl) h0
  obtain ⟨u0_0, u0_1, u0_2, u0_3, u0_4, u0_5, u0_6, u0_7, u0_8, rfl⟩ := arr9 (hl0.trans armSafeCell28)
  obtain ⟨n0_0, y0_0, hy0_0⟩ := open_field Try.underlying28 hx0 (i := 0) rfl
  replace hy0_0 : DataW.trod enc Try.prog W 0 (fun _ => true) true n0_0 22 (List.take (Try.prog.cellsOf 22) (List.drop 0 [u0_0, u0_1, u0_2, u0_3, u0_4, u0_5, u0_6, u0_7, u0_8])) = some y0_0 := hy0_0
  rw [armSafeCell22] at hy0_0
  simp only [List.drop_succ_cons, List.drop_zero, List.take_succ_cons, List.take_zero] at hy0_0
  obtain ⟨n0_1, y0_1, hy0_1⟩ := open_field Try.underlying28 hx0 (i := 1) rfl
  replace hy0_1 : DataW.trod enc Try.prog W 0 (fun _ => true) true n0_1 23 (List.take (Try.prog.cellsOf 23) (List.drop 1 [u0_0, u0_1, u0_2, u0_3, u0_4, u0_5, u0_6, u0_7, u0_8])) = some y0_1 := hy0_1
  rw [armSafeCell23] at hy0_1
  simp only [List.drop_succ_cons, List.drop_zero, List.take_succ_cons, List.take_zero] at hy0_1
  obtain ⟨n0_2, y0_2, hy0_2⟩ := open_field Try.underlying28 hx0 (i := 2) rfl
  replace hy0_2 : DataW.trod enc Try.prog W 0 (fun _ => true) true n0_2 25 (List.take (Try.prog.cellsOf 25) (List.drop 2 [u0_0, u0_1, u0_2, u0_3, u0_4, u0_5, u0_6, u0_7, u0_8])) = some y0_2 := hy0_2
  rw [armSafeCell25] at hy0_2
  simp only [List.drop_succ_cons, List.drop_zero, List.take_succ_cons, List.take_zero] at hy0_2
  obtain ⟨n0_3, y0_3, hy0_3⟩ := open_field Try.underlying28 hx0 (i := 3) rfl
  replace hy0_3 : DataW.trod enc Try.prog W 0 (fun _ => true) true n0_3 26 (List.take (Try.prog.cellsOf 26) (List.drop 4 [u0_0, u0_1, u0_2, u0_3, u0_4, u0_5, u0_6, u0_7, u0_8])) = some y0_3 := hy0_3
  rw [armSafeCell26] at hy0_3
  simp only [List.drop_succ_cons, List.drop_zero, List.take_succ_cons, List.take_zero] at hy0_3
  obtain ⟨n0_4, y0_4, hy0_4⟩ := open_field Try.underlying28 hx0 (i := 4) rfl
  replace hy0_4 : DataW.trod enc Try.prog W 0 (fun _ => true) true n0_4 26 (List.take (Try.prog.cellsOf 26) (List.drop 5 [u0_0, u0_1, u0_2, u0_3, u0_4, u0_5, u0_6, u0_7, u0_8])) = some y0_4 := hy0_4
  rw [armSafeCell26] at hy0_4
  simp only [List.drop_succ_cons, List.drop_zero, List.take_succ_cons, List.take_zero] at hy0_4
  obtain ⟨n0_5, y0_5, hy0_5⟩ := open_field Try.underlying28 hx0 (i := 5) rfl
  replace hy0_5 : DataW.trod enc Try.prog W 0 (fun _ => true) true n0_5 26 (List.take (Try.prog.cellsOf 26) (List.drop 6 [u0_0, u0_1, u0_2, u0_3, u0_4, u0_5, u0_6, u0_7, u0_8])) = some y0_5 := hy0_5
  rw [armSafeCell26] at hy0_5
  simp only [List.drop_succ_cons, List.drop_zero, List.take_succ_cons, List.take_zero] at hy0_5
  obtain ⟨n0_6, y0_6, hy0_6⟩ := open_field Try.underlying28 hx0 (i := 6) rfl
  replace hy0_6 : DataW.trod enc Try.prog W 0 (fun _ => true) true n0_6 23 (List.take (Try.prog.cellsOf 23) (List.drop 7 [u0_0, u0_1, u0_2, u0_3, u0_4, u0_5, u0_6, u0_7, u0_8])) = some y0_6 := hy0_6
  rw [armSafeCell23] at hy0_6
  simp only [List.drop_succ_cons, List.drop_zero, List.take_succ_cons, List.take_zero] at hy0_6
  obtain ⟨n0_7, y0_7, hy0_7⟩ := open_field Try.underlying28 hx0 (i := 7) rfl
  replace hy0_7 : DataW.trod enc Try.prog W 0 (fun _ => true) true n0_7 3 (List.take (Try.prog.cellsOf 3) (List.drop 8 [u0_0, u0_1, u0_2, u0_3, u0_4, u0_5, u0_6, u0_7, u0_8])) = some y0_7 := hy0_7
  rw [armSafeCell3] at hy0_7
  simp only [List.drop_succ_cons, List.drop_zero, List.take_succ_cons, List.take_zero] at hy0_7
  obtain ⟨A0_0, l0_0, c0_0, e0_0, g0_0, r0_0, b0_0⟩ := open_rowsC Try.underlying22 Try.underlying23 Try.underlying3 armSafeCell23 armSafeCell3 hy0_0
  simp only [List.cons.injEq, and_true] at e0_0
  subst e0_0
  obtain ⟨A0_1, l0_1, c0_1, e0_1, g0_1, r0_1, b0_1⟩ := open_intsC Try.underlying23 Try.underlying3 armSafeCell3 hy0_1
  simp only [List.cons.injEq, and_true] at e0_1
  subst e0_1
  obtain ⟨s0_2, e0_2, b0_2⟩ := open_spanC Try.underlying25 (by rfl) (by rfl) (by rfl) (by rfl) (by rfl) (by rfl) Try.underlying3 armSafeCell3 rfl hy0_2
  simp only [List.cons.injEq, and_true] at e0_2
  obtain ⟨e0_2, e0_2'⟩ := e0_2
  subst e0_2'
  subst e0_2
  obtain ⟨A0_3, l0_3, c0_3, e0_3, g0_3, r0_3, b0_3⟩ := open_spansC Try.underlying26 Try.underlying25 (by rfl) (by rfl) (by rfl) (by rfl) (by rfl) (by rfl) Try.underlying3 armSafeCell25 armSafeCell3 hy0_3
  simp only [List.cons.injEq, and_true] at e0_3
  subst e0_3
  obtain ⟨A0_4, l0_4, c0_4, e0_4, g0_4, r0_4, b0_4⟩ := open_spansC Try.underlying26 Try.underlying25 (by rfl) (by rfl) (by rfl) (by rfl) (by rfl) (by rfl) Try.underlying3 armSafeCell25 armSafeCell3 hy0_4
  simp only [List.cons.injEq, and_true] at e0_4
  subst e0_4
  obtain ⟨A0_5, l0_5, c0_5, e0_5, g0_5, r0_5, b0_5⟩ := open_spansC Try.underlying26 Try.underlying25 (by rfl) (by rfl) (by rfl) (by rfl) (by rfl) (by rfl) Try.underlying3 armSafeCell25 armSafeCell3 hy0_5
  simp only [List.cons.injEq, and_true] at e0_5
  subst e0_5
  obtain ⟨A0_6, l0_6, c0_6, e0_6, g0_6, r0_6, b0_6⟩ := open_intsC Try.underlying23 Try.underlying3 armSafeCell3 hy0_6
  simp only [List.cons.injEq, and_true] at e0_6
  subst e0_6
  obtain ⟨a0_7, e0_7, _, w0_7⟩ := DataW.trod_int Try.underlying3 hy0_7
  have b0_7 := bounds_i64 w0_7
  simp only [List.cons.injEq, and_true] at e0_7
  subst e0_7
  obtain ⟨a1, rfl, e1, f1, w1⟩ := open_int Try.underlying3 (hval 1 3 v1 rfl rfl) h1
  have b1 := bounds_i64 w1
  obtain ⟨A2, l2, c2, rfl, g2, e2, b2⟩ := open_intsV Try.underlying23 Try.underlying3 armSafeCell3 (hval 2 23 v2 rfl rfl) h2
  obtain ⟨A3, l3, c3, rfl, g3, e3⟩ := open_opsV Try.underlying83 Try.underlying86 armSafeCell86 (by rfl) (by rfl) (by rfl) (by rfl) armSafeCell3 armSafeCell30 armSafeCell9 armSafeCell23 Try.underlying3 Try.underlying30 Try.underlying9 Try.underlying23 Try.underlying3 armSafeCell3 (hval 3 83 v3 rfl rfl) h3
  obtain ⟨A4, l4, c4, rfl, g4, e4, b4⟩ := open_intsV Try.underlying23 Try.underlying3 armSafeCell3 (hval 4 23 v4 rfl rfl) h4
  obtain ⟨A5, l5, c5, rfl, g5, e5, b5⟩ := open_intsV Try.underlying23 Try.underlying3 armSafeCell3 (hval 5 23 v5 rfl rfl) h5
  obtain ⟨A6, l6, c6, rfl, g6, e6, b6⟩ := open_intsV Try.underlying23 Try.underlying3 armSafeCell3 (hval 6 23 v6 rfl rfl) h6
  clear hA0 hval0
  refine (ASafe_walk ⟨A0_0, c0_0, A0_1, c0_1, A0_3, c0_3, A0_4, c0_4, A0_5, c0_5, A0_6, c0_6⟩ ⟨l0_0, l0_1, s0_2, l0_3, l0_4, l0_5, l0_6, a0_7⟩ l2 a1 l3 l4 l5 l6 A2 A3 A4 A5 A6 c2 c3 c4 c5 c6 W ⟨r0_0, r0_1, r0_3, r0_4, r0_5, r0_6, g0_0, g0_1, g0_3, g0_4, g0_5, g0_6⟩ ⟨b0_0, b0_1, b0_2, b0_3, b0_4, b0_5, b0_6, b0_7⟩ e2 b2 e3 e4 e5 e6).mono fun e W' ⟨he, bel⟩ => ?_
  subst he
  exact ⟨_, rfl, _, _, _, [], _, [], hW', trodAll_mk1 (shut_bool Try.underlying4 _), (trodAll_cons_mk (Below.trod armSafeLaid (by kernel_rfl) (of_decide_eq_true (by kernel_rfl)) k0 bel lt0) (trodAll_cons_mk (Below.trod armSafeLaid (by kernel_rfl) (of_decide_eq_true (by kernel_rfl)) k1 bel lt1) (trodAll_cons_mk (Below.trod armSafeLaid (by kernel_rfl) (of_decide_eq_true (by kernel_rfl)) k2 bel lt2) (trodAll_cons_mk (Below.trod armSafeLaid (by kernel_rfl) (of_decide_eq_true (by kernel_rfl)) k3 bel lt3) (trodAll_cons_mk (Below.trod armSafeLaid (by kernel_rfl) (of_decide_eq_true (by kernel_rfl)) k4 bel lt4) (trodAll_cons_mk (Below.trod armSafeLaid (by kernel_rfl) (of_decide_eq_true (by kernel_rfl)) k5 bel lt5) (trodAll_cons_mk (Below.trod armSafeLaid (by kernel_rfl) (of_decide_eq_true (by kernel_rfl)) k6 bel lt6) trodAll_mk0))))))), rfl, bel.frame _, fun h => by cases h⟩
theorem armSafe_holds : Rows.ArmSafeSaid :=
  OpenClaim.holds_of_wide 11 Try.f11 rfl rfl rfl rfl rfl rfl rfl ⟨rfl, rfl, rfl, rfl, rfl⟩ rfl rfl rfl rfl rfl (by kernel_rfl) Try.func11 (by kernel_rfl)
    (of_decide_eq_true (by kernel_rfl)) (by unfold Func.isWrapper; first | (rw [if_pos (by decide +kernel)]; kernel_rfl) | (rw [if_neg (by decide +kernel)]; exact ⟨rfl, rfl⟩))
    (fun os started H enc _ => armSafeLifted os started H enc)
end Go.Proofs.Ythdaidmjjcmccaa
