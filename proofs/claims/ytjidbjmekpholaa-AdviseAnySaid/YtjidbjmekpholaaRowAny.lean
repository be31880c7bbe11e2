/- Proved here: AdviseAny: for every table, made or not, every height and tick and every plan, whether it is a table, what is asked of it, what a plan costs and how it is put are the document's own answers. Conditions: none beyond the row's own. -/
import Derived.Test.YtjidbjmekpholaaRows
import Derived.Test.YtjidbjmekpholaaR0
import Derived.Test.YtjidbjmekpholaaAdG
import Derived.WalkKit
import Derived.ProofKit
import Derived.OpenShut
import Derived.ShutString
import Derived.ChangeOld
import Derived.Below
namespace Go.Proofs.Ytjidbjmekpholaa
open Go.RowKit Go.Pk Go.ChangeShapes Go.WideShapes Go.ChangeAt
open Go.ChangeMaps (open_string shut_string)
set_option linter.unusedVariables false
set_option linter.unusedSimpArgs false
theorem adviseAnyCell3 : Try.prog.cellsOf 3 = 1 := by kernel_rfl
theorem adviseAnyCell9 : Try.prog.cellsOf 9 = 1 := by kernel_rfl
theorem adviseAnyCell38 : Try.prog.cellsOf 38 = 5 := by kernel_rfl
theorem adviseAnyOwn : ownKnob Try.prog.godebug = none := by kernel_rfl
theorem adviseAnyLaid : laidOutB Try.prog = true := by kernel_rfl
set_option maxHeartbeats 4000000 in
set_option maxRecDepth 100000 in
theorem adviseAnyLifted (os : Os) (started : os.Started) (H : Type) (enc : TypeId × Value → H) :
    ReturnsInHanded {} Try.checked os 7 .any (Rows.adviseAnySpec.pre6 enc Try.prog Try.f7 Rows.adviseAnyRow.domain false) (Rows.adviseAnySpec.post enc Try.prog Try.f7 false true false false) := by
  refine returnsInHanded_of_change (C := Try.checked) adviseAnyOwn started (by kernel_rfl) Try.func7
    (ChangeSpec.witness6 (enc := enc) (C := Try.checked) false ⟨#[], #[.agg #[.int .i64 0, .int .i64 0, .int .i64 0, .int .i64 0, .string ⟨#[]⟩], .int .i64 0, .int .i64 0, .slice none 0 0], []⟩ 8 (by kernel_rfl) (by kernel_rfl) (by kernel_rfl) (by kernel_rfl)) ?_
  intro W base args ds gs before hval0 hW hcnd _
  have hval : ∀ (j : Nat) t v, Try.f7.params[j]? = some t → args[j]? = some v → Value.okWide Try.prog W .any base t v := hval0
  have hW' := hW
  obtain ⟨p, q, hA0, hV, rfl, hfz, hnd⟩ := hW
  have hA : DataW.TrodAll enc Try.prog W 0 (fun _ => true) true Try.f7.params.toList args.toList ds p := hA0
  rw [Try.params7] at hA hval
  obtain ⟨v0, vs0, d0, ds0, p0, q0, hargs, rfl, rfl, h0, r0⟩ := trodAll_cons hA
  obtain ⟨v1, vs1, d1, ds1, p1, q1, rfl, rfl, rfl, h1, r1⟩ := trodAll_cons r0
  obtain ⟨v2, vs2, d2, ds2, p2, q2, rfl, rfl, rfl, h2, r2⟩ := trodAll_cons r1
  obtain ⟨v3, vs3, d3, ds3, p3, q3, rfl, rfl, rfl, h3, r3⟩ := trodAll_cons r2
  obtain ⟨rfl, rfl, rfl⟩ := trodAll_nil r3
  obtain rfl : args = #[v0, v1, v2, v3] := by cases args; simp_all
  obtain ⟨rfl, rfl⟩ := trodVars_none hV
  have k0 := h0
  have lt0 : ∀ x ∈ p0, x.block < W.heap.size := by obtain ⟨m, hm⟩ := k0; exact DataW.trod_lt m _ _ _ hm
  have k1 := h1
  have lt1 : ∀ x ∈ p1, x.block < W.heap.size := by obtain ⟨m, hm⟩ := k1; exact DataW.trod_lt m _ _ _ hm
  have k2 := h2
  have lt2 : ∀ x ∈ p2, x.block < W.heap.size := by obtain ⟨m, hm⟩ := k2; exact DataW.trod_lt m _ _ _ hm
  have k3 := h3
  have lt3 : ∀ x ∈ p3, x.block < W.heap.size := by obtain ⟨m, hm⟩ := k3; exact DataW.trod_lt m _ _ _ hm
  obtain ⟨cs0, fu0, xx0, rfl, hl0, hx0⟩ := open_agg Try.underlying38 (hval 0 38 v0 rfl rfl) h0
  obtain ⟨u0_0, u0_1, u0_2, u0_3, u0_4, rfl⟩ := arr5 (hl0.trans adviseAnyCell38)
  obtain ⟨n0_0, y0_0, hy0_0⟩ := open_field Try.underlying38 hx0 (i := 0) rfl
  replace hy0_0 : DataW.trod enc Try.prog W 0 (fun _ => true) true n0_0 3 (List.take (Try.prog.cellsOf 3) (List.drop 0 [u0_0, u0_1, u0_2, u0_3, u0_4])) = some y0_0 := hy0_0
  rw [adviseAnyCell3] at hy0_0
  simp only [List.drop_succ_cons, List.drop_zero, List.take_succ_cons, List.take_zero] at hy0_0
  obtain ⟨n0_1, y0_1, hy0_1⟩ := open_field Try.underlying38 hx0 (i := 1) rfl
  replace hy0_1 : DataW.trod enc Try.prog W 0 (fun _ => true) true n0_1 3 (List.take (Try.prog.cellsOf 3) (List.drop 1 [u0_0, u0_1, u0_2, u0_3, u0_4])) = some y0_1 := hy0_1
  rw [adviseAnyCell3] at hy0_1
  simp only [List.drop_succ_cons, List.drop_zero, List.take_succ_cons, List.take_zero] at hy0_1
  obtain ⟨n0_2, y0_2, hy0_2⟩ := open_field Try.underlying38 hx0 (i := 2) rfl
  replace hy0_2 : DataW.trod enc Try.prog W 0 (fun _ => true) true n0_2 3 (List.take (Try.prog.cellsOf 3) (List.drop 2 [u0_0, u0_1, u0_2, u0_3, u0_4])) = some y0_2 := hy0_2
  rw [adviseAnyCell3] at hy0_2
  simp only [List.drop_succ_cons, List.drop_zero, List.take_succ_cons, List.take_zero] at hy0_2
  obtain ⟨n0_3, y0_3, hy0_3⟩ := open_field Try.underlying38 hx0 (i := 3) rfl
  replace hy0_3 : DataW.trod enc Try.prog W 0 (fun _ => true) true n0_3 3 (List.take (Try.prog.cellsOf 3) (List.drop 3 [u0_0, u0_1, u0_2, u0_3, u0_4])) = some y0_3 := hy0_3
  rw [adviseAnyCell3] at hy0_3
  simp only [List.drop_succ_cons, List.drop_zero, List.take_succ_cons, List.take_zero] at hy0_3
  obtain ⟨n0_4, y0_4, hy0_4⟩ := open_field Try.underlying38 hx0 (i := 4) rfl
  replace hy0_4 : DataW.trod enc Try.prog W 0 (fun _ => true) true n0_4 9 (List.take (Try.prog.cellsOf 9) (List.drop 4 [u0_0, u0_1, u0_2, u0_3, u0_4])) = some y0_4 := hy0_4
  rw [adviseAnyCell9] at hy0_4
  simp only [List.drop_succ_cons, List.drop_zero, List.take_succ_cons, List.take_zero] at hy0_4
  obtain ⟨a0_0, e0_0, _, w0_0⟩ := DataW.trod_int Try.underlying3 hy0_0
  have b0_0 := bounds_i64 w0_0
  simp only [List.cons.injEq, and_true] at e0_0
  subst e0_0
  obtain ⟨a0_1, e0_1, _, w0_1⟩ := DataW.trod_int Try.underlying3 hy0_1
  have b0_1 := bounds_i64 w0_1
  simp only [List.cons.injEq, and_true] at e0_1
  subst e0_1
  obtain ⟨a0_2, e0_2, _, w0_2⟩ := DataW.trod_int Try.underlying3 hy0_2
  have b0_2 := bounds_i64 w0_2
  simp only [List.cons.injEq, and_true] at e0_2
  subst e0_2
  obtain ⟨a0_3, e0_3, _, w0_3⟩ := DataW.trod_int Try.underlying3 hy0_3
  have b0_3 := bounds_i64 w0_3
  simp only [List.cons.injEq, and_true] at e0_3
  subst e0_3
  obtain ⟨a0_4, e0_4, _, w0_4⟩ := DataW.trod_string Try.underlying9 hy0_4
  simp only [List.cons.injEq, and_true] at e0_4
  subst e0_4
  obtain ⟨a1, rfl, e1, f1, w1⟩ := open_int Try.underlying3 (hval 1 3 v1 rfl rfl) h1
  have b1 := bounds_i64 w1
  obtain ⟨a2, rfl, e2, f2, w2⟩ := open_int Try.underlying3 (hval 2 3 v2 rfl rfl) h2
  have b2 := bounds_i64 w2
  obtain ⟨A3, l3, c3, rfl, g3, e3, b3⟩ := open_intsV Try.underlying24 Try.underlying3 adviseAnyCell3 (hval 3 24 v3 rfl rfl) h3
  clear hA0 hval0
  refine (AdY.any_walk a0_0 a0_1 a0_2 a0_3 a0_4 a1 a2 A3 l3 c3 W g3 e3).mono fun e W' ⟨he, bel⟩ => ?_
  subst he
  exact ⟨_, rfl, _, _, _, [], _, [], hW', trodAll_mk1 (shut_bool Try.underlying4 _), (trodAll_cons_mk (Below.trod adviseAnyLaid (by kernel_rfl) (of_decide_eq_true (by kernel_rfl)) k0 bel lt0) (trodAll_cons_mk (Below.trod adviseAnyLaid (by kernel_rfl) (of_decide_eq_true (by kernel_rfl)) k1 bel lt1) (trodAll_cons_mk (Below.trod adviseAnyLaid (by kernel_rfl) (of_decide_eq_true (by kernel_rfl)) k2 bel lt2) (trodAll_cons_mk (Below.trod adviseAnyLaid (by kernel_rfl) (of_decide_eq_true (by kernel_rfl)) k3 bel lt3) trodAll_mk0)))), rfl, bel.frame _, fun h => by cases h⟩
theorem adviseAny_holds : Rows.AdviseAnySaid :=
  OpenClaim.holds_of_wide 7 Try.f7 rfl rfl rfl rfl rfl rfl rfl ⟨rfl, rfl, rfl, rfl, rfl⟩ rfl rfl rfl rfl rfl (by kernel_rfl) Try.func7 (by kernel_rfl)
    (of_decide_eq_true (by kernel_rfl)) (by unfold Func.isWrapper; first | (rw [if_pos (by decide +kernel)]; kernel_rfl) | (rw [if_neg (by decide +kernel)]; exact ⟨rfl, rfl⟩))
    (fun os started H enc _ => adviseAnyLifted os started H enc)
end Go.Proofs.Ytjidbjmekpholaa
