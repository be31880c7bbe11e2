/- Proved here: the law SpanSelf returns true for every input, and its arguments read behind the call as they read before. Conditions: none beyond the given statement. -/
import Derived.Test.YtljkhfookegmaaaRows
import Derived.Test.YtljkhfookegmaaaLaw2e
import Derived.ProofKit
import Derived.OpenShut
import Derived.Lib.SmallJoins
set_option linter.unusedVariables false
namespace Go.Proofs.Ytljkhfookegmaaa
open Go.RowKit Go.Pk
open Go.ChangeShapes Go.WideShapes Go.ChangeAt Go.Joins
theorem spanSelfOwn : ownKnob Try.prog.godebug = none := by kernel_rfl
theorem spanSelfLaid : laidOutB Try.prog = true := by kernel_rfl
theorem spanSelfCells23 : Try.prog.cellsOf 23 = 2 := by kernel_rfl
set_option maxRecDepth 100000 in
theorem spanSelfLifted (os : Os) (started : os.Started) (H : Type) (enc : TypeId × Value → H) :
    ReturnsInHanded {} Try.checked os 7 .any (Rows.spanSelfSpec.pre6 enc Try.prog Try.f7 Rows.spanSelfRow.domain false) (Rows.spanSelfSpec.post enc Try.prog Try.f7 false true false false) := by
  refine returnsInHanded_of_change (C := Try.checked) spanSelfOwn started (by kernel_rfl) Try.func7
    (ChangeSpec.witness6 (enc := enc) (C := Try.checked) false ⟨#[], #[.agg #[.int .i64 0, .int .i64 0]], []⟩ 8 (by kernel_rfl) (by kernel_rfl) (by kernel_rfl) (by kernel_rfl)) ?_
  intro W base args ds gs before hval0 hW hcnd _
  have hval : ∀ (j : Nat) t v, Try.f7.params[j]? = some t → args[j]? = some v → Value.okWide Try.prog W .any base t v := hval0
  have hW' := hW
  obtain ⟨p, q, hA0, hV, rfl, hfz, hnd⟩ := hW
  have hA : DataW.TrodAll enc Try.prog W 0 (fun _ => true) true Try.f7.params.toList args.toList ds p := hA0
  rw [Try.params7] at hA hval
  obtain ⟨v0, vs0, d0, ds0, p0, q0, hargs, rfl, rfl, h0, r0⟩ := trodAll_cons hA
  obtain ⟨rfl, rfl, rfl⟩ := trodAll_nil r0
  obtain rfl : args = #[v0] := by cases args; simp_all
  obtain ⟨rfl, rfl⟩ := trodVars_none hV
  have k0 := h0
  have lt0 : ∀ x ∈ p0, x.block < W.heap.size := by obtain ⟨m, hm⟩ := k0; exact DataW.trod_lt m _ _ _ hm
  obtain ⟨c0, g0, y0, z0, m0, rfl, e0, f0, hy0, hz0⟩ := open_agg2 Try.underlying23 (by kernel_rfl) spanSelfCells23 (hval 0 23 v0 rfl rfl) h0
  obtain ⟨l0, s0, t0, u0⟩ := DataW.trod_int Try.underlying3 hy0
  obtain ⟨r0', s0', t0', u0'⟩ := DataW.trod_int Try.underlying3 hz0
  simp only [List.cons.injEq, and_true] at s0 s0'
  subst s0 s0'
  have b0 := bounds_i64 u0
  have b0' := bounds_i64 u0'
  clear hA0 hval0
  refine (SpanSelf_walk l0 r0' W b0.1 b0.2 b0'.1 b0'.2).mono fun e W' ⟨he, bel⟩ => ?_
  subst he
  exact ⟨_, rfl, _, _, _, [], _, [], hW', trodAll_mk1 (shut_bool Try.underlying4 _), (trodAll_cons_mk (Below.trod spanSelfLaid (by kernel_rfl) (of_decide_eq_true (by kernel_rfl)) k0 bel lt0) trodAll_mk0), rfl, bel.frame _, fun h => by cases h⟩
theorem spanSelf_holds : Rows.SpanSelfSaid :=
  OpenClaim.holds_of_wide 7 Try.f7 rfl rfl rfl rfl rfl rfl rfl ⟨rfl, rfl, rfl, rfl, rfl⟩ rfl rfl rfl rfl rfl (by kernel_rfl) Try.func7 (by kernel_rfl)
    (of_decide_eq_true (by kernel_rfl)) (by unfold Func.isWrapper; first | (rw [if_pos (by decide +kernel)]; kernel_rfl) | (rw [if_neg (by decide +kernel)]; exact ⟨rfl, rfl⟩))
    (fun os started H enc _ => spanSelfLifted os started H enc)
end Go.Proofs.Ytljkhfookegmaaa
