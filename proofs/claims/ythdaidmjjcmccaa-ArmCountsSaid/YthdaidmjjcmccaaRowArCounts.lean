/- Proved here: ArmCounts: each choice counts once, from where it comes. Conditions: none beyond the row's own. -/
import Derived.Test.YthdaidmjjcmccaaRows
import Derived.Test.YthdaidmjjcmccaaR4
import Derived.Test.YthdaidmjjcmccaaAr11
import Derived.WalkKit
import Derived.ProofKit
import Derived.OpenShut
import Derived.ShutString
import Derived.ChangeOld
import Derived.Below
namespace Go.Proofs.Ythdaidmjjcmccaa
open Go.RowKit Go.Pk Go.ChangeShapes Go.WideShapes Go.ChangeAt
open Go.ChangeMaps (open_string shut_string)
set_option linter.unusedVariables false
set_option linter.unusedSimpArgs false
theorem armCountsCell3 : Try.prog.cellsOf 3 = 1 := by kernel_rfl
theorem armCountsCell9 : Try.prog.cellsOf 9 = 1 := by kernel_rfl
theorem armCountsCell23 : Try.prog.cellsOf 23 = 1 := by kernel_rfl
theorem armCountsCell30 : Try.prog.cellsOf 30 = 1 := by kernel_rfl
theorem armCountsCell86 : Try.prog.cellsOf 86 = 4 := by kernel_rfl
theorem armCountsOwn : ownKnob Try.prog.godebug = none := by kernel_rfl
theorem armCountsLaid : laidOutB Try.prog = true := by kernel_rfl
set_option maxHeartbeats 4000000 in
set_option maxRecDepth 100000 in
theorem armCountsLifted (os : Os) (started : os.Started) (H : Type) (enc : TypeId × Value → H) :
    ReturnsInHanded {} Try.checked os 10 .any (Rows.armCountsSpec.pre6 enc Try.prog Try.f10 Rows.armCountsRow.domain false) (Rows.armCountsSpec.post enc Try.prog Try.f10 false true false false) := by
  refine returnsInHanded_of_change (C := Try.checked) armCountsOwn started (by kernel_rfl) Try.func10
    (ChangeSpec.witness6 (enc := enc) (C := Try.checked) false ⟨#[], #[.int .i64 0, .slice none 0 0], []⟩ 8 (by kernel_rfl) (by kernel_rfl) (by kernel_rfl) (by kernel_rfl)) ?_
  intro W base args ds gs before hval0 hW hcnd _
  have hval : ∀ (j : Nat) t v, Try.f10.params[j]? = some t → args[j]? = some v → Value.okWide Try.prog W .any base t v := hval0
  have hW' := hW
  obtain ⟨p, q, hA0, hV, rfl, hfz, hnd⟩ := hW
  have hA : DataW.TrodAll enc Try.prog W 0 (fun _ => true) true Try.f10.params.toList args.toList ds p := hA0
  rw [Try.params10] at hA hval
  obtain ⟨v0, vs0, d0, ds0, p0, q0, hargs, rfl, rfl, h0, r0⟩ := trodAll_cons hA
  obtain ⟨v1, vs1, d1, ds1, p1, q1, rfl, rfl, rfl, h1, r1⟩ := trodAll_cons r0
  obtain ⟨rfl, rfl, rfl⟩ := trodAll_nil r1
  obtain rfl : args = #[v0, v1] := by cases args; simp_all
  obtain ⟨rfl, rfl⟩ := trodVars_none hV
  have k0 := h0
  have lt0 : ∀ x ∈ p0, x.block < W.heap.size := by obtain ⟨m, hm⟩ := k0; exact DataW.trod_lt m _ _ _ hm
  have k1 := h1
  have lt1 : ∀ x ∈ p1, x.block < W.heap.size := by obtain ⟨m, hm⟩ := k1; exact DataW.trod_lt m _ _ _ hm
  obtain ⟨a0, rfl, e0, f0, w0⟩ := open_int Try.underlying3 (hval 0 3 v0 rfl rfl) h0
  have b0 := bounds_i64 w0
  obtain ⟨A1, l1, c1, rfl, g1, e1⟩ := open_opsV Try.underlying83 Try.underlying86 armCountsCell86 (by rfl) (by rfl) (by rfl) (by rfl) armCountsCell3 armCountsCell30 armCountsCell9 armCountsCell23 Try.underlying3 Try.underlying30 Try.underlying9 Try.underlying23 Try.underlying3 armCountsCell3 (hval 1 83 v1 rfl rfl) h1
  clear hA0 hval0
  refine (ACounts_walk a0 l1 A1 c1 W e1).mono fun e W' ⟨he, bel⟩ => ?_
  subst he
  exact ⟨_, rfl, _, _, _, [], _, [], hW', trodAll_mk1 (shut_bool Try.underlying4 _), (trodAll_cons_mk (Below.trod armCountsLaid (by kernel_rfl) (of_decide_eq_true (by kernel_rfl)) k0 bel lt0) (trodAll_cons_mk (Below.trod armCountsLaid (by kernel_rfl) (of_decide_eq_true (by kernel_rfl)) k1 bel lt1) trodAll_mk0)), rfl, bel.frame _, fun h => by cases h⟩
theorem armCounts_holds : Rows.ArmCountsSaid :=
  OpenClaim.holds_of_wide 10 Try.f10 rfl rfl rfl rfl rfl rfl rfl ⟨rfl, rfl, rfl, rfl, rfl⟩ rfl rfl rfl rfl rfl (by kernel_rfl) Try.func10 (by kernel_rfl)
    (of_decide_eq_true (by kernel_rfl)) (by unfold Func.isWrapper; first | (rw [if_pos (by decide +kernel)]; kernel_rfl) | (rw [if_neg (by decide +kernel)]; exact ⟨rfl, rfl⟩))
    (fun os started H enc _ => armCountsLifted os started H enc)
end Go.Proofs.Ythdaidmjjcmccaa
