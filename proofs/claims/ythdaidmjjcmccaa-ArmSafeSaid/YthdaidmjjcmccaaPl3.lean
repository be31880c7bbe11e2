/- Proved here: lemmas and contracts (what a function of the program computes) that the proofs of the laws of this seat lean on. Conditions: as each theorem states. -/
import Derived.Test.YthdaidmjjcmccaaPl2
import Derived.Test.YthdaidmjjcmccaaPlap
set_option linter.unusedVariables false
set_option linter.unusedSimpArgs false
namespace Go.Proofs.Ythdaidmjjcmccaa
open Go.RowKit Go.Pk Go.Proofs.YthdaidmjjcmccaaW.PrintLast
theorem infoSp : (Try.prog.info? 25).map (fun i => (i.zero, i.size, i.bytes)) = some (some (.agg #[.int .i64 0, .int .i64 0]), 2, 16) := by kernel_rfl
theorem infoR : (Try.prog.info? 23).map (fun i => (i.zero, i.size, i.bytes)) = some (some (.slice none 0 0), 1, 24) := by kernel_rfl
set_option maxRecDepth 100000 in
theorem CloneI_calls (A : Option Addr) (l : List Int) (c : Nat) (w : World) (hl : RdI w A l) (hs : l.length ≤ 1000000) :
    Calls Try.prog 71 #[.slice A l.length c] w fun e w' => ∃ A' c', e = .returned (.slice A' l.length c') ∧ l.length ≤ c' ∧ RdI w' A' l ∧ (∀ a, A' = some a → w.heap.size ≤ a.block) ∧ Below w.heap.size w w' := by
  have hR := hl.2
  have hvs : (encI l).length = l.length * 1 := by simp [encI]
  have h1 : ∀ u ∈ encI l, u.oneCell' = true := by intro u hu; unfold encI at hu; obtain ⟨x, _, rfl⟩ := List.mem_map.1 hu; rfl
  rcases A with _ | ad
  · obtain rfl : l = [] := by
      cases l with
      | nil => rfl
      | cons x l => obtain ⟨b, off, e, _⟩ := hR 0 _ (List.getElem?_eq_getElem (by rw [hvs]; simp)); cases e
    have hu := Try.underlying23
    go_enter Try.func71, Try.ntmps71
    go_wp2
    go_ret
    exact ⟨none, 0, rfl, Nat.le_refl _, ⟨by simp, RdC.nil _ _⟩, (fun a ha => by cases ha), Below.refl _ _⟩
  · have hu := Try.underlying23
    obtain ⟨vs, hvE⟩ : ∃ z, z = encI l := ⟨_, rfl⟩
    rw [← hvE] at hR hvs h1
    replace hvE := hidI hvE
    go_enter Try.func71, Try.ntmps71
    go_upto_region 3 with fail
    go_wp2_with (first | (at_builtin; go_loud (refine list_appRd w.heap.size rfl (.tmp 5) (.tmp 6) 23 3 _ 1 _ rfl Try.underlying23 infoI (by rfl) (by omega) (.slice (some ⟨w.heap.size, 0, none⟩) 0 0) 0 [] (some ad) l.length c vs rfl rfl (own_fresh (cs := #[]) (Nat.le_refl _) (blk_new _ _) (by rfl) (by omega)) (by rw [hvs]) (hR.below (bl_alloc (Below.refl _ _) _)) h1 (by omega) (by omega) (bl_alloc (Below.refl _ _) _).size ?_); intro v1 w1 ho1 hg1 ha1) | fail)
    have hbw : Below w.heap.size w w1 := bl_grown (bl_alloc (Below.refl _ _) _) hg1 (by intro k hk; simp [Value.ownBlock] at hk; omega)
    rw [List.nil_append, Nat.zero_add] at ho1
    go_ret
    (obtain ⟨A', c', rfl, hcc, hrd, hn, hfr⟩ := own_rdC ho1; exact ⟨A', c', rfl, hcc, ⟨hn, by rw [← hvE.out]; exact hrd⟩, hfr, hbw⟩)
set_option maxRecDepth 100000 in
theorem CloneS_calls (A : Option Addr) (l : List Sp) (c : Nat) (w : World) (hl : RdS w A l) (hs : l.length ≤ 1000000) :
    Calls Try.prog 74 #[.slice A l.length c] w fun e w' => ∃ A' c', e = .returned (.slice A' l.length c') ∧ l.length ≤ c' ∧ RdS w' A' l ∧ (∀ a, A' = some a → w.heap.size ≤ a.block) ∧ Below w.heap.size w w' := by
  have hR := hl.2
  have hvs : (encS l).length = l.length * 2 := encS_length l
  have h1 : ∀ u ∈ encS l, u.oneCell' = true := by intro u hu; unfold encS at hu; obtain ⟨x, _, hx⟩ := List.mem_flatMap.1 hu; simp at hx; rcases hx with rfl | rfl <;> rfl
  rcases A with _ | ad
  · obtain rfl : l = [] := by
      cases l with
      | nil => rfl
      | cons x l => obtain ⟨b, off, e, _⟩ := hR 0 _ (List.getElem?_eq_getElem (by rw [hvs]; simp)); cases e
    have hu := Try.underlying26
    go_enter Try.func74, Try.ntmps74
    go_wp2
    go_ret
    exact ⟨none, 0, rfl, Nat.le_refl _, ⟨by simp, RdC.nil _ _⟩, (fun a ha => by cases ha), Below.refl _ _⟩
  · have hu := Try.underlying26
    obtain ⟨vs, hvE⟩ : ∃ z, z = encS l := ⟨_, rfl⟩
    rw [← hvE] at hR hvs h1
    replace hvE := hidI hvE
    go_enter Try.func74, Try.ntmps74
    go_upto_region 3 with fail
    go_wp2_with (first | (at_builtin; go_loud (refine list_appRd w.heap.size rfl (.tmp 5) (.tmp 6) 26 25 _ 2 _ rfl Try.underlying26 infoSp (by rfl) (by omega) (.slice (some ⟨w.heap.size, 0, none⟩) 0 0) 0 [] (some ad) l.length c vs rfl rfl (own_fresh (cs := #[]) (Nat.le_refl _) (blk_new _ _) (by rfl) (by omega)) (by rw [hvs]) (hR.below (bl_alloc (Below.refl _ _) _)) h1 (by omega) (by omega) (bl_alloc (Below.refl _ _) _).size ?_); intro v1 w1 ho1 hg1 ha1) | fail)
    have hbw : Below w.heap.size w w1 := bl_grown (bl_alloc (Below.refl _ _) _) hg1 (by intro k hk; simp [Value.ownBlock] at hk; omega)
    rw [List.nil_append, Nat.zero_add] at ho1
    go_ret
    (obtain ⟨A', c', rfl, hcc, hrd, hn, hfr⟩ := own_rdC ho1; exact ⟨A', c', rfl, hcc, ⟨hn, by rw [← hvE.out]; exact hrd⟩, hfr, hbw⟩)
set_option maxRecDepth 100000 in
/-- The copy is a row of the call's own, of the same slices. -/
theorem CloneR_calls (A : Option Addr) (l : List (List Int)) (c : Nat) (w : World) (vs : List Value) (hR : RdC w A vs) (hvs : vs.length = l.length * 1) (h1 : ∀ u ∈ vs, u.oneCell' = true) (hs : l.length ≤ 1000000) :
    Calls Try.prog 58 #[.slice A l.length c] w fun e w' => ∃ v, e = .returned v ∧ w'.ownsRow w.heap.size 23 1 v l.length vs ∧ Below w.heap.size w w' := by
  obtain ⟨ws, hws⟩ : ∃ z, z = vs := ⟨_, rfl⟩
  rw [← hws]
  rcases A with _ | ad
  · obtain rfl : l = [] := by
      cases l with
      | nil => rfl
      | cons x l => obtain ⟨b, off, e, _⟩ := hR 0 _ (List.getElem?_eq_getElem (by rw [hvs]; simp)); cases e
    have hu := Try.underlying22
    go_enter Try.func58, Try.ntmps58
    go_wp2
    go_ret
    (obtain rfl : ws = [] := by rw [hws]; exact List.eq_nil_of_length_eq_zero (by rw [hvs]; rfl)); exact ⟨_, rfl, World.ownsRow_nil _ _ _ _, Below.refl _ _⟩
  · have hu := Try.underlying22
    obtain ⟨vs, hvE⟩ : ∃ z, z = vs := ⟨_, rfl⟩
    rw [← hvE] at hR hvs h1
    replace hvE := hidI hvE
    go_enter Try.func58, Try.ntmps58
    go_upto_region 3 with fail
    go_wp2_with (first | (at_builtin; go_loud (refine list_appRd w.heap.size rfl (.tmp 5) (.tmp 6) 22 23 _ 1 _ rfl Try.underlying22 infoR (by rfl) (by omega) (.slice (some ⟨w.heap.size, 0, none⟩) 0 0) 0 [] (some ad) l.length c vs rfl rfl (own_fresh (cs := #[]) (Nat.le_refl _) (blk_new _ _) (by rfl) (by omega)) (by rw [hvs]) (hR.below (bl_alloc (Below.refl _ _) _)) h1 (by omega) (by omega) (bl_alloc (Below.refl _ _) _).size ?_); intro v1 w1 ho1 hg1 ha1) | fail)
    have hbw : Below w.heap.size w w1 := bl_grown (bl_alloc (Below.refl _ _) _) hg1 (by intro k hk; simp [Value.ownBlock] at hk; omega)
    rw [List.nil_append, Nat.zero_add] at ho1
    go_ret
    exact ⟨_, rfl, by rw [hws, ← hvE.out]; exact ho1, hbw⟩
end Go.Proofs.Ythdaidmjjcmccaa
