/- Proved here: lemmas and contracts (what a function of the program computes) that the proofs of the laws of this seat lean on. Conditions: as each theorem states. -/
import Derived.Test.YthdaidmjjcmccaaAr7
import Derived.Test.YthdaidmjjcmccaaR4
set_option linter.unusedVariables false
set_option linter.unusedSimpArgs false
namespace Go.Pk
open Go.RowKit Go.Pk.Rx
def okO (o : OpR) : Bool := !decide (20 < o.x.length) && !decide (100 < o.b.size)
def lightO (l : List OpR) : Bool := l.all okO && decide (l.length ≤ 200)
theorem opGet_mem {l : List OpR} {j : Nat} (h : j < l.length) : l.getD j opNo ∈ l := by
  rw [List.getD_eq_getElem?_getD, List.getElem?_eq_getElem h]; exact List.getElem_mem h
theorem lightO_no {l : List OpR} {j : Nat} (hj : j < l.length) (h : okO (l.getD j opNo) = false) : lightO l = false := by
  unfold lightO
  have : l.all okO = false := by
    rw [List.all_eq_false]
    exact ⟨_, opGet_mem hj, by rw [h]; simp⟩
  rw [this]; rfl
theorem lightO_all {l : List OpR} (h : ∀ j, j < l.length → okO (l.getD j opNo) = true) : lightO l = decide (l.length ≤ 200) := by
  unfold lightO
  have : l.all okO = true := by
    rw [List.all_eq_true]
    intro o ho
    obtain ⟨j, hj, rfl⟩ := List.mem_iff_getElem.1 ho
    have := h j hj
    rw [List.getD_eq_getElem?_getD, List.getElem?_eq_getElem hj] at this
    exact this
  rw [this]; rfl
theorem lightO_yes {l : List OpR} (h : lightO l = true) : l.length ≤ 200 := by
  unfold lightO at h
  rw [Bool.and_eq_true, decide_eq_true_eq] at h
  exact h.2
end Go.Pk
namespace Go.Proofs.Ythdaidmjjcmccaa
open Go.RowKit Go.Pk Go.Proofs.YthdaidmjjcmccaaW.PrintLast
set_option maxHeartbeats 8000000 in
set_option maxRecDepth 100000 in
theorem Light20_calls (A : Option Addr) (l : List OpR) (c : Nat) (w : World) (hl : RdO w A l) :
    Calls Try.prog 44 #[.slice A l.length c] w fun e w' => e = .returned (.bool (lightO l)) ∧ w' = w := by
  have hno := hidI (fun j hj h => lightO_no (l := l) (j := j) hj h)
  have hall := hidI (fun h => lightO_all (l := l) h)
  obtain ⟨b, hb⟩ : ∃ z, lightO l = z := ⟨_, rfl⟩
  rw [hb] at hno hall ⊢
  clear hb
  obtain ⟨n, hn⟩ : ∃ z, l.length = z := ⟨_, rfl⟩
  have hlr := hidI hl
  clear hl
  rw [hn] at hno hall ⊢
  have hn63 : n ≤ 9223372036854775807 := by have := hlr.out.1; omega
  replace hn := hidI hn
  go_enter Try.func44, Try.ntmps44
  go_wp2
  go_loop [3] (fun i => ∃ k : Nat, k ≤ n ∧ i = .int .i64 k ∧ Hid (∀ j, j < k → okO (l.getD j opNo) = true)) (fun i => (n - intOf i).toNat)
  case atStart => exact ⟨0, by omega, rfl, fun j hj => by omega⟩
  case round =>
    obtain ⟨k, hk, rfl, hok⟩ := hrel
    by_cases hlt : k < n
    · have hd : decide ((k : Int) < (n : Int)) = true := decide_eq_true (by omega)
      have hd2 : decide (k < n) = true := decide_eq_true hlt
      obtain ⟨-, bb, off, rfl, B, cc, -, -, h2, h3, -⟩ := hlr.out.2 k (by have := hn.out; omega)
      obtain ⟨o, ho⟩ : ∃ z, l.getD k opNo = z := ⟨_, rfl⟩
      rw [ho] at h2 h3
      by_cases hx : 20 < o.x.length
      · have hf : Hid (b = false) := hno.out k hlt (by rw [ho]; unfold okO; rw [decide_eq_true hx]; rfl)
        have d1 : decide ((20 : Int) < (o.x.length : Int)) = true := decide_eq_true (by omega)
        replace ho := hidI ho
        go_wp2
        go_ret
        exact ⟨by rw [hf.out]; first | rfl | simp, rfl⟩
      have d1 : decide ((20 : Int) < (o.x.length : Int)) = false := decide_eq_false (by omega)
      by_cases hy : 100 < o.b.size
      · have hf : Hid (b = false) := hno.out k hlt (by rw [ho]; unfold okO; rw [decide_eq_true hy]; simp)
        have d2 : decide ((100 : Int) < (o.b.size : Int)) = true := decide_eq_true (by omega)
        replace ho := hidI ho
        go_wp2
        go_ret
        exact ⟨by rw [hf.out]; first | rfl | simp, rfl⟩
      have d2 : decide ((100 : Int) < (o.b.size : Int)) = false := decide_eq_false (by omega)
      have hok2 : Hid (∀ j, j < k + 1 → okO (l.getD j opNo) = true) := fun j hj => by
        by_cases hjk : j < k
        · exact hok.out j hjk
        · obtain rfl : j = k := by omega
          rw [ho]; unfold okO; rw [decide_eq_false hx, decide_eq_false hy]; rfl
      replace ho := hidI ho
      go_wp2
      go_round
      case rel => exact ⟨k + 1, by omega, by go_num, hok2⟩
      case measure => simp [intOf]; omega
    · have hke : k = n := by omega
      have hf : Hid (b = decide (n ≤ 200)) := hall.out (by rw [← hke]; exact hok.out)
      subst hke
      have hd : decide ((k : Int) < (k : Int)) = false := decide_eq_false (by omega)
      by_cases h2 : k ≤ 200
      · have d3 : decide ((k : Int) ≤ 200) = true := decide_eq_true (by omega)
        have hf2 : Hid (b = true) := by unfold Hid; rw [hf.out]; exact decide_eq_true h2
        go_wp2
        go_ret
        exact ⟨by rw [hf2.out]; first | rfl | simp, rfl⟩
      · have d3 : decide ((k : Int) ≤ 200) = false := decide_eq_false (by omega)
        have hf2 : Hid (b = false) := by unfold Hid; rw [hf.out]; exact decide_eq_false h2
        go_wp2
        go_ret
        exact ⟨by rw [hf2.out]; first | rfl | simp, rfl⟩
end Go.Proofs.Ythdaidmjjcmccaa
