/- Proved here: lemmas and contracts (what a function of the program computes) that the proofs of the laws of this seat lean on. Conditions: as each theorem states. -/
import Derived.Test.YthdaidmjjcmccaaPl1
set_option linter.unusedVariables false
set_option linter.unusedSimpArgs false
namespace Go.Pk
open Go.RowKit
/-- Where the first one stands that is so; -1: none is. -/
def idxF {α : Type} (f : α → Bool) : List α → Int → Int
  | [], _ => -1
  | x :: l, k => if f x then k else idxF f l (k + 1)
theorem idxF_drop {α : Type} (f : α → Bool) (l : List α) (k : Nat) (d : α) (h : k < l.length) (j : Int) : idxF f (l.drop k) j = if f (l.getD k d) then j else idxF f (l.drop (k + 1)) (j + 1) := by
  rw [List.drop_eq_getElem_cons h]
  show (if f l[k] then _ else _) = _
  rw [show l.getD k d = l[k] by simp [List.getD_eq_getElem?_getD, List.getElem?_eq_getElem h]]
theorem idxF_any {α : Type} (f : α → Bool) : ∀ (l : List α) (k : Int), 0 ≤ k → (decide (0 ≤ idxF f l k) = l.any f) ∧ idxF f l k ≤ k + l.length
  | [], k, h => ⟨by simp [idxF], by simp [idxF]; omega⟩
  | x :: l, k, h => by
    have ih := idxF_any f l (k + 1) (by omega)
    unfold idxF
    by_cases hx : f x
    · rw [if_pos hx]; simp [hx]; omega
    · rw [if_neg hx]
      refine ⟨?_, ?_⟩
      · rw [ih.1]; simp [hx]
      · have := ih.2; simp only [List.length_cons]; omega
end Go.Pk
namespace Go.Proofs.Ythdaidmjjcmccaa
open Go.RowKit Go.Pk Go.Proofs.YthdaidmjjcmccaaW.PrintLast
theorem Dim_calls (g : Nat) (p : Pl) (w : World) (h : KitAt w g 116 p) : Calls Try.prog 17 #[.pointer (some ⟨g, 0, none⟩)] w fun e w' => e = .returned (.int .i64 p.B.length) ∧ w' = w := by
  obtain ⟨q1, q2, hk, h1, h2⟩ := h
  have c10 : w.cell? ⟨g, 10, none⟩ = some (.slice q2.aB p.B.length q2.cB) := blk_cell hk 10 (by rfl)
  clear hk h1 h2
  go_enter Try.func17, Try.ntmps17
  go_wp2
  go_ret
  exact ⟨rfl, rfl⟩
theorem are_calls (g : Nat) (p : Pl) (n : Nat) (w : World) (h : KitAt w g 116 p) : Calls Try.prog 67 #[.pointer (some ⟨g, 0, none⟩), .int .i64 n] w fun e w' => e = .returned (.bool (areP p n)) ∧ w' = w := by
  by_cases h1 : n = p.B.length
  · have d1 : ((n : Int) == (p.B.length : Int)) = true := by simp [h1]
    have e1 : areP p n = decide ((0 : Int) < n) := by unfold areP; simp [h1]
    rw [e1]
    go_enter Try.func67, Try.ntmps67
    go_wp2_with (first | (go_at_call 17; refine (Dim_calls g p _ h).mono ?_; rintro e w1 ⟨rfl, hw1⟩; obtain rfl := hw1) | fail)
    go_ret
    exact ⟨by simp [h1], rfl⟩
  · have d1 : ((n : Int) == (p.B.length : Int)) = false := by simp; omega
    have e1 : areP p n = false := by unfold areP; simp [h1]
    rw [e1]
    go_enter Try.func67, Try.ntmps67
    go_wp2_with (first | (go_at_call 17; refine (Dim_calls g p _ h).mono ?_; rintro e w1 ⟨rfl, hw1⟩; obtain rfl := hw1) | fail)
    go_ret
    exact ⟨rfl, rfl⟩
theorem IndexS_calls (A : Option Addr) (l : List Sp) (c : Nat) (w : World) (hl : RdS w A l) :
    Calls Try.prog 97 #[.slice A l.length c, .func (.func 56) #[] #[]] w fun e w' => e = .returned (.int .i64 (idxF emptyB l 0)) ∧ Below w.heap.size w w' := by
  have hlen := hl.1
  go_enter Try.func97, Try.ntmps97
  go_wp2
  go_loopw [5, 8] (fun v i wr => ∃ k : Nat, k ≤ l.length ∧ i = .int .i64 k ∧ Below w.heap.size w wr ∧ Hid (idxF emptyB (l.drop k) k = idxF emptyB l 0)) (fun _ i _ => (l.length - intOf i).toNat)
  case atStart => exact ⟨0, by omega, rfl, Below.refl _ _, rfl⟩
  case round =>
    obtain ⟨k, hk, rfl, hbw, hI⟩ := hrel
    by_cases hlt : k < l.length
    · obtain ⟨b, off, rfl, hc0, hc1⟩ := (hl.below hbw).at hlt
      have hd : decide ((k : Int) < (l.length : Int)) = true := decide_eq_true (by omega)
      have hJ0 := idxF_drop emptyB l k ⟨0, 0⟩ hlt k
      rw [show emptyB (l.getD k ⟨0, 0⟩) = decide ((l.getD k ⟨0, 0⟩).hi < (l.getD k ⟨0, 0⟩).lo) from rfl] at hJ0
      generalize (l.getD k ⟨0, 0⟩).lo = n at *
      generalize (l.getD k ⟨0, 0⟩).hi = x at *
      replace hJ0 := hidI hJ0
      go_wp2_with fail
      refine (Empty_calls _ _ _).mono ?_
      rintro e w1 ⟨rfl, hb1⟩
      cases hx : decide (x < n)
      · have hJ := hI.out
        rw [hJ0.out, hx] at hJ
        replace hJ := hidI hJ
        go_wp2
        go_roundw
        case rel => exact ⟨k + 1, by omega, by go_num, bl_step hbw hb1, hJ⟩
        case measure => simp [intOf]; omega
      · have hJ := hI.out
        rw [hJ0.out, hx] at hJ
        replace hJ := hidI hJ
        go_wp2
        go_ret
        exact ⟨by rw [← hJ.out]; rfl, bl_step hbw hb1⟩
    · have hke : k = l.length := by omega
      subst hke
      have hd : decide ((l.length : Int) < (l.length : Int)) = false := decide_eq_false (by omega)
      rw [List.drop_length] at hI
      go_wp2
      go_ret
      exact ⟨by rw [← hI.out]; rfl, hbw⟩
theorem ContainsS_calls (A : Option Addr) (l : List Sp) (c : Nat) (w : World) (hl : RdS w A l) :
    Calls Try.prog 57 #[.slice A l.length c, .func (.func 56) #[] #[]] w fun e w' => e = .returned (.bool (l.any emptyB)) ∧ Below w.heap.size w w' := by
  have hix := hidI (IndexS_calls A l c w hl)
  have hn := idxF_any emptyB l 0 (by omega)
  have hge : decide ((0 : Int) ≤ idxF emptyB l 0) = l.any emptyB := hn.1
  clear hn
  generalize l.any emptyB = r at *
  generalize idxF emptyB l 0 = z at *
  go_enter Try.func57, Try.ntmps57
  go_wp2_with fail
  refine hix.out.mono ?_
  rintro e w1 ⟨rfl, hb1⟩
  go_wp2
  go_ret
  exact ⟨rfl, (by (repeat (first | with_reducible exact Below.refl _ _ | with_reducible assumption | with_reducible apply bl_alloc | with_reducible apply bl_drew | with_reducible apply bl_drewN | (with_reducible refine bl_set ?_ (by first | omega | (simp; done) | (simp; omega)) _) | (with_reducible refine bl_step ?_ (by assumption)) | (with_reducible refine bl_grown ?_ (by assumption) (by assumption)) | (with_reducible refine bl_own ?_ (by assumption) (by assumption)))))⟩
theorem far_calls (n : Int) (w : World) : Calls Try.prog 60 #[.int .i64 n] w fun e w' => e = .returned (.bool (farI n)) ∧ Below w.heap.size w w' := by
  unfold farI
  cases h1 : decide (n < -1000)
  · go_enter Try.func60, Try.ntmps60
    go_wp2
    go_ret
    exact ⟨by simp, Below.refl _ _⟩
  · go_enter Try.func60, Try.ntmps60
    go_wp2
    go_ret
    exact ⟨by simp, Below.refl _ _⟩
theorem IndexI_calls (A : Option Addr) (l : List Int) (c : Nat) (w : World) (hl : RdI w A l) :
    Calls Try.prog 98 #[.slice A l.length c, .func (.func 60) #[] #[]] w fun e w' => e = .returned (.int .i64 (idxF farI l 0)) ∧ Below w.heap.size w w' := by
  have hlen := hl.1
  go_enter Try.func98, Try.ntmps98
  go_wp2
  go_loopw [5, 8] (fun v i wr => ∃ k : Nat, k ≤ l.length ∧ i = .int .i64 k ∧ Below w.heap.size w wr ∧ Hid (idxF farI (l.drop k) k = idxF farI l 0)) (fun _ i _ => (l.length - intOf i).toNat)
  case atStart => exact ⟨0, by omega, rfl, Below.refl _ _, rfl⟩
  case round =>
    obtain ⟨k, hk, rfl, hbw, hI⟩ := hrel
    by_cases hlt : k < l.length
    · obtain ⟨b, off, rfl, hc0⟩ := (hl.below hbw).at hlt
      have hd : decide ((k : Int) < (l.length : Int)) = true := decide_eq_true (by omega)
      have hJ0 := idxF_drop farI l k 0 hlt k
      generalize l.getD k 0 = n at *
      replace hJ0 := hidI hJ0
      go_wp2_with fail
      refine (far_calls _ _).mono ?_
      rintro e w1 ⟨rfl, hb1⟩
      cases hx : farI n
      · have hJ := hI.out
        rw [hJ0.out, hx] at hJ
        replace hJ := hidI hJ
        go_wp2
        go_roundw
        case rel => exact ⟨k + 1, by omega, by go_num, bl_step hbw hb1, hJ⟩
        case measure => simp [intOf]; omega
      · have hJ := hI.out
        rw [hJ0.out, hx] at hJ
        replace hJ := hidI hJ
        go_wp2
        go_ret
        exact ⟨by rw [← hJ.out]; rfl, bl_step hbw hb1⟩
    · have hke : k = l.length := by omega
      subst hke
      have hd : decide ((l.length : Int) < (l.length : Int)) = false := decide_eq_false (by omega)
      rw [List.drop_length] at hI
      go_wp2
      go_ret
      exact ⟨by rw [← hI.out]; rfl, hbw⟩
theorem ContainsI_calls (A : Option Addr) (l : List Int) (c : Nat) (w : World) (hl : RdI w A l) :
    Calls Try.prog 59 #[.slice A l.length c, .func (.func 60) #[] #[]] w fun e w' => e = .returned (.bool (l.any farI)) ∧ Below w.heap.size w w' := by
  have hix := hidI (IndexI_calls A l c w hl)
  have hn := idxF_any farI l 0 (by omega)
  have hge : decide ((0 : Int) ≤ idxF farI l 0) = l.any farI := hn.1
  clear hn
  generalize l.any farI = r at *
  generalize idxF farI l 0 = z at *
  go_enter Try.func59, Try.ntmps59
  go_wp2_with fail
  refine hix.out.mono ?_
  rintro e w1 ⟨rfl, hb1⟩
  go_wp2
  go_ret
  exact ⟨rfl, (by (repeat (first | with_reducible exact Below.refl _ _ | with_reducible assumption | with_reducible apply bl_alloc | with_reducible apply bl_drew | with_reducible apply bl_drewN | (with_reducible refine bl_set ?_ (by first | omega | (simp; done) | (simp; omega)) _) | (with_reducible refine bl_step ?_ (by assumption)) | (with_reducible refine bl_grown ?_ (by assumption) (by assumption)) | (with_reducible refine bl_own ?_ (by assumption) (by assumption)))))⟩
theorem neLen_calls (B : Option Addr) (l c g : Nat) (n : Int) (w : World) (hn : w.cell? ⟨g, 0, none⟩ = some (.int .i64 n)) : Calls Try.prog 96 #[.slice B l c, .pointer (some ⟨g, 0, none⟩)] w fun e w' => e = .returned (.bool ((l : Int) != n)) ∧ Below w.heap.size w w' := by
  go_enter Try.func96, Try.ntmps96
  go_wp2
  go_ret
  exact ⟨by simp [bne], Below.refl _ _⟩
theorem IndexR_calls (A : Option Addr) (l : List (List Int)) (c g : Nat) (n : Int) (w : World) (hl : RdR w A l) (hg : w.heap[g]? = some (.cells #[.int .i64 n] 3 (0, 0))) :
    Calls Try.prog 118 #[.slice A l.length c, .func (.func 96) #[] #[.pointer (some ⟨g, 0, none⟩)]] w fun e w' => e = .returned (.int .i64 (idxF (fun x => ((x.length : Int) != n)) l 0)) ∧ Below w.heap.size w w' := by
  have hlen := hl.1
  obtain ⟨f, hf⟩ : ∃ f : List Int → Bool, f = fun x => ((x.length : Int) != n) := ⟨_, rfl⟩
  rw [← hf]
  replace hf := hidI hf
  go_enter Try.func118, Try.ntmps118
  go_wp2
  go_loopw [5, 8] (fun v i wr => ∃ k : Nat, k ≤ l.length ∧ i = .int .i64 k ∧ Below w.heap.size w wr ∧ Hid (idxF f (l.drop k) k = idxF f l 0)) (fun _ i _ => (l.length - intOf i).toNat)
  case atStart => exact ⟨0, by omega, rfl, Below.refl _ _, rfl⟩
  case round =>
    obtain ⟨k, hk, rfl, hbw, hI⟩ := hrel
    by_cases hlt : k < l.length
    · obtain ⟨b, off, B, cB, rfl, hc0, hcB, hrB⟩ := (hl.below hbw).2 k hlt
      have hd : decide ((k : Int) < (l.length : Int)) = true := decide_eq_true (by omega)
      have hJ0 := idxF_drop f l k [] hlt k
      rw [show f (l.getD k []) = (((l.getD k []).length : Int) != n) by rw [hf.out]] at hJ0
      generalize (l.getD k []).length = m at *
      replace hJ0 := hidI hJ0
      have hgw := blk_cell (bl_block hbw hg) 0 (v := .int .i64 n) (by rfl)
      go_wp2_with fail
      refine (neLen_calls _ _ _ g n _ hgw).mono ?_
      rintro e w1 ⟨rfl, hb1⟩
      cases hx : (m : Int) != n
      · have hJ := hI.out
        rw [hJ0.out, hx] at hJ
        replace hJ := hidI hJ
        go_wp2
        go_roundw
        case rel => exact ⟨k + 1, by omega, by go_num, bl_step hbw hb1, hJ⟩
        case measure => simp [intOf]; omega
      · have hJ := hI.out
        rw [hJ0.out, hx] at hJ
        replace hJ := hidI hJ
        go_wp2
        go_ret
        exact ⟨by rw [← hJ.out]; rfl, bl_step hbw hb1⟩
    · have hke : k = l.length := by omega
      subst hke
      have hd : decide ((l.length : Int) < (l.length : Int)) = false := decide_eq_false (by omega)
      rw [List.drop_length] at hI
      go_wp2
      go_ret
      exact ⟨by rw [← hI.out]; rfl, hbw⟩
theorem ContainsR_calls (A : Option Addr) (l : List (List Int)) (c g : Nat) (n : Int) (w : World) (hl : RdR w A l) (hg : w.heap[g]? = some (.cells #[.int .i64 n] 3 (0, 0))) :
    Calls Try.prog 95 #[.slice A l.length c, .func (.func 96) #[] #[.pointer (some ⟨g, 0, none⟩)]] w fun e w' => e = .returned (.bool (l.any fun x => ((x.length : Int) != n))) ∧ Below w.heap.size w w' := by
  have hix := hidI (IndexR_calls A l c g n w hl hg)
  have hn := idxF_any (fun x => ((x.length : Int) != n)) l 0 (by omega)
  have hge : decide ((0 : Int) ≤ idxF (fun x => ((x.length : Int) != n)) l 0) = l.any (fun x => ((x.length : Int) != n)) := hn.1
  clear hn
  generalize l.any (fun x => ((x.length : Int) != n)) = r at *
  generalize idxF (fun x => ((x.length : Int) != n)) l 0 = z at *
  go_enter Try.func95, Try.ntmps95
  go_wp2_with fail
  refine hix.out.mono ?_
  rintro e w1 ⟨rfl, hb1⟩
  go_wp2
  go_ret
  exact ⟨rfl, (by (repeat (first | with_reducible exact Below.refl _ _ | with_reducible assumption | with_reducible apply bl_alloc | with_reducible apply bl_drew | with_reducible apply bl_drewN | (with_reducible refine bl_set ?_ (by first | omega | (simp; done) | (simp; omega)) _) | (with_reducible refine bl_step ?_ (by assumption)) | (with_reducible refine bl_grown ?_ (by assumption) (by assumption)) | (with_reducible refine bl_own ?_ (by assumption) (by assumption)))))⟩
end Go.Proofs.Ythdaidmjjcmccaa
