/- Proved here: lemmas and contracts (what a function of the program computes) that the proofs of the laws of this seat lean on. Conditions: as each theorem states. -/
import Derived.Test.YthdaidmjjcmccaaPl17
set_option linter.unusedVariables false
set_option linter.unusedSimpArgs false
namespace Go.Pk
open Go.RowKit
def slacksP (p : Pl) (s : List Int) : Bool := decide (s.length ≤ p.B.length) && !(s.any negI)
theorem own_setIdx {w : World} {base n g cap i : Nat} {e : TypeId} {size : Nat} {xs : List Value} (h : w.ownsRow base e size (.slice (some ⟨g, 0, none⟩) n cap) n xs) (hi : i < n * size) (u : Value) : (w.setCell ⟨g, i, none⟩ u).ownsRow base e size (.slice (some ⟨g, 0, none⟩) n cap) n (xs.set i u) := by
  obtain ⟨h1, h2⟩ := h
  refine ⟨by simpa using h1, ?_⟩
  rcases h2 with ⟨h2, -⟩ | ⟨g', cap', cur, e1, hb, hh, hn, hm, hs, ht⟩
  · cases h2
  · injection e1 with e1 e2 e3
    injection e1 with e1
    injection e1 with e1
    subst e1 e3
    refine Or.inr ⟨g, cap, cur.setIfInBounds i u, rfl, hb, blk_set hh i u, hn, hm, by simpa using hs, ?_⟩
    rw [Array.toList_setIfInBounds, ← ht, List.take_set]
theorem encS_set (l : List Sp) (s : Sp) : ∀ i, encS (l.set i s) = ((encS l).set (i * 2) (.int .i64 s.lo)).set (i * 2 + 1) (.int .i64 s.hi) := by
  induction l with
  | nil => intro i; simp [encS]
  | cons x l ih =>
    intro i
    have e : ∀ y : Sp, ∀ m, encS (y :: m) = .int .i64 y.lo :: .int .i64 y.hi :: encS m := fun _ _ => rfl
    cases i with
    | zero => simp [e]
    | succ i =>
      have e2 : (i + 1) * 2 = i * 2 + 1 + 1 := by omega
      rw [List.set_cons_succ, e, e, ih, e2]
      simp
/-- The first so many of a box made wider. -/
def wideU (l : List Sp) (s : List Int) : Nat → List Sp
  | 0 => l
  | i + 1 => (wideU l s i).set i (wideS (l.getD i ⟨0, 0⟩) (s.getD i 0))
theorem wideU_length (l : List Sp) (s : List Int) : ∀ i, (wideU l s i).length = l.length
  | 0 => rfl
  | i + 1 => by unfold wideU; rw [List.length_set]; exact wideU_length l s i
theorem wideU_at (l : List Sp) (s : List Int) : ∀ i j, i ≤ l.length → (wideU l s i).getD j ⟨0, 0⟩ = if j < i then wideS (l.getD j ⟨0, 0⟩) (s.getD j 0) else l.getD j ⟨0, 0⟩
  | 0, j, _ => by simp [wideU]
  | i + 1, j, hi => by
    unfold wideU
    rw [getD_set', wideU_length, wideU_at l s i j (by omega)]
    by_cases h : j = i
    · subst h; simp; omega
    · rw [if_neg (fun e => h e.1)]
      by_cases h2 : j < i
      · rw [if_pos h2, if_pos (by omega)]
      · rw [if_neg h2, if_neg (by omega)]
theorem wideU_end (l : List Sp) (s : List Int) (i : Nat) (h : i = min l.length s.length) : wideU l s i = wideL l s := by
  have hl := wideU_length l s i
  apply List.ext_getElem
  · rw [hl]; unfold wideL; simp
  · intro j h1 h2
    have h3 := wideU_at l s i j (by omega)
    rw [List.getD_eq_getElem?_getD, List.getElem?_eq_getElem h1] at h3
    have h4 : (wideL l s).getD j ⟨0, 0⟩ = if j < s.length then wideS (l.getD j ⟨0, 0⟩) (s.getD j 0) else l.getD j ⟨0, 0⟩ := by unfold wideL; rw [getD_map_range _ _ _ _ (by omega)]
    rw [List.getD_eq_getElem?_getD (l := wideL l s), List.getElem?_eq_getElem h2] at h4
    simp only [Option.getD_some] at h3 h4
    rw [h3, h4]
    by_cases q : j < i
    · rw [if_pos q, if_pos (by omega)]
    · rw [if_neg q, if_neg (by omega)]
theorem wideS_in (s : Sp) (n : Int) : InSp (wideS s n) := by
  unfold wideS InSp
  split
  · simp
  · exact ⟨clampI_rng _, clampI_rng _⟩
theorem wideL_in {l : List Sp} {s : List Int} (h : InS l) : InS (wideL l s) := by
  intro x hx
  unfold wideL at hx
  obtain ⟨i, hi, rfl⟩ := List.mem_map.1 hx
  split
  · exact wideS_in _ _
  · exact h.one i
theorem wideL_length (l : List Sp) (s : List Int) : (wideL l s).length = l.length := by unfold wideL; simp
end Go.Pk
namespace Go.Proofs.Ythdaidmjjcmccaa
open Go.RowKit Go.Pk Go.Proofs.YthdaidmjjcmccaaW.PrintLast
theorem neg_calls' (n : Int) (w : World) : Calls Try.prog 109 #[.int .i64 n] w fun e w' => e = .returned (.bool (negI n)) ∧ Below w.heap.size w w' := by
  unfold negI
  go_enter Try.func109, Try.ntmps109
  go_wp2
  go_ret
  exact ⟨rfl, Below.refl _ _⟩
theorem IndexN_calls (A : Option Addr) (l : List Int) (c : Nat) (w : World) (hl : RdI w A l) :
    Calls Try.prog 98 #[.slice A l.length c, .func (.func 109) #[] #[]] w fun e w' => e = .returned (.int .i64 (idxF negI l 0)) ∧ Below w.heap.size w w' := by
  have hlen := hl.1
  go_enter Try.func98, Try.ntmps98
  go_wp2
  go_loopw [5, 8] (fun v i wr => ∃ k : Nat, k ≤ l.length ∧ i = .int .i64 k ∧ Below w.heap.size w wr ∧ Hid (idxF negI (l.drop k) k = idxF negI l 0)) (fun _ i _ => (l.length - intOf i).toNat)
  case atStart => exact ⟨0, by omega, rfl, Below.refl _ _, rfl⟩
  case round =>
    obtain ⟨k, hk, rfl, hbw, hI⟩ := hrel
    by_cases hlt : k < l.length
    · obtain ⟨b, off, rfl, hc0⟩ := (hl.below hbw).at hlt
      have hd : decide ((k : Int) < (l.length : Int)) = true := decide_eq_true (by omega)
      have hJ0 := idxF_drop negI l k 0 hlt k
      generalize l.getD k 0 = n at *
      replace hJ0 := hidI hJ0
      go_wp2_with fail
      refine (neg_calls' _ _).mono ?_
      rintro e w1 ⟨rfl, hb1⟩
      cases hx : negI n
      · have hJ := hI.out
        rw [hJ0.out, hx] at hJ
        replace hJ := hidI hJ
        go_wp2
        go_roundw
        case rel => exact ⟨k + 1, by omega, by go_num, bl_step hbw hb1, hJ⟩
        case measure => simp [intOf]; omega
      · have hJ := hI.out
        rw [hJ0.out, hx] at hJ
        replace hJ := hidI hJ
        go_wp2
        go_ret
        exact ⟨by rw [← hJ.out]; rfl, bl_step hbw hb1⟩
    · have hke : k = l.length := by omega
      subst hke
      have hd : decide ((l.length : Int) < (l.length : Int)) = false := decide_eq_false (by omega)
      rw [List.drop_length] at hI
      go_wp2
      go_ret
      exact ⟨by rw [← hI.out]; rfl, hbw⟩
theorem ContainsN_calls (A : Option Addr) (l : List Int) (c : Nat) (w : World) (hl : RdI w A l) :
    Calls Try.prog 59 #[.slice A l.length c, .func (.func 109) #[] #[]] w fun e w' => e = .returned (.bool (l.any negI)) ∧ Below w.heap.size w w' := by
  have hix := hidI (IndexN_calls A l c w hl)
  have hn := idxF_any negI l 0 (by omega)
  have hge : decide ((0 : Int) ≤ idxF negI l 0) = l.any negI := hn.1
  clear hn
  generalize l.any negI = r at *
  generalize idxF negI l 0 = z at *
  go_enter Try.func59, Try.ntmps59
  go_wp2_with fail
  refine hix.out.mono ?_
  rintro e w1 ⟨rfl, hb1⟩
  go_wp2
  go_ret
  exact ⟨rfl, (by (repeat (first | with_reducible exact Below.refl _ _ | with_reducible assumption | with_reducible apply bl_alloc | with_reducible apply bl_drew | with_reducible apply bl_drewN | (with_reducible refine bl_set ?_ (by first | omega | (simp; done) | (simp; omega)) _) | (with_reducible refine bl_step ?_ (by assumption)) | (with_reducible refine bl_grown ?_ (by assumption) (by assumption)) | (with_reducible refine bl_own ?_ (by assumption) (by assumption)))))⟩
theorem Slacks_calls (g : Nat) (p : Pl) (A : Option Addr) (l : List Int) (c : Nat) (w : World) (hk : KitAt w g 116 p) (hl : RdI w A l) :
    Calls Try.prog 70 #[.pointer (some ⟨g, 0, none⟩), .slice A l.length c] w fun e w' => e = .returned (.bool (slacksP p l)) ∧ Below w.heap.size w w' := by
  have hD := hidI (fun W (h : KitAt W g 116 p) => Dim_calls g p W h)
  have hC := hidI (fun W (h : RdI W A l) => ContainsN_calls A l c W h)
  by_cases hd : l.length ≤ p.B.length
  rotate_left
  · have hS : slacksP p l = false := by unfold slacksP; rw [decide_eq_false hd]; rfl
    rw [hS]
    clear hS
    generalize l.any negI = b2 at *
    go_enter Try.func70, Try.ntmps70
    go_wp2_with fail
    refine (hD.out _ hk).mono ?_
    rintro e w1 ⟨rfl, hw1⟩
    subst hw1
    go_wp2
    go_ret
    exact ⟨rfl, Below.refl _ _⟩
  · have hS : slacksP p l = !(l.any negI) := by unfold slacksP; rw [decide_eq_true hd]; rfl
    rw [hS]
    clear hS
    generalize l.any negI = b2 at *
    go_enter Try.func70, Try.ntmps70
    go_wp2_with fail
    refine (hD.out _ hk).mono ?_
    rintro e w1 ⟨rfl, hw1⟩
    subst hw1
    go_wp2_with fail
    refine (hC.out _ hl).mono ?_
    rintro e w2 ⟨rfl, hb2⟩
    go_wp2
    go_ret
    exact ⟨by simp, hb2⟩
theorem none_look (gl : Nat) (p : Pl) (s : List Int) (w : World) (h : LkAt w gl 51 116 p s) : Calls Try.prog 72 #[.pointer (some ⟨gl, 0, none⟩)] w fun e w' => e = .returned (.bool false) ∧ w' = w := by
  obtain ⟨g, aS, cS, hk, -, -, -⟩ := h
  have y0 : w.cell? ⟨gl, 0, none⟩ = some (.pointer (some ⟨g, 0, none⟩)) := blk_cell hk 0 (by rfl)
  clear hk
  go_enter Try.func72, Try.ntmps72
  go_wp2
  go_ret
  exact ⟨rfl, rfl⟩
set_option maxHeartbeats 8000000 in
set_option maxRecDepth 100000 in
theorem Corner_calls (A : Option Addr) (l : List Sp) (c : Nat) (w : World) (hl : RdS w A l) (hs : l.length ≤ 1000000) :
    Calls Try.prog 111 #[.slice A l.length c] w fun e w' => ∃ A' c', e = .returned (.slice A' (cornerP l).length c') ∧ (cornerP l).length ≤ c' ∧ RdI w' A' (cornerP l) ∧ Below w.heap.size w w' ∧ ∀ a, A' = some a → w.heap.size ≤ a.block := by
  have hlen := hl.1
  go_enter Try.func111, Try.ntmps111
  go_wp2
  go_loopw [3, 5, 8] (fun v x i wr => ∃ k : Nat, k ≤ l.length ∧ i = .int .i64 k ∧ Below w.heap.size w wr ∧ wr.ownsRow w.heap.size 3 1 v k (encI (cornerP (l.take k)))) (fun _ _ i _ => (l.length - intOf i).toNat)
  case atStart => exact ⟨0, by omega, rfl, Below.refl _ _, World.ownsRow_nil _ _ _ _⟩
  case round =>
    obtain ⟨k, hk, rfl, hb, ho⟩ := hrel
    by_cases hlt : k < l.length
    · obtain ⟨b, off, rfl, hc0, hc1⟩ := (hl.below hb).at hlt
      have hx1 : Hid (encI (cornerP (l.take (k + 1))) = encI (cornerP (l.take k)) ++ encI [(l.getD k ⟨0, 0⟩).lo]) := by unfold Hid cornerP; rw [take_snocS l k hlt]; simp [encI]
      have hd : decide ((k : Int) < (l.length : Int)) = true := decide_eq_true (by omega)
      generalize l.getD k ⟨0, 0⟩ = x at hc0 hc1 hx1
      obtain ⟨xl, xh⟩ := x
      obtain ⟨A9, c9, rfl, hc9, -, -, -⟩ := own_rdC ho
      go_upto_region 5 with fail
      have hk0 := blk_new wr (.cells #[.int .i64 xl, .int .i64 xh] 25)
      have hb0 := bl_alloc hb (.cells #[.int .i64 xl, .int .i64 xh] 25)
      replace ho := ho.alloc (.cells #[.int .i64 xl, .int .i64 xh] 25)
      generalize wr.alloc (.cells #[.int .i64 xl, .int .i64 xh] 25) = W at *
      generalize wr.heap.size = g0 at *
      have m0 := blk_two hk0
      go_wp2_with (first | (at_builtin; go_loud (refine list_appRd w.heap.size rfl (.tmp 12) (.tmp 15) 23 3 _ 1 _ rfl Try.underlying23 infoI (by rfl) (by omega) (.slice A9 k c9) k (encI (cornerP (l.take k))) (some ⟨W.heap.size, 0, none⟩) 1 1 (encI [xl]) rfl rfl (own_alloc ho _) (by rfl) (fun j v hk => ⟨W.heap.size, 0, rfl, by rw [Nat.zero_add, blkc (blk_new W (.cells #[.int .i64 xl] 3))]; simpa [encI] using hk⟩) (by intro v hv; simp [encI] at hv; subst hv; rfl) (by omega) (by omega) (bl_alloc hb0 _).size ?_); intro v1 w9 ho1 hg1 ha1) | fail)
      go_roundw
      case rel => exact ⟨k + 1, by omega, by go_num, bl_grown (bl_alloc hb0 _) hg1 (fun j hj => (own_lt ho j hj).1), by rw [hx1.out]; exact ho1⟩
      case measure => simp [intOf]; omega
    · have hkl : k = l.length := by omega
      subst hkl
      rw [List.take_length] at ho
      have hd : decide ((l.length : Int) < (l.length : Int)) = false := decide_eq_false (by omega)
      obtain ⟨A', c', rfl, hcc, hrd, hn', hfr⟩ := own_rdC ho
      replace hfr := hidI hfr
      have hcl : Hid ((cornerP l).length = l.length) := by unfold Hid cornerP; simp
      go_wp2
      go_ret
      exact ⟨A', c', by rw [hcl.out]; rfl, by rw [hcl.out]; exact hcc, ⟨by rw [hcl.out]; exact hn', hrd⟩, hb, hfr.out⟩
end Go.Proofs.Ythdaidmjjcmccaa
set_option linter.unusedVariables false
set_option linter.unusedSimpArgs false
namespace Go.Pk
open Go.RowKit
theorem own_some {w : World} {base n cap : Nat} {A : Option Addr} {e : TypeId} {size : Nat} {xs : List Value} (h : w.ownsRow base e size (.slice A n cap) n xs) (hn : 0 < n) : ∃ g, base ≤ g ∧ A = some ⟨g, 0, none⟩ := by
  rcases h.2 with ⟨_, h0⟩ | ⟨g, c, cur, e1, hb, -⟩
  · omega
  · injection e1 with e1
    exact ⟨g, hb, e1⟩
theorem own_spanAt {w : World} {base n cap g : Nat} {e : TypeId} {L : List Sp} (h : w.ownsRow base e 2 (.slice (some ⟨g, 0, none⟩) n cap) n (encS L)) (i : Nat) (hi : i < L.length) : w.cell? ⟨g, i * 2, none⟩ = some (.int .i64 (L.getD i ⟨0, 0⟩).lo) ∧ w.cell? ⟨g, i * 2 + 1, none⟩ = some (.int .i64 (L.getD i ⟨0, 0⟩).hi) := by
  obtain ⟨A, c, e1, -, hr, -, -⟩ := own_rdC h
  injection e1 with e1
  subst e1
  obtain ⟨h0, h1⟩ := encS_at L i hi
  obtain ⟨b, off, e2, hc⟩ := hr _ _ h0
  obtain ⟨b', off', e2', hc'⟩ := hr _ _ h1
  injection e2 with e2
  injection e2 with e2 e3
  injection e2' with e2'
  injection e2' with e2' e3'
  subst e2 e3 e2' e3'
  rw [Nat.zero_add] at hc hc'
  exact ⟨hc, hc'⟩
theorem own_froz {w : World} {base n cap g : Nat} {e : TypeId} {size : Nat} {xs : List Value} (h : w.ownsRow base e size (.slice (some ⟨g, 0, none⟩) n cap) n xs) (i : Nat) : w.frozen? ⟨g, i, none⟩ = false := by
  rcases h.2 with ⟨h0, _⟩ | ⟨g', c, cur, e1, hb, hh, -⟩
  · cases h0
  · injection e1 with e1
    injection e1 with e1
    injection e1 with e1
    subst e1
    exact blkf hh i
end Go.Pk
namespace Go.Proofs.Ythdaidmjjcmccaa
open Go.RowKit Go.Pk Go.Proofs.YthdaidmjjcmccaaW.PrintLast Go.Pk.Mm
attribute [local go_sem] max2_int min2_int max_two min_two
set_option maxHeartbeats 8000000 in
set_option maxRecDepth 100000 in
theorem pWide_calls (A S : Option Addr) (l : List Sp) (s : List Int) (c cs : Nat) (w : World) (hl : RdS w A l) (hs : RdI w S s) (hil : InS l) (his : InI s) (hsm : l.length ≤ 1000000) :
    Calls Try.prog 76 #[.slice A l.length c, .slice S s.length cs] w fun e w' => ∃ A' c', e = .returned (.slice A' (wideL l s).length c') ∧ RdS w' A' (wideL l s) ∧ Below w.heap.size w w' := by
  have hC := hidI (CloneS_own A l c w hl hsm)
  have hsl := hs.1
  by_cases hc : (s.length : Int) < (l.length : Int)
  · have hmin : (if (s.length : Int) < (l.length : Int) then (s.length : Int) else (l.length : Int)) = (s.length : Int) := if_pos hc
    have hc2 : s.length < l.length := by omega
    have hCo := hC.out
    clear hC
    go_enter Try.func76, Try.ntmps76
    go_wp2_with fail
    refine hCo.mono ?_
    clear hCo
    rintro e w1 ⟨v0, rfl, ho, hb1⟩
    obtain ⟨A1, c1, rfl, hc1, -, -, -⟩ := own_rdC ho
    go_upto_region 3 with fail
    have hb1' : Below w.heap.size w w1 := hb1
    go_loopw [6, 14] (fun v6 y wr => ∃ i : Nat, i ≤ s.length ∧ y = .int .i64 i ∧ Below w.heap.size w wr ∧ wr.ownsRow w.heap.size 25 2 (.slice A1 l.length c1) l.length (encS (wideU l s i))) (fun _ y _ => (s.length - intOf y).toNat)
    case atStart => exact ⟨0, by omega, rfl, hb1, ho⟩
    case round =>
      clear hb1 ho hb1'
      obtain ⟨i, hi, rfl, hbw, ho⟩ := hrel
      by_cases hlt : i < s.length
      · have hd : decide ((i : Int) < (s.length : Int)) = true := decide_eq_true (by omega)
        have hil2 : i < l.length := by omega
        have his2 : i < s.length := by omega
        obtain ⟨bs, os, rfl, hcs⟩ := hs.at his2
        obtain ⟨gA, hle, rfl⟩ := own_some ho (by omega)
        have hWl := wideU_length l s i
        have hLi := wideU_at l s i i (by omega)
        rw [if_neg (by omega)] at hLi
        have hU : Hid (wideU l s (i + 1) = (wideU l s i).set i (wideS (l.getD i ⟨0, 0⟩) (s.getD i 0))) := rfl
        have hsi := hidI (hil.one i)
        have hni := hidI (his.getD i)
        obtain ⟨⟨sl, sh⟩, hsj⟩ : ∃ z, l.getD i ⟨0, 0⟩ = z := ⟨_, rfl⟩
        obtain ⟨ni, hnj⟩ : ∃ z, s.getD i 0 = z := ⟨_, rfl⟩
        rw [hsj] at hLi hU hsi
        rw [hnj] at hcs hU hni
        have hWd := hidI (fun W => sWide_calls sl sh ni W hsi.out.1.1 hsi.out.1.2 hsi.out.2.1 hsi.out.2.2 hni.out.1 hni.out.2)
        obtain ⟨⟨xl, xh⟩, hX⟩ : ∃ z, wideS ⟨sl, sh⟩ ni = z := ⟨_, rfl⟩
        rw [hX] at hWd hU
        simp only [] at hWd
        replace hLi := hidI hLi
        replace hWl := hidI hWl
        clear hX hsj hnj
        go_upto_region 5 with fail
        replace ho := own_drew ho
        have hbw0 := hbw
        replace hbw := bl_drew hbw
        refine start_ (n := 13) (S := fun w' => w'.cell? ⟨bs, os + i, none⟩ = some (.int .i64 ni)) (ds := []) #[false, false, false, false, false, false, false, false, false, false, false, false, false] (by kernel_rfl) rfl rfl ((bl_cell hbw hcs)) (fun hHeld => ?_)
        generalize wr.drew = wn at *
        refine pure_ (i := 0) (N := some 17) (v := ?_) (a' := ?_) #[true, false, false, false, false, false, false, false, false, false, false, false, false] rfl rfl (by kernel_rfl) (fun _ _ _ h => h) (Or.inl ⟨by rfl, ?_⟩) ?_ ?_
        rotate_left
        · intro w'
          go_simp
          with_reducible rfl
        rotate_left
        · simp only [Act.put, List.setIfInBounds_toArray, List.set_cons_zero, List.set_cons_succ, i64_w, i32_w]
          rfl
        refine pure_ (i := 1) (N := some 18) (v := ?_) (a' := ?_) #[true, true, false, false, false, false, false, false, false, false, false, false, false] rfl rfl (by kernel_rfl) (fun _ _ _ h => h) (Or.inl ⟨by rfl, ?_⟩) ?_ ?_
        rotate_left
        · intro w'
          go_simp
          with_reducible rfl
        rotate_left
        · simp only [Act.put, List.setIfInBounds_toArray, List.set_cons_zero, List.set_cons_succ, i64_w, i32_w]
          rfl
        refine pure_ (i := 2) (N := some 19) (v := ?_) (a' := ?_) #[true, true, true, false, false, false, false, false, false, false, false, false, false] rfl rfl (by kernel_rfl) (fun _ _ _ h => h) (Or.inl ⟨by rfl, ?_⟩) ?_ ?_
        rotate_left
        · intro w'
          go_simp
          with_reducible rfl
        rotate_left
        · simp only [Act.put, List.setIfInBounds_toArray, List.set_cons_zero, List.set_cons_succ, i64_w, i32_w]
          rfl
        refine pure_ (i := 3) (N := some 20) (v := ?_) (a' := ?_) #[true, true, true, true, false, false, false, false, false, false, false, false, false] rfl rfl (by kernel_rfl) (fun _ _ _ h => h) (Or.inl ⟨by rfl, ?_⟩) ?_ ?_
        rotate_left
        · intro w'
          go_simp
          with_reducible rfl
        rotate_left
        · simp only [Act.put, List.setIfInBounds_toArray, List.set_cons_zero, List.set_cons_succ, i64_w, i32_w]
          rfl
        refine pure_ (i := 4) (N := some 21) (v := ?_) (a' := ?_) #[true, true, true, true, true, false, false, false, false, false, false, false, false] rfl rfl (by kernel_rfl) (fun _ _ _ h => h) (Or.inl ⟨by rfl, ?_⟩) ?_ ?_
        rotate_left
        · intro w'
          go_simp
          with_reducible rfl
        rotate_left
        · simp only [Act.put, List.setIfInBounds_toArray, List.set_cons_zero, List.set_cons_succ, i64_w, i32_w]
          rfl
        refine pure_ (i := 6) (N := some 23) (v := ?_) (a' := ?_) #[true, true, true, true, true, false, true, false, false, false, false, false, false] rfl rfl (by kernel_rfl) (fun _ _ _ h => h) (Or.inl ⟨by rfl, ?_⟩) ?_ ?_
        rotate_left
        · intro w'
          go_simp
          with_reducible rfl
        rotate_left
        · simp only [Act.put, List.setIfInBounds_toArray, List.set_cons_zero, List.set_cons_succ, i64_w, i32_w]
          rfl
        refine pure_ (i := 7) (N := some 24) (v := ?_) (a' := ?_) #[true, true, true, true, true, false, true, true, false, false, false, false, false] rfl rfl (by kernel_rfl) (fun _ _ _ h => h) (Or.inl ⟨by rfl, ?_⟩) ?_ ?_
        rotate_left
        · intro w'
          go_simp
          with_reducible rfl
        rotate_left
        · simp only [Act.put, List.setIfInBounds_toArray, List.set_cons_zero, List.set_cons_succ, i64_w, i32_w]
          rfl
        refine pure_ (i := 8) (N := some 25) (v := ?_) (a' := ?_) #[true, true, true, true, true, false, true, true, true, false, false, false, false] rfl rfl (by kernel_rfl) (fun _ _ _ h => h) (Or.inl ⟨by rfl, ?_⟩) ?_ ?_
        rotate_left
        · intro w'
          go_simp
          with_reducible rfl
        rotate_left
        · simp only [Act.put, List.setIfInBounds_toArray, List.set_cons_zero, List.set_cons_succ, i64_w, i32_w]
          rfl
        refine take_ (i := 9) (N := some 26) (v := ?_) (a' := ?_) #[true, true, true, true, true, false, true, true, true, true, false, false, false] rfl rfl (by kernel_rfl) (fun _ _ _ h => h) (Or.inl ⟨by rfl, ?_⟩) hHeld ?_ ?_
        rotate_left
        · intro w' s0
          go_simp
          with_reducible rfl
        rotate_left
        · simp only [Act.put, List.setIfInBounds_toArray, List.set_cons_zero, List.set_cons_succ, i64_w, i32_w]
          rfl
        refine one_ (i := 5) (N := some 22) #[true, true, true, true, true, true, true, true, true, true, false, false, false] rfl rfl (by kernel_rfl) (by decide) (fun K hK => ?_)
        obtain ⟨m0_, m1_⟩ := own_spanAt ho i (by rw [hWl.out]; exact hil2)
        rw [hLi.out] at m0_ m1_
        refine value_ (w1 := wn) (v := .agg #[.int .i64 sl, .int .i64 sh]) (by rfl) rfl ?_ ?_
        · go_simp
          try rfl
        clear m0_ m1_
        clear hHeld
        refine hK.out _ _ ((bl_cell hbw hcs)) (fun hHeld => ?_)
        clear hK K
        refine norm_ (a' := ?_) ?_ ?_
        rotate_left
        · show Act.put _ (some 22) _ = _
          simp only [Act.put, List.setIfInBounds_toArray, List.set_cons_zero, List.set_cons_succ, i64_w, i32_w]
          rfl
        refine one_ (i := 10) (N := some 27) #[true, true, true, true, true, true, true, true, true, true, true, false, false] rfl rfl (by kernel_rfl) (by decide) (fun K hK => ?_)
        refine goes_ Try.func110 (by kernel_rfl) rfl #[.agg #[.int .i64 sl, .int .i64 sh], .int .i64 ni] (by rfl) rfl rfl (by simp only [List.map_toArray, List.map_cons, List.map_nil] <;> rfl) ?_
        refine (hWd.out _).mono ?_
        rintro e wn ⟨rfl, hbn⟩
        refine ⟨_, rfl, ?_⟩
        replace hbw := bl_step hbw hbn
        replace ho := own_below ho hbn
        clear hbn
        clear hHeld
        refine hK.out _ _ ((bl_cell hbw hcs)) (fun hHeld => ?_)
        clear hK K
        refine norm_ (a' := ?_) ?_ ?_
        rotate_left
        · show Act.put _ (some 27) _ = _
          simp only [Act.put, List.setIfInBounds_toArray, List.set_cons_zero, List.set_cons_succ, i64_w, i32_w]
          rfl
        refine pure_ (i := 11) (N := some 28) (v := ?_) (a' := ?_) #[true, true, true, true, true, true, true, true, true, true, true, true, false] rfl rfl (by kernel_rfl) (fun _ _ _ h => h) (Or.inl ⟨by rfl, ?_⟩) ?_ ?_
        rotate_left
        · intro w'
          go_simp
          with_reducible rfl
        rotate_left
        · simp only [Act.put, List.setIfInBounds_toArray, List.set_cons_zero, List.set_cons_succ, i64_w, i32_w]
          rfl
        refine one_ (i := 12) (N := none) #[true, true, true, true, true, true, true, true, true, true, true, true, true] rfl rfl (by kernel_rfl) (by decide) (fun K hK => ?_)
        obtain ⟨m0_, m1_⟩ := own_spanAt ho i (by rw [hWl.out]; exact hil2)
        rw [hLi.out] at m0_ m1_
        have z0_ := own_froz ho (i * 2)
        have z1_ := own_froz ho (i * 2 + 1)
        refine skip_ (w1 := ((wn.setCell ⟨gA, i * 2, none⟩ (.int .i64 xl)).setCell ⟨gA, i * 2 + 1, none⟩ (.int .i64 xh))) (by rfl) rfl ?_ ?_
        · go_simp
          try rfl
        replace ho := own_setIdx (own_setIdx ho (i := i * 2) (by omega) (.int .i64 xl)) (i := i * 2 + 1) (by omega) (.int .i64 xh)
        replace hbw := bl_set (bl_set hbw (p := ⟨gA, i * 2, none⟩) hle (.int .i64 xl)) (p := ⟨gA, i * 2 + 1, none⟩) hle (.int .i64 xh)
        have hcs' := bl_cell hbw hcs
        clear m0_ m1_ z0_ z1_
        generalize ((wn.setCell ⟨gA, i * 2, none⟩ (.int .i64 xl)).setCell ⟨gA, i * 2 + 1, none⟩ (.int .i64 xh)) = wn at *
        clear hHeld
        refine hK.out _ _ ((bl_cell hbw hcs)) (fun hHeld => ?_)
        clear hK K
        refine done_ (by kernel_rfl) ?_
        have hb64 : ((i : Int) + 1) ≤ 9223372036854775807 := by omega
        go_wp2
        go_roundw
        case rel => exact ⟨i + 1, by omega, by go_num, hbw, by rw [hU.out, encS_set]; exact ho⟩
        case measure => simp [intOf]; omega
      · have hie : i = s.length := by omega
        subst hie
        have hd : decide ((s.length : Int) < (s.length : Int)) = false := decide_eq_false (by omega)
        rw [wideU_end l s _ (by omega)] at ho
        obtain ⟨A', c', hv, hcc, hrd, hn', -⟩ := own_rdC ho
        injection hv with hv1 hv2 hv3
        subst hv1
        have hcl := hidI (wideL_length l s)
        go_wp2
        go_ret
        refine ⟨A1, ⟨c', by rw [hcl.out]; rfl⟩, ⟨by rw [hcl.out]; exact hn', hrd⟩, hbw⟩
  · have hmin : (if (s.length : Int) < (l.length : Int) then (s.length : Int) else (l.length : Int)) = (l.length : Int) := if_neg hc
    have hc2 : ¬ s.length < l.length := by omega
    have hCo := hC.out
    clear hC
    go_enter Try.func76, Try.ntmps76
    go_wp2_with fail
    refine hCo.mono ?_
    clear hCo
    rintro e w1 ⟨v0, rfl, ho, hb1⟩
    obtain ⟨A1, c1, rfl, hc1, -, -, -⟩ := own_rdC ho
    go_upto_region 3 with fail
    have hb1' : Below w.heap.size w w1 := hb1
    go_loopw [6, 14] (fun v6 y wr => ∃ i : Nat, i ≤ l.length ∧ y = .int .i64 i ∧ Below w.heap.size w wr ∧ wr.ownsRow w.heap.size 25 2 (.slice A1 l.length c1) l.length (encS (wideU l s i))) (fun _ y _ => (l.length - intOf y).toNat)
    case atStart => exact ⟨0, by omega, rfl, hb1, ho⟩
    case round =>
      clear hb1 ho hb1'
      obtain ⟨i, hi, rfl, hbw, ho⟩ := hrel
      by_cases hlt : i < l.length
      · have hd : decide ((i : Int) < (l.length : Int)) = true := decide_eq_true (by omega)
        have hil2 : i < l.length := by omega
        have his2 : i < s.length := by omega
        obtain ⟨bs, os, rfl, hcs⟩ := hs.at his2
        obtain ⟨gA, hle, rfl⟩ := own_some ho (by omega)
        have hWl := wideU_length l s i
        have hLi := wideU_at l s i i (by omega)
        rw [if_neg (by omega)] at hLi
        have hU : Hid (wideU l s (i + 1) = (wideU l s i).set i (wideS (l.getD i ⟨0, 0⟩) (s.getD i 0))) := rfl
        have hsi := hidI (hil.one i)
        have hni := hidI (his.getD i)
        obtain ⟨⟨sl, sh⟩, hsj⟩ : ∃ z, l.getD i ⟨0, 0⟩ = z := ⟨_, rfl⟩
        obtain ⟨ni, hnj⟩ : ∃ z, s.getD i 0 = z := ⟨_, rfl⟩
        rw [hsj] at hLi hU hsi
        rw [hnj] at hcs hU hni
        have hWd := hidI (fun W => sWide_calls sl sh ni W hsi.out.1.1 hsi.out.1.2 hsi.out.2.1 hsi.out.2.2 hni.out.1 hni.out.2)
        obtain ⟨⟨xl, xh⟩, hX⟩ : ∃ z, wideS ⟨sl, sh⟩ ni = z := ⟨_, rfl⟩
        rw [hX] at hWd hU
        simp only [] at hWd
        replace hLi := hidI hLi
        replace hWl := hidI hWl
        clear hX hsj hnj
        go_upto_region 5 with fail
        replace ho := own_drew ho
        have hbw0 := hbw
        replace hbw := bl_drew hbw
        refine start_ (n := 13) (S := fun w' => w'.cell? ⟨bs, os + i, none⟩ = some (.int .i64 ni)) (ds := []) #[false, false, false, false, false, false, false, false, false, false, false, false, false] (by kernel_rfl) rfl rfl ((bl_cell hbw hcs)) (fun hHeld => ?_)
        generalize wr.drew = wn at *
        refine pure_ (i := 0) (N := some 17) (v := ?_) (a' := ?_) #[true, false, false, false, false, false, false, false, false, false, false, false, false] rfl rfl (by kernel_rfl) (fun _ _ _ h => h) (Or.inl ⟨by rfl, ?_⟩) ?_ ?_
        rotate_left
        · intro w'
          go_simp
          with_reducible rfl
        rotate_left
        · simp only [Act.put, List.setIfInBounds_toArray, List.set_cons_zero, List.set_cons_succ, i64_w, i32_w]
          rfl
        refine pure_ (i := 1) (N := some 18) (v := ?_) (a' := ?_) #[true, true, false, false, false, false, false, false, false, false, false, false, false] rfl rfl (by kernel_rfl) (fun _ _ _ h => h) (Or.inl ⟨by rfl, ?_⟩) ?_ ?_
        rotate_left
        · intro w'
          go_simp
          with_reducible rfl
        rotate_left
        · simp only [Act.put, List.setIfInBounds_toArray, List.set_cons_zero, List.set_cons_succ, i64_w, i32_w]
          rfl
        refine pure_ (i := 2) (N := some 19) (v := ?_) (a' := ?_) #[true, true, true, false, false, false, false, false, false, false, false, false, false] rfl rfl (by kernel_rfl) (fun _ _ _ h => h) (Or.inl ⟨by rfl, ?_⟩) ?_ ?_
        rotate_left
        · intro w'
          go_simp
          with_reducible rfl
        rotate_left
        · simp only [Act.put, List.setIfInBounds_toArray, List.set_cons_zero, List.set_cons_succ, i64_w, i32_w]
          rfl
        refine pure_ (i := 3) (N := some 20) (v := ?_) (a' := ?_) #[true, true, true, true, false, false, false, false, false, false, false, false, false] rfl rfl (by kernel_rfl) (fun _ _ _ h => h) (Or.inl ⟨by rfl, ?_⟩) ?_ ?_
        rotate_left
        · intro w'
          go_simp
          with_reducible rfl
        rotate_left
        · simp only [Act.put, List.setIfInBounds_toArray, List.set_cons_zero, List.set_cons_succ, i64_w, i32_w]
          rfl
        refine pure_ (i := 4) (N := some 21) (v := ?_) (a' := ?_) #[true, true, true, true, true, false, false, false, false, false, false, false, false] rfl rfl (by kernel_rfl) (fun _ _ _ h => h) (Or.inl ⟨by rfl, ?_⟩) ?_ ?_
        rotate_left
        · intro w'
          go_simp
          with_reducible rfl
        rotate_left
        · simp only [Act.put, List.setIfInBounds_toArray, List.set_cons_zero, List.set_cons_succ, i64_w, i32_w]
          rfl
        refine pure_ (i := 6) (N := some 23) (v := ?_) (a' := ?_) #[true, true, true, true, true, false, true, false, false, false, false, false, false] rfl rfl (by kernel_rfl) (fun _ _ _ h => h) (Or.inl ⟨by rfl, ?_⟩) ?_ ?_
        rotate_left
        · intro w'
          go_simp
          with_reducible rfl
        rotate_left
        · simp only [Act.put, List.setIfInBounds_toArray, List.set_cons_zero, List.set_cons_succ, i64_w, i32_w]
          rfl
        refine pure_ (i := 7) (N := some 24) (v := ?_) (a' := ?_) #[true, true, true, true, true, false, true, true, false, false, false, false, false] rfl rfl (by kernel_rfl) (fun _ _ _ h => h) (Or.inl ⟨by rfl, ?_⟩) ?_ ?_
        rotate_left
        · intro w'
          go_simp
          with_reducible rfl
        rotate_left
        · simp only [Act.put, List.setIfInBounds_toArray, List.set_cons_zero, List.set_cons_succ, i64_w, i32_w]
          rfl
        refine pure_ (i := 8) (N := some 25) (v := ?_) (a' := ?_) #[true, true, true, true, true, false, true, true, true, false, false, false, false] rfl rfl (by kernel_rfl) (fun _ _ _ h => h) (Or.inl ⟨by rfl, ?_⟩) ?_ ?_
        rotate_left
        · intro w'
          go_simp
          with_reducible rfl
        rotate_left
        · simp only [Act.put, List.setIfInBounds_toArray, List.set_cons_zero, List.set_cons_succ, i64_w, i32_w]
          rfl
        refine take_ (i := 9) (N := some 26) (v := ?_) (a' := ?_) #[true, true, true, true, true, false, true, true, true, true, false, false, false] rfl rfl (by kernel_rfl) (fun _ _ _ h => h) (Or.inl ⟨by rfl, ?_⟩) hHeld ?_ ?_
        rotate_left
        · intro w' s0
          go_simp
          with_reducible rfl
        rotate_left
        · simp only [Act.put, List.setIfInBounds_toArray, List.set_cons_zero, List.set_cons_succ, i64_w, i32_w]
          rfl
        refine one_ (i := 5) (N := some 22) #[true, true, true, true, true, true, true, true, true, true, false, false, false] rfl rfl (by kernel_rfl) (by decide) (fun K hK => ?_)
        obtain ⟨m0_, m1_⟩ := own_spanAt ho i (by rw [hWl.out]; exact hil2)
        rw [hLi.out] at m0_ m1_
        refine value_ (w1 := wn) (v := .agg #[.int .i64 sl, .int .i64 sh]) (by rfl) rfl ?_ ?_
        · go_simp
          try rfl
        clear m0_ m1_
        clear hHeld
        refine hK.out _ _ ((bl_cell hbw hcs)) (fun hHeld => ?_)
        clear hK K
        refine norm_ (a' := ?_) ?_ ?_
        rotate_left
        · show Act.put _ (some 22) _ = _
          simp only [Act.put, List.setIfInBounds_toArray, List.set_cons_zero, List.set_cons_succ, i64_w, i32_w]
          rfl
        refine one_ (i := 10) (N := some 27) #[true, true, true, true, true, true, true, true, true, true, true, false, false] rfl rfl (by kernel_rfl) (by decide) (fun K hK => ?_)
        refine goes_ Try.func110 (by kernel_rfl) rfl #[.agg #[.int .i64 sl, .int .i64 sh], .int .i64 ni] (by rfl) rfl rfl (by simp only [List.map_toArray, List.map_cons, List.map_nil] <;> rfl) ?_
        refine (hWd.out _).mono ?_
        rintro e wn ⟨rfl, hbn⟩
        refine ⟨_, rfl, ?_⟩
        replace hbw := bl_step hbw hbn
        replace ho := own_below ho hbn
        clear hbn
        clear hHeld
        refine hK.out _ _ ((bl_cell hbw hcs)) (fun hHeld => ?_)
        clear hK K
        refine norm_ (a' := ?_) ?_ ?_
        rotate_left
        · show Act.put _ (some 27) _ = _
          simp only [Act.put, List.setIfInBounds_toArray, List.set_cons_zero, List.set_cons_succ, i64_w, i32_w]
          rfl
        refine pure_ (i := 11) (N := some 28) (v := ?_) (a' := ?_) #[true, true, true, true, true, true, true, true, true, true, true, true, false] rfl rfl (by kernel_rfl) (fun _ _ _ h => h) (Or.inl ⟨by rfl, ?_⟩) ?_ ?_
        rotate_left
        · intro w'
          go_simp
          with_reducible rfl
        rotate_left
        · simp only [Act.put, List.setIfInBounds_toArray, List.set_cons_zero, List.set_cons_succ, i64_w, i32_w]
          rfl
        refine one_ (i := 12) (N := none) #[true, true, true, true, true, true, true, true, true, true, true, true, true] rfl rfl (by kernel_rfl) (by decide) (fun K hK => ?_)
        obtain ⟨m0_, m1_⟩ := own_spanAt ho i (by rw [hWl.out]; exact hil2)
        rw [hLi.out] at m0_ m1_
        have z0_ := own_froz ho (i * 2)
        have z1_ := own_froz ho (i * 2 + 1)
        refine skip_ (w1 := ((wn.setCell ⟨gA, i * 2, none⟩ (.int .i64 xl)).setCell ⟨gA, i * 2 + 1, none⟩ (.int .i64 xh))) (by rfl) rfl ?_ ?_
        · go_simp
          try rfl
        replace ho := own_setIdx (own_setIdx ho (i := i * 2) (by omega) (.int .i64 xl)) (i := i * 2 + 1) (by omega) (.int .i64 xh)
        replace hbw := bl_set (bl_set hbw (p := ⟨gA, i * 2, none⟩) hle (.int .i64 xl)) (p := ⟨gA, i * 2 + 1, none⟩) hle (.int .i64 xh)
        have hcs' := bl_cell hbw hcs
        clear m0_ m1_ z0_ z1_
        generalize ((wn.setCell ⟨gA, i * 2, none⟩ (.int .i64 xl)).setCell ⟨gA, i * 2 + 1, none⟩ (.int .i64 xh)) = wn at *
        clear hHeld
        refine hK.out _ _ ((bl_cell hbw hcs)) (fun hHeld => ?_)
        clear hK K
        refine done_ (by kernel_rfl) ?_
        have hb64 : ((i : Int) + 1) ≤ 9223372036854775807 := by omega
        go_wp2
        go_roundw
        case rel => exact ⟨i + 1, by omega, by go_num, hbw, by rw [hU.out, encS_set]; exact ho⟩
        case measure => simp [intOf]; omega
      · have hie : i = l.length := by omega
        subst hie
        have hd : decide ((l.length : Int) < (l.length : Int)) = false := decide_eq_false (by omega)
        rw [wideU_end l s _ (by omega)] at ho
        obtain ⟨A', c', hv, hcc, hrd, hn', -⟩ := own_rdC ho
        injection hv with hv1 hv2 hv3
        subst hv1
        have hcl := hidI (wideL_length l s)
        go_wp2
        go_ret
        refine ⟨A1, ⟨c', by rw [hcl.out]; rfl⟩, ⟨by rw [hcl.out]; exact hn', hrd⟩, hbw⟩
end Go.Proofs.Ythdaidmjjcmccaa
set_option linter.unusedVariables false
set_option linter.unusedSimpArgs false
namespace Go.Pk
open Go.RowKit
theorem commandP_in {p : Pl} (h : InS [p.inp]) (box : List Sp) : InSp (commandP p box).1 := by
  have hi := h p.inp (by simp)
  unfold commandP
  split
  · have f : ∀ x, -9223372036854775808 ≤ x → x ≤ 9223372036854775807 → -9223372036854775808 ≤ clampTo x p.inp.lo p.inp.hi ∧ clampTo x p.inp.lo p.inp.hi ≤ 9223372036854775807 := by
      intro x h0 h1
      unfold clampTo
      split
      · omega
      · split <;> omega
    have hq := plusS_in (cmdParts p box)
    exact ⟨f _ hq.1.1 hq.1.2, f _ hq.2.1 hq.2.2⟩
  · unfold InSp; simp
theorem reachP_length {p : Pl} (h : p.B.length ≤ 3) (u : Sp) (box : List Sp) : (reachP p u box).1.length ≤ 3 := by
  unfold reachP
  split
  · split
    · simp
    · simp; omega
  · simp
end Go.Pk
namespace Go.Proofs.Ythdaidmjjcmccaa
open Go.RowKit Go.Pk Go.Proofs.YthdaidmjjcmccaaW.PrintLast
set_option maxHeartbeats 8000000 in
set_option maxRecDepth 100000 in
theorem Within_calls (g : Nat) (p : Pl) (A : Option Addr) (l : List Sp) (c : Nat) (w : World) (hg : GoodP p) (hk : KitAt w g 116 p) (hl : RdS w A l) :
    Calls Try.prog 77 #[.pointer (some ⟨g, 0, none⟩), .slice A l.length c] w fun e w' => e = .returned (.bool (withinP p l)) ∧ Below w.heap.size w w' := by
  have hC := hidI (Copy_calls g p w hg hk)
  have hll := hl.1
  go_enter Try.func77, Try.ntmps77
  go_wp2_with fail
  refine hC.out.mono ?_
  clear hC
  rintro e w1 ⟨⟨aA', cA', aB', cB', aW', cW', aI', cI', aS', cS', aG', cG'⟩, rfl, hI, kI, hb1, -⟩
  unfold PA.cells
  simp only [] at hI kI ⊢
  have hfd := plField4 (.slice aA' p.A.length cA') (.slice aB' p.B.length cB') (.int .i64 p.inp.lo) (.int .i64 p.inp.hi) (.slice aW' p.W.length cW') (.slice aI' p.Inv.length cI') (.slice aS' p.Safe.length cS') (.slice aG' p.gain.length cG') (.int .i64 p.bias) w1
  go_upto_region 2 with fail
  clear hfd
  obtain ⟨w0, hw0⟩ : ∃ z : World, z = w := ⟨_, rfl⟩
  have hbw : Below w0.heap.size w0 w1 := by rw [hw0]; exact hb1
  rw [← hw0] at hl
  replace hw0 := hidI hw0
  have hb10 := Below.refl w1.heap.size w1
  clear hb1
  go_upto_region 3 with fail
  go_loopw [6, 7, 13] (fun v6 v7 y wr => ∃ i : Nat, i ≤ l.length ∧ y = .int .i64 i ∧ Below w1.heap.size w1 wr ∧ Hid (∀ j, j < i → (decide (j < p.Inv.length) && inS (l.getD j ⟨0, 0⟩) (p.Inv.getD j ⟨0, 0⟩)) = true)) (fun _ _ y _ => (l.length - intOf y).toNat)
  case atStart => exact ⟨0, by omega, rfl, hb10, fun j hj => by omega⟩
  case round =>
    clear hb10
    obtain ⟨i, hi, rfl, hb2, hall⟩ := hrel
    by_cases hlt : i < l.length
    · have hd : decide ((i : Int) < (l.length : Int)) = true := decide_eq_true (by omega)
      have hbw2 := bl_step hbw hb2
      obtain ⟨b2, o2, rfl, hc1, hc2⟩ := (hl.below hbw2).at hlt
      have hno : ∀ r : Bool, (decide (i < p.Inv.length) && inS (l.getD i ⟨0, 0⟩) (p.Inv.getD i ⟨0, 0⟩)) = r → r = false → withinP p l = false := fun r h1 h2 => by
        unfold withinP
        rw [List.all_eq_false]
        exact ⟨i, List.mem_range.2 hlt, by rw [h1, h2]; simp⟩
      have hyes : ∀ r : Bool, (decide (i < p.Inv.length) && inS (l.getD i ⟨0, 0⟩) (p.Inv.getD i ⟨0, 0⟩)) = r → r = true → Hid (∀ j, j < i + 1 → (decide (j < p.Inv.length) && inS (l.getD j ⟨0, 0⟩) (p.Inv.getD j ⟨0, 0⟩)) = true) := fun r h1 h2 j hj => by
        by_cases hji : j < i
        · exact hall.out j hji
        · obtain rfl : j = i := by omega
          rw [h1, h2]
      obtain ⟨⟨sl, sh⟩, hsj⟩ : ∃ z, l.getD i ⟨0, 0⟩ = z := ⟨_, rfl⟩
      rw [hsj] at hc1 hc2 hno hyes
      simp only [] at hc1 hc2
      clear hsj
      replace hno := hidI hno
      replace hyes := hidI hyes
      go_upto_region 5 with fail
      have hk_g7 := blk_new wr (.cells #[.int .i64 sl, .int .i64 sh] 25)
      have hbA := bl_alloc (Below.refl wr.heap.size wr) (.cells #[.int .i64 sl, .int .i64 sh] 25)
      replace hb2 := bl_step hb2 hbA
      clear hbA hbw2 hc1 hc2
      generalize wr.alloc (.cells #[.int .i64 sl, .int .i64 sh] 25) = Wa at *
      generalize wr.heap.size = g7 at *
      have hbwS := hbw
      by_cases hin : i < p.Inv.length
      · obtain ⟨b3, o3, rfl, he1, he2⟩ := hI.at hin
        have hge : decide ((p.Inv.length : Int) ≤ (i : Int)) = false := decide_eq_false (by omega)
        have hge2 : ¬ p.Inv.length ≤ i := by omega
        have hno2 := hno.out _ rfl
        have hyes2 := hyes.out _ rfl
        rw [decide_eq_true hin, Bool.true_and] at hno2 hyes2
        have hIn := hidI (fun W => In_calls sl sh (p.Inv.getD i ⟨0, 0⟩).lo (p.Inv.getD i ⟨0, 0⟩).hi W)
        obtain ⟨⟨tl, th⟩, htj⟩ : ∃ z, p.Inv.getD i ⟨0, 0⟩ = z := ⟨_, rfl⟩
        rw [htj] at he1 he2 hno2 hyes2 hIn
        simp only [] at he1 he2 hIn
        obtain ⟨r, hr⟩ : ∃ r, inS ⟨sl, sh⟩ ⟨tl, th⟩ = r := ⟨_, rfl⟩
        rw [hr] at hno2 hyes2 hIn
        clear htj hr
        obtain ⟨rn, hrn⟩ : ∃ z, Hid ((!r) = z) := ⟨_, rfl⟩
        replace hno2 := hidI hno2
        replace hyes2 := hidI hyes2
        have hbw := hb2
        replace hk_g7 := blk_drew hk_g7
        replace hbw := bl_drew hbw
        refine start_ (n := 13) (S := fun w' => w'.cell? ⟨g7, 0, none⟩ = some (.int .i64 sl) ∧ w'.cell? ⟨g7, 1, none⟩ = some (.int .i64 sh) ∧ w'.cell? ⟨b3, o3 + i * 2, none⟩ = some (.int .i64 tl) ∧ w'.cell? ⟨b3, o3 + i * 2 + 1, none⟩ = some (.int .i64 th)) (ds := []) #[false, false, false, false, false, false, false, false, false, false, false, false, false] (by kernel_rfl) rfl rfl ⟨(blk_cell hk_g7 0 (by rfl)), (blk_cell hk_g7 1 (by rfl)), (bl_cell hbw he1), (bl_cell hbw he2)⟩ (fun hHeld => ?_)
        generalize Wa.drew = wn at *
        refine pure_ (i := 0) (N := some 18) (v := ?_) (a' := ?_) #[true, false, false, false, false, false, false, false, false, false, false, false, false] rfl rfl (by kernel_rfl) (fun _ _ _ h => h) (Or.inl ⟨by rfl, ?_⟩) ?_ ?_
        rotate_left
        · intro w'
          go_simp
          with_reducible rfl
        rotate_left
        · simp only [Act.put, List.setIfInBounds_toArray, List.set_cons_zero, List.set_cons_succ, i64_w, i32_w]
          rfl
        refine pure_ (i := 1) (N := some 19) (v := ?_) (a' := ?_) #[true, true, false, false, false, false, false, false, false, false, false, false, false] rfl rfl (by kernel_rfl) (fun _ _ _ h => h) (Or.inl ⟨by rfl, ?_⟩) ?_ ?_
        rotate_left
        · intro w'
          go_simp
          with_reducible rfl
        rotate_left
        · simp only [Act.put, List.setIfInBounds_toArray, List.set_cons_zero, List.set_cons_succ, i64_w, i32_w]
          rfl
        refine pure_ (i := 2) (N := some 20) (v := ?_) (a' := ?_) #[true, true, true, false, false, false, false, false, false, false, false, false, false] rfl rfl (by kernel_rfl) (fun _ _ _ h => h) (Or.inl ⟨by rfl, ?_⟩) ?_ ?_
        rotate_left
        · intro w'
          go_simp
          with_reducible rfl
        rotate_left
        · simp only [Act.put, List.setIfInBounds_toArray, List.set_cons_zero, List.set_cons_succ, i64_w, i32_w]
          rfl
        refine pure_ (i := 3) (N := some 21) (v := ?_) (a' := ?_) #[true, true, true, true, false, false, false, false, false, false, false, false, false] rfl rfl (by kernel_rfl) (fun _ _ _ h => h) (Or.inl ⟨by rfl, ?_⟩) ?_ ?_
        rotate_left
        · intro w'
          go_simp
          with_reducible rfl
        rotate_left
        · simp only [Act.put, List.setIfInBounds_toArray, List.set_cons_zero, List.set_cons_succ, i64_w, i32_w]
          rfl
        refine pure_ (i := 4) (N := some 22) (v := ?_) (a' := ?_) #[true, true, true, true, true, false, false, false, false, false, false, false, false] rfl rfl (by kernel_rfl) (fun _ _ _ h => h) (Or.inl ⟨by rfl, ?_⟩) ?_ ?_
        rotate_left
        · intro w'
          go_simp
          with_reducible rfl
        rotate_left
        · simp only [Act.put, List.setIfInBounds_toArray, List.set_cons_zero, List.set_cons_succ, i64_w, i32_w]
          rfl
        refine pure_ (i := 6) (N := some 24) (v := ?_) (a' := ?_) #[true, true, true, true, true, false, true, false, false, false, false, false, false] rfl rfl (by kernel_rfl) (fun _ _ _ h => h) (Or.inl ⟨by rfl, ?_⟩) ?_ ?_
        rotate_left
        · intro w'
          go_simp
          with_reducible rfl
        rotate_left
        · simp only [Act.put, List.setIfInBounds_toArray, List.set_cons_zero, List.set_cons_succ, i64_w, i32_w]
          rfl
        refine pure_ (i := 7) (N := some 25) (v := ?_) (a' := ?_) #[true, true, true, true, true, false, true, true, false, false, false, false, false] rfl rfl (by kernel_rfl) (fun _ _ _ h => h) (Or.inl ⟨by rfl, ?_⟩) ?_ ?_
        rotate_left
        · intro w'
          go_simp
          with_reducible rfl
        rotate_left
        · simp only [Act.put, List.setIfInBounds_toArray, List.set_cons_zero, List.set_cons_succ, i64_w, i32_w]
          rfl
        refine pure_ (i := 8) (N := some 26) (v := ?_) (a' := ?_) #[true, true, true, true, true, false, true, true, true, false, false, false, false] rfl rfl (by kernel_rfl) (fun _ _ _ h => h) (Or.inl ⟨by rfl, ?_⟩) ?_ ?_
        rotate_left
        · intro w'
          go_simp
          with_reducible rfl
        rotate_left
        · simp only [Act.put, List.setIfInBounds_toArray, List.set_cons_zero, List.set_cons_succ, i64_w, i32_w]
          rfl
        refine take_ (i := 5) (N := some 23) (v := ?_) (a' := ?_) #[true, true, true, true, true, true, true, true, true, false, false, false, false] rfl rfl (by kernel_rfl) (fun _ _ _ h => h) (Or.inl ⟨by rfl, ?_⟩) hHeld ?_ ?_
        rotate_left
        · rintro w' ⟨s0, s1, s2, s3⟩
          go_simp
          with_reducible rfl
        rotate_left
        · simp only [Act.put, List.setIfInBounds_toArray, List.set_cons_zero, List.set_cons_succ, i64_w, i32_w]
          rfl
        refine take_ (i := 9) (N := some 27) (v := ?_) (a' := ?_) #[true, true, true, true, true, true, true, true, true, true, false, false, false] rfl rfl (by kernel_rfl) (fun _ _ _ h => h) (Or.inl ⟨by rfl, ?_⟩) hHeld ?_ ?_
        rotate_left
        · rintro w' ⟨s0, s1, s2, s3⟩
          go_simp
          with_reducible rfl
        rotate_left
        · simp only [Act.put, List.setIfInBounds_toArray, List.set_cons_zero, List.set_cons_succ, i64_w, i32_w]
          rfl
        refine one_ (i := 10) (N := some 28) #[true, true, true, true, true, true, true, true, true, true, true, false, false] rfl rfl (by kernel_rfl) (by decide) (fun K hK => ?_)
        refine goes_ Try.func61 (by kernel_rfl) rfl #[.agg #[.int .i64 sl, .int .i64 sh], .agg #[.int .i64 tl, .int .i64 th]] (by rfl) rfl rfl (by simp only [List.map_toArray, List.map_cons, List.map_nil] <;> rfl) ?_
        refine (hIn.out _).mono ?_
        rintro e wn ⟨rfl, hbn⟩
        refine ⟨_, rfl, ?_⟩
        replace hk_g7 := bl_block hbn hk_g7
        replace hbw := bl_step hbw hbn
        clear hbn
        clear hHeld
        refine hK.out _ _ ⟨(blk_cell hk_g7 0 (by rfl)), (blk_cell hk_g7 1 (by rfl)), (bl_cell hbw he1), (bl_cell hbw he2)⟩ (fun hHeld => ?_)
        clear hK K
        refine norm_ (a' := ?_) ?_ ?_
        rotate_left
        · show Act.put _ (some 28) _ = _
          simp only [Act.put, List.setIfInBounds_toArray, List.set_cons_zero, List.set_cons_succ, i64_w, i32_w]
          rfl
        refine pure_ (i := 11) (N := some 29) (v := ?_) (a' := ?_) #[true, true, true, true, true, true, true, true, true, true, true, true, false] rfl rfl (by kernel_rfl) (fun _ _ _ h => h) (Or.inl ⟨by rfl, ?_⟩) ?_ ?_
        rotate_left
        · intro w'
          go_simp
          with_reducible rfl
        rotate_left
        · simp only [Act.put, List.setIfInBounds_toArray, List.set_cons_zero, List.set_cons_succ, i64_w, i32_w]
          rfl
        refine pure_ (i := 12) (N := some 30) (v := ?_) (a' := ?_) #[true, true, true, true, true, true, true, true, true, true, true, true, true] rfl rfl (by kernel_rfl) (fun _ _ _ h => h) (Or.inl ⟨by rfl, ?_⟩) ?_ ?_
        rotate_left
        · intro w'
          go_simp
          with_reducible rfl
        rotate_left
        · simp only [Act.put, List.setIfInBounds_toArray, List.set_cons_zero, List.set_cons_succ, i64_w, i32_w]
          rfl
        refine done_ (by kernel_rfl) ?_
        have hb64 : ((i : Int) + 1) ≤ 9223372036854775807 := by omega
        clear hge hge2 hin hno hyes hHeld hI kI he1 he2 hk_g7 hIn
        rw [hrn.out]
        cases rn
        rotate_left
        · have hno3 := hno2.out (by have := hrn.out; cases r <;> simp_all)
          clear hno2 hyes2
          replace hno3 := hidI hno3
          go_wp2
          go_ret
          exact ⟨by rw [hno3.out]; rfl, by rw [← hw0.out]; exact bl_step hbwS hbw⟩
        · have hyes3 := hyes2.out (by have := hrn.out; cases r <;> simp_all)
          clear hno2 hyes2
          go_wp2
          go_roundw
          case rel => exact ⟨i + 1, by omega, by go_num, hbw, hyes3⟩
          case measure => simp [intOf]; omega
      · have hge : decide ((p.Inv.length : Int) ≤ (i : Int)) = true := decide_eq_true (by omega)
        have hge2 : p.Inv.length ≤ i := by omega
        have hno2 : Hid (withinP p l = false) := hno.out _ rfl (by rw [decide_eq_false hin]; rfl)
        have hbw := hb2
        replace hbw := bl_drew hbw
        refine start_ (n := 13) (S := fun w' => True) (ds := []) #[false, false, false, false, false, false, false, false, false, false, false, false, false] (by kernel_rfl) rfl rfl trivial (fun hHeld => ?_)
        generalize Wa.drew = wn at *
        refine pure_ (i := 0) (N := some 18) (v := ?_) (a' := ?_) #[true, false, false, false, false, false, false, false, false, false, false, false, false] rfl rfl (by kernel_rfl) (fun _ _ _ h => h) (Or.inl ⟨by rfl, ?_⟩) ?_ ?_
        rotate_left
        · intro w'
          go_simp
          with_reducible rfl
        rotate_left
        · simp only [Act.put, List.setIfInBounds_toArray, List.set_cons_zero, List.set_cons_succ, i64_w, i32_w]
          rfl
        refine pure_ (i := 1) (N := some 19) (v := ?_) (a' := ?_) #[true, true, false, false, false, false, false, false, false, false, false, false, false] rfl rfl (by kernel_rfl) (fun _ _ _ h => h) (Or.inl ⟨by rfl, ?_⟩) ?_ ?_
        rotate_left
        · intro w'
          go_simp
          with_reducible rfl
        rotate_left
        · simp only [Act.put, List.setIfInBounds_toArray, List.set_cons_zero, List.set_cons_succ, i64_w, i32_w]
          rfl
        refine pure_ (i := 2) (N := some 20) (v := ?_) (a' := ?_) #[true, true, true, false, false, false, false, false, false, false, false, false, false] rfl rfl (by kernel_rfl) (fun _ _ _ h => h) (Or.inl ⟨by rfl, ?_⟩) ?_ ?_
        rotate_left
        · intro w'
          go_simp
          with_reducible rfl
        rotate_left
        · simp only [Act.put, List.setIfInBounds_toArray, List.set_cons_zero, List.set_cons_succ, i64_w, i32_w]
          rfl
        refine pure_ (i := 3) (N := some 21) (v := ?_) (a' := ?_) #[true, true, true, true, false, false, false, false, false, false, false, false, false] rfl rfl (by kernel_rfl) (fun _ _ _ h => h) (Or.inl ⟨by rfl, ?_⟩) ?_ ?_
        rotate_left
        · intro w'
          go_simp
          with_reducible rfl
        rotate_left
        · simp only [Act.put, List.setIfInBounds_toArray, List.set_cons_zero, List.set_cons_succ, i64_w, i32_w]
          rfl
        refine pure_ (i := 4) (N := some 22) (v := ?_) (a' := ?_) #[true, true, true, true, true, false, false, false, false, false, false, false, false] rfl rfl (by kernel_rfl) (fun _ _ _ h => h) (Or.inl ⟨by rfl, ?_⟩) ?_ ?_
        rotate_left
        · intro w'
          go_simp
          with_reducible rfl
        rotate_left
        · simp only [Act.put, List.setIfInBounds_toArray, List.set_cons_zero, List.set_cons_succ, i64_w, i32_w]
          rfl
        refine pure_ (i := 5) (N := some 23) (v := undef) (a' := ?_) #[true, true, true, true, true, true, false, false, false, false, false, false, false] rfl rfl (by kernel_rfl) (fun _ _ _ h => h) (Or.inr ⟨by rfl, rfl⟩) ?_ ?_
        rotate_left
        · simp only [Act.put, List.setIfInBounds_toArray, List.set_cons_zero, List.set_cons_succ, i64_w, i32_w]
          rfl
        refine pure_ (i := 6) (N := some 24) (v := undef) (a' := ?_) #[true, true, true, true, true, true, true, false, false, false, false, false, false] rfl rfl (by kernel_rfl) (fun _ _ _ h => h) (Or.inr ⟨by rfl, rfl⟩) ?_ ?_
        rotate_left
        · simp only [Act.put, List.setIfInBounds_toArray, List.set_cons_zero, List.set_cons_succ, i64_w, i32_w]
          rfl
        refine pure_ (i := 7) (N := some 25) (v := undef) (a' := ?_) #[true, true, true, true, true, true, true, true, false, false, false, false, false] rfl rfl (by kernel_rfl) (fun _ _ _ h => h) (Or.inr ⟨by rfl, rfl⟩) ?_ ?_
        rotate_left
        · simp only [Act.put, List.setIfInBounds_toArray, List.set_cons_zero, List.set_cons_succ, i64_w, i32_w]
          rfl
        refine pure_ (i := 8) (N := some 26) (v := undef) (a' := ?_) #[true, true, true, true, true, true, true, true, true, false, false, false, false] rfl rfl (by kernel_rfl) (fun _ _ _ h => h) (Or.inr ⟨by rfl, rfl⟩) ?_ ?_
        rotate_left
        · simp only [Act.put, List.setIfInBounds_toArray, List.set_cons_zero, List.set_cons_succ, i64_w, i32_w]
          rfl
        refine pure_ (i := 9) (N := some 27) (v := undef) (a' := ?_) #[true, true, true, true, true, true, true, true, true, true, false, false, false] rfl rfl (by kernel_rfl) (fun _ _ _ h => h) (Or.inr ⟨by rfl, rfl⟩) ?_ ?_
        rotate_left
        · simp only [Act.put, List.setIfInBounds_toArray, List.set_cons_zero, List.set_cons_succ, i64_w, i32_w]
          rfl
        refine pure_ (i := 10) (N := some 28) (v := undef) (a' := ?_) #[true, true, true, true, true, true, true, true, true, true, true, false, false] rfl rfl (by kernel_rfl) (fun _ _ _ h => h) (Or.inr ⟨by rfl, rfl⟩) ?_ ?_
        rotate_left
        · simp only [Act.put, List.setIfInBounds_toArray, List.set_cons_zero, List.set_cons_succ, i64_w, i32_w]
          rfl
        refine pure_ (i := 11) (N := some 29) (v := undef) (a' := ?_) #[true, true, true, true, true, true, true, true, true, true, true, true, false] rfl rfl (by kernel_rfl) (fun _ _ _ h => h) (Or.inr ⟨by rfl, rfl⟩) ?_ ?_
        rotate_left
        · simp only [Act.put, List.setIfInBounds_toArray, List.set_cons_zero, List.set_cons_succ, i64_w, i32_w]
          rfl
        refine pure_ (i := 12) (N := some 30) (v := ?_) (a' := ?_) #[true, true, true, true, true, true, true, true, true, true, true, true, true] rfl rfl (by kernel_rfl) (fun _ _ _ h => h) (Or.inl ⟨by rfl, ?_⟩) ?_ ?_
        rotate_left
        · intro w'
          go_simp
          with_reducible rfl
        rotate_left
        · simp only [Act.put, List.setIfInBounds_toArray, List.set_cons_zero, List.set_cons_succ, i64_w, i32_w]
          rfl
        refine done_ (by kernel_rfl) ?_
        go_wp2
        go_ret
        exact ⟨by rw [hno2.out]; rfl, by rw [← hw0.out]; exact bl_step hbwS hbw⟩
    · have hie : i = l.length := by omega
      subst hie
      have hd : decide ((l.length : Int) < (l.length : Int)) = false := decide_eq_false (by omega)
      have hyes : withinP p l = true := by
        unfold withinP
        rw [List.all_eq_true]
        intro j hj
        exact hall.out j (List.mem_range.1 hj)
      replace hyes := hidI hyes
      go_wp2
      go_ret
      exact ⟨by rw [hyes.out]; rfl, by rw [← hw0.out]; exact bl_step hbw hb2⟩
end Go.Proofs.Ythdaidmjjcmccaa
set_option linter.unusedVariables false
set_option linter.unusedSimpArgs false
namespace Go.Proofs.Ythdaidmjjcmccaa
open Go.RowKit Go.Pk Go.Proofs.YthdaidmjjcmccaaW.PrintLast
set_option maxHeartbeats 8000000 in
set_option maxRecDepth 100000 in
theorem Holds_calls (gl : Nat) (p : Pl) (s : List Int) (A : Option Addr) (l : List Sp) (c : Nat) (w : World) (hg : GoodP p) (hk : LkAt w gl 51 116 p s) (his : InI s) (hl : RdS w A l) (hil : InS l) (hsm : l.length ≤ 1000000) :
    Calls Try.prog 30 #[.pointer (some ⟨gl, 0, none⟩), .slice A l.length c] w fun e w' => e = .returned (.bool (holdsP p s l)) ∧ Below w.heap.size w w' := by
  have hN := hidI (none_look gl p s w hk)
  obtain ⟨g, aS, cS, hkl, hs, hscap, hkit⟩ := hk
  have hWd := hidI (fun W (h1 : RdS W A l) (h2 : RdI W aS s) => pWide_calls A aS l s c cS W h1 h2 hil his hsm)
  have hwl := hidI (wideL_length l s)
  have hCm := hidI (fun W A2 c2 (h : KitAt W g 116 p) (h2 : RdS W A2 (wideL l s)) => Command_calls g p A2 (wideL l s) c2 W hg h h2 (wideL_in hil))
  have hcin := commandP_in hg.2.2.2.2.1 (wideL l s)
  have hH : holdsP p s l = ((commandP p (wideL l s)).2 && ((reachP p (commandP p (wideL l s)).1 l).2 && withinP p (reachP p (commandP p (wideL l s)).1 l).1)) := rfl
  rw [hH]
  clear hH
  obtain ⟨⟨⟨cl, ch⟩, cok⟩, hcm⟩ : ∃ z, commandP p (wideL l s) = z := ⟨_, rfl⟩
  rw [hcm] at hCm hcin ⊢
  simp only [] at hCm hcin ⊢
  clear hcm
  have hRe := hidI (fun W (h : KitAt W g 116 p) (h2 : RdS W A l) => Reach_calls g p ⟨cl, ch⟩ A l c W hg h h2 hil hcin)
  have hrl := hidI (reachP_length hg.lens.2.1 ⟨cl, ch⟩ l)
  obtain ⟨⟨rl, rok⟩, hre⟩ : ∃ z, reachP p ⟨cl, ch⟩ l = z := ⟨_, rfl⟩
  rw [hre] at hRe hrl ⊢
  simp only [] at hRe hrl ⊢
  clear hre hcin
  obtain ⟨wi, hwi⟩ : ∃ z, withinP p rl = z := ⟨_, rfl⟩
  have hWi := hidI (fun W A2 c2 (h : KitAt W g 116 p) (h2 : RdS W A2 rl) => Within_calls g p A2 rl c2 W hg h h2)
  rw [hwi] at hWi ⊢
  clear hwi
  obtain ⟨w0, hw0⟩ : ∃ z : World, z = w := ⟨_, rfl⟩
  have hbw : Below w0.heap.size w0 w := by rw [hw0]; exact Below.refl _ _
  rw [← hw0] at hkl hs hkit hl
  replace hw0 := hidI hw0
  go_enter Try.func30, Try.ntmps30
  go_wp2_with fail
  refine hN.out.mono ?_
  rintro e w1 ⟨rfl, hw1⟩
  subst hw1
  clear hN
  go_upto_region 3 with fail
  have hbwW := hbw
  apply cutB
  intro hJ0
  apply cutB
  intro hJ1
  · skip
    replace hbw := bl_drew hbw
    refine start_ (n := 17) (S := fun w' => w'.cell? ⟨gl, 0, none⟩ = some (.pointer (some ⟨g, 0, none⟩)) ∧ w'.cell? ⟨gl, 1, none⟩ = some (.slice aS s.length cS)) (ds := []) #[false, false, false, false, false, false, false, false, false, false, false, false, false, false, false, false, false] (by kernel_rfl) rfl rfl ⟨(blk_cell (bl_block hbw hkl) 0 (by rfl)), (blk_cell (bl_block hbw hkl) 1 (by rfl))⟩ (fun hHeld => ?_)
    generalize w1.drew = wn at *
    refine pure_ (i := 0) (N := some 11) (v := ?_) (a' := ?_) #[true, false, false, false, false, false, false, false, false, false, false, false, false, false, false, false, false] rfl rfl (by kernel_rfl) (fun _ _ _ h => h) (Or.inl ⟨by rfl, ?_⟩) ?_ ?_
    rotate_left
    · intro w'
      go_simp
      with_reducible rfl
    rotate_left
    · simp only [Act.put, List.setIfInBounds_toArray, List.set_cons_zero, List.set_cons_succ, i64_w, i32_w]
      rfl
    refine pure_ (i := 1) (N := some 12) (v := ?_) (a' := ?_) #[true, true, false, false, false, false, false, false, false, false, false, false, false, false, false, false, false] rfl rfl (by kernel_rfl) (fun _ _ _ h => h) (Or.inl ⟨by rfl, ?_⟩) ?_ ?_
    rotate_left
    · intro w'
      go_simp
      with_reducible rfl
    rotate_left
    · simp only [Act.put, List.setIfInBounds_toArray, List.set_cons_zero, List.set_cons_succ, i64_w, i32_w]
      rfl
    refine pure_ (i := 2) (N := some 13) (v := ?_) (a' := ?_) #[true, true, true, false, false, false, false, false, false, false, false, false, false, false, false, false, false] rfl rfl (by kernel_rfl) (fun _ _ _ h => h) (Or.inl ⟨by rfl, ?_⟩) ?_ ?_
    rotate_left
    · intro w'
      go_simp
      with_reducible rfl
    rotate_left
    · simp only [Act.put, List.setIfInBounds_toArray, List.set_cons_zero, List.set_cons_succ, i64_w, i32_w]
      rfl
    refine pure_ (i := 4) (N := some 15) (v := ?_) (a' := ?_) #[true, true, true, false, true, false, false, false, false, false, false, false, false, false, false, false, false] rfl rfl (by kernel_rfl) (fun _ _ _ h => h) (Or.inl ⟨by rfl, ?_⟩) ?_ ?_
    rotate_left
    · intro w'
      go_simp
      with_reducible rfl
    rotate_left
    · simp only [Act.put, List.setIfInBounds_toArray, List.set_cons_zero, List.set_cons_succ, i64_w, i32_w]
      rfl
    refine pure_ (i := 5) (N := some 16) (v := ?_) (a' := ?_) #[true, true, true, false, true, true, false, false, false, false, false, false, false, false, false, false, false] rfl rfl (by kernel_rfl) (fun _ _ _ h => h) (Or.inl ⟨by rfl, ?_⟩) ?_ ?_
    rotate_left
    · intro w'
      go_simp
      with_reducible rfl
    rotate_left
    · simp only [Act.put, List.setIfInBounds_toArray, List.set_cons_zero, List.set_cons_succ, i64_w, i32_w]
      rfl
    refine pure_ (i := 6) (N := some 17) (v := ?_) (a' := ?_) #[true, true, true, false, true, true, true, false, false, false, false, false, false, false, false, false, false] rfl rfl (by kernel_rfl) (fun _ _ _ h => h) (Or.inl ⟨by rfl, ?_⟩) ?_ ?_
    rotate_left
    · intro w'
      go_simp
      with_reducible rfl
    rotate_left
    · simp only [Act.put, List.setIfInBounds_toArray, List.set_cons_zero, List.set_cons_succ, i64_w, i32_w]
      rfl
    refine pure_ (i := 7) (N := some 18) (v := ?_) (a' := ?_) #[true, true, true, false, true, true, true, true, false, false, false, false, false, false, false, false, false] rfl rfl (by kernel_rfl) (fun _ _ _ h => h) (Or.inl ⟨by rfl, ?_⟩) ?_ ?_
    rotate_left
    · intro w'
      go_simp
      with_reducible rfl
    rotate_left
    · simp only [Act.put, List.setIfInBounds_toArray, List.set_cons_zero, List.set_cons_succ, i64_w, i32_w]
      rfl
    refine take_ (i := 3) (N := some 14) (v := ?_) (a' := ?_) #[true, true, true, true, true, true, true, true, false, false, false, false, false, false, false, false, false] rfl rfl (by kernel_rfl) (fun _ _ _ h => h) (Or.inl ⟨by rfl, ?_⟩) hHeld ?_ ?_
    rotate_left
    · rintro w' ⟨s0, s1⟩
      go_simp
      with_reducible rfl
    rotate_left
    · simp only [Act.put, List.setIfInBounds_toArray, List.set_cons_zero, List.set_cons_succ, i64_w, i32_w]
      rfl
    refine take_ (i := 8) (N := some 19) (v := ?_) (a' := ?_) #[true, true, true, true, true, true, true, true, true, false, false, false, false, false, false, false, false] rfl rfl (by kernel_rfl) (fun _ _ _ h => h) (Or.inl ⟨by rfl, ?_⟩) hHeld ?_ ?_
    rotate_left
    · rintro w' ⟨s0, s1⟩
      go_simp
      with_reducible rfl
    rotate_left
    · simp only [Act.put, List.setIfInBounds_toArray, List.set_cons_zero, List.set_cons_succ, i64_w, i32_w]
      rfl
    refine two_ (i := 9) (j := 14) (Ni := some 20) (Nj := some 5) #[true, true, true, true, true, true, true, true, true, true, false, false, false, false, false, false, false] #[true, true, true, true, true, true, true, true, true, false, false, false, false, false, true, false, false] rfl rfl rfl rfl (by kernel_rfl) (by decide) (by decide) (fun K hK => ?_) (fun K hK => ?_)
    · skip
      refine goes_ Try.func76 (by kernel_rfl) rfl #[.slice A l.length c, .slice aS s.length cS] (by rfl) rfl rfl (by simp only [List.map_toArray, List.map_cons, List.map_nil] <;> rfl) ?_
      refine (hWd.out _ (hl.below hbw) (hs.below hbw)).mono ?_
      rintro e wn ⟨A2, c2, rfl, hr2, hbn⟩
      refine ⟨_, rfl, ?_⟩
      replace hbw := bl_step hbw hbn
      clear hbn
      clear hHeld
      refine hK.out _ _ ⟨(blk_cell (bl_block hbw hkl) 0 (by rfl)), (blk_cell (bl_block hbw hkl) 1 (by rfl))⟩ (fun hHeld => ?_)
      clear hK K
      refine norm_ (a' := ?_) ?_ ?_
      rotate_left
      · show Act.put _ (some 20) _ = _
        simp only [Act.put, List.setIfInBounds_toArray, List.set_cons_zero, List.set_cons_succ, i64_w, i32_w]
        rfl
      refine two_ (i := 10) (j := 14) (Ni := some 21) (Nj := some 5) #[true, true, true, true, true, true, true, true, true, true, true, false, false, false, false, false, false] #[true, true, true, true, true, true, true, true, true, true, false, false, false, false, true, false, false] rfl rfl rfl rfl (by kernel_rfl) (by decide) (by decide) (fun K hK => ?_) (fun K hK => ?_)
      · skip
        refine goes_ Try.func21 (by kernel_rfl) rfl #[.pointer (some ⟨g, 0, none⟩), .slice A2 (wideL l s).length c2] (by rfl) rfl rfl (by simp only [List.map_toArray, List.map_cons, List.map_nil] <;> rfl) ?_
        refine (hCm.out _ A2 c2 (hkit.below hbw) hr2).mono ?_
        rintro e wn ⟨rfl, hbn⟩
        refine ⟨_, rfl, ?_⟩
        replace hbw := bl_step hbw hbn
        clear hbn hr2
        clear hHeld
        refine hK.out _ _ ⟨(blk_cell (bl_block hbw hkl) 0 (by rfl)), (blk_cell (bl_block hbw hkl) 1 (by rfl))⟩ (fun hHeld => ?_)
        clear hK K
        refine norm_ (a' := ?_) ?_ ?_
        rotate_left
        · show Act.put _ (some 21) _ = _
          simp only [Act.put, List.setIfInBounds_toArray, List.set_cons_zero, List.set_cons_succ, i64_w, i32_w]
          rfl
        refine pure_ (i := 11) (N := some 10) (v := ?_) (a' := ?_) #[true, true, true, true, true, true, true, true, true, true, true, true, false, false, false, false, false] rfl rfl (by kernel_rfl) (fun _ _ _ h => h) (Or.inl ⟨by rfl, ?_⟩) ?_ ?_
        rotate_left
        · intro w'
          go_simp
          with_reducible rfl
        rotate_left
        · simp only [Act.put, List.setIfInBounds_toArray, List.set_cons_zero, List.set_cons_succ, i64_w, i32_w]
          rfl
        refine pure_ (i := 12) (N := some 22) (v := ?_) (a' := ?_) #[true, true, true, true, true, true, true, true, true, true, true, true, true, false, false, false, false] rfl rfl (by kernel_rfl) (fun _ _ _ h => h) (Or.inl ⟨by rfl, ?_⟩) ?_ ?_
        rotate_left
        · intro w'
          go_simp
          with_reducible rfl
        rotate_left
        · simp only [Act.put, List.setIfInBounds_toArray, List.set_cons_zero, List.set_cons_succ, i64_w, i32_w]
          rfl
        refine pure_ (i := 13) (N := some 23) (v := ?_) (a' := ?_) #[true, true, true, true, true, true, true, true, true, true, true, true, true, true, false, false, false] rfl rfl (by kernel_rfl) (fun _ _ _ h => h) (Or.inl ⟨by rfl, ?_⟩) ?_ ?_
        rotate_left
        · intro w'
          go_simp
          with_reducible rfl
        rotate_left
        · simp only [Act.put, List.setIfInBounds_toArray, List.set_cons_zero, List.set_cons_succ, i64_w, i32_w]
          rfl
        refine one_ (i := 14) (N := some 5) #[true, true, true, true, true, true, true, true, true, true, true, true, true, true, true, false, false] rfl rfl (by kernel_rfl) (by decide) (fun K hK => ?_)
        refine value_ (w1 := wn.alloc (.cells #[.int .i64 0, .int .i64 0] 25)) (v := .pointer (some ⟨wn.heap.size, 0, none⟩)) (by rfl) rfl ?_ ?_
        · go_simp
          try rfl
        have hk_14 : (wn.alloc (.cells #[.int .i64 0, .int .i64 0] 25)).heap[wn.heap.size]? = some (.cells #[.int .i64 0, .int .i64 0] 25 (0, 0)) := blk_new wn _
        have hle_14 : w0.heap.size ≤ wn.heap.size := hbw.size
        replace hbw := bl_alloc hbw (.cells #[.int .i64 0, .int .i64 0] 25)
        generalize wn.heap.size = g14 at *
        generalize wn.alloc (.cells #[.int .i64 0, .int .i64 0] 25) = wn at *
        clear hHeld
        refine hK.out _ _ ⟨(blk_cell (bl_block hbw hkl) 0 (by rfl)), (blk_cell (bl_block hbw hkl) 1 (by rfl))⟩ (fun hHeld => ?_)
        clear hK K
        refine norm_ (a' := ?_) ?_ ?_
        rotate_left
        · show Act.put _ (some 5) _ = _
          simp only [Act.put, List.setIfInBounds_toArray, List.set_cons_zero, List.set_cons_succ, i64_w, i32_w]
          rfl
        revert hHeld
        revert c2
        revert A2
        revert hle_14
        revert hk_14
        revert hbw
        revert g14
        revert wn
        exact Bx.out hJ0
      · skip
        refine value_ (w1 := wn.alloc (.cells #[.int .i64 0, .int .i64 0] 25)) (v := .pointer (some ⟨wn.heap.size, 0, none⟩)) (by rfl) rfl ?_ ?_
        · go_simp
          try rfl
        have hk_14 : (wn.alloc (.cells #[.int .i64 0, .int .i64 0] 25)).heap[wn.heap.size]? = some (.cells #[.int .i64 0, .int .i64 0] 25 (0, 0)) := blk_new wn _
        have hle_14 : w0.heap.size ≤ wn.heap.size := hbw.size
        replace hbw := bl_alloc hbw (.cells #[.int .i64 0, .int .i64 0] 25)
        replace hr2 := hr2.below (bl_alloc (Below.refl wn.heap.size wn) (.cells #[.int .i64 0, .int .i64 0] 25))
        generalize wn.heap.size = g14 at *
        generalize wn.alloc (.cells #[.int .i64 0, .int .i64 0] 25) = wn at *
        clear hHeld
        refine hK.out _ _ ⟨(blk_cell (bl_block hbw hkl) 0 (by rfl)), (blk_cell (bl_block hbw hkl) 1 (by rfl))⟩ (fun hHeld => ?_)
        clear hK K
        refine norm_ (a' := ?_) ?_ ?_
        rotate_left
        · show Act.put _ (some 5) _ = _
          simp only [Act.put, List.setIfInBounds_toArray, List.set_cons_zero, List.set_cons_succ, i64_w, i32_w]
          rfl
        revert hHeld
        revert hr2
        revert c2
        revert A2
        revert hle_14
        revert hk_14
        revert hbw
        revert g14
        revert wn
        exact Bx.out hJ1
    · skip
      refine value_ (w1 := wn.alloc (.cells #[.int .i64 0, .int .i64 0] 25)) (v := .pointer (some ⟨wn.heap.size, 0, none⟩)) (by rfl) rfl ?_ ?_
      · go_simp
        try rfl
      have hk_14 : (wn.alloc (.cells #[.int .i64 0, .int .i64 0] 25)).heap[wn.heap.size]? = some (.cells #[.int .i64 0, .int .i64 0] 25 (0, 0)) := blk_new wn _
      have hle_14 : w0.heap.size ≤ wn.heap.size := hbw.size
      replace hbw := bl_alloc hbw (.cells #[.int .i64 0, .int .i64 0] 25)
      generalize wn.heap.size = g14 at *
      generalize wn.alloc (.cells #[.int .i64 0, .int .i64 0] 25) = wn at *
      clear hHeld
      refine hK.out _ _ ⟨(blk_cell (bl_block hbw hkl) 0 (by rfl)), (blk_cell (bl_block hbw hkl) 1 (by rfl))⟩ (fun hHeld => ?_)
      clear hK K
      refine norm_ (a' := ?_) ?_ ?_
      rotate_left
      · show Act.put _ (some 5) _ = _
        simp only [Act.put, List.setIfInBounds_toArray, List.set_cons_zero, List.set_cons_succ, i64_w, i32_w]
        rfl
      refine one_ (i := 9) (N := some 20) #[true, true, true, true, true, true, true, true, true, true, false, false, false, false, true, false, false] rfl rfl (by kernel_rfl) (by decide) (fun K hK => ?_)
      refine goes_ Try.func76 (by kernel_rfl) rfl #[.slice A l.length c, .slice aS s.length cS] (by rfl) rfl rfl (by simp only [List.map_toArray, List.map_cons, List.map_nil] <;> rfl) ?_
      refine (hWd.out _ (hl.below hbw) (hs.below hbw)).mono ?_
      rintro e wn ⟨A2, c2, rfl, hr2, hbn⟩
      refine ⟨_, rfl, ?_⟩
      replace hk_14 := bl_block hbn hk_14
      replace hbw := bl_step hbw hbn
      clear hbn
      clear hHeld
      refine hK.out _ _ ⟨(blk_cell (bl_block hbw hkl) 0 (by rfl)), (blk_cell (bl_block hbw hkl) 1 (by rfl))⟩ (fun hHeld => ?_)
      clear hK K
      refine norm_ (a' := ?_) ?_ ?_
      rotate_left
      · show Act.put _ (some 20) _ = _
        simp only [Act.put, List.setIfInBounds_toArray, List.set_cons_zero, List.set_cons_succ, i64_w, i32_w]
        rfl
      revert hHeld
      revert hr2
      revert c2
      revert A2
      revert hle_14
      revert hk_14
      revert hbw
      revert g14
      revert wn
      exact Bx.out hJ1
  · intro wn g14 hbw hk_14 hle_14 A2 c2 hr2 hHeld
    refine one_ (i := 10) (N := some 21) #[true, true, true, true, true, true, true, true, true, true, true, false, false, false, true, false, false] rfl rfl (by kernel_rfl) (by decide) (fun K hK => ?_)
    refine goes_ Try.func21 (by kernel_rfl) rfl #[.pointer (some ⟨g, 0, none⟩), .slice A2 (wideL l s).length c2] (by rfl) rfl rfl (by simp only [List.map_toArray, List.map_cons, List.map_nil] <;> rfl) ?_
    refine (hCm.out _ A2 c2 (hkit.below hbw) hr2).mono ?_
    rintro e wn ⟨rfl, hbn⟩
    refine ⟨_, rfl, ?_⟩
    replace hk_14 := bl_block hbn hk_14
    replace hbw := bl_step hbw hbn
    clear hbn hr2
    clear hHeld
    refine hK.out _ _ ⟨(blk_cell (bl_block hbw hkl) 0 (by rfl)), (blk_cell (bl_block hbw hkl) 1 (by rfl))⟩ (fun hHeld => ?_)
    clear hK K
    refine norm_ (a' := ?_) ?_ ?_
    rotate_left
    · show Act.put _ (some 21) _ = _
      simp only [Act.put, List.setIfInBounds_toArray, List.set_cons_zero, List.set_cons_succ, i64_w, i32_w]
      rfl
    refine pure_ (i := 11) (N := some 10) (v := ?_) (a' := ?_) #[true, true, true, true, true, true, true, true, true, true, true, true, false, false, true, false, false] rfl rfl (by kernel_rfl) (fun _ _ _ h => h) (Or.inl ⟨by rfl, ?_⟩) ?_ ?_
    rotate_left
    · intro w'
      go_simp
      with_reducible rfl
    rotate_left
    · simp only [Act.put, List.setIfInBounds_toArray, List.set_cons_zero, List.set_cons_succ, i64_w, i32_w]
      rfl
    refine pure_ (i := 12) (N := some 22) (v := ?_) (a' := ?_) #[true, true, true, true, true, true, true, true, true, true, true, true, true, false, true, false, false] rfl rfl (by kernel_rfl) (fun _ _ _ h => h) (Or.inl ⟨by rfl, ?_⟩) ?_ ?_
    rotate_left
    · intro w'
      go_simp
      with_reducible rfl
    rotate_left
    · simp only [Act.put, List.setIfInBounds_toArray, List.set_cons_zero, List.set_cons_succ, i64_w, i32_w]
      rfl
    refine pure_ (i := 13) (N := some 23) (v := ?_) (a' := ?_) #[true, true, true, true, true, true, true, true, true, true, true, true, true, true, true, false, false] rfl rfl (by kernel_rfl) (fun _ _ _ h => h) (Or.inl ⟨by rfl, ?_⟩) ?_ ?_
    rotate_left
    · intro w'
      go_simp
      with_reducible rfl
    rotate_left
    · simp only [Act.put, List.setIfInBounds_toArray, List.set_cons_zero, List.set_cons_succ, i64_w, i32_w]
      rfl
    revert hHeld
    revert c2
    revert A2
    revert hle_14
    revert hk_14
    revert hbw
    revert g14
    revert wn
    exact Bx.out hJ0
  · intro wn g14 hbw hk_14 hle_14 A2 c2 hHeld
    refine one_ (i := 15) (N := none) #[true, true, true, true, true, true, true, true, true, true, true, true, true, true, true, true, false] rfl rfl (by kernel_rfl) (by decide) (fun K hK => ?_)
    have m_ := blk_two hk_14
    refine skip_ (w1 := (wn.setCell ⟨g14, 0, none⟩ (.int .i64 cl)).setCell ⟨g14, 1, none⟩ (.int .i64 ch)) (by rfl) rfl ?_ ?_
    · go_simp
      try rfl
    clear m_
    replace hk_14 := blk_put2 hk_14 (.int .i64 cl) (.int .i64 ch)
    replace hbw := bl_set (bl_set hbw (p := ⟨g14, 0, none⟩) hle_14 (.int .i64 cl)) (p := ⟨g14, 1, none⟩) hle_14 (.int .i64 ch)
    generalize (wn.setCell ⟨g14, 0, none⟩ (.int .i64 cl)).setCell ⟨g14, 1, none⟩ (.int .i64 ch) = wn at *
    clear hHeld
    refine hK.out _ _ ⟨(blk_cell (bl_block hbw hkl) 0 (by rfl)), (blk_cell (bl_block hbw hkl) 1 (by rfl))⟩ (fun hHeld => ?_)
    clear hK K
    refine pure_ (i := 16) (N := some 6) (v := ?_) (a' := ?_) #[true, true, true, true, true, true, true, true, true, true, true, true, true, true, true, true, true] rfl rfl (by kernel_rfl) (fun _ _ _ h => h) (Or.inl ⟨by rfl, ?_⟩) ?_ ?_
    rotate_left
    · intro w'
      go_simp
      with_reducible rfl
    rotate_left
    · simp only [Act.put, List.setIfInBounds_toArray, List.set_cons_zero, List.set_cons_succ, i64_w, i32_w]
      rfl
    refine done_ (by kernel_rfl) ?_
    cases cok
    · go_wp2
      go_ret
      exact ⟨rfl, by rw [← hw0.out]; exact hbw⟩
    clear hHeld hbwW hle_14 hWd hCm
    obtain ⟨W6, hW6⟩ : ∃ z : World, z = wn := ⟨_, rfl⟩
    subst hW6
    go_upto_region 6 with fail
    have hk_g14 := hk_14
    clear hk_14
    replace hk_g14 := blk_drew hk_g14
    replace hbw := bl_drew hbw
    refine start_ (n := 12) (S := fun w' => w'.cell? ⟨g14, 0, none⟩ = some (.int .i64 cl) ∧ w'.cell? ⟨g14, 1, none⟩ = some (.int .i64 ch) ∧ w'.cell? ⟨gl, 0, none⟩ = some (.pointer (some ⟨g, 0, none⟩))) (ds := []) #[false, false, false, false, false, false, false, false, false, false, false, false] (by kernel_rfl) rfl rfl ⟨(blk_cell hk_g14 0 (by rfl)), (blk_cell hk_g14 1 (by rfl)), (blk_cell (bl_block hbw hkl) 0 (by rfl))⟩ (fun hHeld => ?_)
    generalize W6.drew = wn at *
    refine pure_ (i := 0) (N := some 27) (v := ?_) (a' := ?_) #[true, false, false, false, false, false, false, false, false, false, false, false] rfl rfl (by kernel_rfl) (fun _ _ _ h => h) (Or.inl ⟨by rfl, ?_⟩) ?_ ?_
    rotate_left
    · intro w'
      go_simp
      with_reducible rfl
    rotate_left
    · simp only [Act.put, List.setIfInBounds_toArray, List.set_cons_zero, List.set_cons_succ, i64_w, i32_w]
      rfl
    refine pure_ (i := 1) (N := some 28) (v := ?_) (a' := ?_) #[true, true, false, false, false, false, false, false, false, false, false, false] rfl rfl (by kernel_rfl) (fun _ _ _ h => h) (Or.inl ⟨by rfl, ?_⟩) ?_ ?_
    rotate_left
    · intro w'
      go_simp
      with_reducible rfl
    rotate_left
    · simp only [Act.put, List.setIfInBounds_toArray, List.set_cons_zero, List.set_cons_succ, i64_w, i32_w]
      rfl
    refine pure_ (i := 2) (N := some 29) (v := ?_) (a' := ?_) #[true, true, true, false, false, false, false, false, false, false, false, false] rfl rfl (by kernel_rfl) (fun _ _ _ h => h) (Or.inl ⟨by rfl, ?_⟩) ?_ ?_
    rotate_left
    · intro w'
      go_simp
      with_reducible rfl
    rotate_left
    · simp only [Act.put, List.setIfInBounds_toArray, List.set_cons_zero, List.set_cons_succ, i64_w, i32_w]
      rfl
    refine pure_ (i := 5) (N := some 32) (v := ?_) (a' := ?_) #[true, true, true, false, false, true, false, false, false, false, false, false] rfl rfl (by kernel_rfl) (fun _ _ _ h => h) (Or.inl ⟨by rfl, ?_⟩) ?_ ?_
    rotate_left
    · intro w'
      go_simp
      with_reducible rfl
    rotate_left
    · simp only [Act.put, List.setIfInBounds_toArray, List.set_cons_zero, List.set_cons_succ, i64_w, i32_w]
      rfl
    refine take_ (i := 3) (N := some 30) (v := ?_) (a' := ?_) #[true, true, true, true, false, true, false, false, false, false, false, false] rfl rfl (by kernel_rfl) (fun _ _ _ h => h) (Or.inl ⟨by rfl, ?_⟩) hHeld ?_ ?_
    rotate_left
    · rintro w' ⟨s0, s1, s2⟩
      go_simp
      with_reducible rfl
    rotate_left
    · simp only [Act.put, List.setIfInBounds_toArray, List.set_cons_zero, List.set_cons_succ, i64_w, i32_w]
      rfl
    refine take_ (i := 4) (N := some 31) (v := ?_) (a' := ?_) #[true, true, true, true, true, true, false, false, false, false, false, false] rfl rfl (by kernel_rfl) (fun _ _ _ h => h) (Or.inl ⟨by rfl, ?_⟩) hHeld ?_ ?_
    rotate_left
    · rintro w' ⟨s0, s1, s2⟩
      go_simp
      with_reducible rfl
    rotate_left
    · simp only [Act.put, List.setIfInBounds_toArray, List.set_cons_zero, List.set_cons_succ, i64_w, i32_w]
      rfl
    refine one_ (i := 6) (N := some 33) #[true, true, true, true, true, true, true, false, false, false, false, false] rfl rfl (by kernel_rfl) (by decide) (fun K hK => ?_)
    refine goes_ Try.func20 (by kernel_rfl) rfl #[.pointer (some ⟨g, 0, none⟩), .agg #[.int .i64 cl, .int .i64 ch], .slice A l.length c] (by rfl) rfl rfl (by simp only [List.map_toArray, List.map_cons, List.map_nil] <;> rfl) ?_
    refine (hRe.out _ (hkit.below hbw) (hl.below hbw)).mono ?_
    rintro e wn ⟨A3, c3, rfl, hr3, hbn⟩
    refine ⟨_, rfl, ?_⟩
    replace hk_g14 := bl_block hbn hk_g14
    replace hbw := bl_step hbw hbn
    clear hbn
    clear hHeld
    refine hK.out _ _ ⟨(blk_cell hk_g14 0 (by rfl)), (blk_cell hk_g14 1 (by rfl)), (blk_cell (bl_block hbw hkl) 0 (by rfl))⟩ (fun hHeld => ?_)
    clear hK K
    refine norm_ (a' := ?_) ?_ ?_
    rotate_left
    · show Act.put _ (some 33) _ = _
      simp only [Act.put, List.setIfInBounds_toArray, List.set_cons_zero, List.set_cons_succ, i64_w, i32_w]
      rfl
    refine pure_ (i := 7) (N := some 26) (v := ?_) (a' := ?_) #[true, true, true, true, true, true, true, true, false, false, false, false] rfl rfl (by kernel_rfl) (fun _ _ _ h => h) (Or.inl ⟨by rfl, ?_⟩) ?_ ?_
    rotate_left
    · intro w'
      go_simp
      with_reducible rfl
    rotate_left
    · simp only [Act.put, List.setIfInBounds_toArray, List.set_cons_zero, List.set_cons_succ, i64_w, i32_w]
      rfl
    refine pure_ (i := 8) (N := some 34) (v := ?_) (a' := ?_) #[true, true, true, true, true, true, true, true, true, false, false, false] rfl rfl (by kernel_rfl) (fun _ _ _ h => h) (Or.inl ⟨by rfl, ?_⟩) ?_ ?_
    rotate_left
    · intro w'
      go_simp
      with_reducible rfl
    rotate_left
    · simp only [Act.put, List.setIfInBounds_toArray, List.set_cons_zero, List.set_cons_succ, i64_w, i32_w]
      rfl
    refine pure_ (i := 9) (N := some 35) (v := ?_) (a' := ?_) #[true, true, true, true, true, true, true, true, true, true, false, false] rfl rfl (by kernel_rfl) (fun _ _ _ h => h) (Or.inl ⟨by rfl, ?_⟩) ?_ ?_
    rotate_left
    · intro w'
      go_simp
      with_reducible rfl
    rotate_left
    · simp only [Act.put, List.setIfInBounds_toArray, List.set_cons_zero, List.set_cons_succ, i64_w, i32_w]
      rfl
    refine pure_ (i := 10) (N := some 7) (v := ?_) (a' := ?_) #[true, true, true, true, true, true, true, true, true, true, true, false] rfl rfl (by kernel_rfl) (fun _ _ _ h => h) (Or.inl ⟨by rfl, ?_⟩) ?_ ?_
    rotate_left
    · intro w'
      go_simp
      with_reducible rfl
    rotate_left
    · simp only [Act.put, List.setIfInBounds_toArray, List.set_cons_zero, List.set_cons_succ, i64_w, i32_w]
      rfl
    refine pure_ (i := 11) (N := some 6) (v := ?_) (a' := ?_) #[true, true, true, true, true, true, true, true, true, true, true, true] rfl rfl (by kernel_rfl) (fun _ _ _ h => h) (Or.inl ⟨by rfl, ?_⟩) ?_ ?_
    rotate_left
    · intro w'
      go_simp
      with_reducible rfl
    rotate_left
    · simp only [Act.put, List.setIfInBounds_toArray, List.set_cons_zero, List.set_cons_succ, i64_w, i32_w]
      rfl
    refine done_ (by kernel_rfl) ?_
    have y0 : wn.cell? ⟨gl, 0, none⟩ = some (.pointer (some ⟨g, 0, none⟩)) := blk_cell (bl_block hbw hkl) 0 (by rfl)
    clear hHeld hk_g14
    cases rok
    · go_wp2
      go_ret
      exact ⟨rfl, by rw [← hw0.out]; exact hbw⟩
    · go_wp2_with fail
      refine (hWi.out _ A3 c3 (hkit.below hbw) hr3).mono ?_
      rintro e w9 ⟨rfl, hb9⟩
      replace hbw := bl_step hbw hb9
      go_wp2
      go_ret
      exact ⟨by simp, by rw [← hw0.out]; exact hbw⟩
end Go.Proofs.Ythdaidmjjcmccaa
set_option linter.unusedVariables false
set_option linter.unusedSimpArgs false
namespace Go.Pk
open Go.RowKit
def wU (s : Sp) : Int := (s.hi - s.lo) % 18446744073709551616
theorem wU_eq {s : Sp} (h : s.lo ≤ s.hi) (hi : InSp s) : wU s = wideN s := by unfold wU wideN; unfold InSp at hi; omega
def splitA (l : List Sp) : List Sp := match splitP l with | none => [] | some q => q.1
def splitB (l : List Sp) : List Sp := match splitP l with | none => [] | some q => q.2
def splitO (l : List Sp) : Bool := (splitP l).isSome
theorem halves_in {s : Sp} (h : InSp s) : InSp (halvesS s).1 ∧ InSp (halvesS s).2 := by
  unfold halvesS InSp at *
  split
  · simp
  · split
    · exact ⟨h, by simp⟩
    · refine ⟨⟨by simp only []; omega, by simp only []; omega⟩, ⟨by simp only []; omega, by simp only []; omega⟩⟩
theorem split_in {l a b : List Sp} (hs : splitP l = some (a, b)) (h : InS l) : InS a ∧ InS b := by
  obtain ⟨h0, h1, k, hk, h2, rfl, rfl⟩ := split_some hs
  have hh := halves_in (h.one k)
  refine ⟨fun s hs => ?_, fun s hs => ?_⟩
  · rcases List.mem_or_eq_of_mem_set hs with hs | rfl
    · exact h s hs
    · exact hh.1
  · rcases List.mem_or_eq_of_mem_set hs with hs | rfl
    · exact h s hs
    · exact hh.2
end Go.Pk
namespace Go.Proofs.Ythdaidmjjcmccaa
open Go.RowKit Go.Pk Go.Proofs.YthdaidmjjcmccaaW.PrintLast
theorem goesT_ {P : Program} {ops : Array Oper} {Q : Exit → Act → World → Prop} {oi : Oper} {N : Option Tmp} {a : Act} {w : World} {K : Act → World → Prop} {f : FuncId} {fn : Func} {t : Tmp} {as_ : Array Operand} {ts : Array TypeId} (hf : P.funcs[f]? = some fn) (hname : (fn.name == "runtime.NumGoroutine") = false) (hb : fn.body.isSome = true) (args : Array Value)
    (hw : Region.wanted oi (yielded ops a.tmps) = true) (hN : oi.dst = N) (hop : oi.op = .call { callee := .value (.tmp t), args := as_, argTypes := ts }) (ht : a.tmps.getD t undef = .func (.func f) #[] #[]) (hargs : as_.map a.eval = args)
    (h : Calls P f args w fun e w' => ∃ v, e = .returned v ∧ K (a.put N v) w') : if Region.wanted oi (yielded ops a.tmps) = true then Oper.wp P oi a w K Q else K (a.put N undef) w := by
  refine call_ f args hw hN ?_ h
  have he := enters_ hf hname hb args w
  have h1 : a.tmps[t]?.getD undef = .func (.func f) #[] #[] := by simpa using ht
  unfold execOp
  simp [hop, resolve, Deferred.ofValue, invoke, Act.eval, hargs, he, h1]
theorem sw_calls (a b : Int) (w : World) : Calls Try.prog 73 #[.agg #[.int .i64 (a), .int .i64 (b)]] w fun e w' => e = .returned (.int .u64 (wU ⟨a, b⟩)) ∧ Below w.heap.size w w' := by
  have hbA := bl_alloc (Below.refl w.heap.size w) (.cells #[.int .i64 a, .int .i64 b] 25)
  have hW : wU ⟨a, b⟩ = IntKind.u64.wrap (IntKind.u64.wrap b - IntKind.u64.wrap a) := by unfold wU; simp only [IntKind.wrap_u64]; omega
  rw [hW]
  clear hW
  go_enter Try.func73, Try.ntmps73
  go_wp2
  go_ret
  exact ⟨rfl, hbA⟩
set_option maxHeartbeats 8000000 in
set_option maxRecDepth 100000 in
theorem Split_calls (gl : Nat) (p : Pl) (s : List Int) (A : Option Addr) (l : List Sp) (c : Nat) (w : World) (hk : LkAt w gl 51 116 p s) (hl : RdS w A l) (hil : InS l) (hsm : l.length ≤ 1000000) :
    Calls Try.prog 28 #[.pointer (some ⟨gl, 0, none⟩), .slice A l.length c] w fun e w' => ∃ A1 c1 A2 c2, e = .returned (.tuple #[.slice A1 (splitA l).length c1, .slice A2 (splitB l).length c2, .bool (splitO l)]) ∧ RdS w' A1 (splitA l) ∧ RdS w' A2 (splitB l) ∧ Below w.heap.size w w' ∧ (∀ a, A1 = some a → w.heap.size ≤ a.block) ∧ ∀ a, A2 = some a → w.heap.size ≤ a.block := by
  have hNo := hidI (none_look gl p s w hk)
  have hE := hidI (fun W (h : RdS W A l) => ContainsS_calls A l c W h)
  clear hk
  by_cases h0 : l.length = 0
  · have hn : splitP l = none := by unfold splitP; rw [if_pos (Or.inl h0)]
    have d0 : ((l.length : Int) == 0) = true := by simp [h0]
    have e1 : splitA l = [] := by unfold splitA; rw [hn]
    have e2 : splitB l = [] := by unfold splitB; rw [hn]
    have e3 : splitO l = false := by unfold splitO; rw [hn]; rfl
    rw [e1, e2, e3]
    clear e1 e2 e3 hn hE
    replace h0 := hidI h0
    go_enter Try.func28, Try.ntmps28
    go_wp2_with fail
    refine hNo.out.mono ?_
    rintro e w1 ⟨rfl, hw1⟩
    subst hw1
    go_wp2
    go_ret3
    exact ⟨none, 0, none, 0, rfl, ⟨by simp, RdC.nil _ _⟩, ⟨by simp, RdC.nil _ _⟩, Below.refl _ _, (fun a h => (by cases h)), (fun a h => (by cases h))⟩
  have d0 : ((l.length : Int) == 0) = false := by simp [h0]
  cases hem : l.any emptyB
  rotate_left
  · have hn : splitP l = none := by unfold splitP; rw [if_pos (Or.inr hem)]
    have e1 : splitA l = [] := by unfold splitA; rw [hn]
    have e2 : splitB l = [] := by unfold splitB; rw [hn]
    have e3 : splitO l = false := by unfold splitO; rw [hn]; rfl
    rw [e1, e2, e3]
    rw [hem] at hE
    clear e1 e2 e3 hn hem
    replace h0 := hidI h0
    go_enter Try.func28, Try.ntmps28
    go_wp2_with fail
    refine hNo.out.mono ?_
    rintro e w1 ⟨rfl, hw1⟩
    subst hw1
    go_wp2_with fail
    refine (hE.out _ hl).mono ?_
    rintro e w2 ⟨rfl, hb2⟩
    go_wp2
    go_ret3
    exact ⟨none, 0, none, 0, rfl, ⟨by simp, RdC.nil _ _⟩, ⟨by simp, RdC.nil _ _⟩, hb2, (fun a h => (by cases h)), (fun a h => (by cases h))⟩
  have hne := empty_any.1 hem
  have hpos : 0 < l.length := by omega
  have hsp : splitP l = if wideN (l.getD (argW l l.length) ⟨0, 0⟩) = 0 then none else some (l.set (argW l l.length) (halvesS (l.getD (argW l l.length) ⟨0, 0⟩)).1, l.set (argW l l.length) (halvesS (l.getD (argW l l.length) ⟨0, 0⟩)).2) := by
    unfold splitP; rw [if_neg (fun e => by rcases e with e | e; exact h0 e; rw [hem] at e; cases e)]
  have hwU : ∀ j, j < l.length → wU (l.getD j ⟨0, 0⟩) = wideN (l.getD j ⟨0, 0⟩) := fun j hj => wU_eq (hne j hj) (hil.one j)
  have harg : ∀ m, m ≤ l.length → argW l m < l.length := argW_lt l hpos
  have hstep : ∀ m, argW l (m + 1) = if wideN (l.getD (argW l m) ⟨0, 0⟩) < wideN (l.getD m ⟨0, 0⟩) then m else argW l m := fun m => rfl
  rw [hem] at hE
  replace hsp := hidI hsp
  replace hwU := hidI hwU
  replace harg := hidI harg
  replace hstep := hidI hstep
  replace h0 := hidI h0
  clear hem hne
  obtain ⟨w0, hw0⟩ : ∃ z : World, z = w := ⟨_, rfl⟩
  have hbw : Below w0.heap.size w0 w := by rw [hw0]; exact Below.refl _ _
  rw [← hw0] at hl
  replace hw0 := hidI hw0
  go_enter Try.func28, Try.ntmps28
  go_wp2_with fail
  refine hNo.out.mono ?_
  rintro e w1 ⟨rfl, hw1⟩
  subst hw1
  go_wp2_with fail
  refine (hE.out _ (hl.below hbw)).mono ?_
  rintro e w2 ⟨rfl, hb2⟩
  replace hbw := bl_step hbw hb2
  clear hb2 hE hNo d0
  go_upto_region 6 with fail
  go_loopw [8, 9, 10, 26] (fun a v9 v10 y wr => ∃ i : Nat, i ≤ l.length ∧ y = .int .i64 i ∧ a = .int .i64 (argW l i : Nat) ∧ Below w0.heap.size w0 wr) (fun _ _ _ y _ => (l.length - intOf y).toNat)
  case atStart => exact ⟨0, by omega, rfl, rfl, hbw⟩
  case round =>
    clear hbw
    obtain ⟨i, hi, rfl, rfl, hbw⟩ := hrel
    by_cases hlt : i < l.length
    · have hd : decide ((i : Int) < (l.length : Int)) = true := decide_eq_true (by omega)
      have hat := harg.out i hi
      have hst := hidI (hstep.out i)
      have hw1 := hidI (hwU.out i hlt)
      have hw2 := hidI (hwU.out _ hat)
      generalize argW l i = at_ at *
      obtain ⟨b1, o1, rfl, hc1, hc2⟩ := hl.at hlt
      obtain ⟨b2, o2, hbb, hc3, hc4⟩ := hl.at hat
      injection hbb with hbb
      injection hbb with hb_ ho_
      subst hb_ ho_
      obtain ⟨⟨sl, sh⟩, hsj⟩ : ∃ z, l.getD i ⟨0, 0⟩ = z := ⟨_, rfl⟩
      obtain ⟨⟨tl, th⟩, htj⟩ : ∃ z, l.getD at_ ⟨0, 0⟩ = z := ⟨_, rfl⟩
      rw [hsj] at hc1 hc2 hw1 hst
      rw [htj] at hc3 hc4 hw2 hst
      rw [← hw1.out, ← hw2.out] at hst
      simp only [] at hc1 hc2 hc3 hc4
      have hA1 := hidI (fun W => sw_calls sl sh W)
      have hA2 := hidI (fun W => sw_calls tl th W)
      obtain ⟨ws, hws⟩ : ∃ z, wU ⟨sl, sh⟩ = z := ⟨_, rfl⟩
      obtain ⟨wt, hwt⟩ : ∃ z, wU ⟨tl, th⟩ = z := ⟨_, rfl⟩
      rw [hws] at hA1 hst
      rw [hwt] at hA2 hst
      clear hsj htj hw1 hw2 hws hwt
      have yc1 := bl_cell hbw hc1
      have yc2 := bl_cell hbw hc2
      go_upto_region 8 with fail
      have hk_g10 := blk_new wr (.cells #[.int .i64 sl, .int .i64 sh] 25)
      have hbA := bl_alloc (Below.refl wr.heap.size wr) (.cells #[.int .i64 sl, .int .i64 sh] 25)
      replace hbw := bl_step hbw hbA
      clear hbA yc1 yc2
      generalize wr.alloc (.cells #[.int .i64 sl, .int .i64 sh] 25) = Wa at *
      generalize wr.heap.size = g10 at *
      replace hk_g10 := blk_drew hk_g10
      replace hbw := bl_drew hbw
      refine start_ (n := 10) (S := fun w' => w'.cell? ⟨g10, 0, none⟩ = some (.int .i64 sl) ∧ w'.cell? ⟨g10, 1, none⟩ = some (.int .i64 sh) ∧ w'.cell? ⟨b1, o1 + at_ * 2, none⟩ = some (.int .i64 tl) ∧ w'.cell? ⟨b1, o1 + at_ * 2 + 1, none⟩ = some (.int .i64 th)) (ds := []) #[false, false, false, false, false, false, false, false, false, false] (by kernel_rfl) rfl rfl ⟨(blk_cell hk_g10 0 (by rfl)), (blk_cell hk_g10 1 (by rfl)), (bl_cell hbw hc3), (bl_cell hbw hc4)⟩ (fun hHeld => ?_)
      generalize Wa.drew = wn at *
      refine pure_ (i := 0) (N := some 31) (v := ?_) (a' := ?_) #[true, false, false, false, false, false, false, false, false, false] rfl rfl (by kernel_rfl) (fun _ _ _ h => h) (Or.inl ⟨by rfl, ?_⟩) ?_ ?_
      rotate_left
      · intro w'
        go_simp
        with_reducible rfl
      rotate_left
      · simp only [Act.put, List.setIfInBounds_toArray, List.set_cons_zero, List.set_cons_succ, i64_w, i32_w]
        rfl
      refine pure_ (i := 3) (N := some 34) (v := ?_) (a' := ?_) #[true, false, false, true, false, false, false, false, false, false] rfl rfl (by kernel_rfl) (fun _ _ _ h => h) (Or.inl ⟨by rfl, ?_⟩) ?_ ?_
      rotate_left
      · intro w'
        go_simp
        with_reducible rfl
      rotate_left
      · simp only [Act.put, List.setIfInBounds_toArray, List.set_cons_zero, List.set_cons_succ, i64_w, i32_w]
        rfl
      refine pure_ (i := 4) (N := some 35) (v := ?_) (a' := ?_) #[true, false, false, true, true, false, false, false, false, false] rfl rfl (by kernel_rfl) (fun _ _ _ h => h) (Or.inl ⟨by rfl, ?_⟩) ?_ ?_
      rotate_left
      · intro w'
        go_simp
        with_reducible rfl
      rotate_left
      · simp only [Act.put, List.setIfInBounds_toArray, List.set_cons_zero, List.set_cons_succ, i64_w, i32_w]
        rfl
      refine pure_ (i := 5) (N := some 36) (v := ?_) (a' := ?_) #[true, false, false, true, true, true, false, false, false, false] rfl rfl (by kernel_rfl) (fun _ _ _ h => h) (Or.inl ⟨by rfl, ?_⟩) ?_ ?_
      rotate_left
      · intro w'
        go_simp
        with_reducible rfl
      rotate_left
      · simp only [Act.put, List.setIfInBounds_toArray, List.set_cons_zero, List.set_cons_succ, i64_w, i32_w]
        rfl
      refine pure_ (i := 6) (N := some 37) (v := ?_) (a' := ?_) #[true, false, false, true, true, true, true, false, false, false] rfl rfl (by kernel_rfl) (fun _ _ _ h => h) (Or.inl ⟨by rfl, ?_⟩) ?_ ?_
      rotate_left
      · intro w'
        go_simp
        with_reducible rfl
      rotate_left
      · simp only [Act.put, List.setIfInBounds_toArray, List.set_cons_zero, List.set_cons_succ, i64_w, i32_w]
        rfl
      refine take_ (i := 1) (N := some 32) (v := ?_) (a' := ?_) #[true, true, false, true, true, true, true, false, false, false] rfl rfl (by kernel_rfl) (fun _ _ _ h => h) (Or.inl ⟨by rfl, ?_⟩) hHeld ?_ ?_
      rotate_left
      · rintro w' ⟨s0, s1, s2, s3⟩
        go_simp
        with_reducible rfl
      rotate_left
      · simp only [Act.put, List.setIfInBounds_toArray, List.set_cons_zero, List.set_cons_succ, i64_w, i32_w]
        rfl
      refine take_ (i := 7) (N := some 38) (v := ?_) (a' := ?_) #[true, true, false, true, true, true, true, true, false, false] rfl rfl (by kernel_rfl) (fun _ _ _ h => h) (Or.inl ⟨by rfl, ?_⟩) hHeld ?_ ?_
      rotate_left
      · rintro w' ⟨s0, s1, s2, s3⟩
        go_simp
        with_reducible rfl
      rotate_left
      · simp only [Act.put, List.setIfInBounds_toArray, List.set_cons_zero, List.set_cons_succ, i64_w, i32_w]
        rfl
      refine one_ (i := 2) (N := some 33) #[true, true, true, true, true, true, true, true, false, false] rfl rfl (by kernel_rfl) (by decide) (fun K hK => ?_)
      refine goesT_ Try.func73 (by kernel_rfl) rfl #[.agg #[.int .i64 sl, .int .i64 sh]] (by rfl) rfl rfl (by rfl) (by simp only [List.map_toArray, List.map_cons, List.map_nil] <;> rfl) ?_
      refine (hA1.out _).mono ?_
      rintro e wn ⟨rfl, hbn⟩
      refine ⟨_, rfl, ?_⟩
      replace hk_g10 := bl_block hbn hk_g10
      replace hbw := bl_step hbw hbn
      clear hbn
      clear hHeld
      refine hK.out _ _ ⟨(blk_cell hk_g10 0 (by rfl)), (blk_cell hk_g10 1 (by rfl)), (bl_cell hbw hc3), (bl_cell hbw hc4)⟩ (fun hHeld => ?_)
      clear hK K
      refine norm_ (a' := ?_) ?_ ?_
      rotate_left
      · show Act.put _ (some 33) _ = _
        simp only [Act.put, List.setIfInBounds_toArray, List.set_cons_zero, List.set_cons_succ, i64_w, i32_w]
        rfl
      refine one_ (i := 8) (N := some 39) #[true, true, true, true, true, true, true, true, true, false] rfl rfl (by kernel_rfl) (by decide) (fun K hK => ?_)
      refine goesT_ Try.func73 (by kernel_rfl) rfl #[.agg #[.int .i64 tl, .int .i64 th]] (by rfl) rfl rfl (by rfl) (by simp only [List.map_toArray, List.map_cons, List.map_nil] <;> rfl) ?_
      refine (hA2.out _).mono ?_
      rintro e wn ⟨rfl, hbn⟩
      refine ⟨_, rfl, ?_⟩
      replace hk_g10 := bl_block hbn hk_g10
      replace hbw := bl_step hbw hbn
      clear hbn
      clear hHeld
      refine hK.out _ _ ⟨(blk_cell hk_g10 0 (by rfl)), (blk_cell hk_g10 1 (by rfl)), (bl_cell hbw hc3), (bl_cell hbw hc4)⟩ (fun hHeld => ?_)
      clear hK K
      refine norm_ (a' := ?_) ?_ ?_
      rotate_left
      · show Act.put _ (some 39) _ = _
        simp only [Act.put, List.setIfInBounds_toArray, List.set_cons_zero, List.set_cons_succ, i64_w, i32_w]
        rfl
      refine pure_ (i := 9) (N := some 40) (v := ?_) (a' := ?_) #[true, true, true, true, true, true, true, true, true, true] rfl rfl (by kernel_rfl) (fun _ _ _ h => h) (Or.inl ⟨by rfl, ?_⟩) ?_ ?_
      rotate_left
      · intro w'
        go_simp
        with_reducible rfl
      rotate_left
      · simp only [Act.put, List.setIfInBounds_toArray, List.set_cons_zero, List.set_cons_succ, i64_w, i32_w]
        rfl
      refine done_ (by kernel_rfl) ?_
      have hb64 : ((i : Int) + 1) ≤ 9223372036854775807 := by omega
      clear hHeld hk_g10 hA1 hA2 hc1 hc2 hc3 hc4
      obtain ⟨bg, hbg⟩ : ∃ z, Hid (decide (wt < ws) = z) := ⟨_, rfl⟩
      rw [hbg.out]
      cases bg
      rotate_left
      · have hs1 := hst.out
        rw [if_pos (of_decide_eq_true hbg.out)] at hs1
        replace hs1 := hidI hs1
        clear hst
        go_wp2
        go_roundw
        case rel => exact ⟨i + 1, by omega, by go_num, by rw [hs1.out], hbw⟩
        case measure => simp [intOf]; omega
      · have hs1 := hst.out
        rw [if_neg (of_decide_eq_false hbg.out)] at hs1
        replace hs1 := hidI hs1
        clear hst
        go_wp2
        go_roundw
        case rel => exact ⟨i + 1, by omega, by go_num, by rw [hs1.out], hbw⟩
        case measure => simp [intOf]; omega
    · have hie : i = l.length := by omega
      subst hie
      have hd : decide ((l.length : Int) < (l.length : Int)) = false := decide_eq_false (by omega)
      have hat := harg.out _ (Nat.le_refl _)
      have hsp2 := hsp.out
      have hw2 := hwU.out _ hat
      clear harg hsp hwU hstep
      generalize argW l l.length = at_ at *
      have htin := hidI (hil.one at_)
      have hCl := hidI (fun W (h : RdS W A l) => CloneS_own A l c W h hsm)
      obtain ⟨b2, o2, rfl, hc3, hc4⟩ := hl.at hat
      obtain ⟨⟨tl, th⟩, htj⟩ : ∃ z, l.getD at_ ⟨0, 0⟩ = z := ⟨_, rfl⟩
      rw [htj] at hc3 hc4 hw2 hsp2 htin
      simp only [] at hc3 hc4
      rw [← hw2] at hsp2
      have hA2 := hidI (fun W => sw_calls tl th W)
      have hHv := hidI (fun W => Halves_calls tl th W htin.out.1.1 htin.out.2.2 htin.out.2.1 htin.out.1.2)
      obtain ⟨wt, hwt⟩ : ∃ z, wU ⟨tl, th⟩ = z := ⟨_, rfl⟩
      rw [hwt] at hA2 hsp2
      clear hwt hw2 htj
      have yc3 := bl_cell hbw hc3
      have yc4 := bl_cell hbw hc4
      by_cases hz : wt = 0
      · subst hz
        rw [if_pos rfl] at hsp2
        have e1 : splitA l = [] := by unfold splitA; rw [hsp2]
        have e2 : splitB l = [] := by unfold splitB; rw [hsp2]
        have e3 : splitO l = false := by unfold splitO; rw [hsp2]; rfl
        replace e1 := hidI (And.intro e1 (And.intro e2 e3))
        clear hsp2 e2 e3
        go_wp2_with fail
        refine (hA2.out _).mono ?_
        rintro e w3 ⟨rfl, hb3⟩
        replace hbw := bl_step hbw hb3
        go_wp2
        go_ret3
        rw [e1.out.1, e1.out.2.1, e1.out.2.2, ← hw0.out]
        exact ⟨none, 0, none, 0, rfl, ⟨by simp, RdC.nil _ _⟩, ⟨by simp, RdC.nil _ _⟩, hbw, (fun a h => (by cases h)), (fun a h => (by cases h))⟩
      · have dz : (wt == 0) = false := by simp [hz]
        rw [if_neg hz] at hsp2
        obtain ⟨⟨⟨p0, p1⟩, ⟨q0, q1⟩⟩, hhv⟩ : ∃ z, halvesS ⟨tl, th⟩ = z := ⟨_, rfl⟩
        rw [hhv] at hHv hsp2
        simp only [] at hHv hsp2
        clear hhv
        replace hsp2 := hidI hsp2
        replace hz := hidI hz
        go_wp2_with fail
        refine (hA2.out _).mono ?_
        rintro e w3 ⟨rfl, hb3⟩
        replace hbw := bl_step hbw hb3
        clear yc3 yc4 hb3 hA2
        go_wp2_with fail
        refine (hCl.out _ (hl.below hbw)).mono ?_
        rintro e w4 ⟨v1, rfl, ho1, hb4⟩
        have hle1 := hbw.size
        replace hbw := bl_step hbw hb4
        obtain ⟨A1, c1, rfl, -, -, -, -⟩ := own_rdC ho1
        obtain ⟨g1, hg1, rfl⟩ := own_some ho1 (by omega)
        have hg1l := (own_lt ho1 g1 rfl).2
        clear hb4
        go_wp2_with fail
        refine (hCl.out _ (hl.below hbw)).mono ?_
        rintro e w5 ⟨v2, rfl, ho2, hb5⟩
        replace ho1 := own_below ho1 hb5
        replace hbw := bl_step hbw hb5
        obtain ⟨A2, c2, rfl, -, -, -, -⟩ := own_rdC ho2
        obtain ⟨g2, hg2, rfl⟩ := own_some ho2 (by omega)
        clear hb5 hCl
        have yc3 := bl_cell hbw hc3
        have yc4 := bl_cell hbw hc4
        go_wp2_with fail
        refine (hHv.out _).mono ?_
        rintro e w6 ⟨rfl, hb6⟩
        replace ho1 := own_below ho1 hb6
        replace ho2 := own_below ho2 hb6
        replace hbw := bl_step hbw hb6
        clear hb6 hHv yc3 yc4 hc3 hc4
        have n12 : g1 ≠ g2 := by omega
        have n21 : g2 ≠ g1 := by omega
        have m1 := own_spanAt ho1 at_ hat
        have m2 := own_spanAt ho2 at_ hat
        have z1 := own_froz ho1 (at_ * 2)
        have z2 := own_froz ho1 (at_ * 2 + 1)
        have z3 := own_froz ho2 (at_ * 2)
        have z4 := own_froz ho2 (at_ * 2 + 1)
        have x1 : w0.heap.size ≤ g1 := by omega
        have x2 : w0.heap.size ≤ g2 := by omega
        clear hle1 hg1 hg2 hg1l
        go_wp2
        go_ret3
        have r1 := own_set (own_set (own_setIdx (own_setIdx ho1 (i := at_ * 2) (by omega) (.int .i64 p0)) (i := at_ * 2 + 1) (by omega) (.int .i64 p1)) (a := ⟨g2, at_ * 2, none⟩) (fun e => n21 (by simpa [Value.ownBlock] using e)) (.int .i64 q0)) (a := ⟨g2, at_ * 2 + 1, none⟩) (fun e => n21 (by simpa [Value.ownBlock] using e)) (.int .i64 q1)
        have r2 := own_setIdx (own_setIdx (own_set (own_set ho2 (a := ⟨g1, at_ * 2, none⟩) (fun e => n12 (by simpa [Value.ownBlock] using e)) (.int .i64 p0)) (a := ⟨g1, at_ * 2 + 1, none⟩) (fun e => n12 (by simpa [Value.ownBlock] using e)) (.int .i64 p1)) (i := at_ * 2) (by omega) (.int .i64 q0)) (i := at_ * 2 + 1) (by omega) (.int .i64 q1)
        have e1 : splitA l = l.set at_ ⟨p0, p1⟩ := by unfold splitA; rw [hsp2.out]
        have e2 : splitB l = l.set at_ ⟨q0, q1⟩ := by unfold splitB; rw [hsp2.out]
        have e3 : splitO l = true := by unfold splitO; rw [hsp2.out]; rfl
        rw [e1, e2, e3, List.length_set, List.length_set, ← hw0.out]
        obtain ⟨B1, k1, hv1, -, hr1, hn1, -⟩ := own_rdC r1
        injection hv1 with hv1 hv1b hv1c
        subst hv1
        obtain ⟨B2, k2, hv2, -, hr2, hn2, -⟩ := own_rdC r2
        injection hv2 with hv2 hv2b hv2c
        subst hv2
        exact ⟨_, _, _, _, rfl, ⟨by rw [List.length_set]; exact hn1, by rw [encS_set]; exact hr1⟩, ⟨by rw [List.length_set]; exact hn2, by rw [encS_set]; exact hr2⟩, bl_set (bl_set (bl_set (bl_set hbw (p := ⟨g1, at_ * 2, none⟩) x1 _) (p := ⟨g1, at_ * 2 + 1, none⟩) x1 _) (p := ⟨g2, at_ * 2, none⟩) x2 _) (p := ⟨g2, at_ * 2 + 1, none⟩) x2 _, (fun a h => (by injection h with h; rw [← h]; exact x1)), (fun a h => (by injection h with h; rw [← h]; exact x2))⟩
end Go.Proofs.Ythdaidmjjcmccaa
