/- Proved here: lemmas and contracts (what a function of the program computes) that the proofs of the laws of this seat lean on. Conditions: as each theorem states. -/
import Derived.Test.YtggididnclfahaaV11
set_option linter.unusedVariables false
set_option linter.unusedSimpArgs false
namespace Go.Proofs.Ytggididnclfahaa
open Go.RowKit Go.Pk Go.Pk.Vt Go.Proofs.YtggididnclfahaaW.PrintLast
theorem enc1 (l : List Int) : ∀ u ∈ Go.Pk.encI l, u.oneCell' = true := by
  intro u hu
  unfold Go.Pk.encI at hu
  obtain ⟨_, _, rfl⟩ := List.mem_map.1 hu
  rfl
theorem encLen (l : List Int) : (Go.Pk.encI l).length = l.length := by unfold Go.Pk.encI; simp
theorem encPut (a b : List Int) (x : Int) : Go.Pk.encI a ++ Go.Pk.encI [x] ++ Go.Pk.encI b = Go.Pk.encI (a ++ x :: b) := by simp [Go.Pk.encI]
set_option maxHeartbeats 16000000 in
set_option maxRecDepth 100000 in
theorem refMid_calls (l : List Int) (A0 : Option Addr) (c0 : Nat) (w0 : World) (hl0 : RdI w0 A0 l) (hlen : l.length ≤ 60) :
    Calls Try.prog 12 #[.slice A0 l.length c0] w0 fun e w' => e = .returned (.int .i64 (midL l)) ∧ Below w0.heap.size w0 w' := by
  have hbw := Below.refl w0.heap.size w0
  by_cases h1 : l.length = 0
  · have d : ((l.length : Int) == 0) = true := by simp [h1]
    have n : (l.length == 0) = true := by simp [h1]
    have hm : Hid (midL l = 0) := by show _ = _; rw [List.eq_nil_of_length_eq_zero h1]; unfold midL sortI; simp
    obtain ⟨m, hm2⟩ : ∃ m, midL l = m := ⟨_, rfl⟩
    rw [hm2] at hm ⊢
    clear hm2 h1
    go_enter Try.func12, Try.ntmps12
    go_wp2
    go_ret
    exact ⟨by rw [hm.out]; rfl, hbw⟩
  have d : ((l.length : Int) == 0) = false := by simpa using h1
  have n : (l.length == 0) = false := by simpa using h1
  have hlp : 1 ≤ l.length := by omega
  obtain ⟨mm, hmm⟩ : ∃ mm, midL l = mm := ⟨_, rfl⟩
  replace hmm := hidI hmm
  rw [hmm.out]
  clear h1
  go_enter Try.func12, Try.ntmps12
  go_wp2
  go_loopw [3, 4] (fun x3 x4 wr => ∃ (i : Nat) (out : List Int) (A : Option Addr) (c : Nat), i ≤ l.length ∧ out.length = i ∧ x4 = .int .i64 i ∧ x3 = .slice A i c ∧ i ≤ c ∧ Below w0.heap.size w0 wr ∧ Hid (RdI wr A out) ∧ Hid (out.Pairwise (· ≤ ·) ∧ out.Perm (l.take i))) (fun _ x4 _ => (l.length - intOf x4).toNat)
  case atStart => exact ⟨0, [], none, 0, by omega, rfl, rfl, rfl, by omega, hbw, ⟨by simp, RdC.nil _ _⟩, by simp, by simp⟩
  case round =>
    clear hbw
    obtain ⟨i, out, A, c, hi, hol, rfl, rfl, hic, hbw, hO, hP⟩ := hrel
    replace hol := hidI hol
    by_cases hil : i < l.length
    · have dd : decide ((i : Int) < (l.length : Int)) = true := decide_eq_true (by omega)
      have nd : decide (i < l.length) = true := decide_eq_true hil
      have hb64 : ((i : Int) + 1) ≤ 9223372036854775807 := by omega
      obtain ⟨b0, o0, rfl, cx⟩ := hl0.at (i := i) hil
      obtain ⟨x, hx⟩ : ∃ q, l.getD i 0 = q := ⟨_, rfl⟩
      rw [hx] at cx
      replace hx := hidI hx
      obtain ⟨V, hV⟩ : ∃ V, V = wr := ⟨_, rfl⟩
      subst hV
      have hbV := Below.refl V.heap.size V
      have cx2 := bl_cell hbw cx
      go_wp2
      go_loopw [5] (fun x5 wi => ∃ k : Nat, k ≤ i ∧ x5 = .int .i64 k ∧ Below V.heap.size V wi ∧ Hid (∀ j, j < k → out.getD j 0 ≤ x)) (fun x5 _ => (i - intOf x5).toNat)
      case atStart => exact ⟨0, by omega, rfl, hbV, fun j hj => absurd hj (by omega)⟩
      case round =>
        clear hbV
        obtain ⟨k, hki, rfl, hbV, hlo⟩ := hrel
        have cx3 := bl_cell hbV cx2
        by_cases hkl : k < i
        · have dk : decide ((k : Int) < (i : Int)) = true := decide_eq_true (by omega)
          have nk : decide (k < i) = true := decide_eq_true hkl
          have hb65 : ((k : Int) + 1) ≤ 9223372036854775807 := by omega
          obtain ⟨b1, o1, rfl, cy⟩ := hO.out.at (i := k) (by rw [hol.out]; exact hkl)
          have cy2 := bl_cell hbV cy
          obtain ⟨y, hy⟩ : ∃ q, out.getD k 0 = q := ⟨_, rfl⟩
          rw [hy] at cy2
          clear cy
          replace hy := hidI hy
          by_cases hyx : y ≤ x
          · have dy : decide (y ≤ x) = true := decide_eq_true hyx
            have hlo2 : Hid (∀ j, j < k + 1 → out.getD j 0 ≤ x) := fun j hj => by
              by_cases hjk : j < k
              · exact hlo.out j hjk
              · obtain rfl : j = k := by omega
                rw [hy.out]; exact hyx
            clear hyx
            go_wp2
            go_region
            go_wp2
            go_roundw
            case rel => exact ⟨k + 1, by omega, by go_num, bl_drew hbV, hlo2.out⟩
            case measure => simp [intOf]; omega
          · have dy : decide (y ≤ x) = false := decide_eq_false hyx
            have hhi : Hid (k < out.length → x < out.getD k 0) := fun _ => by rw [hy.out]; omega
            clear hyx
            go_wp2
            go_region
            go_upto_region 10 with fail
            have hbw0 := hbw
            clear hbw
            have hbw := bl_drew hbV
            clear hbV
            have cx4 := cx2
            clear cx3
            generalize wr.drew = W5 at *
            obtain ⟨Aq, hAq⟩ : ∃ q : Option Addr, q = (some ⟨b1, o1, none⟩) := ⟨_, rfl⟩
            rw [← hAq] at hO ⊢
            clear hAq
            have sl1 := sl_hi Aq i c k (by omega)
            have sl2 := sl_lo Aq i c k hki
            have hOt := hidI (rdI_take k hO.out)
            have hOd := rdI_drop (c := c) (k := k) hO.out (by rw [hol.out]; exact hki) (by rw [hol.out]; exact hic)
            obtain ⟨A9, hA9⟩ : ∃ q, dropA Aq c k = q := ⟨_, rfl⟩
            obtain ⟨dk, hdk⟩ : ∃ q, i - k = q := ⟨_, rfl⟩
            obtain ⟨ck, hck⟩ : ∃ q, c - k = q := ⟨_, rfl⟩
            have hl1 : (Go.Pk.encI (out.take k)).length = k * 1 := by rw [encLen, List.length_take, hol.out]; omega
            have hl2 : (Go.Pk.encI (out.drop k)).length = dk * 1 := by rw [encLen, List.length_drop, hol.out]; omega
            have hsum : k + 1 + dk = i + 1 := by omega
            rw [hA9, hdk, hck] at sl2
            rw [hA9] at hOd
            replace hOd := hidI hOd
            have hdk2 : dk ≤ 60 := by omega
            clear hA9 hdk hck
            apply cutB
            intro hJ0
            · skip
              replace hbw := bl_drew hbw
              refine start_ (n := 15) (S := fun w' => w'.cell? ⟨b0, o0 + i, none⟩ = some (.int .i64 x)) (ds := []) #[false, false, false, false, false, false, false, false, false, false, false, false, false, false, false] (by kernel_rfl) rfl rfl ((bl_cell hbw cx4)) (fun hHeld => ?_)
              generalize W5.drew = wn at *
              refine pure_ (i := 0) (N := some 32) (v := ?_) (a' := ?_) #[true, false, false, false, false, false, false, false, false, false, false, false, false, false, false] rfl rfl (by kernel_rfl) (fun _ _ _ h => h) (Or.inl ⟨by rfl, ?_⟩) ?_ ?_
              rotate_left
              · intro w'
                go_simp
                with_reducible rfl
              rotate_left
              · simp only [Act.put, List.setIfInBounds_toArray, List.set_cons_zero, List.set_cons_succ, i64_w, i32_w]
                rfl
              refine pure_ (i := 1) (N := some 33) (v := ?_) (a' := ?_) #[true, true, false, false, false, false, false, false, false, false, false, false, false, false, false] rfl rfl (by kernel_rfl) (fun _ _ _ h => h) (Or.inl ⟨by rfl, ?_⟩) ?_ ?_
              rotate_left
              · intro w'
                go_simp
                with_reducible rfl
              rotate_left
              · simp only [Act.put, List.setIfInBounds_toArray, List.set_cons_zero, List.set_cons_succ, i64_w, i32_w]
                rfl
              refine pure_ (i := 2) (N := some 34) (v := ?_) (a' := ?_) #[true, true, true, false, false, false, false, false, false, false, false, false, false, false, false] rfl rfl (by kernel_rfl) (fun _ _ _ h => h) (Or.inl ⟨by rfl, ?_⟩) ?_ ?_
              rotate_left
              · intro w'
                go_simp
                with_reducible rfl
              rotate_left
              · simp only [Act.put, List.setIfInBounds_toArray, List.set_cons_zero, List.set_cons_succ, i64_w, i32_w]
                rfl
              refine pure_ (i := 4) (N := some 36) (v := ?_) (a' := ?_) #[true, true, true, false, true, false, false, false, false, false, false, false, false, false, false] rfl rfl (by kernel_rfl) (fun _ _ _ h => h) (Or.inl ⟨by rfl, ?_⟩) ?_ ?_
              rotate_left
              · intro w'
                go_simp
                with_reducible rfl
              rotate_left
              · simp only [Act.put, List.setIfInBounds_toArray, List.set_cons_zero, List.set_cons_succ, i64_w, i32_w]
                rfl
              refine pure_ (i := 5) (N := some 37) (v := ?_) (a' := ?_) #[true, true, true, false, true, true, false, false, false, false, false, false, false, false, false] rfl rfl (by kernel_rfl) (fun _ _ _ h => h) (Or.inl ⟨by rfl, ?_⟩) ?_ ?_
              rotate_left
              · intro w'
                go_simp
                with_reducible rfl
              rotate_left
              · simp only [Act.put, List.setIfInBounds_toArray, List.set_cons_zero, List.set_cons_succ, i64_w, i32_w]
                rfl
              refine pure_ (i := 6) (N := some 38) (v := ?_) (a' := ?_) #[true, true, true, false, true, true, true, false, false, false, false, false, false, false, false] rfl rfl (by kernel_rfl) (fun _ _ _ h => h) (Or.inl ⟨by rfl, ?_⟩) ?_ ?_
              rotate_left
              · intro w'
                go_simp
                with_reducible rfl
              rotate_left
              · simp only [Act.put, List.setIfInBounds_toArray, List.set_cons_zero, List.set_cons_succ, i64_w, i32_w]
                rfl
              refine pure_ (i := 10) (N := some 42) (v := ?_) (a' := ?_) #[true, true, true, false, true, true, true, false, false, false, true, false, false, false, false] rfl rfl (by kernel_rfl) (fun _ _ _ h => h) (Or.inl ⟨by rfl, ?_⟩) ?_ ?_
              rotate_left
              · intro w'
                go_simp
                with_reducible rfl
              rotate_left
              · simp only [Act.put, List.setIfInBounds_toArray, List.set_cons_zero, List.set_cons_succ, i64_w, i32_w]
                rfl
              refine pure_ (i := 11) (N := some 43) (v := ?_) (a' := ?_) #[true, true, true, false, true, true, true, false, false, false, true, true, false, false, false] rfl rfl (by kernel_rfl) (fun _ _ _ h => h) (Or.inl ⟨by rfl, ?_⟩) ?_ ?_
              rotate_left
              · intro w'
                go_simp
                with_reducible rfl
              rotate_left
              · simp only [Act.put, List.setIfInBounds_toArray, List.set_cons_zero, List.set_cons_succ, i64_w, i32_w]
                rfl
              refine pure_ (i := 12) (N := some 44) (v := ?_) (a' := ?_) #[true, true, true, false, true, true, true, false, false, false, true, true, true, false, false] rfl rfl (by kernel_rfl) (fun _ _ _ h => h) (Or.inl ⟨by rfl, ?_⟩) ?_ ?_
              rotate_left
              · intro w'
                go_simp
                with_reducible rfl
              rotate_left
              · simp only [Act.put, List.setIfInBounds_toArray, List.set_cons_zero, List.set_cons_succ, i64_w, i32_w]
                rfl
              refine take_ (i := 7) (N := some 39) (v := ?_) (a' := ?_) #[true, true, true, false, true, true, true, true, false, false, true, true, true, false, false] rfl rfl (by kernel_rfl) (fun _ _ _ h => h) (Or.inl ⟨by rfl, ?_⟩) hHeld ?_ ?_
              rotate_left
              · intro w' s0
                go_simp
                with_reducible rfl
              rotate_left
              · simp only [Act.put, List.setIfInBounds_toArray, List.set_cons_zero, List.set_cons_succ, i64_w, i32_w]
                rfl
              refine two_ (i := 3) (j := 8) (Ni := some 35) (Nj := some 40) #[true, true, true, true, true, true, true, true, false, false, true, true, true, false, false] #[true, true, true, false, true, true, true, true, true, false, true, true, true, false, false] rfl rfl rfl rfl (by kernel_rfl) (by decide) (by decide) (fun K hK => ?_) (fun K hK => ?_)
              · skip
                have hnil : wn.ownsRow V.heap.size 3 1 (.slice none 0 0) 0 [] := World.ownsRow_nil _ _ _ _
                obtain ⟨v2, w2, hrun, ho2, hg2, -⟩ := run_appRd (P := Try.prog) wn V.heap.size 22 22 3 _ 1 _ Try.underlying22 infoI18 (by rfl) (by omega) (.slice none 0 0) 0 [] hnil Aq k c (Go.Pk.encI (out.take k)) hl1 (hOt.out.below hbw).2 (enc1 _) (by omega) (by omega) hbw.size
                rw [Nat.zero_add, List.nil_append] at ho2
                obtain ⟨A3, c3, rfl, hc3, hr_A3, hn_, -⟩ := own_rdC ho2
                clear hn_
                refine value_ (w1 := w2) (v := .slice A3 (k) c3) (by rfl) rfl (exec_app (.const (.slice none 0 0)) (.tmp 34) 22 (by rfl) (by rfl) (by rfl) hrun) ?_
                replace hbw := bl_grown hbw hg2 (fun k_ hk_ => (own_lt hnil k_ hk_).1)
                have ho3 := ho2
                clear ho2 hg2 hrun hnil hr_A3 hc3
                generalize w2 = wn at *
                clear hHeld
                refine hK.out _ _ ((bl_cell hbw cx4)) (fun hHeld => ?_)
                clear hK K
                refine norm_ (a' := ?_) ?_ ?_
                rotate_left
                · show Act.put _ (some 35) _ = _
                  simp only [Act.put, List.setIfInBounds_toArray, List.set_cons_zero, List.set_cons_succ, i64_w, i32_w]
                  rfl
                refine one_ (i := 8) (N := some 40) #[true, true, true, true, true, true, true, true, true, false, true, true, true, false, false] rfl rfl (by kernel_rfl) (by decide) (fun K hK => ?_)
                refine value_ (w1 := wn.alloc (.cells #[.int .i64 x] 3)) (v := .slice (some ⟨wn.heap.size, 0, none⟩) 1 1) (by rfl) rfl ?_ ?_
                · go_simp
                  try rfl
                have hk_8 : (wn.alloc (.cells #[.int .i64 x] 3)).heap[wn.heap.size]? = some (.cells #[.int .i64 x] 3 (0, 0)) := blk_new wn _
                have hle_8 : V.heap.size ≤ wn.heap.size := hbw.size
                replace hbw := bl_alloc hbw (.cells #[.int .i64 x] 3)
                replace ho3 := own_alloc ho3 (.cells #[.int .i64 x] 3)
                generalize wn.heap.size = g8 at *
                generalize wn.alloc (.cells #[.int .i64 x] 3) = wn at *
                clear hHeld
                refine hK.out _ _ ((bl_cell hbw cx4)) (fun hHeld => ?_)
                clear hK K
                refine norm_ (a' := ?_) ?_ ?_
                rotate_left
                · show Act.put _ (some 40) _ = _
                  simp only [Act.put, List.setIfInBounds_toArray, List.set_cons_zero, List.set_cons_succ, i64_w, i32_w]
                  rfl
                revert hHeld
                revert ho3
                revert c3
                revert A3
                revert hle_8
                revert hk_8
                revert hbw
                revert g8
                revert wn
                exact Bx.out hJ0
              · skip
                refine value_ (w1 := wn.alloc (.cells #[.int .i64 x] 3)) (v := .slice (some ⟨wn.heap.size, 0, none⟩) 1 1) (by rfl) rfl ?_ ?_
                · go_simp
                  try rfl
                have hk_8 : (wn.alloc (.cells #[.int .i64 x] 3)).heap[wn.heap.size]? = some (.cells #[.int .i64 x] 3 (0, 0)) := blk_new wn _
                have hle_8 : V.heap.size ≤ wn.heap.size := hbw.size
                replace hbw := bl_alloc hbw (.cells #[.int .i64 x] 3)
                generalize wn.heap.size = g8 at *
                generalize wn.alloc (.cells #[.int .i64 x] 3) = wn at *
                clear hHeld
                refine hK.out _ _ ((bl_cell hbw cx4)) (fun hHeld => ?_)
                clear hK K
                refine norm_ (a' := ?_) ?_ ?_
                rotate_left
                · show Act.put _ (some 40) _ = _
                  simp only [Act.put, List.setIfInBounds_toArray, List.set_cons_zero, List.set_cons_succ, i64_w, i32_w]
                  rfl
                refine one_ (i := 3) (N := some 35) #[true, true, true, true, true, true, true, true, true, false, true, true, true, false, false] rfl rfl (by kernel_rfl) (by decide) (fun K hK => ?_)
                have hnil : wn.ownsRow V.heap.size 3 1 (.slice none 0 0) 0 [] := World.ownsRow_nil _ _ _ _
                obtain ⟨v2, w2, hrun, ho2, hg2, -⟩ := run_appRd (P := Try.prog) wn V.heap.size 22 22 3 _ 1 _ Try.underlying22 infoI18 (by rfl) (by omega) (.slice none 0 0) 0 [] hnil Aq k c (Go.Pk.encI (out.take k)) hl1 (hOt.out.below hbw).2 (enc1 _) (by omega) (by omega) hbw.size
                rw [Nat.zero_add, List.nil_append] at ho2
                obtain ⟨A3, c3, rfl, hc3, hr_A3, hn_, -⟩ := own_rdC ho2
                clear hn_
                refine value_ (w1 := w2) (v := .slice A3 (k) c3) (by rfl) rfl (exec_app (.const (.slice none 0 0)) (.tmp 34) 22 (by rfl) (by rfl) (by rfl) hrun) ?_
                replace hbw := bl_grown hbw hg2 (fun k_ hk_ => (own_lt hnil k_ hk_).1)
                have ho3 := ho2
                replace hk_8 := blk_grown hk_8 hg2 (fun e => by cases e)
                clear ho2 hg2 hrun hnil hr_A3 hc3
                generalize w2 = wn at *
                clear hHeld
                refine hK.out _ _ ((bl_cell hbw cx4)) (fun hHeld => ?_)
                clear hK K
                refine norm_ (a' := ?_) ?_ ?_
                rotate_left
                · show Act.put _ (some 35) _ = _
                  simp only [Act.put, List.setIfInBounds_toArray, List.set_cons_zero, List.set_cons_succ, i64_w, i32_w]
                  rfl
                revert hHeld
                revert ho3
                revert c3
                revert A3
                revert hle_8
                revert hk_8
                revert hbw
                revert g8
                revert wn
                exact Bx.out hJ0
            · intro wn g8 hbw hk_8 hle_8 A3 c3 ho3 hHeld
              refine one_ (i := 9) (N := some 41) #[true, true, true, true, true, true, true, true, true, true, true, true, true, false, false] rfl rfl (by kernel_rfl) (by decide) (fun K hK => ?_)
              obtain ⟨v2, w2, hrun, ho2, hg2, -⟩ := run_appRd (P := Try.prog) wn V.heap.size 22 22 3 _ 1 _ Try.underlying22 infoI18 (by rfl) (by omega) (.slice A3 k c3) k (Go.Pk.encI (out.take k)) ho3 (some ⟨g8, 0, none⟩) 1 1 (Go.Pk.encI [x]) (by rfl) (fun k_ v hk => ⟨g8, 0, rfl, by rw [Nat.zero_add, blkc hk_8]; simpa [Go.Pk.encI] using hk⟩) (enc1 _) (by omega) (by omega) hbw.size
              skip
              obtain ⟨A5, c5, rfl, hc5, hr_A5, hn_, -⟩ := own_rdC ho2
              clear hn_
              refine value_ (w1 := w2) (v := .slice A5 (k + 1) c5) (by rfl) rfl (exec_app (.tmp 35) (.tmp 40) 22 (by rfl) (by rfl) (by rfl) hrun) ?_
              replace hbw := bl_grown hbw hg2 (fun k_ hk_ => (own_lt ho3 k_ hk_).1)
              have ho5 := ho2
              clear ho2 hg2 hrun ho3 hk_8 hle_8 hr_A5 hc5
              generalize w2 = wn at *
              clear hHeld
              refine hK.out _ _ ((bl_cell hbw cx4)) (fun hHeld => ?_)
              clear hK K
              refine norm_ (a' := ?_) ?_ ?_
              rotate_left
              · show Act.put _ (some 41) _ = _
                simp only [Act.put, List.setIfInBounds_toArray, List.set_cons_zero, List.set_cons_succ, i64_w, i32_w]
                rfl
              refine one_ (i := 13) (N := some 45) #[true, true, true, true, true, true, true, true, true, true, true, true, true, true, false] rfl rfl (by kernel_rfl) (by decide) (fun K hK => ?_)
              obtain ⟨v2, w2, hrun, ho2, hg2, -⟩ := run_appRd (P := Try.prog) wn V.heap.size 22 22 3 _ 1 _ Try.underlying22 infoI18 (by rfl) (by omega) (.slice A5 (k + 1) c5) (k + 1) (Go.Pk.encI (out.take k) ++ Go.Pk.encI [x]) ho5 A9 dk ck (Go.Pk.encI (out.drop k)) hl2 (hOd.out.below hbw).2 (enc1 _) (by omega) (by omega) hbw.size
              rw [hsum, encPut] at ho2
              obtain ⟨A6, c6, rfl, hc6, hr_A6, hn_, -⟩ := own_rdC ho2
              clear hn_
              refine value_ (w1 := w2) (v := .slice A6 (i + 1) c6) (by rfl) rfl (exec_app (.tmp 41) (.tmp 44) 22 (by rfl) (by rfl) (by rfl) hrun) ?_
              replace hbw := bl_grown hbw hg2 (fun k_ hk_ => (own_lt ho5 k_ hk_).1)
              clear ho2 hg2 hrun ho5
              generalize w2 = wn at *
              clear hHeld
              refine hK.out _ _ ((bl_cell hbw cx4)) (fun hHeld => ?_)
              clear hK K
              refine norm_ (a' := ?_) ?_ ?_
              rotate_left
              · show Act.put _ (some 45) _ = _
                simp only [Act.put, List.setIfInBounds_toArray, List.set_cons_zero, List.set_cons_succ, i64_w, i32_w]
                rfl
              refine pure_ (i := 14) (N := some 3) (v := ?_) (a' := ?_) #[true, true, true, true, true, true, true, true, true, true, true, true, true, true, true] rfl rfl (by kernel_rfl) (fun _ _ _ h => h) (Or.inl ⟨by rfl, ?_⟩) ?_ ?_
              rotate_left
              · intro w'
                go_simp
                with_reducible rfl
              rotate_left
              · simp only [Act.put, List.setIfInBounds_toArray, List.set_cons_zero, List.set_cons_succ, i64_w, i32_w]
                rfl
              refine done_ (by kernel_rfl) ?_
              replace hbw := bl_step hbw0 hbw
              have hnew : Hid (RdI wn A6 (out.take k ++ x :: out.drop k)) := ⟨by have h_ := hol.out; rw [List.length_append, List.length_take, List.length_cons, List.length_drop]; omega, hr_A6⟩
              have hPn : Hid ((out.take k ++ x :: out.drop k).Pairwise (· ≤ ·) ∧ (out.take k ++ x :: out.drop k).Perm (l.take (i + 1))) := ⟨put_sorted hP.out.1 hlo.out hhi.out, by have h_ := put_perm (k := k) hP.out.2 hil; rw [hx.out] at h_; exact h_⟩
              have hln : Hid ((out.take k ++ x :: out.drop k).length = i + 1) := by show _ = _; have h_ := hol.out; rw [List.length_append, List.length_take, List.length_cons, List.length_drop]; omega
              clear hsum sl1 sl2 hl1 hl2
              go_wp2
              go_roundw
              case rel => exact ⟨i + 1, _, A6, c6, by omega, hln.out, by go_num, rfl, hc6, hbw, hnew.out, hPn.out⟩
              case measure => simp [intOf]; omega
        · have dk : decide ((k : Int) < (i : Int)) = false := decide_eq_false (by omega)
          have nk : decide (k < i) = false := decide_eq_false hkl
          have hhi : Hid (k < out.length → x < out.getD k 0) := fun h => absurd h (by rw [hol.out]; omega)
          go_wp2
          go_region
          go_upto_region 10 with fail
          have hbw0 := hbw
          clear hbw
          have hbw := bl_drew hbV
          clear hbV
          have cx4 := cx2
          clear cx3
          generalize wr.drew = W5 at *
          obtain ⟨Aq, hAq⟩ : ∃ q : Option Addr, q = A := ⟨_, rfl⟩
          rw [← hAq] at hO ⊢
          clear hAq
          have sl1 := sl_hi Aq i c k (by omega)
          have sl2 := sl_lo Aq i c k hki
          have hOt := hidI (rdI_take k hO.out)
          have hOd := rdI_drop (c := c) (k := k) hO.out (by rw [hol.out]; exact hki) (by rw [hol.out]; exact hic)
          obtain ⟨A9, hA9⟩ : ∃ q, dropA Aq c k = q := ⟨_, rfl⟩
          obtain ⟨dk, hdk⟩ : ∃ q, i - k = q := ⟨_, rfl⟩
          obtain ⟨ck, hck⟩ : ∃ q, c - k = q := ⟨_, rfl⟩
          have hl1 : (Go.Pk.encI (out.take k)).length = k * 1 := by rw [encLen, List.length_take, hol.out]; omega
          have hl2 : (Go.Pk.encI (out.drop k)).length = dk * 1 := by rw [encLen, List.length_drop, hol.out]; omega
          have hsum : k + 1 + dk = i + 1 := by omega
          rw [hA9, hdk, hck] at sl2
          rw [hA9] at hOd
          replace hOd := hidI hOd
          have hdk2 : dk ≤ 60 := by omega
          clear hA9 hdk hck
          apply cutB
          intro hJ0
          · skip
            replace hbw := bl_drew hbw
            refine start_ (n := 15) (S := fun w' => w'.cell? ⟨b0, o0 + i, none⟩ = some (.int .i64 x)) (ds := []) #[false, false, false, false, false, false, false, false, false, false, false, false, false, false, false] (by kernel_rfl) rfl rfl ((bl_cell hbw cx4)) (fun hHeld => ?_)
            generalize W5.drew = wn at *
            refine pure_ (i := 0) (N := some 32) (v := ?_) (a' := ?_) #[true, false, false, false, false, false, false, false, false, false, false, false, false, false, false] rfl rfl (by kernel_rfl) (fun _ _ _ h => h) (Or.inl ⟨by rfl, ?_⟩) ?_ ?_
            rotate_left
            · intro w'
              go_simp
              with_reducible rfl
            rotate_left
            · simp only [Act.put, List.setIfInBounds_toArray, List.set_cons_zero, List.set_cons_succ, i64_w, i32_w]
              rfl
            refine pure_ (i := 1) (N := some 33) (v := ?_) (a' := ?_) #[true, true, false, false, false, false, false, false, false, false, false, false, false, false, false] rfl rfl (by kernel_rfl) (fun _ _ _ h => h) (Or.inl ⟨by rfl, ?_⟩) ?_ ?_
            rotate_left
            · intro w'
              go_simp
              with_reducible rfl
            rotate_left
            · simp only [Act.put, List.setIfInBounds_toArray, List.set_cons_zero, List.set_cons_succ, i64_w, i32_w]
              rfl
            refine pure_ (i := 2) (N := some 34) (v := ?_) (a' := ?_) #[true, true, true, false, false, false, false, false, false, false, false, false, false, false, false] rfl rfl (by kernel_rfl) (fun _ _ _ h => h) (Or.inl ⟨by rfl, ?_⟩) ?_ ?_
            rotate_left
            · intro w'
              go_simp
              with_reducible rfl
            rotate_left
            · simp only [Act.put, List.setIfInBounds_toArray, List.set_cons_zero, List.set_cons_succ, i64_w, i32_w]
              rfl
            refine pure_ (i := 4) (N := some 36) (v := ?_) (a' := ?_) #[true, true, true, false, true, false, false, false, false, false, false, false, false, false, false] rfl rfl (by kernel_rfl) (fun _ _ _ h => h) (Or.inl ⟨by rfl, ?_⟩) ?_ ?_
            rotate_left
            · intro w'
              go_simp
              with_reducible rfl
            rotate_left
            · simp only [Act.put, List.setIfInBounds_toArray, List.set_cons_zero, List.set_cons_succ, i64_w, i32_w]
              rfl
            refine pure_ (i := 5) (N := some 37) (v := ?_) (a' := ?_) #[true, true, true, false, true, true, false, false, false, false, false, false, false, false, false] rfl rfl (by kernel_rfl) (fun _ _ _ h => h) (Or.inl ⟨by rfl, ?_⟩) ?_ ?_
            rotate_left
            · intro w'
              go_simp
              with_reducible rfl
            rotate_left
            · simp only [Act.put, List.setIfInBounds_toArray, List.set_cons_zero, List.set_cons_succ, i64_w, i32_w]
              rfl
            refine pure_ (i := 6) (N := some 38) (v := ?_) (a' := ?_) #[true, true, true, false, true, true, true, false, false, false, false, false, false, false, false] rfl rfl (by kernel_rfl) (fun _ _ _ h => h) (Or.inl ⟨by rfl, ?_⟩) ?_ ?_
            rotate_left
            · intro w'
              go_simp
              with_reducible rfl
            rotate_left
            · simp only [Act.put, List.setIfInBounds_toArray, List.set_cons_zero, List.set_cons_succ, i64_w, i32_w]
              rfl
            refine pure_ (i := 10) (N := some 42) (v := ?_) (a' := ?_) #[true, true, true, false, true, true, true, false, false, false, true, false, false, false, false] rfl rfl (by kernel_rfl) (fun _ _ _ h => h) (Or.inl ⟨by rfl, ?_⟩) ?_ ?_
            rotate_left
            · intro w'
              go_simp
              with_reducible rfl
            rotate_left
            · simp only [Act.put, List.setIfInBounds_toArray, List.set_cons_zero, List.set_cons_succ, i64_w, i32_w]
              rfl
            refine pure_ (i := 11) (N := some 43) (v := ?_) (a' := ?_) #[true, true, true, false, true, true, true, false, false, false, true, true, false, false, false] rfl rfl (by kernel_rfl) (fun _ _ _ h => h) (Or.inl ⟨by rfl, ?_⟩) ?_ ?_
            rotate_left
            · intro w'
              go_simp
              with_reducible rfl
            rotate_left
            · simp only [Act.put, List.setIfInBounds_toArray, List.set_cons_zero, List.set_cons_succ, i64_w, i32_w]
              rfl
            refine pure_ (i := 12) (N := some 44) (v := ?_) (a' := ?_) #[true, true, true, false, true, true, true, false, false, false, true, true, true, false, false] rfl rfl (by kernel_rfl) (fun _ _ _ h => h) (Or.inl ⟨by rfl, ?_⟩) ?_ ?_
            rotate_left
            · intro w'
              go_simp
              with_reducible rfl
            rotate_left
            · simp only [Act.put, List.setIfInBounds_toArray, List.set_cons_zero, List.set_cons_succ, i64_w, i32_w]
              rfl
            refine take_ (i := 7) (N := some 39) (v := ?_) (a' := ?_) #[true, true, true, false, true, true, true, true, false, false, true, true, true, false, false] rfl rfl (by kernel_rfl) (fun _ _ _ h => h) (Or.inl ⟨by rfl, ?_⟩) hHeld ?_ ?_
            rotate_left
            · intro w' s0
              go_simp
              with_reducible rfl
            rotate_left
            · simp only [Act.put, List.setIfInBounds_toArray, List.set_cons_zero, List.set_cons_succ, i64_w, i32_w]
              rfl
            refine two_ (i := 3) (j := 8) (Ni := some 35) (Nj := some 40) #[true, true, true, true, true, true, true, true, false, false, true, true, true, false, false] #[true, true, true, false, true, true, true, true, true, false, true, true, true, false, false] rfl rfl rfl rfl (by kernel_rfl) (by decide) (by decide) (fun K hK => ?_) (fun K hK => ?_)
            · skip
              have hnil : wn.ownsRow V.heap.size 3 1 (.slice none 0 0) 0 [] := World.ownsRow_nil _ _ _ _
              obtain ⟨v2, w2, hrun, ho2, hg2, -⟩ := run_appRd (P := Try.prog) wn V.heap.size 22 22 3 _ 1 _ Try.underlying22 infoI18 (by rfl) (by omega) (.slice none 0 0) 0 [] hnil Aq k c (Go.Pk.encI (out.take k)) hl1 (hOt.out.below hbw).2 (enc1 _) (by omega) (by omega) hbw.size
              rw [Nat.zero_add, List.nil_append] at ho2
              obtain ⟨A3, c3, rfl, hc3, hr_A3, hn_, -⟩ := own_rdC ho2
              clear hn_
              refine value_ (w1 := w2) (v := .slice A3 (k) c3) (by rfl) rfl (exec_app (.const (.slice none 0 0)) (.tmp 34) 22 (by rfl) (by rfl) (by rfl) hrun) ?_
              replace hbw := bl_grown hbw hg2 (fun k_ hk_ => (own_lt hnil k_ hk_).1)
              have ho3 := ho2
              clear ho2 hg2 hrun hnil hr_A3 hc3
              generalize w2 = wn at *
              clear hHeld
              refine hK.out _ _ ((bl_cell hbw cx4)) (fun hHeld => ?_)
              clear hK K
              refine norm_ (a' := ?_) ?_ ?_
              rotate_left
              · show Act.put _ (some 35) _ = _
                simp only [Act.put, List.setIfInBounds_toArray, List.set_cons_zero, List.set_cons_succ, i64_w, i32_w]
                rfl
              refine one_ (i := 8) (N := some 40) #[true, true, true, true, true, true, true, true, true, false, true, true, true, false, false] rfl rfl (by kernel_rfl) (by decide) (fun K hK => ?_)
              refine value_ (w1 := wn.alloc (.cells #[.int .i64 x] 3)) (v := .slice (some ⟨wn.heap.size, 0, none⟩) 1 1) (by rfl) rfl ?_ ?_
              · go_simp
                try rfl
              have hk_8 : (wn.alloc (.cells #[.int .i64 x] 3)).heap[wn.heap.size]? = some (.cells #[.int .i64 x] 3 (0, 0)) := blk_new wn _
              have hle_8 : V.heap.size ≤ wn.heap.size := hbw.size
              replace hbw := bl_alloc hbw (.cells #[.int .i64 x] 3)
              replace ho3 := own_alloc ho3 (.cells #[.int .i64 x] 3)
              generalize wn.heap.size = g8 at *
              generalize wn.alloc (.cells #[.int .i64 x] 3) = wn at *
              clear hHeld
              refine hK.out _ _ ((bl_cell hbw cx4)) (fun hHeld => ?_)
              clear hK K
              refine norm_ (a' := ?_) ?_ ?_
              rotate_left
              · show Act.put _ (some 40) _ = _
                simp only [Act.put, List.setIfInBounds_toArray, List.set_cons_zero, List.set_cons_succ, i64_w, i32_w]
                rfl
              revert hHeld
              revert ho3
              revert c3
              revert A3
              revert hle_8
              revert hk_8
              revert hbw
              revert g8
              revert wn
              exact Bx.out hJ0
            · skip
              refine value_ (w1 := wn.alloc (.cells #[.int .i64 x] 3)) (v := .slice (some ⟨wn.heap.size, 0, none⟩) 1 1) (by rfl) rfl ?_ ?_
              · go_simp
                try rfl
              have hk_8 : (wn.alloc (.cells #[.int .i64 x] 3)).heap[wn.heap.size]? = some (.cells #[.int .i64 x] 3 (0, 0)) := blk_new wn _
              have hle_8 : V.heap.size ≤ wn.heap.size := hbw.size
              replace hbw := bl_alloc hbw (.cells #[.int .i64 x] 3)
              generalize wn.heap.size = g8 at *
              generalize wn.alloc (.cells #[.int .i64 x] 3) = wn at *
              clear hHeld
              refine hK.out _ _ ((bl_cell hbw cx4)) (fun hHeld => ?_)
              clear hK K
              refine norm_ (a' := ?_) ?_ ?_
              rotate_left
              · show Act.put _ (some 40) _ = _
                simp only [Act.put, List.setIfInBounds_toArray, List.set_cons_zero, List.set_cons_succ, i64_w, i32_w]
                rfl
              refine one_ (i := 3) (N := some 35) #[true, true, true, true, true, true, true, true, true, false, true, true, true, false, false] rfl rfl (by kernel_rfl) (by decide) (fun K hK => ?_)
              have hnil : wn.ownsRow V.heap.size 3 1 (.slice none 0 0) 0 [] := World.ownsRow_nil _ _ _ _
              obtain ⟨v2, w2, hrun, ho2, hg2, -⟩ := run_appRd (P := Try.prog) wn V.heap.size 22 22 3 _ 1 _ Try.underlying22 infoI18 (by rfl) (by omega) (.slice none 0 0) 0 [] hnil Aq k c (Go.Pk.encI (out.take k)) hl1 (hOt.out.below hbw).2 (enc1 _) (by omega) (by omega) hbw.size
              rw [Nat.zero_add, List.nil_append] at ho2
              obtain ⟨A3, c3, rfl, hc3, hr_A3, hn_, -⟩ := own_rdC ho2
              clear hn_
              refine value_ (w1 := w2) (v := .slice A3 (k) c3) (by rfl) rfl (exec_app (.const (.slice none 0 0)) (.tmp 34) 22 (by rfl) (by rfl) (by rfl) hrun) ?_
              replace hbw := bl_grown hbw hg2 (fun k_ hk_ => (own_lt hnil k_ hk_).1)
              have ho3 := ho2
              replace hk_8 := blk_grown hk_8 hg2 (fun e => by cases e)
              clear ho2 hg2 hrun hnil hr_A3 hc3
              generalize w2 = wn at *
              clear hHeld
              refine hK.out _ _ ((bl_cell hbw cx4)) (fun hHeld => ?_)
              clear hK K
              refine norm_ (a' := ?_) ?_ ?_
              rotate_left
              · show Act.put _ (some 35) _ = _
                simp only [Act.put, List.setIfInBounds_toArray, List.set_cons_zero, List.set_cons_succ, i64_w, i32_w]
                rfl
              revert hHeld
              revert ho3
              revert c3
              revert A3
              revert hle_8
              revert hk_8
              revert hbw
              revert g8
              revert wn
              exact Bx.out hJ0
          · intro wn g8 hbw hk_8 hle_8 A3 c3 ho3 hHeld
            refine one_ (i := 9) (N := some 41) #[true, true, true, true, true, true, true, true, true, true, true, true, true, false, false] rfl rfl (by kernel_rfl) (by decide) (fun K hK => ?_)
            obtain ⟨v2, w2, hrun, ho2, hg2, -⟩ := run_appRd (P := Try.prog) wn V.heap.size 22 22 3 _ 1 _ Try.underlying22 infoI18 (by rfl) (by omega) (.slice A3 k c3) k (Go.Pk.encI (out.take k)) ho3 (some ⟨g8, 0, none⟩) 1 1 (Go.Pk.encI [x]) (by rfl) (fun k_ v hk => ⟨g8, 0, rfl, by rw [Nat.zero_add, blkc hk_8]; simpa [Go.Pk.encI] using hk⟩) (enc1 _) (by omega) (by omega) hbw.size
            skip
            obtain ⟨A5, c5, rfl, hc5, hr_A5, hn_, -⟩ := own_rdC ho2
            clear hn_
            refine value_ (w1 := w2) (v := .slice A5 (k + 1) c5) (by rfl) rfl (exec_app (.tmp 35) (.tmp 40) 22 (by rfl) (by rfl) (by rfl) hrun) ?_
            replace hbw := bl_grown hbw hg2 (fun k_ hk_ => (own_lt ho3 k_ hk_).1)
            have ho5 := ho2
            clear ho2 hg2 hrun ho3 hk_8 hle_8 hr_A5 hc5
            generalize w2 = wn at *
            clear hHeld
            refine hK.out _ _ ((bl_cell hbw cx4)) (fun hHeld => ?_)
            clear hK K
            refine norm_ (a' := ?_) ?_ ?_
            rotate_left
            · show Act.put _ (some 41) _ = _
              simp only [Act.put, List.setIfInBounds_toArray, List.set_cons_zero, List.set_cons_succ, i64_w, i32_w]
              rfl
            refine one_ (i := 13) (N := some 45) #[true, true, true, true, true, true, true, true, true, true, true, true, true, true, false] rfl rfl (by kernel_rfl) (by decide) (fun K hK => ?_)
            obtain ⟨v2, w2, hrun, ho2, hg2, -⟩ := run_appRd (P := Try.prog) wn V.heap.size 22 22 3 _ 1 _ Try.underlying22 infoI18 (by rfl) (by omega) (.slice A5 (k + 1) c5) (k + 1) (Go.Pk.encI (out.take k) ++ Go.Pk.encI [x]) ho5 A9 dk ck (Go.Pk.encI (out.drop k)) hl2 (hOd.out.below hbw).2 (enc1 _) (by omega) (by omega) hbw.size
            rw [hsum, encPut] at ho2
            obtain ⟨A6, c6, rfl, hc6, hr_A6, hn_, -⟩ := own_rdC ho2
            clear hn_
            refine value_ (w1 := w2) (v := .slice A6 (i + 1) c6) (by rfl) rfl (exec_app (.tmp 41) (.tmp 44) 22 (by rfl) (by rfl) (by rfl) hrun) ?_
            replace hbw := bl_grown hbw hg2 (fun k_ hk_ => (own_lt ho5 k_ hk_).1)
            clear ho2 hg2 hrun ho5
            generalize w2 = wn at *
            clear hHeld
            refine hK.out _ _ ((bl_cell hbw cx4)) (fun hHeld => ?_)
            clear hK K
            refine norm_ (a' := ?_) ?_ ?_
            rotate_left
            · show Act.put _ (some 45) _ = _
              simp only [Act.put, List.setIfInBounds_toArray, List.set_cons_zero, List.set_cons_succ, i64_w, i32_w]
              rfl
            refine pure_ (i := 14) (N := some 3) (v := ?_) (a' := ?_) #[true, true, true, true, true, true, true, true, true, true, true, true, true, true, true] rfl rfl (by kernel_rfl) (fun _ _ _ h => h) (Or.inl ⟨by rfl, ?_⟩) ?_ ?_
            rotate_left
            · intro w'
              go_simp
              with_reducible rfl
            rotate_left
            · simp only [Act.put, List.setIfInBounds_toArray, List.set_cons_zero, List.set_cons_succ, i64_w, i32_w]
              rfl
            refine done_ (by kernel_rfl) ?_
            replace hbw := bl_step hbw0 hbw
            have hnew : Hid (RdI wn A6 (out.take k ++ x :: out.drop k)) := ⟨by have h_ := hol.out; rw [List.length_append, List.length_take, List.length_cons, List.length_drop]; omega, hr_A6⟩
            have hPn : Hid ((out.take k ++ x :: out.drop k).Pairwise (· ≤ ·) ∧ (out.take k ++ x :: out.drop k).Perm (l.take (i + 1))) := ⟨put_sorted hP.out.1 hlo.out hhi.out, by have h_ := put_perm (k := k) hP.out.2 hil; rw [hx.out] at h_; exact h_⟩
            have hln : Hid ((out.take k ++ x :: out.drop k).length = i + 1) := by show _ = _; have h_ := hol.out; rw [List.length_append, List.length_take, List.length_cons, List.length_drop]; omega
            clear hsum sl1 sl2 hl1 hl2
            go_wp2
            go_roundw
            case rel => exact ⟨i + 1, _, A6, c6, by omega, hln.out, by go_num, rfl, hc6, hbw, hnew.out, hPn.out⟩
            case measure => simp [intOf]; omega
    · obtain rfl : i = l.length := by omega
      have dd : decide ((l.length : Int) < (l.length : Int)) = false := decide_eq_false (by omega)
      have nd : decide (l.length < l.length) = false := decide_eq_false (by omega)
      obtain ⟨k, hk⟩ : ∃ k : Nat, k = (l.length - 1) / 2 := ⟨_, rfl⟩
      have hkl : k < l.length := by omega
      have hq : ((l.length : Int) - 1) / 2 = (k : Int) := by omega
      obtain ⟨b1, o1, rfl, cm⟩ := hO.out.at (i := k) (by rw [hol.out]; exact hkl)
      have hm : out.getD k 0 = mm := by
        have hp : out.Perm l := by have h_ := hP.out.2; rw [List.take_length] at h_; exact h_
        have h_ := midL_of hp hP.out.1
        rw [hol.out, ← hk] at h_
        rw [h_]; exact hmm.out
      rw [hm] at cm
      clear hm hk
      go_wp2
      go_ret
      exact ⟨rfl, hbw⟩
end Go.Proofs.Ytggididnclfahaa
