/- Proved here: lemmas and contracts (what a function of the program computes) that the proofs of the laws of this seat lean on. Conditions: as each theorem states. -/
import Derived.Test.YtggididnclfahaaV12
set_option linter.unusedVariables false
set_option linter.unusedSimpArgs false
namespace Go.Proofs.Ytggididnclfahaa
open Go.RowKit Go.Pk Go.Pk.Vt Go.Proofs.YtggididnclfahaaW.PrintLast
theorem isN_succ {l : List Int} {mx : Int} {i : Nat} {s : Bool} (hi : i < l.length) (h : s = true ↔ mx ∈ l.take i) : (s || decide (l.getD i 0 = mx)) = true ↔ mx ∈ l.take (i + 1) := by
  rw [List.take_add_one, List.getElem?_eq_getElem hi, List.getD_eq_getElem?_getD, List.getElem?_eq_getElem hi]
  simp only [Option.getD_some, Option.toList_some, List.mem_append, List.mem_singleton, Bool.or_eq_true, decide_eq_true_eq, h]
  exact Iff.intro (fun h => h.imp id Eq.symm) (fun h => h.imp id Eq.symm)
def MidN (l : List Int) (mx : Int) (i bn an : Nat) (s : Bool) : Prop := bn = belowN l mx i ∧ an = aboveN l mx i ∧ (s = true ↔ mx ∈ l.take i)
theorem midN_step {l : List Int} {mx y : Int} {i bn an : Nat} {s : Bool} (hi : i < l.length) (hy : l.getD i 0 = y) (h : MidN l mx i bn an s) : MidN l mx (i + 1) (bn + if y < mx then 1 else 0) (an + if mx < y then 1 else 0) (s || decide (y = mx)) := by
  subst hy
  exact ⟨by rw [belowN_succ hi, h.1], by rw [aboveN_succ hi, h.2.1], isN_succ hi h.2.2⟩
theorem encApp (a b : List Int) : Go.Pk.encI a ++ Go.Pk.encI b = Go.Pk.encI (a ++ b) := by simp [Go.Pk.encI]
set_option maxHeartbeats 16000000 in
set_option maxRecDepth 100000 in
theorem VMids_walk (l : List Int) (A : Option Addr) (c : Nat) (kk : Int) (w0 : World) (hlc : l.length ≤ c) (hl : RdI w0 A l) (hlI : InI l) (hkk : I64 kk) :
    Calls Try.prog 3 #[.slice A l.length c, .int .i64 kk] w0 fun e w' => e = .returned (.bool true) ∧ Below w0.heap.size w0 w' := by
  have hbw := Below.refl w0.heap.size w0
  by_cases h1 : (60 : Int) < (l.length : Int)
  · have d : decide ((60 : Int) < (l.length : Int)) = true := decide_eq_true h1
    have n : decide (60 < l.length) = true := decide_eq_true (by omega)
    clear h1
    go_enter Try.func3, Try.ntmps3
    go_wp2_with fail
    refine (alive22_calls _).mono ?_
    rintro e wz ⟨rfl, hbz⟩
    replace hbw := bl_step hbw hbz
    clear hbz
    go_wp2
    go_ret
    exact ⟨rfl, hbw⟩
  have d : decide ((60 : Int) < (l.length : Int)) = false := decide_eq_false h1
  have n : decide (60 < l.length) = false := decide_eq_false (by omega)
  have hlen : l.length ≤ 60 := by omega
  clear h1
  obtain ⟨mx, hmx⟩ : ∃ q, midL l = q := ⟨_, rfl⟩
  have hmid := hidI (fun W A c h => mid_calls l A c W h (by omega))
  have href := hidI (fun W h => refMid_calls l A c W h hlen)
  rw [hmx] at hmid href
  replace hmx := hidI hmx
  have hvl := encLen l
  have hvl1 : (Go.Pk.encI l).length = l.length * 1 := by rw [hvl]; omega
  go_enter Try.func3, Try.ntmps3
  go_upto_region 4 with (first | (at_builtin; refine list_appRd w0.heap.size rfl (.const (.slice none 0 0)) (.tmp 15) 22 3 _ 1 _ rfl Try.underlying22 infoI18 (by rfl) (by omega) (.slice none 0 0) 0 [] A l.length c (Go.Pk.encI l) rfl rfl (World.ownsRow_nil _ _ _ _) hvl1 hl.2 (enc1 l) (by omega) (by omega) (Nat.le_refl _) ?_; intro v1 w5 ho1 hg1 ha1; rw [List.nil_append, Nat.zero_add] at ho1) | (at_builtin; refine list_appRd w0.heap.size rfl (.tmp 16) (.tmp 17) 22 3 _ 1 _ rfl Try.underlying22 infoI18 (by rfl) (by omega) v1 l.length (Go.Pk.encI l) (some ⟨w5.heap.size, 0, none⟩) 1 1 (Go.Pk.encI [-77]) rfl rfl (own_alloc ho1 _) (by rfl) (fun k v hk => ⟨w5.heap.size, 0, rfl, by rw [Nat.zero_add, blkc (blk_new w5 (.cells #[.int .i64 (-77)] 3))]; simpa [Go.Pk.encI] using hk⟩) (by intro v hv; simp [Go.Pk.encI] at hv; subst hv; rfl) (by omega) (by omega) (by have h1 := hg1.size; have h2 := (bl_alloc (Below.refl w5.heap.size w5) (.cells #[.int .i64 (-77)] 3)).size; omega) ?_; intro v2 w6 ho2 hg2 ha2; obtain ⟨A2, c2, rfl, hc2, hr2, hn2, -⟩ := own_rdC ho2; have sl0 := sl_hi A2 (l.length + 1) c2 l.length (by omega)) | fail)
  replace hbw := bl_grown (bl_alloc (bl_grown (Below.refl w0.heap.size w0) hg1 (fun k hk => by cases hk)) (.cells #[.int .i64 (-77)] 3)) hg2 (fun k hk => (own_lt ho1 k hk).1)
  have hp : RdI w6 A2 (l ++ [-77]) := ⟨by simp; omega, by unfold Go.Pk.encI at hr2 ⊢; rw [List.map_append]; exact hr2⟩
  have hm0 : RdI w6 A2 l := by have h_ := rdI_take l.length hp; rwa [List.take_left'] at h_; rfl
  obtain ⟨b2, o2, rfl, c77⟩ := hp.at (i := l.length) (by simp)
  have e77 : (l ++ [-77]).getD l.length 0 = -77 := by simp
  rw [e77] at c77
  have hcc1 : l.length + 1 ≤ c2 := by omega
  have sl3 := sl_hi (some ⟨b2, o2, none⟩) l.length c2 (l.length + 1) hcc1
  clear e77 hr2 ho2 hg2 ha2 ho1 hg1 ha1 hn2 hc2 hvl hvl1 hp
  go_wp2_with fail
  refine (hmid.out _ _ _ hm0).mono ?_
  rintro e W1 ⟨rfl, hb⟩
  have hbm := hb
  replace hbw := bl_step hbw hb
  clear hb
  go_wp2_with fail
  refine (href.out _ (hl.below hbw)).mono ?_
  rintro e W2 ⟨rfl, hb⟩
  replace hbm := bl_step hbm hb
  replace hbw := bl_step hbw hb
  replace hm0 := hm0.below hbm
  replace c77 := bl_cell hbm c77
  clear hb hbm href
  by_cases hz : l.length = 0
  · have dz : ((l.length : Int) == 0) = true := by simp [hz]
    have nz : (l.length == 0) = true := by simp [hz]
    have hmz : mx = 0 := by rw [← hmx.out, List.eq_nil_of_length_eq_zero hz]; unfold midL sortI; simp
    subst hmz
    replace hz := hidI hz
    go_wp2_with fail
    refine (alive22_calls _).mono ?_
    rintro e wz ⟨rfl, hbz⟩
    replace hbw := bl_step hbw hbz
    clear hbz
    go_wp2
    go_ret
    exact ⟨rfl, hbw⟩
  have dz : ((l.length : Int) == 0) = false := by simpa using hz
  have nz : (l.length == 0) = false := by simpa using hz
  go_wp2
  have hbL := Below.refl W2.heap.size W2
  have hlW := hl.below hbw
  clear c77 sl0 sl3
  go_loopw [7, 8, 9, 10] (fun x7 x8 x9 x10 wr => ∃ (i bn an : Nat) (s : Bool), i ≤ l.length ∧ x10 = .int .i64 i ∧ x7 = .int .i64 bn ∧ x8 = .int .i64 an ∧ x9 = .bool s ∧ Below W2.heap.size W2 wr ∧ bn ≤ i ∧ an ≤ i ∧ Hid (MidN l mx i bn an s)) (fun _ _ _ x10 _ => (l.length - intOf x10).toNat)
  case atStart => exact ⟨0, 0, 0, false, by omega, rfl, rfl, rfl, rfl, hbL, by omega, by omega, ⟨by simp [belowN], by simp [aboveN], by simp⟩⟩
  case round =>
    clear hbL
    obtain ⟨i, bn, an, s, hi, rfl, rfl, rfl, rfl, hbL, hbn, han, hN⟩ := hrel
    by_cases hil : i < l.length
    · have dd : decide ((i : Int) < (l.length : Int)) = true := decide_eq_true (by omega)
      have nd : decide (i < l.length) = true := decide_eq_true hil
      have hb64 : ((i : Int) + 1) ≤ 9223372036854775807 := by omega
      have hb65 : ((bn : Int) + 1) ≤ 61 := by omega
      have hb66 : ((an : Int) + 1) ≤ 61 := by omega
      obtain ⟨b1, o1, rfl, ca⟩ := hlW.at (i := i) hil
      obtain ⟨b_, o_, e_, cm⟩ := hm0.at (i := i) hil
      cases e_
      replace ca := bl_cell hbL ca
      replace cm := bl_cell hbL cm
      obtain ⟨y, hy⟩ : ∃ q, l.getD i 0 = q := ⟨_, rfl⟩
      rw [hy] at ca cm
      have hstep := hidI (midN_step hil hy hN.out)
      clear hy hN
      rcases (by omega : y < mx ∨ y = mx ∨ mx < y) with hrl | hrl | hrl
      · cases s
        · skip
          have dl : decide (y < mx) = true := decide_eq_true (by omega)
          have dg : decide (mx < y) = false := decide_eq_false (by omega)
          have de : (y == mx) = false := by simp; omega
          have hN : Hid (MidN l mx (i + 1) (bn + 1) (an) false) := by show MidN l mx _ _ _ _; have h_ := hstep.out; rw [if_pos (by omega : y < mx), if_neg (by omega : ¬ mx < y), show decide (y = mx) = false from decide_eq_false (by omega)] at h_; simpa using h_
          clear hrl hstep
          go_wp2
          go_region
          go_wp2
          go_roundw
          case rel => exact ⟨i + 1, bn + 1, an, false, by omega, by go_num, by go_num, by go_num, rfl, bl_drew hbL, by omega, by omega, hN.out⟩
          case measure => simp [intOf]; omega
        · skip
          have dl : decide (y < mx) = true := decide_eq_true (by omega)
          have dg : decide (mx < y) = false := decide_eq_false (by omega)
          have de : (y == mx) = false := by simp; omega
          have hN : Hid (MidN l mx (i + 1) (bn + 1) (an) true) := by show MidN l mx _ _ _ _; have h_ := hstep.out; rw [if_pos (by omega : y < mx), if_neg (by omega : ¬ mx < y), show decide (y = mx) = false from decide_eq_false (by omega)] at h_; simpa using h_
          clear hrl hstep
          go_wp2
          go_region
          go_wp2
          go_roundw
          case rel => exact ⟨i + 1, bn + 1, an, true, by omega, by go_num, by go_num, by go_num, rfl, bl_drew hbL, by omega, by omega, hN.out⟩
          case measure => simp [intOf]; omega
      · cases s
        · skip
          have dl : decide (y < mx) = false := decide_eq_false (by omega)
          have dg : decide (mx < y) = false := decide_eq_false (by omega)
          have de : (y == mx) = true := by simp; omega
          have hN : Hid (MidN l mx (i + 1) (bn) (an) true) := by show MidN l mx _ _ _ _; have h_ := hstep.out; rw [if_neg (by omega : ¬ y < mx), if_neg (by omega : ¬ mx < y), show decide (y = mx) = true from decide_eq_true (by omega)] at h_; simpa using h_
          clear hrl hstep
          go_wp2
          go_region
          go_wp2
          go_roundw
          case rel => exact ⟨i + 1, bn, an, true, by omega, by go_num, by go_num, by go_num, rfl, bl_drew hbL, by omega, by omega, hN.out⟩
          case measure => simp [intOf]; omega
        · skip
          have dl : decide (y < mx) = false := decide_eq_false (by omega)
          have dg : decide (mx < y) = false := decide_eq_false (by omega)
          have de : (y == mx) = true := by simp; omega
          have hN : Hid (MidN l mx (i + 1) (bn) (an) true) := by show MidN l mx _ _ _ _; have h_ := hstep.out; rw [if_neg (by omega : ¬ y < mx), if_neg (by omega : ¬ mx < y), show decide (y = mx) = true from decide_eq_true (by omega)] at h_; simpa using h_
          clear hrl hstep
          go_wp2
          go_region
          go_wp2
          go_roundw
          case rel => exact ⟨i + 1, bn, an, true, by omega, by go_num, by go_num, by go_num, rfl, bl_drew hbL, by omega, by omega, hN.out⟩
          case measure => simp [intOf]; omega
      · cases s
        · skip
          have dl : decide (y < mx) = false := decide_eq_false (by omega)
          have dg : decide (mx < y) = true := decide_eq_true (by omega)
          have de : (y == mx) = false := by simp; omega
          have hN : Hid (MidN l mx (i + 1) (bn) (an + 1) false) := by show MidN l mx _ _ _ _; have h_ := hstep.out; rw [if_neg (by omega : ¬ y < mx), if_pos (by omega : mx < y), show decide (y = mx) = false from decide_eq_false (by omega)] at h_; simpa using h_
          clear hrl hstep
          go_wp2
          go_region
          go_wp2
          go_roundw
          case rel => exact ⟨i + 1, bn, an + 1, false, by omega, by go_num, by go_num, by go_num, rfl, bl_drew hbL, by omega, by omega, hN.out⟩
          case measure => simp [intOf]; omega
        · skip
          have dl : decide (y < mx) = false := decide_eq_false (by omega)
          have dg : decide (mx < y) = true := decide_eq_true (by omega)
          have de : (y == mx) = false := by simp; omega
          have hN : Hid (MidN l mx (i + 1) (bn) (an + 1) true) := by show MidN l mx _ _ _ _; have h_ := hstep.out; rw [if_neg (by omega : ¬ y < mx), if_pos (by omega : mx < y), show decide (y = mx) = false from decide_eq_false (by omega)] at h_; simpa using h_
          clear hrl hstep
          go_wp2
          go_region
          go_wp2
          go_roundw
          case rel => exact ⟨i + 1, bn, an + 1, true, by omega, by go_num, by go_num, by go_num, rfl, bl_drew hbL, by omega, by omega, hN.out⟩
          case measure => simp [intOf]; omega
    · obtain rfl : i = l.length := by omega
      have dd : decide ((l.length : Int) < (l.length : Int)) = false := decide_eq_false (by omega)
      have nd : decide (l.length < l.length) = false := decide_eq_false (by omega)
      have hne : l ≠ [] := fun h => hz (by rw [h]; rfl)
      obtain ⟨hN1, hN2, hN3⟩ := hN.out
      have hml := mids_law hne
      rw [hmx.out, ← hN1, ← hN2] at hml
      have hst : s = true := hN3.2 (by rw [List.take_length, ← hmx.out]; exact mid_mem hne)
      subst hst
      obtain ⟨hml1, hml2⟩ := hml
      obtain ⟨b3, hb3⟩ : ∃ q, wrap64 (2 * (bn : Int)) = q := ⟨_, rfl⟩
      obtain ⟨a3, ha3⟩ : ∃ q, wrap64 (2 * (an : Int)) = q := ⟨_, rfl⟩
      have db : decide (b3 < (l.length : Int)) = true := decide_eq_true (by rw [← hb3]; unfold wrap64; omega)
      have da : decide (a3 ≤ (l.length : Int)) = true := decide_eq_true (by rw [← ha3]; unfold wrap64; omega)
      replace hb3 := hidI hb3
      replace ha3 := hidI ha3
      clear hN hN1 hN2 hN3 hmid hml1 hml2
      obtain ⟨r, hr⟩ : ∃ r, kk.tmod (l.length : Int) = r := ⟨_, rfl⟩
      have hr1 : r < (l.length : Int) ∧ -(l.length : Int) < r := by rw [← hr]; exact ⟨Int.tmod_lt_of_pos _ (by omega), by have h_ := Int.lt_tmod_of_pos kk (show (0 : Int) < (l.length : Int) by omega); exact h_⟩
      obtain ⟨hr1, hr2⟩ := hr1
      have hlz : (l.length : Int) ≠ 0 := by omega
      have hsz : ((l.length : Int) == -1) = false := by simp
      by_cases hrn : r < 0
      · have dr : decide (r < 0) = true := decide_eq_true hrn
        obtain ⟨kq, hK⟩ : ∃ kq : Nat, r + (l.length : Int) = (kq : Int) := ⟨(r + l.length).toNat, by omega⟩
        have hKl : kq ≤ l.length := by omega
        go_upto_region 23 with fail
        have hbw0 := bl_step hbw hbL
        clear hbw hlW hm0
        obtain ⟨V, hV⟩ : ∃ q, q = wr := ⟨_, rfl⟩
        rw [← hV] at hbw0 ⊢
        clear hV hbL
        have hbw := Below.refl V.heap.size V
        have hlV := hl.below hbw0
        have sl1 := sl_lo A l.length c kq hKl
        have sl2 := sl_hi A l.length c kq (by omega)
        have hOt := hidI (rdI_take kq hlV)
        have hOd := rdI_drop (c := c) (k := kq) hlV hKl hlc
        have hturn := hidI (fun W A c (h : RdI W A (l.drop kq ++ l.take kq)) => (show Calls Try.prog 11 #[.slice A l.length c] W fun e w' => e = .returned (.int .i64 mx) ∧ Below W.heap.size W w' from by
          have hq_ : (l.drop kq ++ l.take kq).length = l.length := by rw [List.length_append, List.length_drop, List.length_take]; omega
          have h_ := mid_calls _ A c W h (by omega)
          rw [hq_, midL_turn, hmx.out] at h_
          exact h_))
        obtain ⟨A9, hA9⟩ : ∃ q, dropA A c kq = q := ⟨_, rfl⟩
        obtain ⟨dk, hdk⟩ : ∃ q, l.length - kq = q := ⟨_, rfl⟩
        obtain ⟨ck, hck⟩ : ∃ q, c - kq = q := ⟨_, rfl⟩
        have hl1 : (Go.Pk.encI (l.drop kq)).length = dk * 1 := by rw [encLen, List.length_drop]; omega
        have hl2 : (Go.Pk.encI (l.take kq)).length = kq * 1 := by rw [encLen, List.length_take]; omega
        have hsum : dk + kq = l.length := by omega
        rw [hA9, hdk, hck] at sl1
        rw [hA9] at hOd
        replace hOd := hidI hOd
        have hdk2 : dk ≤ 60 := by omega
        clear hA9 hdk hck hlV
        replace hb3 := hb3.out
        replace ha3 := ha3.out
        replace hbw := bl_drew hbw
        refine start_ (n := 32) (S := fun w' => True) (ds := []) #[false, false, false, false, false, false, false, false, false, false, false, false, false, false, false, false, false, false, false, false, false, false, false, false, false, false, false, false, false, false, false, false] (by kernel_rfl) rfl rfl trivial (fun hHeld => ?_)
        generalize V.drew = wn at *
        refine one_ (i := 0) (N := some 98) #[true, false, false, false, false, false, false, false, false, false, false, false, false, false, false, false, false, false, false, false, false, false, false, false, false, false, false, false, false, false, false, false] rfl rfl (by kernel_rfl) (by decide) (fun K hK => ?_)
        refine goes_ Try.func10 (by kernel_rfl) rfl #[] (by rfl) rfl rfl (by simp only [List.map_toArray, List.map_cons, List.map_nil] <;> rfl) ?_
        refine (alive22_calls _).mono ?_
        rintro e wn ⟨rfl, hbn⟩
        refine ⟨_, rfl, ?_⟩
        replace hbw := bl_step hbw hbn
        clear hbn
        clear hHeld
        refine hK.out _ _ trivial (fun hHeld => ?_)
        clear hK K
        refine norm_ (a' := ?_) ?_ ?_
        rotate_left
        · show Act.put _ (some 98) _ = _
          simp only [Act.put, List.setIfInBounds_toArray, List.set_cons_zero, List.set_cons_succ, i64_w, i32_w]
          rfl
        refine pure_ (i := 1) (N := some 99) (v := ?_) (a' := ?_) #[true, true, false, false, false, false, false, false, false, false, false, false, false, false, false, false, false, false, false, false, false, false, false, false, false, false, false, false, false, false, false, false] rfl rfl (by kernel_rfl) (fun _ _ _ h => h) (Or.inl ⟨by rfl, ?_⟩) ?_ ?_
        rotate_left
        · intro w'
          go_simp
          with_reducible rfl
        rotate_left
        · simp only [Act.put, List.setIfInBounds_toArray, List.set_cons_zero, List.set_cons_succ, i64_w, i32_w]
          rfl
        refine pure_ (i := 2) (N := some 100) (v := ?_) (a' := ?_) #[true, true, true, false, false, false, false, false, false, false, false, false, false, false, false, false, false, false, false, false, false, false, false, false, false, false, false, false, false, false, false, false] rfl rfl (by kernel_rfl) (fun _ _ _ h => h) (Or.inl ⟨by rfl, ?_⟩) ?_ ?_
        rotate_left
        · intro w'
          go_simp
          with_reducible rfl
        rotate_left
        · simp only [Act.put, List.setIfInBounds_toArray, List.set_cons_zero, List.set_cons_succ, i64_w, i32_w]
          rfl
        refine pure_ (i := 3) (N := some 101) (v := ?_) (a' := ?_) #[true, true, true, true, false, false, false, false, false, false, false, false, false, false, false, false, false, false, false, false, false, false, false, false, false, false, false, false, false, false, false, false] rfl rfl (by kernel_rfl) (fun _ _ _ h => h) (Or.inl ⟨by rfl, ?_⟩) ?_ ?_
        rotate_left
        · intro w'
          go_simp
          with_reducible rfl
        rotate_left
        · simp only [Act.put, List.setIfInBounds_toArray, List.set_cons_zero, List.set_cons_succ, i64_w, i32_w]
          rfl
        refine pure_ (i := 4) (N := some 102) (v := ?_) (a' := ?_) #[true, true, true, true, true, false, false, false, false, false, false, false, false, false, false, false, false, false, false, false, false, false, false, false, false, false, false, false, false, false, false, false] rfl rfl (by kernel_rfl) (fun _ _ _ h => h) (Or.inl ⟨by rfl, ?_⟩) ?_ ?_
        rotate_left
        · intro w'
          go_simp
          with_reducible rfl
        rotate_left
        · simp only [Act.put, List.setIfInBounds_toArray, List.set_cons_zero, List.set_cons_succ, i64_w, i32_w]
          rfl
        refine pure_ (i := 5) (N := some 103) (v := ?_) (a' := ?_) #[true, true, true, true, true, true, false, false, false, false, false, false, false, false, false, false, false, false, false, false, false, false, false, false, false, false, false, false, false, false, false, false] rfl rfl (by kernel_rfl) (fun _ _ _ h => h) (Or.inl ⟨by rfl, ?_⟩) ?_ ?_
        rotate_left
        · intro w'
          go_simp
          with_reducible rfl
        rotate_left
        · simp only [Act.put, List.setIfInBounds_toArray, List.set_cons_zero, List.set_cons_succ, i64_w, i32_w]
          rfl
        refine pure_ (i := 6) (N := some 104) (v := ?_) (a' := ?_) #[true, true, true, true, true, true, true, false, false, false, false, false, false, false, false, false, false, false, false, false, false, false, false, false, false, false, false, false, false, false, false, false] rfl rfl (by kernel_rfl) (fun _ _ _ h => h) (Or.inl ⟨by rfl, ?_⟩) ?_ ?_
        rotate_left
        · intro w'
          go_simp
          with_reducible rfl
        rotate_left
        · simp only [Act.put, List.setIfInBounds_toArray, List.set_cons_zero, List.set_cons_succ, i64_w, i32_w]
          rfl
        refine pure_ (i := 7) (N := some 105) (v := ?_) (a' := ?_) #[true, true, true, true, true, true, true, true, false, false, false, false, false, false, false, false, false, false, false, false, false, false, false, false, false, false, false, false, false, false, false, false] rfl rfl (by kernel_rfl) (fun _ _ _ h => h) (Or.inl ⟨by rfl, ?_⟩) ?_ ?_
        rotate_left
        · intro w'
          go_simp
          with_reducible rfl
        rotate_left
        · simp only [Act.put, List.setIfInBounds_toArray, List.set_cons_zero, List.set_cons_succ, i64_w, i32_w]
          rfl
        refine pure_ (i := 8) (N := some 106) (v := ?_) (a' := ?_) #[true, true, true, true, true, true, true, true, true, false, false, false, false, false, false, false, false, false, false, false, false, false, false, false, false, false, false, false, false, false, false, false] rfl rfl (by kernel_rfl) (fun _ _ _ h => h) (Or.inl ⟨by rfl, ?_⟩) ?_ ?_
        rotate_left
        · intro w'
          go_simp
          with_reducible rfl
        rotate_left
        · simp only [Act.put, List.setIfInBounds_toArray, List.set_cons_zero, List.set_cons_succ, i64_w, i32_w]
          rfl
        refine pure_ (i := 9) (N := some 107) (v := ?_) (a' := ?_) #[true, true, true, true, true, true, true, true, true, true, false, false, false, false, false, false, false, false, false, false, false, false, false, false, false, false, false, false, false, false, false, false] rfl rfl (by kernel_rfl) (fun _ _ _ h => h) (Or.inl ⟨by rfl, ?_⟩) ?_ ?_
        rotate_left
        · intro w'
          go_simp
          with_reducible rfl
        rotate_left
        · simp only [Act.put, List.setIfInBounds_toArray, List.set_cons_zero, List.set_cons_succ, i64_w, i32_w]
          rfl
        refine pure_ (i := 10) (N := some 108) (v := ?_) (a' := ?_) #[true, true, true, true, true, true, true, true, true, true, true, false, false, false, false, false, false, false, false, false, false, false, false, false, false, false, false, false, false, false, false, false] rfl rfl (by kernel_rfl) (fun _ _ _ h => h) (Or.inl ⟨by rfl, ?_⟩) ?_ ?_
        rotate_left
        · intro w'
          go_simp
          with_reducible rfl
        rotate_left
        · simp only [Act.put, List.setIfInBounds_toArray, List.set_cons_zero, List.set_cons_succ, i64_w, i32_w]
          rfl
        refine pure_ (i := 11) (N := some 109) (v := ?_) (a' := ?_) #[true, true, true, true, true, true, true, true, true, true, true, true, false, false, false, false, false, false, false, false, false, false, false, false, false, false, false, false, false, false, false, false] rfl rfl (by kernel_rfl) (fun _ _ _ h => h) (Or.inl ⟨by rfl, ?_⟩) ?_ ?_
        rotate_left
        · intro w'
          go_simp
          with_reducible rfl
        rotate_left
        · simp only [Act.put, List.setIfInBounds_toArray, List.set_cons_zero, List.set_cons_succ, i64_w, i32_w]
          rfl
        refine pure_ (i := 12) (N := some 110) (v := ?_) (a' := ?_) #[true, true, true, true, true, true, true, true, true, true, true, true, true, false, false, false, false, false, false, false, false, false, false, false, false, false, false, false, false, false, false, false] rfl rfl (by kernel_rfl) (fun _ _ _ h => h) (Or.inl ⟨by rfl, ?_⟩) ?_ ?_
        rotate_left
        · intro w'
          go_simp
          with_reducible rfl
        rotate_left
        · simp only [Act.put, List.setIfInBounds_toArray, List.set_cons_zero, List.set_cons_succ, i64_w, i32_w]
          rfl
        refine pure_ (i := 13) (N := some 111) (v := ?_) (a' := ?_) #[true, true, true, true, true, true, true, true, true, true, true, true, true, true, false, false, false, false, false, false, false, false, false, false, false, false, false, false, false, false, false, false] rfl rfl (by kernel_rfl) (fun _ _ _ h => h) (Or.inl ⟨by rfl, ?_⟩) ?_ ?_
        rotate_left
        · intro w'
          go_simp
          with_reducible rfl
        rotate_left
        · simp only [Act.put, List.setIfInBounds_toArray, List.set_cons_zero, List.set_cons_succ, i64_w, i32_w]
          rfl
        refine pure_ (i := 14) (N := some 112) (v := ?_) (a' := ?_) #[true, true, true, true, true, true, true, true, true, true, true, true, true, true, true, false, false, false, false, false, false, false, false, false, false, false, false, false, false, false, false, false] rfl rfl (by kernel_rfl) (fun _ _ _ h => h) (Or.inl ⟨by rfl, ?_⟩) ?_ ?_
        rotate_left
        · intro w'
          go_simp
          with_reducible rfl
        rotate_left
        · simp only [Act.put, List.setIfInBounds_toArray, List.set_cons_zero, List.set_cons_succ, i64_w, i32_w]
          rfl
        refine pure_ (i := 15) (N := some 113) (v := ?_) (a' := ?_) #[true, true, true, true, true, true, true, true, true, true, true, true, true, true, true, true, false, false, false, false, false, false, false, false, false, false, false, false, false, false, false, false] rfl rfl (by kernel_rfl) (fun _ _ _ h => h) (Or.inl ⟨by rfl, ?_⟩) ?_ ?_
        rotate_left
        · intro w'
          go_simp
          with_reducible rfl
        rotate_left
        · simp only [Act.put, List.setIfInBounds_toArray, List.set_cons_zero, List.set_cons_succ, i64_w, i32_w]
          rfl
        refine pure_ (i := 16) (N := some 114) (v := ?_) (a' := ?_) #[true, true, true, true, true, true, true, true, true, true, true, true, true, true, true, true, true, false, false, false, false, false, false, false, false, false, false, false, false, false, false, false] rfl rfl (by kernel_rfl) (fun _ _ _ h => h) (Or.inl ⟨by rfl, ?_⟩) ?_ ?_
        rotate_left
        · intro w'
          go_simp
          with_reducible rfl
        rotate_left
        · simp only [Act.put, List.setIfInBounds_toArray, List.set_cons_zero, List.set_cons_succ, i64_w, i32_w]
          rfl
        refine pure_ (i := 17) (N := some 115) (v := ?_) (a' := ?_) #[true, true, true, true, true, true, true, true, true, true, true, true, true, true, true, true, true, true, false, false, false, false, false, false, false, false, false, false, false, false, false, false] rfl rfl (by kernel_rfl) (fun _ _ _ h => h) (Or.inl ⟨by rfl, ?_⟩) ?_ ?_
        rotate_left
        · intro w'
          go_simp
          with_reducible rfl
        rotate_left
        · simp only [Act.put, List.setIfInBounds_toArray, List.set_cons_zero, List.set_cons_succ, i64_w, i32_w]
          rfl
        refine pure_ (i := 18) (N := some 116) (v := ?_) (a' := ?_) #[true, true, true, true, true, true, true, true, true, true, true, true, true, true, true, true, true, true, true, false, false, false, false, false, false, false, false, false, false, false, false, false] rfl rfl (by kernel_rfl) (fun _ _ _ h => h) (Or.inl ⟨by rfl, ?_⟩) ?_ ?_
        rotate_left
        · intro w'
          go_simp
          with_reducible rfl
        rotate_left
        · simp only [Act.put, List.setIfInBounds_toArray, List.set_cons_zero, List.set_cons_succ, i64_w, i32_w]
          rfl
        refine pure_ (i := 19) (N := some 117) (v := ?_) (a' := ?_) #[true, true, true, true, true, true, true, true, true, true, true, true, true, true, true, true, true, true, true, true, false, false, false, false, false, false, false, false, false, false, false, false] rfl rfl (by kernel_rfl) (fun _ _ _ h => h) (Or.inl ⟨by rfl, ?_⟩) ?_ ?_
        rotate_left
        · intro w'
          go_simp
          with_reducible rfl
        rotate_left
        · simp only [Act.put, List.setIfInBounds_toArray, List.set_cons_zero, List.set_cons_succ, i64_w, i32_w]
          rfl
        refine pure_ (i := 20) (N := some 118) (v := ?_) (a' := ?_) #[true, true, true, true, true, true, true, true, true, true, true, true, true, true, true, true, true, true, true, true, true, false, false, false, false, false, false, false, false, false, false, false] rfl rfl (by kernel_rfl) (fun _ _ _ h => h) (Or.inl ⟨by rfl, ?_⟩) ?_ ?_
        rotate_left
        · intro w'
          go_simp
          with_reducible rfl
        rotate_left
        · simp only [Act.put, List.setIfInBounds_toArray, List.set_cons_zero, List.set_cons_succ, i64_w, i32_w]
          rfl
        refine pure_ (i := 21) (N := some 119) (v := ?_) (a' := ?_) #[true, true, true, true, true, true, true, true, true, true, true, true, true, true, true, true, true, true, true, true, true, true, false, false, false, false, false, false, false, false, false, false] rfl rfl (by kernel_rfl) (fun _ _ _ h => h) (Or.inl ⟨by rfl, ?_⟩) ?_ ?_
        rotate_left
        · intro w'
          go_simp
          with_reducible rfl
        rotate_left
        · simp only [Act.put, List.setIfInBounds_toArray, List.set_cons_zero, List.set_cons_succ, i64_w, i32_w]
          rfl
        refine pure_ (i := 23) (N := some 121) (v := ?_) (a' := ?_) #[true, true, true, true, true, true, true, true, true, true, true, true, true, true, true, true, true, true, true, true, true, true, false, true, false, false, false, false, false, false, false, false] rfl rfl (by kernel_rfl) (fun _ _ _ h => h) (Or.inl ⟨by rfl, ?_⟩) ?_ ?_
        rotate_left
        · intro w'
          go_simp
          with_reducible rfl
        rotate_left
        · simp only [Act.put, List.setIfInBounds_toArray, List.set_cons_zero, List.set_cons_succ, i64_w, i32_w]
          rfl
        refine pure_ (i := 24) (N := some 122) (v := ?_) (a' := ?_) #[true, true, true, true, true, true, true, true, true, true, true, true, true, true, true, true, true, true, true, true, true, true, false, true, true, false, false, false, false, false, false, false] rfl rfl (by kernel_rfl) (fun _ _ _ h => h) (Or.inl ⟨by rfl, ?_⟩) ?_ ?_
        rotate_left
        · intro w'
          go_simp
          with_reducible rfl
        rotate_left
        · simp only [Act.put, List.setIfInBounds_toArray, List.set_cons_zero, List.set_cons_succ, i64_w, i32_w]
          rfl
        refine pure_ (i := 25) (N := some 123) (v := ?_) (a' := ?_) #[true, true, true, true, true, true, true, true, true, true, true, true, true, true, true, true, true, true, true, true, true, true, false, true, true, true, false, false, false, false, false, false] rfl rfl (by kernel_rfl) (fun _ _ _ h => h) (Or.inl ⟨by rfl, ?_⟩) ?_ ?_
        rotate_left
        · intro w'
          go_simp
          with_reducible rfl
        rotate_left
        · simp only [Act.put, List.setIfInBounds_toArray, List.set_cons_zero, List.set_cons_succ, i64_w, i32_w]
          rfl
        refine pure_ (i := 28) (N := some 126) (v := ?_) (a' := ?_) #[true, true, true, true, true, true, true, true, true, true, true, true, true, true, true, true, true, true, true, true, true, true, false, true, true, true, false, false, true, false, false, false] rfl rfl (by kernel_rfl) (fun _ _ _ h => h) (Or.inl ⟨by rfl, ?_⟩) ?_ ?_
        rotate_left
        · intro w'
          go_simp
          with_reducible rfl
        rotate_left
        · simp only [Act.put, List.setIfInBounds_toArray, List.set_cons_zero, List.set_cons_succ, i64_w, i32_w]
          rfl
        refine one_ (i := 22) (N := some 120) #[true, true, true, true, true, true, true, true, true, true, true, true, true, true, true, true, true, true, true, true, true, true, true, true, true, true, false, false, true, false, false, false] rfl rfl (by kernel_rfl) (by decide) (fun K hK => ?_)
        have hnil : wn.ownsRow V.heap.size 3 1 (.slice none 0 0) 0 [] := World.ownsRow_nil _ _ _ _
        obtain ⟨v2, w2, hrun, ho2, hg2, -⟩ := run_appRd (P := Try.prog) wn V.heap.size 22 22 3 _ 1 _ Try.underlying22 infoI18 (by rfl) (by omega) (.slice none 0 0) 0 [] hnil A9 dk ck (Go.Pk.encI (l.drop kq)) hl1 (hOd.out.below hbw).2 (enc1 _) (by omega) (by omega) hbw.size
        rw [Nat.zero_add, List.nil_append] at ho2
        obtain ⟨A3, c3, rfl, hc3, hr_A3, hn_, -⟩ := own_rdC ho2
        clear hn_
        refine value_ (w1 := w2) (v := .slice A3 (dk) c3) (by rfl) rfl (exec_app (.const (.slice none 0 0)) (.tmp 119) 22 (by rfl) (by rfl) (by rfl) hrun) ?_
        replace hbw := bl_grown hbw hg2 (fun k_ hk_ => (own_lt hnil k_ hk_).1)
        have ho3 := ho2
        clear ho2 hg2 hrun hnil hr_A3 hc3
        generalize w2 = wn at *
        clear hHeld
        refine hK.out _ _ trivial (fun hHeld => ?_)
        clear hK K
        refine norm_ (a' := ?_) ?_ ?_
        rotate_left
        · show Act.put _ (some 120) _ = _
          simp only [Act.put, List.setIfInBounds_toArray, List.set_cons_zero, List.set_cons_succ, i64_w, i32_w]
          rfl
        refine one_ (i := 26) (N := some 124) #[true, true, true, true, true, true, true, true, true, true, true, true, true, true, true, true, true, true, true, true, true, true, true, true, true, true, true, false, true, false, false, false] rfl rfl (by kernel_rfl) (by decide) (fun K hK => ?_)
        obtain ⟨v2, w2, hrun, ho2, hg2, -⟩ := run_appRd (P := Try.prog) wn V.heap.size 22 22 3 _ 1 _ Try.underlying22 infoI18 (by rfl) (by omega) (.slice A3 dk c3) dk (Go.Pk.encI (l.drop kq)) ho3 A kq c (Go.Pk.encI (l.take kq)) hl2 (hOt.out.below hbw).2 (enc1 _) (by omega) (by omega) hbw.size
        rw [hsum, encApp] at ho2
        obtain ⟨A6, c6, rfl, hc6, hr_A6, hn_, -⟩ := own_rdC ho2
        clear hn_
        refine value_ (w1 := w2) (v := .slice A6 (l.length) c6) (by rfl) rfl (exec_app (.tmp 120) (.tmp 123) 22 (by rfl) (by rfl) (by rfl) hrun) ?_
        replace hbw := bl_grown hbw hg2 (fun k_ hk_ => (own_lt ho3 k_ hk_).1)
        have hRd6 : RdI w2 A6 (l.drop kq ++ l.take kq) := ⟨by rw [List.length_append, List.length_drop, List.length_take]; omega, hr_A6⟩
        clear ho2 hg2 hrun ho3 hr_A6
        generalize w2 = wn at *
        clear hHeld
        refine hK.out _ _ trivial (fun hHeld => ?_)
        clear hK K
        refine norm_ (a' := ?_) ?_ ?_
        rotate_left
        · show Act.put _ (some 124) _ = _
          simp only [Act.put, List.setIfInBounds_toArray, List.set_cons_zero, List.set_cons_succ, i64_w, i32_w]
          rfl
        refine one_ (i := 27) (N := some 125) #[true, true, true, true, true, true, true, true, true, true, true, true, true, true, true, true, true, true, true, true, true, true, true, true, true, true, true, true, true, false, false, false] rfl rfl (by kernel_rfl) (by decide) (fun K hK => ?_)
        refine goes_ Try.func11 (by kernel_rfl) rfl #[.slice A6 l.length c6] (by rfl) rfl rfl (by simp only [List.map_toArray, List.map_cons, List.map_nil] <;> rfl) ?_
        refine (hturn.out _ _ _ hRd6).mono ?_
        rintro e wn ⟨rfl, hbn⟩
        refine ⟨_, rfl, ?_⟩
        replace hbw := bl_step hbw hbn
        clear hbn
        clear hHeld
        refine hK.out _ _ trivial (fun hHeld => ?_)
        clear hK K
        refine norm_ (a' := ?_) ?_ ?_
        rotate_left
        · show Act.put _ (some 125) _ = _
          simp only [Act.put, List.setIfInBounds_toArray, List.set_cons_zero, List.set_cons_succ, i64_w, i32_w]
          rfl
        refine pure_ (i := 29) (N := some 127) (v := ?_) (a' := ?_) #[true, true, true, true, true, true, true, true, true, true, true, true, true, true, true, true, true, true, true, true, true, true, true, true, true, true, true, true, true, true, false, false] rfl rfl (by kernel_rfl) (fun _ _ _ h => h) (Or.inl ⟨by rfl, ?_⟩) ?_ ?_
        rotate_left
        · intro w'
          go_simp
          with_reducible rfl
        rotate_left
        · simp only [Act.put, List.setIfInBounds_toArray, List.set_cons_zero, List.set_cons_succ, i64_w, i32_w]
          rfl
        refine pure_ (i := 30) (N := some 128) (v := ?_) (a' := ?_) #[true, true, true, true, true, true, true, true, true, true, true, true, true, true, true, true, true, true, true, true, true, true, true, true, true, true, true, true, true, true, true, false] rfl rfl (by kernel_rfl) (fun _ _ _ h => h) (Or.inl ⟨by rfl, ?_⟩) ?_ ?_
        rotate_left
        · intro w'
          go_simp
          with_reducible rfl
        rotate_left
        · simp only [Act.put, List.setIfInBounds_toArray, List.set_cons_zero, List.set_cons_succ, i64_w, i32_w]
          rfl
        refine pure_ (i := 31) (N := some 4) (v := ?_) (a' := ?_) #[true, true, true, true, true, true, true, true, true, true, true, true, true, true, true, true, true, true, true, true, true, true, true, true, true, true, true, true, true, true, true, true] rfl rfl (by kernel_rfl) (fun _ _ _ h => h) (Or.inl ⟨by rfl, ?_⟩) ?_ ?_
        rotate_left
        · intro w'
          go_simp
          with_reducible rfl
        rotate_left
        · simp only [Act.put, List.setIfInBounds_toArray, List.set_cons_zero, List.set_cons_succ, i64_w, i32_w]
          rfl
        refine done_ (by kernel_rfl) ?_
        replace hbw := bl_step hbw0 hbw
        clear hb3 ha3
        clear hsum sl1 sl2 hl1 hl2 hturn
        go_wp2
        go_ret
        exact ⟨rfl, hbw⟩
      · have dr : decide (r < 0) = false := decide_eq_false hrn
        obtain ⟨kq, rfl⟩ : ∃ kq : Nat, r = (kq : Int) := ⟨r.toNat, by omega⟩
        have hKl : kq ≤ l.length := by omega
        go_upto_region 23 with fail
        have hbw0 := bl_step hbw hbL
        clear hbw hlW hm0
        obtain ⟨V, hV⟩ : ∃ q, q = wr := ⟨_, rfl⟩
        rw [← hV] at hbw0 ⊢
        clear hV hbL
        have hbw := Below.refl V.heap.size V
        have hlV := hl.below hbw0
        have sl1 := sl_lo A l.length c kq hKl
        have sl2 := sl_hi A l.length c kq (by omega)
        have hOt := hidI (rdI_take kq hlV)
        have hOd := rdI_drop (c := c) (k := kq) hlV hKl hlc
        have hturn := hidI (fun W A c (h : RdI W A (l.drop kq ++ l.take kq)) => (show Calls Try.prog 11 #[.slice A l.length c] W fun e w' => e = .returned (.int .i64 mx) ∧ Below W.heap.size W w' from by
          have hq_ : (l.drop kq ++ l.take kq).length = l.length := by rw [List.length_append, List.length_drop, List.length_take]; omega
          have h_ := mid_calls _ A c W h (by omega)
          rw [hq_, midL_turn, hmx.out] at h_
          exact h_))
        obtain ⟨A9, hA9⟩ : ∃ q, dropA A c kq = q := ⟨_, rfl⟩
        obtain ⟨dk, hdk⟩ : ∃ q, l.length - kq = q := ⟨_, rfl⟩
        obtain ⟨ck, hck⟩ : ∃ q, c - kq = q := ⟨_, rfl⟩
        have hl1 : (Go.Pk.encI (l.drop kq)).length = dk * 1 := by rw [encLen, List.length_drop]; omega
        have hl2 : (Go.Pk.encI (l.take kq)).length = kq * 1 := by rw [encLen, List.length_take]; omega
        have hsum : dk + kq = l.length := by omega
        rw [hA9, hdk, hck] at sl1
        rw [hA9] at hOd
        replace hOd := hidI hOd
        have hdk2 : dk ≤ 60 := by omega
        clear hA9 hdk hck hlV
        replace hb3 := hb3.out
        replace ha3 := ha3.out
        replace hbw := bl_drew hbw
        refine start_ (n := 32) (S := fun w' => True) (ds := []) #[false, false, false, false, false, false, false, false, false, false, false, false, false, false, false, false, false, false, false, false, false, false, false, false, false, false, false, false, false, false, false, false] (by kernel_rfl) rfl rfl trivial (fun hHeld => ?_)
        generalize V.drew = wn at *
        refine one_ (i := 0) (N := some 98) #[true, false, false, false, false, false, false, false, false, false, false, false, false, false, false, false, false, false, false, false, false, false, false, false, false, false, false, false, false, false, false, false] rfl rfl (by kernel_rfl) (by decide) (fun K hK => ?_)
        refine goes_ Try.func10 (by kernel_rfl) rfl #[] (by rfl) rfl rfl (by simp only [List.map_toArray, List.map_cons, List.map_nil] <;> rfl) ?_
        refine (alive22_calls _).mono ?_
        rintro e wn ⟨rfl, hbn⟩
        refine ⟨_, rfl, ?_⟩
        replace hbw := bl_step hbw hbn
        clear hbn
        clear hHeld
        refine hK.out _ _ trivial (fun hHeld => ?_)
        clear hK K
        refine norm_ (a' := ?_) ?_ ?_
        rotate_left
        · show Act.put _ (some 98) _ = _
          simp only [Act.put, List.setIfInBounds_toArray, List.set_cons_zero, List.set_cons_succ, i64_w, i32_w]
          rfl
        refine pure_ (i := 1) (N := some 99) (v := ?_) (a' := ?_) #[true, true, false, false, false, false, false, false, false, false, false, false, false, false, false, false, false, false, false, false, false, false, false, false, false, false, false, false, false, false, false, false] rfl rfl (by kernel_rfl) (fun _ _ _ h => h) (Or.inl ⟨by rfl, ?_⟩) ?_ ?_
        rotate_left
        · intro w'
          go_simp
          with_reducible rfl
        rotate_left
        · simp only [Act.put, List.setIfInBounds_toArray, List.set_cons_zero, List.set_cons_succ, i64_w, i32_w]
          rfl
        refine pure_ (i := 2) (N := some 100) (v := ?_) (a' := ?_) #[true, true, true, false, false, false, false, false, false, false, false, false, false, false, false, false, false, false, false, false, false, false, false, false, false, false, false, false, false, false, false, false] rfl rfl (by kernel_rfl) (fun _ _ _ h => h) (Or.inl ⟨by rfl, ?_⟩) ?_ ?_
        rotate_left
        · intro w'
          go_simp
          with_reducible rfl
        rotate_left
        · simp only [Act.put, List.setIfInBounds_toArray, List.set_cons_zero, List.set_cons_succ, i64_w, i32_w]
          rfl
        refine pure_ (i := 3) (N := some 101) (v := ?_) (a' := ?_) #[true, true, true, true, false, false, false, false, false, false, false, false, false, false, false, false, false, false, false, false, false, false, false, false, false, false, false, false, false, false, false, false] rfl rfl (by kernel_rfl) (fun _ _ _ h => h) (Or.inl ⟨by rfl, ?_⟩) ?_ ?_
        rotate_left
        · intro w'
          go_simp
          with_reducible rfl
        rotate_left
        · simp only [Act.put, List.setIfInBounds_toArray, List.set_cons_zero, List.set_cons_succ, i64_w, i32_w]
          rfl
        refine pure_ (i := 4) (N := some 102) (v := ?_) (a' := ?_) #[true, true, true, true, true, false, false, false, false, false, false, false, false, false, false, false, false, false, false, false, false, false, false, false, false, false, false, false, false, false, false, false] rfl rfl (by kernel_rfl) (fun _ _ _ h => h) (Or.inl ⟨by rfl, ?_⟩) ?_ ?_
        rotate_left
        · intro w'
          go_simp
          with_reducible rfl
        rotate_left
        · simp only [Act.put, List.setIfInBounds_toArray, List.set_cons_zero, List.set_cons_succ, i64_w, i32_w]
          rfl
        refine pure_ (i := 5) (N := some 103) (v := ?_) (a' := ?_) #[true, true, true, true, true, true, false, false, false, false, false, false, false, false, false, false, false, false, false, false, false, false, false, false, false, false, false, false, false, false, false, false] rfl rfl (by kernel_rfl) (fun _ _ _ h => h) (Or.inl ⟨by rfl, ?_⟩) ?_ ?_
        rotate_left
        · intro w'
          go_simp
          with_reducible rfl
        rotate_left
        · simp only [Act.put, List.setIfInBounds_toArray, List.set_cons_zero, List.set_cons_succ, i64_w, i32_w]
          rfl
        refine pure_ (i := 6) (N := some 104) (v := ?_) (a' := ?_) #[true, true, true, true, true, true, true, false, false, false, false, false, false, false, false, false, false, false, false, false, false, false, false, false, false, false, false, false, false, false, false, false] rfl rfl (by kernel_rfl) (fun _ _ _ h => h) (Or.inl ⟨by rfl, ?_⟩) ?_ ?_
        rotate_left
        · intro w'
          go_simp
          with_reducible rfl
        rotate_left
        · simp only [Act.put, List.setIfInBounds_toArray, List.set_cons_zero, List.set_cons_succ, i64_w, i32_w]
          rfl
        refine pure_ (i := 7) (N := some 105) (v := ?_) (a' := ?_) #[true, true, true, true, true, true, true, true, false, false, false, false, false, false, false, false, false, false, false, false, false, false, false, false, false, false, false, false, false, false, false, false] rfl rfl (by kernel_rfl) (fun _ _ _ h => h) (Or.inl ⟨by rfl, ?_⟩) ?_ ?_
        rotate_left
        · intro w'
          go_simp
          with_reducible rfl
        rotate_left
        · simp only [Act.put, List.setIfInBounds_toArray, List.set_cons_zero, List.set_cons_succ, i64_w, i32_w]
          rfl
        refine pure_ (i := 8) (N := some 106) (v := ?_) (a' := ?_) #[true, true, true, true, true, true, true, true, true, false, false, false, false, false, false, false, false, false, false, false, false, false, false, false, false, false, false, false, false, false, false, false] rfl rfl (by kernel_rfl) (fun _ _ _ h => h) (Or.inl ⟨by rfl, ?_⟩) ?_ ?_
        rotate_left
        · intro w'
          go_simp
          with_reducible rfl
        rotate_left
        · simp only [Act.put, List.setIfInBounds_toArray, List.set_cons_zero, List.set_cons_succ, i64_w, i32_w]
          rfl
        refine pure_ (i := 9) (N := some 107) (v := ?_) (a' := ?_) #[true, true, true, true, true, true, true, true, true, true, false, false, false, false, false, false, false, false, false, false, false, false, false, false, false, false, false, false, false, false, false, false] rfl rfl (by kernel_rfl) (fun _ _ _ h => h) (Or.inl ⟨by rfl, ?_⟩) ?_ ?_
        rotate_left
        · intro w'
          go_simp
          with_reducible rfl
        rotate_left
        · simp only [Act.put, List.setIfInBounds_toArray, List.set_cons_zero, List.set_cons_succ, i64_w, i32_w]
          rfl
        refine pure_ (i := 10) (N := some 108) (v := ?_) (a' := ?_) #[true, true, true, true, true, true, true, true, true, true, true, false, false, false, false, false, false, false, false, false, false, false, false, false, false, false, false, false, false, false, false, false] rfl rfl (by kernel_rfl) (fun _ _ _ h => h) (Or.inl ⟨by rfl, ?_⟩) ?_ ?_
        rotate_left
        · intro w'
          go_simp
          with_reducible rfl
        rotate_left
        · simp only [Act.put, List.setIfInBounds_toArray, List.set_cons_zero, List.set_cons_succ, i64_w, i32_w]
          rfl
        refine pure_ (i := 11) (N := some 109) (v := ?_) (a' := ?_) #[true, true, true, true, true, true, true, true, true, true, true, true, false, false, false, false, false, false, false, false, false, false, false, false, false, false, false, false, false, false, false, false] rfl rfl (by kernel_rfl) (fun _ _ _ h => h) (Or.inl ⟨by rfl, ?_⟩) ?_ ?_
        rotate_left
        · intro w'
          go_simp
          with_reducible rfl
        rotate_left
        · simp only [Act.put, List.setIfInBounds_toArray, List.set_cons_zero, List.set_cons_succ, i64_w, i32_w]
          rfl
        refine pure_ (i := 12) (N := some 110) (v := ?_) (a' := ?_) #[true, true, true, true, true, true, true, true, true, true, true, true, true, false, false, false, false, false, false, false, false, false, false, false, false, false, false, false, false, false, false, false] rfl rfl (by kernel_rfl) (fun _ _ _ h => h) (Or.inl ⟨by rfl, ?_⟩) ?_ ?_
        rotate_left
        · intro w'
          go_simp
          with_reducible rfl
        rotate_left
        · simp only [Act.put, List.setIfInBounds_toArray, List.set_cons_zero, List.set_cons_succ, i64_w, i32_w]
          rfl
        refine pure_ (i := 13) (N := some 111) (v := ?_) (a' := ?_) #[true, true, true, true, true, true, true, true, true, true, true, true, true, true, false, false, false, false, false, false, false, false, false, false, false, false, false, false, false, false, false, false] rfl rfl (by kernel_rfl) (fun _ _ _ h => h) (Or.inl ⟨by rfl, ?_⟩) ?_ ?_
        rotate_left
        · intro w'
          go_simp
          with_reducible rfl
        rotate_left
        · simp only [Act.put, List.setIfInBounds_toArray, List.set_cons_zero, List.set_cons_succ, i64_w, i32_w]
          rfl
        refine pure_ (i := 14) (N := some 112) (v := ?_) (a' := ?_) #[true, true, true, true, true, true, true, true, true, true, true, true, true, true, true, false, false, false, false, false, false, false, false, false, false, false, false, false, false, false, false, false] rfl rfl (by kernel_rfl) (fun _ _ _ h => h) (Or.inl ⟨by rfl, ?_⟩) ?_ ?_
        rotate_left
        · intro w'
          go_simp
          with_reducible rfl
        rotate_left
        · simp only [Act.put, List.setIfInBounds_toArray, List.set_cons_zero, List.set_cons_succ, i64_w, i32_w]
          rfl
        refine pure_ (i := 15) (N := some 113) (v := ?_) (a' := ?_) #[true, true, true, true, true, true, true, true, true, true, true, true, true, true, true, true, false, false, false, false, false, false, false, false, false, false, false, false, false, false, false, false] rfl rfl (by kernel_rfl) (fun _ _ _ h => h) (Or.inl ⟨by rfl, ?_⟩) ?_ ?_
        rotate_left
        · intro w'
          go_simp
          with_reducible rfl
        rotate_left
        · simp only [Act.put, List.setIfInBounds_toArray, List.set_cons_zero, List.set_cons_succ, i64_w, i32_w]
          rfl
        refine pure_ (i := 16) (N := some 114) (v := ?_) (a' := ?_) #[true, true, true, true, true, true, true, true, true, true, true, true, true, true, true, true, true, false, false, false, false, false, false, false, false, false, false, false, false, false, false, false] rfl rfl (by kernel_rfl) (fun _ _ _ h => h) (Or.inl ⟨by rfl, ?_⟩) ?_ ?_
        rotate_left
        · intro w'
          go_simp
          with_reducible rfl
        rotate_left
        · simp only [Act.put, List.setIfInBounds_toArray, List.set_cons_zero, List.set_cons_succ, i64_w, i32_w]
          rfl
        refine pure_ (i := 17) (N := some 115) (v := ?_) (a' := ?_) #[true, true, true, true, true, true, true, true, true, true, true, true, true, true, true, true, true, true, false, false, false, false, false, false, false, false, false, false, false, false, false, false] rfl rfl (by kernel_rfl) (fun _ _ _ h => h) (Or.inl ⟨by rfl, ?_⟩) ?_ ?_
        rotate_left
        · intro w'
          go_simp
          with_reducible rfl
        rotate_left
        · simp only [Act.put, List.setIfInBounds_toArray, List.set_cons_zero, List.set_cons_succ, i64_w, i32_w]
          rfl
        refine pure_ (i := 18) (N := some 116) (v := ?_) (a' := ?_) #[true, true, true, true, true, true, true, true, true, true, true, true, true, true, true, true, true, true, true, false, false, false, false, false, false, false, false, false, false, false, false, false] rfl rfl (by kernel_rfl) (fun _ _ _ h => h) (Or.inl ⟨by rfl, ?_⟩) ?_ ?_
        rotate_left
        · intro w'
          go_simp
          with_reducible rfl
        rotate_left
        · simp only [Act.put, List.setIfInBounds_toArray, List.set_cons_zero, List.set_cons_succ, i64_w, i32_w]
          rfl
        refine pure_ (i := 19) (N := some 117) (v := ?_) (a' := ?_) #[true, true, true, true, true, true, true, true, true, true, true, true, true, true, true, true, true, true, true, true, false, false, false, false, false, false, false, false, false, false, false, false] rfl rfl (by kernel_rfl) (fun _ _ _ h => h) (Or.inl ⟨by rfl, ?_⟩) ?_ ?_
        rotate_left
        · intro w'
          go_simp
          with_reducible rfl
        rotate_left
        · simp only [Act.put, List.setIfInBounds_toArray, List.set_cons_zero, List.set_cons_succ, i64_w, i32_w]
          rfl
        refine pure_ (i := 20) (N := some 118) (v := ?_) (a' := ?_) #[true, true, true, true, true, true, true, true, true, true, true, true, true, true, true, true, true, true, true, true, true, false, false, false, false, false, false, false, false, false, false, false] rfl rfl (by kernel_rfl) (fun _ _ _ h => h) (Or.inl ⟨by rfl, ?_⟩) ?_ ?_
        rotate_left
        · intro w'
          go_simp
          with_reducible rfl
        rotate_left
        · simp only [Act.put, List.setIfInBounds_toArray, List.set_cons_zero, List.set_cons_succ, i64_w, i32_w]
          rfl
        refine pure_ (i := 21) (N := some 119) (v := ?_) (a' := ?_) #[true, true, true, true, true, true, true, true, true, true, true, true, true, true, true, true, true, true, true, true, true, true, false, false, false, false, false, false, false, false, false, false] rfl rfl (by kernel_rfl) (fun _ _ _ h => h) (Or.inl ⟨by rfl, ?_⟩) ?_ ?_
        rotate_left
        · intro w'
          go_simp
          with_reducible rfl
        rotate_left
        · simp only [Act.put, List.setIfInBounds_toArray, List.set_cons_zero, List.set_cons_succ, i64_w, i32_w]
          rfl
        refine pure_ (i := 23) (N := some 121) (v := ?_) (a' := ?_) #[true, true, true, true, true, true, true, true, true, true, true, true, true, true, true, true, true, true, true, true, true, true, false, true, false, false, false, false, false, false, false, false] rfl rfl (by kernel_rfl) (fun _ _ _ h => h) (Or.inl ⟨by rfl, ?_⟩) ?_ ?_
        rotate_left
        · intro w'
          go_simp
          with_reducible rfl
        rotate_left
        · simp only [Act.put, List.setIfInBounds_toArray, List.set_cons_zero, List.set_cons_succ, i64_w, i32_w]
          rfl
        refine pure_ (i := 24) (N := some 122) (v := ?_) (a' := ?_) #[true, true, true, true, true, true, true, true, true, true, true, true, true, true, true, true, true, true, true, true, true, true, false, true, true, false, false, false, false, false, false, false] rfl rfl (by kernel_rfl) (fun _ _ _ h => h) (Or.inl ⟨by rfl, ?_⟩) ?_ ?_
        rotate_left
        · intro w'
          go_simp
          with_reducible rfl
        rotate_left
        · simp only [Act.put, List.setIfInBounds_toArray, List.set_cons_zero, List.set_cons_succ, i64_w, i32_w]
          rfl
        refine pure_ (i := 25) (N := some 123) (v := ?_) (a' := ?_) #[true, true, true, true, true, true, true, true, true, true, true, true, true, true, true, true, true, true, true, true, true, true, false, true, true, true, false, false, false, false, false, false] rfl rfl (by kernel_rfl) (fun _ _ _ h => h) (Or.inl ⟨by rfl, ?_⟩) ?_ ?_
        rotate_left
        · intro w'
          go_simp
          with_reducible rfl
        rotate_left
        · simp only [Act.put, List.setIfInBounds_toArray, List.set_cons_zero, List.set_cons_succ, i64_w, i32_w]
          rfl
        refine pure_ (i := 28) (N := some 126) (v := ?_) (a' := ?_) #[true, true, true, true, true, true, true, true, true, true, true, true, true, true, true, true, true, true, true, true, true, true, false, true, true, true, false, false, true, false, false, false] rfl rfl (by kernel_rfl) (fun _ _ _ h => h) (Or.inl ⟨by rfl, ?_⟩) ?_ ?_
        rotate_left
        · intro w'
          go_simp
          with_reducible rfl
        rotate_left
        · simp only [Act.put, List.setIfInBounds_toArray, List.set_cons_zero, List.set_cons_succ, i64_w, i32_w]
          rfl
        refine one_ (i := 22) (N := some 120) #[true, true, true, true, true, true, true, true, true, true, true, true, true, true, true, true, true, true, true, true, true, true, true, true, true, true, false, false, true, false, false, false] rfl rfl (by kernel_rfl) (by decide) (fun K hK => ?_)
        have hnil : wn.ownsRow V.heap.size 3 1 (.slice none 0 0) 0 [] := World.ownsRow_nil _ _ _ _
        obtain ⟨v2, w2, hrun, ho2, hg2, -⟩ := run_appRd (P := Try.prog) wn V.heap.size 22 22 3 _ 1 _ Try.underlying22 infoI18 (by rfl) (by omega) (.slice none 0 0) 0 [] hnil A9 dk ck (Go.Pk.encI (l.drop kq)) hl1 (hOd.out.below hbw).2 (enc1 _) (by omega) (by omega) hbw.size
        rw [Nat.zero_add, List.nil_append] at ho2
        obtain ⟨A3, c3, rfl, hc3, hr_A3, hn_, -⟩ := own_rdC ho2
        clear hn_
        refine value_ (w1 := w2) (v := .slice A3 (dk) c3) (by rfl) rfl (exec_app (.const (.slice none 0 0)) (.tmp 119) 22 (by rfl) (by rfl) (by rfl) hrun) ?_
        replace hbw := bl_grown hbw hg2 (fun k_ hk_ => (own_lt hnil k_ hk_).1)
        have ho3 := ho2
        clear ho2 hg2 hrun hnil hr_A3 hc3
        generalize w2 = wn at *
        clear hHeld
        refine hK.out _ _ trivial (fun hHeld => ?_)
        clear hK K
        refine norm_ (a' := ?_) ?_ ?_
        rotate_left
        · show Act.put _ (some 120) _ = _
          simp only [Act.put, List.setIfInBounds_toArray, List.set_cons_zero, List.set_cons_succ, i64_w, i32_w]
          rfl
        refine one_ (i := 26) (N := some 124) #[true, true, true, true, true, true, true, true, true, true, true, true, true, true, true, true, true, true, true, true, true, true, true, true, true, true, true, false, true, false, false, false] rfl rfl (by kernel_rfl) (by decide) (fun K hK => ?_)
        obtain ⟨v2, w2, hrun, ho2, hg2, -⟩ := run_appRd (P := Try.prog) wn V.heap.size 22 22 3 _ 1 _ Try.underlying22 infoI18 (by rfl) (by omega) (.slice A3 dk c3) dk (Go.Pk.encI (l.drop kq)) ho3 A kq c (Go.Pk.encI (l.take kq)) hl2 (hOt.out.below hbw).2 (enc1 _) (by omega) (by omega) hbw.size
        rw [hsum, encApp] at ho2
        obtain ⟨A6, c6, rfl, hc6, hr_A6, hn_, -⟩ := own_rdC ho2
        clear hn_
        refine value_ (w1 := w2) (v := .slice A6 (l.length) c6) (by rfl) rfl (exec_app (.tmp 120) (.tmp 123) 22 (by rfl) (by rfl) (by rfl) hrun) ?_
        replace hbw := bl_grown hbw hg2 (fun k_ hk_ => (own_lt ho3 k_ hk_).1)
        have hRd6 : RdI w2 A6 (l.drop kq ++ l.take kq) := ⟨by rw [List.length_append, List.length_drop, List.length_take]; omega, hr_A6⟩
        clear ho2 hg2 hrun ho3 hr_A6
        generalize w2 = wn at *
        clear hHeld
        refine hK.out _ _ trivial (fun hHeld => ?_)
        clear hK K
        refine norm_ (a' := ?_) ?_ ?_
        rotate_left
        · show Act.put _ (some 124) _ = _
          simp only [Act.put, List.setIfInBounds_toArray, List.set_cons_zero, List.set_cons_succ, i64_w, i32_w]
          rfl
        refine one_ (i := 27) (N := some 125) #[true, true, true, true, true, true, true, true, true, true, true, true, true, true, true, true, true, true, true, true, true, true, true, true, true, true, true, true, true, false, false, false] rfl rfl (by kernel_rfl) (by decide) (fun K hK => ?_)
        refine goes_ Try.func11 (by kernel_rfl) rfl #[.slice A6 l.length c6] (by rfl) rfl rfl (by simp only [List.map_toArray, List.map_cons, List.map_nil] <;> rfl) ?_
        refine (hturn.out _ _ _ hRd6).mono ?_
        rintro e wn ⟨rfl, hbn⟩
        refine ⟨_, rfl, ?_⟩
        replace hbw := bl_step hbw hbn
        clear hbn
        clear hHeld
        refine hK.out _ _ trivial (fun hHeld => ?_)
        clear hK K
        refine norm_ (a' := ?_) ?_ ?_
        rotate_left
        · show Act.put _ (some 125) _ = _
          simp only [Act.put, List.setIfInBounds_toArray, List.set_cons_zero, List.set_cons_succ, i64_w, i32_w]
          rfl
        refine pure_ (i := 29) (N := some 127) (v := ?_) (a' := ?_) #[true, true, true, true, true, true, true, true, true, true, true, true, true, true, true, true, true, true, true, true, true, true, true, true, true, true, true, true, true, true, false, false] rfl rfl (by kernel_rfl) (fun _ _ _ h => h) (Or.inl ⟨by rfl, ?_⟩) ?_ ?_
        rotate_left
        · intro w'
          go_simp
          with_reducible rfl
        rotate_left
        · simp only [Act.put, List.setIfInBounds_toArray, List.set_cons_zero, List.set_cons_succ, i64_w, i32_w]
          rfl
        refine pure_ (i := 30) (N := some 128) (v := ?_) (a' := ?_) #[true, true, true, true, true, true, true, true, true, true, true, true, true, true, true, true, true, true, true, true, true, true, true, true, true, true, true, true, true, true, true, false] rfl rfl (by kernel_rfl) (fun _ _ _ h => h) (Or.inl ⟨by rfl, ?_⟩) ?_ ?_
        rotate_left
        · intro w'
          go_simp
          with_reducible rfl
        rotate_left
        · simp only [Act.put, List.setIfInBounds_toArray, List.set_cons_zero, List.set_cons_succ, i64_w, i32_w]
          rfl
        refine pure_ (i := 31) (N := some 4) (v := ?_) (a' := ?_) #[true, true, true, true, true, true, true, true, true, true, true, true, true, true, true, true, true, true, true, true, true, true, true, true, true, true, true, true, true, true, true, true] rfl rfl (by kernel_rfl) (fun _ _ _ h => h) (Or.inl ⟨by rfl, ?_⟩) ?_ ?_
        rotate_left
        · intro w'
          go_simp
          with_reducible rfl
        rotate_left
        · simp only [Act.put, List.setIfInBounds_toArray, List.set_cons_zero, List.set_cons_succ, i64_w, i32_w]
          rfl
        refine done_ (by kernel_rfl) ?_
        replace hbw := bl_step hbw0 hbw
        clear hb3 ha3
        clear hsum sl1 sl2 hl1 hl2 hturn
        go_wp2
        go_ret
        exact ⟨rfl, hbw⟩
end Go.Proofs.Ytggididnclfahaa
