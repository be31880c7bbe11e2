/- Proved here: lemmas and contracts (what a function of the program computes) that the proofs of the laws of this seat lean on. Conditions: as each theorem states. -/
import Derived.Test.YtjidbjmekpholaaAd6
set_option linter.unusedVariables false
set_option linter.unusedSimpArgs false
namespace Go.Proofs.Ytjidbjmekpholaa
open Go.RowKit Go.Pk Go.Pk.Ad Go.Proofs.YtjidbjmekpholaaW.PrintMore
attribute [local go_sem] max2_int min2_int max_two min_two
theorem adBeh_of2 {w : World} {g B0 n c : Nat} {A : Option Addr} {high climb : Int} {W : List Int} (h : w.heap[g]? = some (.cells #[.int .i64 high, .int .i64 climb, .slice A n c] 73 (0, 0))) (ho : w.ownsRow B0 3 1 (.slice A n c) n (encI W)) (hn : W.length = n) : BehAt w g high climb W := by
  obtain ⟨A', c', e, hr⟩ := own_readsI ho
  injection e with e1 e2 e3
  subst e1
  subst e3
  refine ⟨A, c, (blkc h 0).trans rfl, (blkc h 1).trans rfl, ?_, hr⟩
  rw [hn]
  exact (blkc h 2).trans rfl
theorem own_apart_old {w : World} {b b' n n' s s' B : Nat} {e e' : TypeId} {v v' : Value} {xs xs' : List Value} (h : w.ownsRow b e s v n xs) (h' : w.ownsRow b' e' s' v' n' xs') (ho : ∀ k, v.ownBlock = some k → k < B) (hn : ∀ k, v'.ownBlock = some k → B ≤ k) : v.ownBlock = none ∨ v.ownBlock ≠ v'.ownBlock := by
  cases hv : v.ownBlock with
  | none => exact Or.inl rfl
  | some kk =>
    refine Or.inr fun e => ?_
    have h1 := ho kk hv
    have h2 := hn kk e.symm
    omega
/-- What is done at a height with so many ticks left: what the plan says, else what the table says. -/
def planF (high : Int) (S : ByteArray) (k : Nat) (plan : List Int) (left : Nat) (h : Int) : Int :=
  if k - left < plan.length then plan.getD (k - left) 0 else Go.Proofs.YtjidbjmekpholaaW.PrintWords.bt S ((left : Int) * (2 * high + 1) + high + h)
def longB (high ticks : Int) (S : ByteArray) : Bool := (S.size : Int) == (ticks + 1) * (2 * high + 1)
def costV (high ticks near climb : Int) (S : ByteArray) (h k : Int) (plan : List Int) : Int :=
  if mayB high ticks near climb = true ∧ longB high ticks S = true then ofW high (costK high near climb (planF high S (min (max k 0) ticks).toNat plan) (min (max k 0) ticks).toNat) (stayI h high) else 0
theorem adCost_no (high ticks near climb h k : Int) (S : ByteArray) (A : Option Addr) (c : Nat) (plan : List Int) (w : World) (hno : ¬ (mayB high ticks near climb = true ∧ longB high ticks S = true)) :
    Calls Try.prog 26 #[.agg #[.int .i64 high, .int .i64 ticks, .int .i64 near, .int .i64 climb, .string S], .int .i64 h, .int .i64 k, .slice A plan.length c] w fun e w' => e = .returned (.int .i64 0) ∧ Below w.heap.size w w' := by
  have hk := blk_new w (.cells #[.int .i64 high, .int .i64 ticks, .int .i64 near, .int .i64 climb, .string S] 38)
  have c0 := blkc hk 0
  have c1 := blkc hk 1
  have c2 := blkc hk 2
  have c3 := blkc hk 3
  have c4 := blkc hk 4
  simp at c0 c1 c2 c3 c4
  by_cases hm : mayB high ticks near climb = true
  · have hl : longB high ticks S = false := by
      cases hh : longB high ticks S with
      | false => rfl
      | true => exact absurd ⟨hm, hh⟩ hno
    have hM := mayB_iff.1 hm
    have HM := hidI hm
    have HL := hidI hl
    clear hm hl hno
    go_enter Try.func26, Try.ntmps26
    go_wp2_with fail
    refine (adMay_calls _ _ _ _ _).mono ?_
    rintro e w1 ⟨rfl, hw1⟩
    obtain rfl := hw1
    rw [HM.out]
    go_wp2_with fail
    refine (adLong_calls high ticks near climb S _ (by omega) (by omega) (by omega) (by omega)).mono ?_
    rintro e w2 ⟨rfl, hb1⟩
    rw [show ((S.size : Int) == (ticks + 1) * (2 * high + 1)) = false from HL.out]
    go_wp2
    go_ret
    exact ⟨rfl, (by (repeat (first | with_reducible exact Below.refl _ _ | with_reducible assumption | with_reducible apply bl_alloc | with_reducible apply bl_drew | with_reducible apply bl_drewN | (with_reducible refine bl_set ?_ (by first | omega | (simp; done) | (simp; omega)) _) | (with_reducible refine bl_step ?_ (by assumption)) | (with_reducible refine bl_grown ?_ (by assumption) (by assumption)) | (with_reducible refine bl_own ?_ (by assumption) (by assumption)))))⟩
  · have HM := hidI (show mayB high ticks near climb = false by simpa using hm)
    clear hm hno
    go_enter Try.func26, Try.ntmps26
    go_wp2_with fail
    refine (adMay_calls _ _ _ _ _).mono ?_
    rintro e w1 ⟨rfl, hw1⟩
    obtain rfl := hw1
    rw [HM.out]
    go_wp2
    go_ret
    exact ⟨rfl, (by (repeat (first | with_reducible exact Below.refl _ _ | with_reducible assumption | with_reducible apply bl_alloc | with_reducible apply bl_drew | with_reducible apply bl_drewN | (with_reducible refine bl_set ?_ (by first | omega | (simp; done) | (simp; omega)) _) | (with_reducible refine bl_step ?_ (by assumption)) | (with_reducible refine bl_grown ?_ (by assumption) (by assumption)) | (with_reducible refine bl_own ?_ (by assumption) (by assumption)))))⟩
set_option maxHeartbeats 4000000 in
set_option maxRecDepth 100000 in
theorem adCost_yes (high ticks near climb h k : Int) (S : ByteArray) (A : Option Addr) (c : Nat) (plan : List Int) (w : World) (hp : RdA w A plan) (hg0 : 1 ≤ high) (hg1 : high ≤ 60) (ht0 : 0 ≤ ticks) (ht1 : ticks ≤ 60) (hn0 : 0 ≤ near) (hn1 : near ≤ high) (hm0 : 1 ≤ climb) (hm1 : climb ≤ 10) (hl : ((S.size : Int) == (ticks + 1) * (2 * high + 1)) = true) :
    Calls Try.prog 26 #[.agg #[.int .i64 high, .int .i64 ticks, .int .i64 near, .int .i64 climb, .string S], .int .i64 h, .int .i64 k, .slice A plan.length c] w fun e w' => e = .returned (.int .i64 (ofW high (costK high near climb (planF high S (min (max k 0) ticks).toNat plan) (min (max k 0) ticks).toNat) (stayI h high))) ∧ Below w.heap.size w w' := by
  have HM : Hid (mayB high ticks near climb = true) := mayB_iff.2 ⟨hg0, hg1, ht0, ht1, hn0, hn1, hm0, hm1⟩
  have HL := hidI hl
  clear hl
  have hst := stayI_rng (show 0 ≤ high by omega) h
  obtain ⟨y, hy⟩ : ∃ y, y = stayI h high := ⟨_, rfl⟩
  obtain ⟨K, hK⟩ : ∃ K, K = (min (max k 0) ticks).toNat := ⟨_, rfl⟩
  rw [← hy, ← hK]
  rw [← hy] at hst
  have hK2 : (K : Int) ≤ ticks ∧ K ≤ 60 := by omega
  have HY := hidI hy
  have HK := hidI hK
  clear hy hK
  have hk := blk_new w (.cells #[.int .i64 high, .int .i64 ticks, .int .i64 near, .int .i64 climb, .string S] 38)
  have hbw := bl_alloc (Below.refl w.heap.size w) (.cells #[.int .i64 high, .int .i64 ticks, .int .i64 near, .int .i64 climb, .string S] 38)
  have c0 := blkc hk 0
  have c1 := blkc hk 1
  have c2 := blkc hk 2
  have c3 := blkc hk 3
  have c4 := blkc hk 4
  simp at c0 c1 c2 c3 c4
  go_enter Try.func26, Try.ntmps26
  go_wp2_with fail
  refine (adMay_calls _ _ _ _ _).mono ?_
  rintro e w1 ⟨rfl, hw1⟩
  obtain rfl := hw1
  rw [HM.out]
  go_wp2_with fail
  refine (adLong_calls high ticks near climb S _ (by omega) (by omega) (by omega) (by omega)).mono ?_
  rintro e w2 ⟨rfl, hb1⟩
  rw [HL.out]
  have hk1 := bl_block hb1 hk
  replace hbw := bl_step hbw hb1
  have hp1 := hp.below hbw
  clear hk c0 c1 c2 c3 c4 hb1
  obtain ⟨g0, hg0'⟩ : ∃ g, g = w.heap.size := ⟨_, rfl⟩
  have hgw : w.heap.size ≤ g0 := Nat.le_of_eq hg0'.symm
  rw [← hg0'] at hk1 ⊢
  clear hg0'
  have hlt0 : g0 < w2.heap.size := blk_lt hk1
  have c0 := blkc hk1 0
  have c1 := blkc hk1 1
  simp at c0 c1
  go_upto_region 3 with fail
  go_cut [1, 2] (fun s1 s2 wx => s1 = .int .i64 y ∧ s2 = .int .i64 K ∧ Below w2.heap.size w2 wx)
  case first =>
    have hs1 : IntKind.i64.wrap (-high) = -high := IntWalk.i64_in _ (by omega)
    go_quiet (fail)
    go_wp2
    all_goals
      go_meet
      have e1 := HY.out
      have e2 := HK.out
      unfold stayI at e1
      refine ⟨?_, ?_, (by (repeat (first | with_reducible exact Below.refl _ _ | with_reducible assumption | with_reducible apply bl_alloc | with_reducible apply bl_drew | with_reducible apply bl_drewN | (with_reducible refine bl_set ?_ (by first | omega | (simp; done) | (simp; omega)) _) | (with_reducible refine bl_step ?_ (by assumption)) | (with_reducible refine bl_grown ?_ (by assumption) (by assumption)) | (with_reducible refine bl_own ?_ (by assumption) (by assumption)))))⟩
      · show Value.int .i64 _ = Value.int .i64 _
        congr 1
        clear e2 hK2 HK
        first | omega | (split at * <;> first | omega | (split at * <;> omega))
      · show Value.int .i64 _ = Value.int .i64 _
        congr 1
        clear e1 hst HY
        first | omega | (split at * <;> first | omega | (split at * <;> omega))
  case rest =>
    clear c0 c1
    obtain ⟨rfl, rfl, hb2⟩ := hcut
    replace hk1 := bl_block hb2 hk1
    replace hp1 := hp1.below hb2
    replace hbw := bl_step hbw hb2
    have hz2 := hb2.size
    replace hlt0 := blk_lt hk1
    clear hb2 hz2
    have c0 := blkc hk1 0
    have c2 := blkc hk1 2
    have c3 := blkc hk1 3
    simp at c0 c2 c3
    go_wp2_with fail
    refine (adEnd_calls _ _ _ _ hg0 hg1 hn0 (by omega) (by omega) (by omega)).mono ?_
    rintro e w3 ⟨v, rfl, ho, hb3⟩
    replace ho := own_lower ho hbw.size
    replace hk1 := bl_block hb3 hk1
    replace hbw := bl_step hbw hb3
    have hw3s := hbw.size
    have hs3 := hb3.size
    clear hb3 c0 c2 c3 hp1
    have hx := blk_new w3 (.cells #[.int .i64 high, .int .i64 climb, v] 73)
    replace hk1 := blk_alloc hk1 (.cells #[.int .i64 high, .int .i64 climb, v] 73)
    replace hbw := bl_alloc hbw (.cells #[.int .i64 high, .int .i64 climb, v] 73)
    replace ho := own_alloc ho (.cells #[.int .i64 high, .int .i64 climb, v] 73)
    obtain ⟨A1, c1, rfl, -⟩ := own_reads ho
    go_upto_region 5 with fail
    have hg9w : w.heap.size ≤ w3.heap.size := hw3s
    generalize w3.alloc (.cells #[.int .i64 high, .int .i64 climb, .slice A1 (2 * high + 1).toNat c1] 73) = W3 at *
    generalize w3.heap.size = g9 at *
    clear hs3 hlt0
    have hw0 := hbw.size
    obtain ⟨N, hN⟩ : ∃ N, N = (2 * high + 1).toNat := ⟨_, rfl⟩
    have hN2 : (N : Int) ≤ 2 * high + 1 ∧ 2 * high + 1 ≤ (N : Int) := by omega
    rw [← hN] at hx ho
    have HN := hidI hN
    clear hN
    have hcl : ∀ n, Hid ((costK high near climb (planF high S K plan) n).length = N) := fun n => by unfold Hid; rw [(costK_good high near climb (planF high S K plan) n).1, HN.out]
    have HCL := hidI hcl
    clear hcl
    have h120 : N ≤ 121 := by omega
    go_wp2
    go_loopw [10, 11, 12, 13, 14] (fun l v i p q wr => ∃ n : Nat, n ≤ K ∧ l = .int .i64 ((n : Int) + 1) ∧ Below w.heap.size w wr ∧ wr.heap[g0]? = some (.cells #[.int .i64 high, .int .i64 ticks, .int .i64 near, .int .i64 climb, .string S] 38 (0, 0)) ∧ ∃ A2 c2, wr.heap[g9]? = some (.cells #[.int .i64 high, .int .i64 climb, .slice A2 N c2] 73 (0, 0)) ∧ wr.ownsRow w.heap.size 3 1 (.slice A2 N c2) N (encI (costK high near climb (planF high S K plan) n))) (fun l _ _ _ _ _ => (K + 1 - intOf l).toNat)
    case atStart => exact ⟨0, by omega, rfl, hbw, hk1, A1, c1, hx, ho⟩
    case round =>
      clear hx hk1 hbw ho hw0
      obtain ⟨n, hn, rfl, hbw, hk1, A2, c2, hx, ho⟩ := hrel
      by_cases hlt : n < K
      · have hle : decide ((n : Int) + 1 ≤ K) = true := decide_eq_true (by omega)
        obtain ⟨W, hWe⟩ : ∃ W, W = costK high near climb (planF high S K plan) n := ⟨_, rfl⟩
        have hW : GoodW high W (1000 + n) := by rw [hWe]; exact costK_good _ _ _ _ _
        have hWl : Hid (W.length = N) := by rw [hWe]; exact HCL.out n
        rw [← hWe] at ho
        have hnx : Hid (costK high near climb (planF high S K plan) (n + 1) = planW high climb W (planF high S K plan (n + 1))) := by rw [hWe]; rfl
        clear hWe
        have hwr := hbw.size
        have c0 := blkc hk1 0
        simp at c0
        go_wp2
        clear c0
        have HA2 : Hid (∀ kk, (Value.slice A2 N c2).ownBlock = some kk → kk < wr.heap.size) := fun kk hkk => (ho.lt kk hkk).2
        obtain ⟨wo, hwo⟩ : ∃ wo : World, wo = wr := ⟨_, rfl⟩
        subst hwo
        go_loopw [11, 12, 13, 14] (fun v i p q wi => ∃ (j : Nat) (vv : Value), vv = v ∧ j ≤ N ∧ i = .int .i64 ((j : Int) - high) ∧ Below w.heap.size w wi ∧ wo.heap.size ≤ wi.heap.size ∧ wi.heap[g0]? = some (.cells #[.int .i64 high, .int .i64 ticks, .int .i64 near, .int .i64 climb, .string S] 38 (0, 0)) ∧ wi.heap[g9]? = some (.cells #[.int .i64 high, .int .i64 climb, .slice A2 N c2] 73 (0, 0)) ∧ wi.ownsRow w.heap.size 3 1 (.slice A2 N c2) N (encI W) ∧ wi.ownsRow wo.heap.size 3 1 vv j (encI ((planW high climb W (planF high S K plan (n + 1))).take j))) (fun _ i _ _ _ => (high + 1 - intOf i).toNat)
        case atStart => exact ⟨0, _, rfl, by omega, by simp, hbw, Nat.le_refl _, hk1, hx, ho, World.ownsRow_nil _ _ _ _⟩
        case round =>
          clear hx hk1 hbw ho
          obtain ⟨j, vv, hvv, hj, rfl, hbw, hsz, hk1, hx, ho, hov⟩ := hrel
          subst hvv
          have c0 := blkc hk1 0
          simp at c0
          by_cases hjl : j < N
          · have hje : decide ((j : Int) - high ≤ high) = true := decide_eq_true (by omega)
            have hxw : Hid (encI ((planW high climb W (planF high S K plan (n + 1))).take (j + 1)) = encI ((planW high climb W (planF high S K plan (n + 1))).take j) ++ [.int .i64 (doesA high climb W ((j : Int) - high) (planF high S K plan (n + 1) ((j : Int) - high)))]) := by
              unfold Hid
              rw [planW, hsL_take high _ j (by rw [← HN.out]; exact hjl)]; simp [encI]
            have hstep : Hid (Value.int .i64 ((j : Int) - high + 1) = Value.int .i64 (((j + 1 : Nat) : Int) - high)) := by unfold Hid; congr 1; omega
            generalize (planW high climb W (planF high S K plan (n + 1))).take j = PT at *
            obtain ⟨t, ht⟩ : ∃ t, t = (j : Int) - high := ⟨_, rfl⟩
            rw [← ht] at hxw hje hstep ⊢
            have htb : -high ≤ t ∧ t ≤ high := by omega
            have Ht := hidI ht
            clear ht
            obtain ⟨idx, hidx, hidS⟩ : ∃ idx : Nat, Hid (((n : Int) + 1) * (2 * high + 1) + high + t = (idx : Int)) ∧ idx < S.size := by
              have h1 := prodB (show 0 ≤ (n : Int) + 1 by omega) (show (n : Int) + 1 ≤ 60 by omega) (show 0 ≤ 2 * high + 1 by omega) (show 2 * high + 1 ≤ 121 by omega)
              have h2 : ((n : Int) + 1 + 1) * (2 * high + 1) ≤ (ticks + 1) * (2 * high + 1) := Int.mul_le_mul_of_nonneg_right (by omega) (by omega)
              have h3 : ((n : Int) + 1 + 1) * (2 * high + 1) = ((n : Int) + 1) * (2 * high + 1) + (2 * high + 1) := by rw [Int.add_mul ((n : Int) + 1) 1, Int.one_mul]
              have h4 : (S.size : Int) = (ticks + 1) * (2 * high + 1) := by have := HL.out; simpa using this
              refine ⟨(((n : Int) + 1) * (2 * high + 1) + high + t).toNat, by unfold Hid; omega, by omega⟩
            have hd0 : Hid (¬ K - (n + 1) < plan.length → planF high S K plan (n + 1) t = (S[idx].toNat : Int)) := by
              intro h_
              unfold planF
              rw [if_neg h_]
              unfold Go.Proofs.YtjidbjmekpholaaW.PrintWords.bt
              have e1 : ((n + 1 : Nat) : Int) * (2 * high + 1) + high + t = (idx : Int) := by have := hidx.out; push_cast; exact this
              rw [e1, dif_pos (by simpa using hidS)]
              rfl
            have hd1 : Hid (K - (n + 1) < plan.length → planF high S K plan (n + 1) t = plan.getD (K - (n + 1)) 0) := by
              intro h_
              unfold planF
              rw [if_pos h_]
            generalize planF high S K plan (n + 1) t = d at *
            have hres := doesA_rng (climb := climb) hW (by omega) t d
            have c1 := blkc hk1 1
            have c2' := blkc hk1 2
            have c3 := blkc hk1 3
            have c4 := blkc hk1 4
            simp at c1 c2' c3 c4
            go_wp2_with fail
            refine (adAsk_calls high ticks near climb t ((n : Int) + 1) S idx _ hg0 hg1 ht0 ht1 HL.out htb.1 htb.2 (by omega) (by omega) hidx.out hidS).mono ?_
            rintro e w5 ⟨rfl, hb5⟩
            have hs5 := hb5.size
            replace hk1 := bl_block hb5 hk1
            replace hx := bl_block hb5 hx
            replace ho := own_below ho hb5
            replace hov := own_below hov hb5
            replace hbw := bl_step hbw hb5
            have hp5 := hp.below hbw
            replace hsz := Nat.le_trans hsz hs5
            clear hb5 hs5 c0 c1 c2' c3 c4 hidx
            generalize (S[idx].toNat : Int) = ask at *
            have hplen := hp5.1
            by_cases hpl : K - (n + 1) < plan.length
            · obtain ⟨pa, rfl, hpc⟩ := hp5.at hpl
              have hdd := hd1.out hpl
              rw [← hdd] at hpc
              clear hdd hd0 hd1
              have hpd : decide ((K : Int) - ((n : Int) + 1) < (plan.length : Int)) = true := decide_eq_true (by omega)
              have hpg : 0 ≤ (K : Int) - ((n : Int) + 1) := by omega
              go_wp2_with fail
              refine (adDoes_calls g9 high climb t d (1000 + n) W _ (adBeh_of2 hx ho hWl.out) hW (by omega) (by omega) hg0 hg1 hm0 hm1 htb.1 htb.2).mono ?_
              rintro e w6 ⟨rfl, hb6⟩
              generalize doesA high climb W t d = x at *
              have hs6 := hb6.size
              replace hk1 := bl_block hb6 hk1
              replace hx := bl_block hb6 hx
              replace ho := own_below ho hb6
              replace hov := own_below hov hb6
              replace hbw := bl_step hbw hb6
              replace hsz := Nat.le_trans hsz hs6
              clear hb6 hs6
              have q0 := own_ne_blk hov hx (by decide)
              have q1 := own_ne_blk hov hk1 (by decide)
              have r0 := own_row hov
              have n3 := own_apart_old ho hov HA2.out r0
              go_wp2_with ((at_builtin; refine list_ap (by rfl) _ _ _ (by rfl) wo.heap.size 3 _ 1 8 Try.underlying24 adInfoI rfl (by omega) vv j (encI PT) (by rfl) ?ho _ [.int .i64 x] (by rfl) rfl ?hG (by simp [Value.oneCell']) (by omega) (by omega) ?hB ?_; (case ho => (repeat (first | with_reducible assumption | with_reducible apply own_drew | with_reducible apply own_alloc | (with_reducible refine own_below ?_ (by assumption)) | (with_reducible refine own_grown ?_ (by assumption) (by assumption))))); (case hG => (repeat (first | with_reducible assumption | with_reducible exact blk_new _ _ | with_reducible apply blk_drew | (with_reducible refine blk_newE ?_; (first | done | (simp; done))) | with_reducible apply blk_put2 | (with_reducible refine blk_far ?_ (by first | omega | (simp; done) | (simp; omega)) _) | with_reducible apply blk_alloc | (with_reducible refine bl_block (by assumption) ?_) | (with_reducible refine blk_grown ?_ (by assumption) (by assumption)) | (with_reducible refine blk_acc (by assumption) ?_ (by assumption))))); (case hB => (simp; omega)); intro g2 c3 w7 hown hgrow hat hlt1))
              have hs7 : w6.heap.size + 1 ≤ w7.heap.size := by have := hgrow.size; simpa using this
              go_roundw
              case rel => exact ⟨j + 1, _, rfl, by omega, hstep.out, (bl_alloc hbw _).grown hgrow (by simp; omega) (fun kk h => Nat.le_trans hwr (r0 kk h)), by omega, blk_grown (blk_alloc hk1 _) hgrow q1, blk_grown (blk_alloc hx _) hgrow q0, own_grown (own_alloc ho _) hgrow n3, by rw [hxw.out]; exact hown⟩
              case measure => have := Ht.out; simp [intOf]; omega
            · have hdd := hd0.out hpl
              rw [← hdd]
              clear hdd hd0 hd1
              have hpd : decide ((K : Int) - ((n : Int) + 1) < (plan.length : Int)) = false := decide_eq_false (by omega)
              go_wp2_with fail
              refine (adDoes_calls g9 high climb t d (1000 + n) W _ (adBeh_of2 hx ho hWl.out) hW (by omega) (by omega) hg0 hg1 hm0 hm1 htb.1 htb.2).mono ?_
              rintro e w6 ⟨rfl, hb6⟩
              generalize doesA high climb W t d = x at *
              have hs6 := hb6.size
              replace hk1 := bl_block hb6 hk1
              replace hx := bl_block hb6 hx
              replace ho := own_below ho hb6
              replace hov := own_below hov hb6
              replace hbw := bl_step hbw hb6
              replace hsz := Nat.le_trans hsz hs6
              clear hb6 hs6
              have q0 := own_ne_blk hov hx (by decide)
              have q1 := own_ne_blk hov hk1 (by decide)
              have r0 := own_row hov
              have n3 := own_apart_old ho hov HA2.out r0
              go_wp2_with ((at_builtin; refine list_ap (by rfl) _ _ _ (by rfl) wo.heap.size 3 _ 1 8 Try.underlying24 adInfoI rfl (by omega) vv j (encI PT) (by rfl) ?ho _ [.int .i64 x] (by rfl) rfl ?hG (by simp [Value.oneCell']) (by omega) (by omega) ?hB ?_; (case ho => (repeat (first | with_reducible assumption | with_reducible apply own_drew | with_reducible apply own_alloc | (with_reducible refine own_below ?_ (by assumption)) | (with_reducible refine own_grown ?_ (by assumption) (by assumption))))); (case hG => (repeat (first | with_reducible assumption | with_reducible exact blk_new _ _ | with_reducible apply blk_drew | (with_reducible refine blk_newE ?_; (first | done | (simp; done))) | with_reducible apply blk_put2 | (with_reducible refine blk_far ?_ (by first | omega | (simp; done) | (simp; omega)) _) | with_reducible apply blk_alloc | (with_reducible refine bl_block (by assumption) ?_) | (with_reducible refine blk_grown ?_ (by assumption) (by assumption)) | (with_reducible refine blk_acc (by assumption) ?_ (by assumption))))); (case hB => (simp; omega)); intro g2 c3 w7 hown hgrow hat hlt1))
              have hs7 : w6.heap.size + 1 ≤ w7.heap.size := by have := hgrow.size; simpa using this
              go_roundw
              case rel => exact ⟨j + 1, _, rfl, by omega, hstep.out, (bl_alloc hbw _).grown hgrow (by simp; omega) (fun kk h => Nat.le_trans hwr (r0 kk h)), by omega, blk_grown (blk_alloc hk1 _) hgrow q1, blk_grown (blk_alloc hx _) hgrow q0, own_grown (own_alloc ho _) hgrow n3, by rw [hxw.out]; exact hown⟩
              case measure => have := Ht.out; simp [intOf]; omega
          · have hjN : j = N := by omega
            subst hjN
            have hje : decide ((j : Int) - high ≤ high) = false := decide_eq_false (by omega)
            have hall : Hid ((planW high climb W (planF high S K plan (n + 1))).take j = planW high climb W (planF high S K plan (n + 1))) := by unfold Hid; rw [HN.out, planW, hsL_all]
            rw [hall.out] at hov
            obtain ⟨A3, c3, rfl, -⟩ := own_reads hov
            have z2 := blkf hx 2
            have m2 := blkc hx 2
            simp at m2
            go_wp2
            have p1 := own_ne_blk hov hx (by decide)
            have p2 := own_ne_blk ho hx (by decide)
            have hx2 := blk_set hx 2 (.slice A3 j c3)
            simp at hx2
            have hg09 : g9 ≠ g0 := by
              intro e
              rw [e, hk1] at hx
              simp at hx
            have hwow : w.heap.size ≤ wo.heap.size := hwr
            have hov2 := own_lower (own_set hov (a := ⟨g9, 2, none⟩) p1 (.slice A3 j c3)) hwow
            go_roundw
            case rel => exact ⟨n + 1, by omega, by go_num, hbw.setCell (p := ⟨g9, 2, none⟩) hg9w _, blk_far hk1 (a := ⟨g9, 2, none⟩) hg09 _, A3, c3, hx2, by rw [hnx.out]; exact hov2⟩
            case measure => simp [intOf]; omega
      · have hnK : n = K := by omega
        subst hnK
        have hle : decide ((n : Int) + 1 ≤ n) = false := decide_eq_false (by omega)
        obtain ⟨W, hWe⟩ : ∃ W, W = costK high near climb (planF high S n plan) n := ⟨_, rfl⟩
        have hW : GoodW high W (1000 + n) := by rw [hWe]; exact costK_good _ _ _ _ _
        have hWl : Hid (W.length = N) := by rw [hWe]; exact HCL.out n
        rw [← hWe] at ho
        have HWE := hidI hWe
        clear hWe
        have hlen := hW.1
        have hB := adBeh_of2 hx ho hWl.out
        go_wp2_with fail
        refine (adOf_calls g9 high climb y W _ hB (by omega) (by omega) (by omega) (by omega) (by omega) (by omega)).mono ?_
        rintro e w8 ⟨rfl, hb8⟩
        replace hbw := bl_step hbw hb8
        go_wp2
        go_ret
        exact ⟨by rw [← HWE.out]; rfl, hbw⟩
end Go.Proofs.Ytjidbjmekpholaa
