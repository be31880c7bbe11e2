/- Proved here: lemmas and contracts (what a function of the program computes) that the proofs of the laws of this seat lean on. Conditions: as each theorem states. -/
import Derived.Test.YtggididnclfahaaV6
set_option linter.unusedVariables false
set_option linter.unusedSimpArgs false
namespace Go.Pk.Vt
open Go.RowKit Go.Pk
/-- Only the first channel has ever said something. -/
theorem says_one {V : Vo} (hb : V.b.t = -1) (hc : V.c.t = -1) (n : Int) : V.says n = if (freshT V.a.t V.stale n && !V.a.bad) = true then [V.a.v] else [] := by
  have f : ∀ s n, freshT (-1) s n = false := fun s n => by unfold freshT; simp
  have h0 : V.is n 0 = (freshT V.a.t V.stale n && !V.a.bad) := rfl
  have h1 : V.is n 1 = false := by show (freshT V.b.t V.stale n && !V.b.bad) = false; rw [hb, f]; rfl
  have h2 : V.is n 2 = false := by show (freshT V.c.t V.stale n && !V.c.bad) = false; rw [hc, f]; rfl
  unfold Vo.says Vo.counts
  simp only [List.filter_cons, h0, h1, h2, List.filter_nil]
  split <;> rfl
theorem vote_nil {V : Vo} {n : Int} (h : V.says n = []) : V.vote n = V := by unfold Vo.vote; rw [if_pos h]
theorem vote_one {V : Vo} {n x : Int} (h : V.says n = [x]) : V.vote n = { V with last := x } := by
  unfold Vo.vote; rw [if_neg (by rw [h]; simp), if_neg (by rw [h]; simp), h, mid1]
def stale0 (stale : Int) : Vo := Vo.new 0 stale 1
def stale1 (stale x now : Int) : Vo := (stale0 stale).said 0 x now
def stale2 (stale x now : Int) : Vo := { stale1 stale x now with last := x }
theorem stale_ok {stale x now : Int} (h0 : 0 ≤ stale) (h1 : stale ≤ 1000) (hx : I64 x) : (stale0 stale).ok ∧ (stale1 stale x now).ok ∧ (stale2 stale x now).ok := by
  have ho : (stale0 stale).ok := new_ok (by unfold newOkV; simp [h0, h1]) (by omega)
  have h2 := said_ok ho 0 hx now
  exact ⟨ho, h2, ⟨h2.a, h2.b, h2.c, h2.tol, h2.stale, h2.strikes, hx⟩⟩
theorem stale_v1 {stale x now : Int} (h0 : 0 ≤ stale) (h2 : 0 ≤ now) : (stale1 stale x now).says (now + stale) = [x] := by
  rw [says_one rfl rfl]
  have : freshT (stale1 stale x now).a.t (stale1 stale x now).stale (now + stale) = true := by
    show freshT now stale (now + stale) = true
    unfold freshT; simp; omega
  rw [this]; rfl
theorem stale_v2 {stale x now : Int} (h0 : 0 ≤ stale) (h2 : 0 ≤ now) : (stale2 stale x now).says (now + stale + 1) = [] := by
  rw [says_one rfl rfl]
  have : freshT (stale2 stale x now).a.t (stale2 stale x now).stale (now + stale + 1) = false := by
    show freshT now stale (now + stale + 1) = false
    unfold freshT; simp; omega
  rw [this]; rfl
theorem stale_v3 {stale x now : Int} : (stale2 stale x now).says (now - 1) = [] := by
  rw [says_one rfl rfl]
  have : freshT (stale2 stale x now).a.t (stale2 stale x now).stale (now - 1) = false := by
    show freshT now stale (now - 1) = false
    unfold freshT; simp; omega
  rw [this]; rfl
end Go.Pk.Vt
namespace Go.Proofs.Ytggididnclfahaa
open Go.RowKit Go.Pk Go.Pk.Vt
set_option maxHeartbeats 8000000 in
set_option maxRecDepth 100000 in
theorem VStale_walk (x stale now : Int) (w : World) (hx : I64 x) :
    Calls Try.prog 4 #[.int .i64 x, .int .i64 stale, .int .i64 now] w fun e w' => e = .returned (.bool true) ∧ Below w.heap.size w w' := by
  have hbw := Below.refl w.heap.size w
  replace hx := hidI hx
  by_cases h1 : stale < 0
  · have d1 : decide (stale < 0) = true := decide_eq_true h1
    clear h1
    go_enter Try.func4, Try.ntmps4
    go_wp2_with fail
    refine (alive22_calls _).mono ?_
    rintro e wz ⟨rfl, hbz⟩
    replace hbw := bl_step hbw hbz
    clear hbz
    go_wp2
    go_ret
    exact ⟨rfl, hbw⟩
  have d1 : decide (stale < 0) = false := decide_eq_false h1
  by_cases h2 : (1000 : Int) < stale
  · have d2 : decide ((1000 : Int) < stale) = true := decide_eq_true h2
    clear h1 h2
    go_enter Try.func4, Try.ntmps4
    go_wp2_with fail
    refine (alive22_calls _).mono ?_
    rintro e wz ⟨rfl, hbz⟩
    replace hbw := bl_step hbw hbz
    clear hbz
    go_wp2
    go_ret
    exact ⟨rfl, hbw⟩
  have d2 : decide ((1000 : Int) < stale) = false := decide_eq_false h2
  by_cases h3 : now < 0
  · have d3 : decide (now < 0) = true := decide_eq_true h3
    clear h1 h2 h3
    go_enter Try.func4, Try.ntmps4
    go_wp2_with fail
    refine (alive22_calls _).mono ?_
    rintro e wz ⟨rfl, hbz⟩
    replace hbw := bl_step hbw hbz
    clear hbz
    go_wp2
    go_ret
    exact ⟨rfl, hbw⟩
  have d3 : decide (now < 0) = false := decide_eq_false h3
  by_cases h4 : (1099511627776 : Int) < now
  · have d4 : decide ((1099511627776 : Int) < now) = true := decide_eq_true h4
    clear h1 h2 h3 h4
    go_enter Try.func4, Try.ntmps4
    go_wp2_with fail
    refine (alive22_calls _).mono ?_
    rintro e wz ⟨rfl, hbz⟩
    replace hbw := bl_step hbw hbz
    clear hbz
    go_wp2
    go_ret
    exact ⟨rfl, hbw⟩
  have d4 : decide ((1099511627776 : Int) < now) = false := decide_eq_false h4
  obtain ⟨ho0, ho1, ho2⟩ := stale_ok (stale := stale) (x := x) (now := now) (by omega) (by omega) hx.out
  have hnew := hidI (vNew_ok 0 stale 1 w (by unfold newOkV; simp; omega))
  have hput := hidI (fun g W hg hb hk => put0_ok w g (stale0 stale) x now W hg hb hk (by show (1 : Int) ≤ 1; omega) (by omega) (by show (-1 : Int) < now; omega))
  have hv1 := hidI (fun g W hg hb hk => vote_calls w g (stale1 stale x now) (now + stale) W hg hb hk ho1 (by omega))
  have hv2 := hidI (fun g W hg hb hk => vote_calls w g (stale2 stale x now) (now + stale + 1) W hg hb hk ho2 (by omega))
  have hv3 := hidI (fun g W hg hb hk => vote_calls w g (stale2 stale x now) (now - 1) W hg hb hk ho2 (by omega))
  rw [vote_one (stale_v1 (by omega) (by omega)), stale_v1 (by omega) (by omega)] at hv1
  rw [vote_nil (stale_v2 (by omega) (by omega)), stale_v2 (by omega) (by omega)] at hv2
  rw [vote_nil stale_v3, stale_v3] at hv3
  have hp1 := hidI (fun g W hk => put0_no g (stale2 stale x now) x now W hk (by show (1 : Int) ≤ 1; omega) (Or.inr (by show now ≤ now; omega)))
  have hp2 := hidI (fun g W hg hb hk => put0_ok w g (stale2 stale x now) x (now + 1) W hg hb hk (by show (1 : Int) ≤ 1; omega) (by omega) (by show now < now + 1; omega))
  have hw1 : wrap64 (now + stale) = now + stale := IntWalk.wrap64_in _ (by omega)
  have hw2 : wrap64 (now + stale + 1) = now + stale + 1 := IntWalk.wrap64_in _ (by omega)
  have hw3 : wrap64 (now - 1) = now - 1 := IntWalk.wrap64_in _ (by omega)
  have hw4 : wrap64 (now + 1) = now + 1 := IntWalk.wrap64_in _ (by omega)
  obtain ⟨V1, hV1⟩ : ∃ z, stale1 stale x now = z := ⟨_, rfl⟩
  obtain ⟨V2, hV2⟩ : ∃ z, stale2 stale x now = z := ⟨_, rfl⟩
  have hV12 : ({ V1 with last := x } : Vo) = V2 := by rw [← hV1]; exact hV2
  have hV01 : (stale0 stale).said 0 x now = V1 := hV1
  have hl2 : V2.last = x := by rw [← hV2]; rfl
  rw [hV1, hV12] at hv1
  rw [hV2] at hv2 hv3 hp1 hp2
  rw [hV01] at hput
  rw [hl2] at hv1 hv2 hv3
  clear hV1 hV2 hV12 hV01 hl2 h1 h2 h3 h4 ho0 ho1 ho2
  go_enter Try.func4, Try.ntmps4
  go_wp2_with fail
  refine hnew.out.mono ?_
  rintro e w1 ⟨g, hg, rfl, hbw, hk⟩
  go_wp2_with fail
  refine (hput.out g _ hg hbw hk).mono ?_
  rintro e w2 ⟨rfl, hE, hk⟩
  replace hbw := hE.b
  clear hE
  go_wp2_with fail
  refine (hv1.out g _ hg hbw hk).mono ?_
  rintro e w3 ⟨rfl, hE, hk⟩
  replace hbw := hE.b
  clear hE
  go_wp2_with fail
  refine (hv2.out g _ hg hbw hk).mono ?_
  rintro e w4 ⟨rfl, hE, hk⟩
  replace hbw := hE.b
  clear hE
  go_wp2_with fail
  refine (hv3.out g _ hg hbw hk).mono ?_
  rintro e w5 ⟨rfl, hE, hk⟩
  replace hbw := hE.b
  clear hE
  go_wp2_with fail
  refine (alive22_calls _).mono ?_
  rintro e w6 ⟨rfl, hb_⟩
  replace hk := bl_block hb_ hk
  replace hbw := bl_step hbw hb_
  clear hb_
  go_wp2_with fail
  refine (hp1.out g _ hk).mono ?_
  rintro e w7 ⟨rfl, hw7⟩
  subst hw7
  go_wp2_with fail
  refine (hp2.out g _ hg hbw hk).mono ?_
  rintro e w8 ⟨rfl, hE, hk⟩
  replace hbw := hE.b
  clear hE
  go_wp2
  go_ret
  exact ⟨rfl, hbw⟩
end Go.Proofs.Ytggididnclfahaa
