/- Proved here: lemmas and contracts (what a function of the program computes) that the proofs of the laws of this seat lean on. Conditions: as each theorem states. -/
import Derived.Test.YtggididnclfahaaVm2
set_option linter.unusedVariables false
set_option linter.unusedSimpArgs false
namespace Go.Pk.Vt
open Go.RowKit Go.Pk
theorem fresh_now {t stale : Int} (h0 : 0 ≤ t) (hs : 0 ≤ stale) : freshT t stale t = true := by
  unfold freshT; simp; omega
/-- Three numbers of now, none of a bad channel. -/
theorem is_all {V : Vo} {n : Int} (h0 : 0 ≤ n) (hs : 0 ≤ V.stale) (ha : V.a.t = n) (hb : V.b.t = n) (hc : V.c.t = n) (b0 : V.a.bad = false) (b1 : V.b.bad = false) (b2 : V.c.bad = false) : V.is n 0 = true ∧ V.is n 1 = true ∧ V.is n 2 = true := by
  refine ⟨?_, ?_, ?_⟩
  · show (freshT V.a.t V.stale n && !V.a.bad) = true; rw [ha, b0, fresh_now h0 hs]; rfl
  · show (freshT V.b.t V.stale n && !V.b.bad) = true; rw [hb, b1, fresh_now h0 hs]; rfl
  · show (freshT V.c.t V.stale n && !V.c.bad) = true; rw [hc, b2, fresh_now h0 hs]; rfl
def kOf (f : Bool) (k : Int) : Int := if f = true then wrap64 (k + 1) else 0
def oOf (f : Bool) (s k : Int) (i : Nat) : List Nat := if (f && decide (s ≤ wrap64 (k + 1))) = true then [i] else []
theorem look_all3 (V : Vo) {f0 f1 f2 : Bool} (h0 : farV V.a.v V.last V.tol = f0) (h1 : farV V.b.v V.last V.tol = f1) (h2 : farV V.c.v V.last V.tol = f2) :
    V.lookAll [0, 1, 2] = (⟨⟨V.a.v, V.a.t, V.a.bad, kOf f0 V.a.k⟩, ⟨V.b.v, V.b.t, V.b.bad, kOf f1 V.b.k⟩, ⟨V.c.v, V.c.t, V.c.bad, kOf f2 V.c.k⟩, V.tol, V.stale, V.strikes, V.last⟩, oOf f0 V.strikes V.a.k 0 ++ (oOf f1 V.strikes V.b.k 1 ++ oOf f2 V.strikes V.c.k 2)) := by
  have g0 : ∀ W : Vo, W.get 0 = W.a := fun _ => rfl
  have g1 : ∀ W : Vo, W.get 1 = W.b := fun _ => rfl
  have g2 : ∀ W : Vo, W.get 2 = W.c := fun _ => rfl
  have p0 : ∀ (W : Vo) s, W.put 0 s = { W with a := s } := fun _ _ => rfl
  have p1 : ∀ (W : Vo) s, W.put 1 s = { W with b := s } := fun _ _ => rfl
  have p2 : ∀ (W : Vo) s, W.put 2 s = { W with c := s } := fun _ _ => rfl
  unfold Vo.lookAll
  simp only [List.foldl, Vo.look2, Vo.look, Vo.outs, g0, g1, g2, p0, p1, p2, h0, h1, h2, kOf, oOf, List.nil_append]
  congr 1
  repeat' split
  all_goals simp
/-- One of them alone is out. -/
theorem strike_of {V W : Vo} {l o : List Nat} (h : V.lookAll l = (W, o)) : V.strike l = o.foldl (Vo.punish o.length) W := by unfold Vo.strike; rw [h]
def rv (x off : Int) (i k : Nat) : Int := if k = i then x + off else x
/-- The voter of VoteResets behind t ticks. -/
def rS (x off s : Int) (i t : Nat) (k : Nat) : Sen := ⟨if t = 0 then 0 else rv x off i k, (t : Int) - 1, decide (k = i) && decide ((t : Int) = s), if k = i then (t : Int) else 0⟩
def rV (x off s : Int) (i t : Nat) : Vo := ⟨rS x off s i t 0, rS x off s i t 1, rS x off s i t 2, 1, 0, s, if t = 0 then 0 else x⟩
def rT (x off s : Int) (i t : Nat) : Nat → Vo
  | 0 => rV x off s i t
  | k + 1 => (rT x off s i t k).said k (rv x off i k) t
theorem farV_self (x tol : Int) (h : 0 ≤ tol) : farV x x tol = false := by
  unfold farV mxV mnV; simp; omega
theorem farV_off {x off : Int} (h : 2 ≤ off) : farV (x + off) x 1 = true := by
  rw [far_iff]; omega
theorem r_says {x off s : Int} {i t : Nat} (hi : i < 3) (ht : (t : Int) < s) (ho : 2 ≤ off) : (rT x off s i t 3).counts t = [0, 1, 2] ∧ (rT x off s i t 3).says t = [rv x off i 0, rv x off i 1, rv x off i 2] ∧ midL [rv x off i 0, rv x off i 1, rv x off i 2] = x := by
  have hf : decide ((t : Int) = s) = false := decide_eq_false (by omega)
  obtain ⟨h0, h1, h2⟩ := is_all (V := rT x off s i t 3) (n := t) (by omega) (by show (0 : Int) ≤ 0; omega) rfl rfl rfl (by show (decide (0 = i) && decide ((t : Int) = s)) = false; rw [hf, Bool.and_false]) (by show (decide (1 = i) && decide ((t : Int) = s)) = false; rw [hf, Bool.and_false]) (by show (decide (2 = i) && decide ((t : Int) = s)) = false; rw [hf, Bool.and_false])
  have hc : (rT x off s i t 3).counts t = [0, 1, 2] := by unfold Vo.counts; simp [List.filter_cons, h0, h1, h2]
  refine ⟨hc, by unfold Vo.says; rw [hc]; rfl, ?_⟩
  rcases (by omega : i = 0 ∨ i = 1 ∨ i = 2) with rfl | rfl | rfl
  · show midL [x + off, x, x] = x; rw [mid3]; unfold mxV mnV; (repeat' split) <;> omega
  · show midL [x, x + off, x] = x; rw [mid3]; unfold mxV mnV; (repeat' split) <;> omega
  · show midL [x, x, x + off] = x; rw [mid3]; unfold mxV mnV; (repeat' split) <;> omega
theorem r_lit (x off s : Int) (i t : Nat) : ({ rT x off s i t 3 with last := x } : Vo) = ⟨⟨rv x off i 0, t, (rS x off s i t 0).bad, (rS x off s i t 0).k⟩, ⟨rv x off i 1, t, (rS x off s i t 1).bad, (rS x off s i t 1).k⟩, ⟨rv x off i 2, t, (rS x off s i t 2).bad, (rS x off s i t 2).k⟩, 1, 0, s, x⟩ := rfl
theorem strike_0 {V : Vo} (h0 : farV V.a.v V.last V.tol = true) (h1 : farV V.b.v V.last V.tol = false) (h2 : farV V.c.v V.last V.tol = false) :
    V.strike [0, 1, 2] = ⟨⟨V.a.v, V.a.t, V.a.bad || decide (V.strikes ≤ wrap64 (V.a.k + 1)), wrap64 (V.a.k + 1)⟩, ⟨V.b.v, V.b.t, V.b.bad, 0⟩, ⟨V.c.v, V.c.t, V.c.bad, 0⟩, V.tol, V.stale, V.strikes, V.last⟩ := by
  rw [strike_of (look_all3 V h0 h1 h2)]
  unfold oOf kOf
  obtain ⟨K, hK⟩ : ∃ z, wrap64 (V.a.k + 1) = z := ⟨_, rfl⟩
  simp only [hK]
  cases hd : decide (V.strikes ≤ K)
  · simp [hd]
  · simp [hd, Vo.punish, Vo.put, Vo.get]
theorem strike_1 {V : Vo} (h0 : farV V.a.v V.last V.tol = false) (h1 : farV V.b.v V.last V.tol = true) (h2 : farV V.c.v V.last V.tol = false) :
    V.strike [0, 1, 2] = ⟨⟨V.a.v, V.a.t, V.a.bad, 0⟩, ⟨V.b.v, V.b.t, V.b.bad || decide (V.strikes ≤ wrap64 (V.b.k + 1)), wrap64 (V.b.k + 1)⟩, ⟨V.c.v, V.c.t, V.c.bad, 0⟩, V.tol, V.stale, V.strikes, V.last⟩ := by
  rw [strike_of (look_all3 V h0 h1 h2)]
  unfold oOf kOf
  obtain ⟨K, hK⟩ : ∃ z, wrap64 (V.b.k + 1) = z := ⟨_, rfl⟩
  simp only [hK]
  cases hd : decide (V.strikes ≤ K)
  · simp [hd]
  · simp [hd, Vo.punish, Vo.put, Vo.get]
theorem strike_2 {V : Vo} (h0 : farV V.a.v V.last V.tol = false) (h1 : farV V.b.v V.last V.tol = false) (h2 : farV V.c.v V.last V.tol = true) :
    V.strike [0, 1, 2] = ⟨⟨V.a.v, V.a.t, V.a.bad, 0⟩, ⟨V.b.v, V.b.t, V.b.bad, 0⟩, ⟨V.c.v, V.c.t, V.c.bad || decide (V.strikes ≤ wrap64 (V.c.k + 1)), wrap64 (V.c.k + 1)⟩, V.tol, V.stale, V.strikes, V.last⟩ := by
  rw [strike_of (look_all3 V h0 h1 h2)]
  unfold oOf kOf
  obtain ⟨K, hK⟩ : ∃ z, wrap64 (V.c.k + 1) = z := ⟨_, rfl⟩
  simp only [hK]
  cases hd : decide (V.strikes ≤ K)
  · simp [hd]
  · simp [hd, Vo.punish, Vo.put, Vo.get]
theorem strike_no {V : Vo} (h0 : farV V.a.v V.last V.tol = false) (h1 : farV V.b.v V.last V.tol = false) (h2 : farV V.c.v V.last V.tol = false) :
    V.strike [0, 1, 2] = ⟨⟨V.a.v, V.a.t, V.a.bad, 0⟩, ⟨V.b.v, V.b.t, V.b.bad, 0⟩, ⟨V.c.v, V.c.t, V.c.bad, 0⟩, V.tol, V.stale, V.strikes, V.last⟩ := by
  rw [strike_of (look_all3 V h0 h1 h2)]
  unfold oOf kOf
  simp
theorem rS_succ (x off s : Int) (i t k : Nat) : rS x off s i (t + 1) k = ⟨rv x off i k, t, decide (k = i) && decide ((t : Int) + 1 = s), if k = i then (t : Int) + 1 else 0⟩ := by
  unfold rS
  rw [if_neg (by omega)]
  have e1 : ((t + 1 : Nat) : Int) = (t : Int) + 1 := by omega
  rw [e1, show (t : Int) + 1 - 1 = t by omega]
theorem r_step {x off s : Int} {i t : Nat} (hi : i < 3) (ht : (t : Int) < s) (hs : s ≤ 100) (ho : 2 ≤ off) : (rT x off s i t 3).vote t = rV x off s i (t + 1) := by
  obtain ⟨hc, hs_, hm⟩ := r_says (x := x) hi ht ho
  unfold Vo.vote
  rw [hs_, hc, hm, if_neg (by simp), if_pos (by simp), r_lit]
  have hw : wrap64 ((t : Int) + 1) = (t : Int) + 1 := IntWalk.wrap64_in _ (by omega)
  have hb : decide ((t : Int) = s) = false := decide_eq_false (by omega)
  have h1 := farV_self x 1 (by omega)
  have h2 := farV_off (x := x) ho
  have hd : decide (s ≤ (t : Int) + 1) = decide ((t : Int) + 1 = s) := by
    by_cases h : (t : Int) + 1 = s
    · rw [decide_eq_true h, decide_eq_true (by omega)]
    · rw [decide_eq_false h, decide_eq_false (by omega)]
  obtain ⟨D, hD⟩ : ∃ z, decide ((t : Int) + 1 = s) = z := ⟨_, rfl⟩
  rw [hD] at hd
  have hl : (if t + 1 = 0 then (0 : Int) else x) = x := if_neg (by omega)
  have hR : rV x off s i (t + 1) = ⟨⟨rv x off i 0, t, decide (0 = i) && D, if 0 = i then (t : Int) + 1 else 0⟩, ⟨rv x off i 1, t, decide (1 = i) && D, if 1 = i then (t : Int) + 1 else 0⟩, ⟨rv x off i 2, t, decide (2 = i) && D, if 2 = i then (t : Int) + 1 else 0⟩, 1, 0, s, x⟩ := by
    unfold rV; rw [rS_succ, rS_succ, rS_succ, hD, hl]
  rw [hR]
  have e0 : ∀ k, (rS x off s i t k).bad = false := fun k => by show (decide (k = i) && decide ((t : Int) = s)) = false; rw [hb, Bool.and_false]
  have e1 : ∀ k, (rS x off s i t k).k = if k = i then (t : Int) else 0 := fun k => rfl
  rw [e0, e0, e0, e1, e1, e1]
  clear hR e0 e1 hl hm hs_ hc
  rcases (by omega : i = 0 ∨ i = 1 ∨ i = 2) with rfl | rfl | rfl
  · rw [strike_0 (by exact h2) (by exact h1) (by exact h1)]
    simp only [reduceIte, hw, hd, rv, Bool.false_or, decide_true, Bool.true_and]
    simp
  · rw [strike_1 (by exact h1) (by exact h2) (by exact h1)]
    simp only [reduceIte, hw, hd, rv, Bool.false_or, decide_true, Bool.true_and]
    simp
  · rw [strike_2 (by exact h1) (by exact h1) (by exact h2)]
    simp only [reduceIte, hw, hd, rv, Bool.false_or, decide_true, Bool.true_and]
    simp
end Go.Pk.Vt
namespace Go.Proofs.Ytggididnclfahaa
end Go.Proofs.Ytggididnclfahaa
