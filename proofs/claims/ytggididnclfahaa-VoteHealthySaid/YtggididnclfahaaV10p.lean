/- Proved here: lemmas and contracts (what a function of the program computes) that the proofs of the laws of this seat lean on. Conditions: as each theorem states. -/
import Derived.Test.YtggididnclfahaaV9p
set_option linter.unusedVariables false
set_option linter.unusedSimpArgs false
namespace Go.Pk.Vt
open Go.RowKit Go.Pk
def sT (V : Vo) (t : Int) (f : Nat → Int) : Nat → Vo
  | 0 => V
  | k + 1 => (sT V t f k).said k (f k) t
theorem sT_ok {V : Vo} (h : V.ok) {t : Int} {f : Nat → Int} (hf : ∀ k, I64 (f k)) : ∀ k, (sT V t f k).ok
  | 0 => h
  | k + 1 => said_ok (sT_ok h hf k) k (hf k) t
theorem sT_strikes (V : Vo) (t : Int) (f : Nat → Int) {k : Nat} (hk : k < 4) : (sT V t f k).strikes = V.strikes := by
  rcases (by omega : k = 0 ∨ k = 1 ∨ k = 2 ∨ k = 3) with rfl | rfl | rfl | rfl <;> rfl
theorem sT_get (V : Vo) (t : Int) (f : Nat → Int) {k : Nat} (hk : k < 3) : (sT V t f k).get k = V.get k := by
  rcases (by omega : k = 0 ∨ k = 1 ∨ k = 2) with rfl | rfl | rfl <;> rfl
theorem sT_3 (V : Vo) (t : Int) (f : Nat → Int) : sT V t f 3 = ⟨⟨f 0, t, V.a.bad, V.a.k⟩, ⟨f 1, t, V.b.bad, V.b.k⟩, ⟨f 2, t, V.c.bad, V.c.k⟩, V.tol, V.stale, V.strikes, V.last⟩ := rfl
def one? (b : Bool) (x : Int) : List Int := if b = true then [] else [x]
/-- All have just said something. -/
theorem says_now {V : Vo} {n : Int} (h0 : 0 ≤ n) (hs : 0 ≤ V.stale) (ha : V.a.t = n) (hb : V.b.t = n) (hc : V.c.t = n) : V.says n = one? V.a.bad V.a.v ++ (one? V.b.bad V.b.v ++ one? V.c.bad V.c.v) := by
  have e0 : V.is n 0 = !V.a.bad := by show (freshT V.a.t V.stale n && !V.a.bad) = _; rw [ha, fresh_now h0 hs, Bool.true_and]
  have e1 : V.is n 1 = !V.b.bad := by show (freshT V.b.t V.stale n && !V.b.bad) = _; rw [hb, fresh_now h0 hs, Bool.true_and]
  have e2 : V.is n 2 = !V.c.bad := by show (freshT V.c.t V.stale n && !V.c.bad) = _; rw [hc, fresh_now h0 hs, Bool.true_and]
  unfold Vo.says Vo.counts
  simp only [List.filter_cons, e0, e1, e2, List.filter_nil]
  unfold one?
  cases V.a.bad <;> cases V.b.bad <;> cases V.c.bad <;> rfl
structure HInv (tol s : Int) (ill : Nat) (t : Int) (V : Vo) : Prop where
  ok : V.ok
  tol : V.tol = tol
  stale : V.stale = 0
  strikes : V.strikes = s
  tick : ∀ j, j < 3 → (V.get j).t = t - 1
  good : ∀ j, j < 3 → j ≠ ill → (V.get j).bad = false
def atN (ill i : Nat) : Nat := if ill < i then i - 1 else i
def gvN (g0 g1 : Int) (j : Nat) : Int := if j = 0 then g0 else g1
def hF (ill : Nat) (y g0 g1 : Int) (k : Nat) : Int := if k = ill then y else gvN g0 g1 (atN ill k)
theorem hF_ok {ill : Nat} {y g0 g1 : Int} (hy : I64 y) (h0 : I64 g0) (h1 : I64 g1) (k : Nat) : I64 (hF ill y g0 g1 k) := by
  unfold hF gvN; split
  · exact hy
  · split
    · exact h0
    · exact h1
structure HStep (tol s : Int) (ill : Nat) (t g0 g1 : Int) (V1 V2 : Vo) : Prop where
  n : (V1.says t).length = 2 ∨ (V1.says t).length = 3
  mid : (V1.says t).length = 3 → mnV g0 g1 ≤ V2.last ∧ V2.last ≤ mxV g0 g1
  two : (V1.says t).length = 2 → (V2.get ill).bad = true
  near : farV g0 g1 tol = false → HInv tol s ill (t + 1) V2 ∧ V2.bads = b1 (V2.get ill).bad
theorem near_far {g0 g1 tol x : Int} (h : farV g0 g1 tol = false) (h0 : mnV g0 g1 ≤ x) (h1 : x ≤ mxV g0 g1) : farV g0 x tol = false ∧ farV g1 x tol = false := by
  have hn : ∀ a b, farV a b tol = false ↔ ¬ (tol < a - b ∨ tol < b - a) := fun a b => by rw [← far_iff]; simp
  rw [hn] at h
  rw [hn, hn]
  unfold mnV at h0
  unfold mxV at h1
  split at h0 <;> split at h1 <;> omega
theorem healthy {tol s : Int} {ill : Nat} {t : Int} {V : Vo} (h : HInv tol s ill t V) (hill : ill < 3) (ht : 0 ≤ t) (y g0 g1 : Int) (hy : I64 y) (h0 : I64 g0) (h1 : I64 g1) :
    HStep tol s ill t g0 g1 (sT V t (hF ill y g0 g1) 3) ((sT V t (hF ill y g0 g1) 3).vote t) := by
  have hok1 := sT_ok h.ok (t := t) (fun k => hF_ok hy h0 h1 k (ill := ill)) 3
  have hvd := voted (sT V t (hF ill y g0 g1) 3) t
  have hv2 := vote_ok hok1 t
  have hlast : (sT V t (hF ill y g0 g1) 3).says t ≠ [] → ((sT V t (hF ill y g0 g1) 3).vote t).last = midL ((sT V t (hF ill y g0 g1) 3).says t) := vote_last
  have hsy := says_now (V := sT V t (hF ill y g0 g1) 3) (n := t) ht (by show 0 ≤ V.stale; rw [h.stale]; omega) rfl rfl rfl
  have hbd : ∀ j, j < 3 → ((sT V t (hF ill y g0 g1) 3).get j).bad = (V.get j).bad := fun j hj => by
    rcases (by omega : j = 0 ∨ j = 1 ∨ j = 2) with rfl | rfl | rfl <;> rfl
  have hvv : ∀ j, j < 3 → ((sT V t (hF ill y g0 g1) 3).get j).v = hF ill y g0 g1 j := fun j hj => by
    rcases (by omega : j = 0 ∨ j = 1 ∨ j = 2) with rfl | rfl | rfl <;> rfl
  have htt : ∀ j, j < 3 → ((sT V t (hF ill y g0 g1) 3).get j).t = t := fun j hj => by
    rcases (by omega : j = 0 ∨ j = 1 ∨ j = 2) with rfl | rfl | rfl <;> rfl
  have htol : (sT V t (hF ill y g0 g1) 3).tol = tol := h.tol
  have hsta : (sT V t (hF ill y g0 g1) 3).stale = 0 := h.stale
  have hstr : (sT V t (hF ill y g0 g1) 3).strikes = s := h.strikes
  have e0 : (sT V t (hF ill y g0 g1) 3).a.v = hF ill y g0 g1 0 := rfl
  have e1 : (sT V t (hF ill y g0 g1) 3).b.v = hF ill y g0 g1 1 := rfl
  have e2 : (sT V t (hF ill y g0 g1) 3).c.v = hF ill y g0 g1 2 := rfl
  have c0 : (sT V t (hF ill y g0 g1) 3).a.bad = (V.get 0).bad := rfl
  have c1 : (sT V t (hF ill y g0 g1) 3).b.bad = (V.get 1).bad := rfl
  have c2 : (sT V t (hF ill y g0 g1) 3).c.bad = (V.get 2).bad := rfl
  rw [e0, e1, e2, c0, c1, c2] at hsy
  obtain ⟨V1, hV1⟩ : ∃ z, sT V t (hF ill y g0 g1) 3 = z := ⟨_, rfl⟩
  rw [hV1] at hvd hv2 hlast hsy hbd hvv htt htol hsta hstr ⊢
  obtain ⟨V2, hV2⟩ : ∃ z, V1.vote t = z := ⟨_, rfl⟩
  rw [hV2] at hvd hv2 hlast ⊢
  clear hV1 hV2 e0 e1 e2 c0 c1 c2
  -- the median, and how many say something
  have key : ((V.get ill).bad = true ∧ (V1.says t) = [g0, g1]) ∨ ((V.get ill).bad = false ∧ (V1.says t).length = 3 ∧ midL (V1.says t) = midL [y, g0, g1]) := by
    rw [hsy]
    cases hb : (V.get ill).bad
    · right
      refine ⟨rfl, ?_⟩
      have hall : ∀ j, j < 3 → (V.get j).bad = false := fun j hj => by
        by_cases hji : j = ill
        · rw [hji]; exact hb
        · exact h.good j hj hji
      rw [hall 0 (by omega), hall 1 (by omega), hall 2 (by omega)]
      refine ⟨rfl, ?_⟩
      rcases (by omega : ill = 0 ∨ ill = 1 ∨ ill = 2) with rfl | rfl | rfl
      · rfl
      · exact mid_perm (List.Perm.swap y g0 [g1])
      · exact mid_perm (List.perm_append_comm (l₁ := [g0, g1]) (l₂ := [y]))
    · left
      refine ⟨rfl, ?_⟩
      rcases (by omega : ill = 0 ∨ ill = 1 ∨ ill = 2) with rfl | rfl | rfl
      · rw [hb, h.good 1 (by omega) (by omega), h.good 2 (by omega) (by omega)]; rfl
      · rw [hb, h.good 0 (by omega) (by omega), h.good 2 (by omega) (by omega)]; rfl
      · rw [hb, h.good 0 (by omega) (by omega), h.good 1 (by omega) (by omega)]; rfl
  have hmid : mnV g0 g1 ≤ V2.last ∧ V2.last ≤ mxV g0 g1 := by
    rcases key with ⟨-, k2⟩ | ⟨-, k2, k3⟩
    · rw [hlast (by rw [k2]; simp), k2, mid2]
      unfold mnV mxV
      split <;> split <;> omega
    · rw [hlast (fun hn => by rw [hn] at k2; cases k2), k3, mid3]
      unfold mnV mxV
      (repeat' split) <;> omega
  have hgv : ∀ j, j < 3 → j ≠ ill → hF ill y g0 g1 j = g0 ∨ hF ill y g0 g1 j = g1 := fun j hj hji => by
    unfold hF gvN; rw [if_neg hji]; split
    · exact Or.inl rfl
    · exact Or.inr rfl
  refine ⟨?_, fun _ => hmid, ?_, ?_⟩
  · rcases key with ⟨-, k2⟩ | ⟨-, k2, -⟩
    · left; rw [k2]; rfl
    · right; exact k2
  · intro hn
    rcases key with ⟨k1, -⟩ | ⟨-, k2, -⟩
    · exact hvd.keeps ill hill (by rw [hbd ill hill]; exact k1)
    · omega
  · intro hnear
    obtain ⟨f0, f1⟩ := near_far hnear hmid.1 hmid.2
    have hgood : ∀ j, j < 3 → j ≠ ill → (V2.get j).bad = false := fun j hj hji => by
      cases hb : (V2.get j).bad
      · rfl
      · rcases hvd.bad j hj hb with h3 | h3
        · rw [hbd j hj, h.good j hj hji] at h3; cases h3
        · rw [hvv j hj, htol] at h3
          rcases hgv j hj hji with e | e <;> rw [e] at h3
          · rw [f0] at h3; cases h3
          · rw [f1] at h3; cases h3
    refine ⟨⟨hv2, hvd.tol.trans htol, hvd.stale.trans hsta, hvd.strikes.trans hstr, fun j hj => by rw [(hvd.vt j hj).2, htt j hj]; omega, hgood⟩, ?_⟩
    show b1 (decide (0 < 3) && (V2.get 0).bad) + b1 (decide (1 < 3) && (V2.get 1).bad) + b1 (decide (2 < 3) && (V2.get 2).bad) = _
    rcases (by omega : ill = 0 ∨ ill = 1 ∨ ill = 2) with rfl | rfl | rfl
    · rw [hgood 1 (by omega) (by omega), hgood 2 (by omega) (by omega)]; simp [b1]
    · rw [hgood 0 (by omega) (by omega), hgood 2 (by omega) (by omega)]; simp [b1]
    · rw [hgood 0 (by omega) (by omega), hgood 1 (by omega) (by omega)]; simp [b1]
theorem h_new {tol s : Int} (ill : Nat) (ht : 0 ≤ tol) (ht2 : tol ≤ 9223372036854775807) (h1 : 1 ≤ s) (h2 : s ≤ 100) : HInv tol s ill 0 (Vo.new tol 0 s) :=
  ⟨new_ok (by unfold newOkV; simp; omega) ht2, rfl, rfl, rfl, fun j hj => by rcases (by omega : j = 0 ∨ j = 1 ∨ j = 2) with rfl | rfl | rfl <;> rfl, fun j hj _ => by rcases (by omega : j = 0 ∨ j = 1 ∨ j = 2) with rfl | rfl | rfl <;> rfl⟩
end Go.Pk.Vt
namespace Go.Proofs.Ytggididnclfahaa
end Go.Proofs.Ytggididnclfahaa
