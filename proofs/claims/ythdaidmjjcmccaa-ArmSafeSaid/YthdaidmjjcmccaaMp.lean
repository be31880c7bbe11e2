/- Proved here: lemmas and contracts (what a function of the program computes) that the proofs of the laws of this seat lean on. Conditions: as each theorem states. -/
import Derived.Test.YthdaidmjjcmccaaPl
import Derived.Test.YthdaidmjjcmccaaM2
set_option linter.unusedVariables false
set_option linter.unusedSimpArgs false
namespace Go.Pk.Rx
open Go.Pk
/-! Plain laws of spans that are reckoned with: what is in them, and that lesser ones come to lesser ones. -/
theorem mono {a b c : Int} (h : a ≤ b) (hc : 0 ≤ c) (up : Bool) : fmul a c up ≤ fmul b c up := by
  have k : a * c ≤ b * c := Int.mul_le_mul_of_nonneg_right h hc
  unfold fmul
  split
  · have : -(b * c) / 4294967296 ≤ -(a * c) / 4294967296 := Int.ediv_le_ediv (by omega) (by omega)
    omega
  · exact Int.ediv_le_ediv (by omega) k
theorem anti {a b c : Int} (h : a ≤ b) (hc : c ≤ 0) (up : Bool) : fmul b c up ≤ fmul a c up := by
  have k : b * c ≤ a * c := Int.mul_le_mul_of_nonpos_right h hc
  unfold fmul
  split
  · have : -(a * c) / 4294967296 ≤ -(b * c) / 4294967296 := Int.ediv_le_ediv (by omega) (by omega)
    omega
  · exact Int.ediv_le_ediv (by omega) k
theorem comm (a b : Int) (up : Bool) : fmul a b up = fmul b a up := by unfold fmul; rw [Int.mul_comm]
theorem ovI_rng {z : Int} (h : ovI z = false) : -9223372036854775808 ≤ z ∧ z ≤ 9223372036854775807 := by unfold ovI at h; simp at h; omega
theorem ovI_ok {z : Int} (h : -9223372036854775808 ≤ z) (k : z ≤ 9223372036854775807) : ovI z = false := by unfold ovI; simp; omega
theorem gu_lo {a u b : Int} (h : a ≤ u) (k : u ≤ b) (v : Int) (up : Bool) : min (fmul a v up) (fmul b v up) ≤ fmul u v up := by
  by_cases hv : 0 ≤ v
  · have := mono h hv up; omega
  · have := anti k (show v ≤ 0 by omega) up; omega
theorem gu_hi {a u b : Int} (h : a ≤ u) (k : u ≤ b) (v : Int) (up : Bool) : fmul u v up ≤ max (fmul a v up) (fmul b v up) := by
  by_cases hv : 0 ≤ v
  · have := mono k hv up; omega
  · have := anti h (show v ≤ 0 by omega) up; omega
theorem fmul_ft (a b : Int) : fmul a b false ≤ fmul a b true := by
  unfold fmul
  simp only [Bool.false_eq_true, if_false, if_true]
  generalize a * b = z
  omega
theorem pr_lo (a b c : Int) : minL (prodL [a, b] [c] false) = min (clampI (fmul a c false)) (clampI (fmul b c false)) := by
  show minL [clampI (fmul a c false), clampI (fmul b c false)] = _
  rw [minL2, minL1]
theorem pr_hi (a b c : Int) : maxL (prodL [a, b] [c] true) = max (clampI (fmul a c true)) (clampI (fmul b c true)) := by
  show maxL [clampI (fmul a c true), clampI (fmul b c true)] = _
  rw [maxL2, maxL1]
theorem fmul_whole (x n : Int) (up : Bool) : fmul x (n * 4294967296) up = x * n := by
  unfold fmul
  have e : x * (n * 4294967296) = x * n * 4294967296 := by rw [Int.mul_assoc]
  rw [e]
  split <;> omega
end Go.Pk.Rx
namespace Go.Pk
def wholeI (n : Int) : Int := n * 4294967296
def timesS (s : Sp) (k : Int) : Sp := if s.hi < s.lo then ⟨0, -1⟩ else ⟨minL (prodL [s.lo, s.hi] [k] false), maxL (prodL [s.lo, s.hi] [k] true)⟩
def timesO (s : Sp) (k : Int) : Bool := if s.hi < s.lo then false else ovP [s.lo, s.hi] [k]
def sLo (l : List Sp) : Int := sumI (l.map Sp.lo)
def sHi (l : List Sp) : Int := sumI (l.map Sp.hi)
def plusS (l : List Sp) : Sp := if someB l then ⟨clampI (sLo l), clampI (sHi l)⟩ else ⟨0, -1⟩
def plusO (l : List Sp) : Bool := someB l && (ovI (sLo l) || ovI (sHi l))
def InSp (s : Sp) : Prop := (-9223372036854775808 ≤ s.lo ∧ s.lo ≤ 9223372036854775807) ∧ (-9223372036854775808 ≤ s.hi ∧ s.hi ≤ 9223372036854775807)
theorem timesS_in (s : Sp) (k : Int) : InSp (timesS s k) := by
  unfold timesS InSp
  split
  · simp
  · simp only [Rx.pr_lo, Rx.pr_hi]
    have a := clampI_rng (fmul s.lo k false)
    have b := clampI_rng (fmul s.hi k false)
    have c := clampI_rng (fmul s.lo k true)
    have d := clampI_rng (fmul s.hi k true)
    omega
theorem plusS_in (l : List Sp) : InSp (plusS l) := by
  unfold plusS InSp
  split
  · have a := clampI_rng (sLo l)
    have b := clampI_rng (sHi l)
    simp only []
    omega
  · simp
/-- The parts of a row's reach. -/
def reachParts (p : Pl) (u : Sp) (box : List Sp) (i : Nat) : List Sp := [timesS u (wholeI (p.B.getD i 0)), p.W.getD i ⟨0, 0⟩] ++ (List.range (p.A.getD i []).length).map fun j => timesS (box.getD j ⟨0, 0⟩) (wholeI ((p.A.getD i []).getD j 0))
def reachT (p : Pl) (u : Sp) (box : List Sp) (i m : Nat) : Bool := timesO u (wholeI (p.B.getD i 0)) || (List.range m).any fun j => timesO (box.getD j ⟨0, 0⟩) (wholeI ((p.A.getD i []).getD j 0))
def reachO (p : Pl) (u : Sp) (box : List Sp) (i : Nat) : Bool := reachT p u box i (p.A.getD i []).length || plusO (reachParts p u box i)
def boxedP (p : Pl) (box : List Sp) : Bool := areP p box.length && !(box.any emptyB)
def reachP (p : Pl) (u : Sp) (box : List Sp) : List Sp × Bool :=
  if boxedP p box = true ∧ emptyB u = false then (if (List.range p.B.length).any (reachO p u box) then ([], false) else ((List.range p.B.length).map fun i => plusS (reachParts p u box i), true)) else ([], false)
def cmdParts (p : Pl) (box : List Sp) : List Sp := ⟨p.bias, p.bias⟩ :: (List.range box.length).map fun j => timesS (box.getD j ⟨0, 0⟩) (p.gain.getD j 0)
def cmdT (p : Pl) (box : List Sp) (m : Nat) : Bool := (List.range m).any fun j => timesO (box.getD j ⟨0, 0⟩) (p.gain.getD j 0)
def commandP (p : Pl) (box : List Sp) : Sp × Bool :=
  if boxedP p box = true then (⟨clampTo (plusS (cmdParts p box)).lo p.inp.lo p.inp.hi, clampTo (plusS (cmdParts p box)).hi p.inp.lo p.inp.hi⟩, !(cmdT p box box.length || plusO (cmdParts p box))) else (⟨0, -1⟩, false)
namespace Rx
theorem times_hold {s : Sp} {u c : Int} (h0 : s.lo ≤ u) (h1 : u ≤ s.hi) (ho : timesO s c = false) (up : Bool) : ((timesS s c).lo ≤ fmul u c up ∧ fmul u c up ≤ (timesS s c).hi) ∧ ovI (fmul u c up) = false := by
  unfold timesO at ho
  unfold timesS
  rw [if_neg (by omega)] at ho ⊢
  simp only [ovP, List.any_cons, List.any_nil, Bool.or_false, Bool.or_eq_false_iff] at ho
  obtain ⟨⟨o1, o2⟩, o3, o4⟩ := ho
  replace o1 := ovI_rng o1
  replace o2 := ovI_rng o2
  replace o3 := ovI_rng o3
  replace o4 := ovI_rng o4
  have a1 := gu_lo h0 h1 c false
  have a2 := gu_lo h0 h1 c true
  have a3 := gu_hi h0 h1 c false
  have a4 := gu_hi h0 h1 c true
  have a5 := fmul_ft u c
  simp only [pr_lo, pr_hi]
  rw [clampI_id o1.1 o1.2, clampI_id o2.1 o2.2, clampI_id o3.1 o3.2, clampI_id o4.1 o4.2]
  cases up
  · exact ⟨⟨by omega, by omega⟩, ovI_ok (by omega) (by omega)⟩
  · exact ⟨⟨by omega, by omega⟩, ovI_ok (by omega) (by omega)⟩
theorem sums (L : List (Sp × Int)) (h : ∀ q ∈ L, q.1.lo ≤ q.2 ∧ q.2 ≤ q.1.hi) : sLo (L.map Prod.fst) ≤ sumI (L.map Prod.snd) ∧ sumI (L.map Prod.snd) ≤ sHi (L.map Prod.fst) ∧ someB (L.map Prod.fst) = true := by
  induction L with
  | nil => simp [sLo, sHi, sumI, someB]
  | cons q L ih =>
    obtain ⟨a, b, c⟩ := ih (fun x hx => h x (by simp [hx]))
    have d := h q (by simp)
    unfold sLo sHi at *
    simp only [List.map_cons, sumI_cons]
    refine ⟨by omega, by omega, ?_⟩
    rw [someB_cons, c]
    simp
    omega
theorem plus_hold (L : List (Sp × Int)) (h : ∀ q ∈ L, q.1.lo ≤ q.2 ∧ q.2 ≤ q.1.hi) (ho : plusO (L.map Prod.fst) = false) : ((plusS (L.map Prod.fst)).lo ≤ sumI (L.map Prod.snd) ∧ sumI (L.map Prod.snd) ≤ (plusS (L.map Prod.fst)).hi) ∧ fitsI (sumI (L.map Prod.snd)) = true := by
  obtain ⟨a, b, c⟩ := sums L h
  unfold plusO at ho
  rw [c, Bool.true_and, Bool.or_eq_false_iff] at ho
  have r0 := ovI_rng ho.1
  have r1 := ovI_rng ho.2
  unfold plusS
  rw [if_pos c, clampI_id r0.1 r0.2, clampI_id r1.1 r1.2]
  refine ⟨⟨a, b⟩, ?_⟩
  unfold fitsI
  simp
  omega
theorem reach_sound {p : Pl} {us : Sp} {box : List Sp} {u : Int} {v y : List Int} {i : Nat} (hu : us.lo ≤ u ∧ u ≤ us.hi) (hv : (p.W.getD i ⟨0, 0⟩).lo ≤ v.getD i 0 ∧ v.getD i 0 ≤ (p.W.getD i ⟨0, 0⟩).hi) (hy : ∀ j, j < (p.A.getD i []).length → (box.getD j ⟨0, 0⟩).lo ≤ y.getD j 0 ∧ y.getD j 0 ≤ (box.getD j ⟨0, 0⟩).hi) (ho : reachO p us box i = false) :
    hasS (plusS (reachParts p us box i)) (nextZ p u v y i) = true ∧ fitsI (nextZ p u v y i) = true := by
  unfold reachO reachT at ho
  simp only [Bool.or_eq_false_iff, List.any_eq_false, Bool.not_eq_true] at ho
  obtain ⟨⟨o1, o2⟩, o3⟩ := ho
  obtain ⟨L, hL⟩ : ∃ L : List (Sp × Int), L = [(timesS us (wholeI (p.B.getD i 0)), u * p.B.getD i 0), (p.W.getD i ⟨0, 0⟩, v.getD i 0)] ++ (List.range (p.A.getD i []).length).map fun j => (timesS (box.getD j ⟨0, 0⟩) (wholeI ((p.A.getD i []).getD j 0)), y.getD j 0 * (p.A.getD i []).getD j 0) := ⟨_, rfl⟩
  have e1 : L.map Prod.fst = reachParts p us box i := by rw [hL]; unfold reachParts; simp
  have e2 : sumI (L.map Prod.snd) = nextZ p u v y i := by
    rw [hL]
    unfold nextZ exS pairsP
    congr 1
    simp only [List.map_append, List.map_cons, List.map_nil, List.map_map, List.cons_append, List.nil_append, Function.comp_def]
    congr 1
    · rw [Int.mul_comm]
    · congr 1
      · rw [Int.one_mul]
      · apply List.map_congr_left
        intro j _
        rw [Int.mul_comm]
  have hh : ∀ q ∈ L, q.1.lo ≤ q.2 ∧ q.2 ≤ q.1.hi := by
    intro q hq
    rw [hL] at hq
    simp only [List.cons_append, List.nil_append, List.mem_cons, List.mem_map, List.mem_range] at hq
    rcases hq with rfl | rfl | ⟨j, hj, rfl⟩
    · have := (times_hold hu.1 hu.2 o1 false).1
      unfold wholeI at this ⊢
      rw [fmul_whole] at this
      exact this
    · exact hv
    · have h2 := hy j hj
      have := (times_hold h2.1 h2.2 (o2 j (List.mem_range.2 hj)) false).1
      unfold wholeI at this ⊢
      rw [fmul_whole] at this
      exact this
  have := plus_hold L hh (by rw [e1]; exact o3)
  rw [e1, e2] at this
  exact ⟨(has_iff _ _).2 this.1, this.2⟩
theorem clampTo_mono {a b lo hi : Int} (h : a ≤ b) (k : lo ≤ hi) : clampTo a lo hi ≤ clampTo b lo hi := by unfold clampTo; (repeat' split) <;> omega
theorem command_sound {p : Pl} {box : List Sp} {y : List Int} (hi : p.inp.lo ≤ p.inp.hi) (hyl : y.length = box.length) (hy : ∀ j, j < box.length → (box.getD j ⟨0, 0⟩).lo ≤ y.getD j 0 ∧ y.getD j 0 ≤ (box.getD j ⟨0, 0⟩).hi) (hc : (commandP p box).2 = true) :
    hasS (commandP p box).1 (baseP p y) = true := by
  unfold commandP at hc ⊢
  by_cases hb : boxedP p box = true
  · rw [if_pos hb] at hc ⊢
    have hare : areP p y.length = true := by
      unfold boxedP at hb
      rw [Bool.and_eq_true] at hb
      rw [hyl]; exact hb.1
    unfold baseP
    rw [if_pos hare]
    simp only [Bool.not_eq_true', Bool.or_eq_false_iff] at hc
    obtain ⟨o1, o2⟩ := hc
    unfold cmdT at o1
    simp only [List.any_eq_false, Bool.not_eq_true] at o1
    obtain ⟨L, hL⟩ : ∃ L : List (Sp × Int), L = (⟨p.bias, p.bias⟩, p.bias) :: (List.range box.length).map fun j => (timesS (box.getD j ⟨0, 0⟩) (p.gain.getD j 0), clampI (fmul (p.gain.getD j 0) (y.getD j 0) false)) := ⟨_, rfl⟩
    have e1 : L.map Prod.fst = cmdParts p box := by rw [hL]; unfold cmdParts; simp
    have e2 : sumI (L.map Prod.snd) = sumI (p.bias :: mulsP p y) := by
      rw [hL]
      unfold mulsP
      congr 1
      simp [hyl]
    have hh : ∀ q ∈ L, q.1.lo ≤ q.2 ∧ q.2 ≤ q.1.hi := by
      intro q hq
      rw [hL] at hq
      simp only [List.mem_cons, List.mem_map, List.mem_range] at hq
      rcases hq with rfl | ⟨j, hj, rfl⟩
      · exact ⟨Int.le_refl _, Int.le_refl _⟩
      · have h2 := hy j hj
        have h3 := times_hold h2.1 h2.2 (o1 j (List.mem_range.2 hj)) false
        rw [comm] at h3
        have h4 := ovI_rng h3.2
        simp only []
        rw [clampI_id h4.1 h4.2]
        exact h3.1
    have := plus_hold L hh (by rw [e1]; exact o2)
    rw [e1, e2] at this
    have f := this.2
    unfold fitsI at f
    simp at f
    rw [clampI_id f.1 f.2]
    exact (has_iff _ _).2 ⟨clampTo_mono this.1.1 hi, clampTo_mono this.1.2 hi⟩
  · rw [if_neg hb] at hc
    cases hc
/-! Lesser spans come to lesser ones. -/
def Le (a b : Sp) : Prop := b.lo ≤ a.lo ∧ a.lo ≤ a.hi ∧ a.hi ≤ b.hi
theorem Le.rfl' {a : Sp} (h : a.lo ≤ a.hi) : Le a a := ⟨Int.le_refl _, h, Int.le_refl _⟩
theorem Le.trans {a b c : Sp} (h : Le a b) (k : Le b c) : Le a c := ⟨by have := h.1; have := k.1; omega, h.2.1, by have := h.2.2; have := k.2.2; omega⟩
end Rx
end Go.Pk
namespace Go.Proofs.Ythdaidmjjcmccaa
end Go.Proofs.Ythdaidmjjcmccaa
