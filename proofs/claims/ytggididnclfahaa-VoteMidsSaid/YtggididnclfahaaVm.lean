/- Proved here: lemmas and contracts (what a function of the program computes) that the proofs of the laws of this seat lean on. Conditions: as each theorem states. -/
import Derived.Test.YtggididnclfahaaA1
import Derived.Test.YtggididnclfahaaM0
import Derived.Test.YtggididnclfahaaPlap
set_option linter.unusedVariables false
set_option linter.unusedSimpArgs false
namespace Go.Pk.Vt
open Go.RowKit Go.Pk
/-! A voter as plain data, and what it computes. -/
structure Sen where
  v : Int
  t : Int
  bad : Bool
  k : Int
structure Vo where
  a : Sen
  b : Sen
  c : Sen
  tol : Int
  stale : Int
  strikes : Int
  last : Int
def Vo.arr (V : Vo) : Array Value := #[.int .i64 V.a.v, .int .i64 V.a.t, .bool false, .bool V.a.bad, .int .i64 V.a.k, .int .i64 V.b.v, .int .i64 V.b.t, .bool false, .bool V.b.bad, .int .i64 V.b.k, .int .i64 V.c.v, .int .i64 V.c.t, .bool false, .bool V.c.bad, .int .i64 V.c.k, .int .i64 V.tol, .int .i64 V.stale, .int .i64 V.strikes, .int .i64 V.last]
def Vo.get (V : Vo) (i : Nat) : Sen := if i = 0 then V.a else if i = 1 then V.b else V.c
def Vo.put (V : Vo) (i : Nat) (s : Sen) : Vo := if i = 0 then { V with a := s } else if i = 1 then { V with b := s } else { V with c := s }
/-- All numbers are Go's ints. -/
def I64 (x : Int) : Prop := -9223372036854775808 ≤ x ∧ x ≤ 9223372036854775807
def Sen.ok (s : Sen) : Prop := I64 s.v
structure Vo.ok (V : Vo) : Prop where
  a : V.a.ok
  b : V.b.ok
  c : V.c.ok
  tol : 0 ≤ V.tol ∧ V.tol ≤ 9223372036854775807
  stale : 0 ≤ V.stale ∧ V.stale ≤ 1000
  strikes : 1 ≤ V.strikes ∧ V.strikes ≤ 1000
  last : I64 V.last
theorem Vo.ok.get {V : Vo} (h : V.ok) (i : Nat) : (V.get i).ok := by
  unfold Vo.get; split
  · exact h.a
  · split
    · exact h.b
    · exact h.c
theorem Vo.ok.put {V : Vo} (h : V.ok) (i : Nat) {s : Sen} (hs : s.ok) : (V.put i s).ok := by
  obtain ⟨h1, h2, h3, h4, h5, h6, h7⟩ := h
  unfold Vo.put; split
  · exact ⟨hs, h2, h3, h4, h5, h6, h7⟩
  · split
    · exact ⟨h1, hs, h3, h4, h5, h6, h7⟩
    · exact ⟨h1, h2, hs, h4, h5, h6, h7⟩
def freshT (t stale now : Int) : Bool := decide (0 ≤ t) && (decide (t ≤ now) && decide (now - t ≤ stale))
def Vo.fresh (V : Vo) (i : Nat) (now : Int) : Bool := freshT (V.get i).t V.stale now
def Vo.is (V : Vo) (now : Int) (i : Nat) : Bool := V.fresh i now && !(V.get i).bad
def Vo.counts (V : Vo) (now : Int) : List Nat := [0, 1, 2].filter (V.is now)
def Vo.says (V : Vo) (now : Int) : List Int := (V.counts now).map fun i => (V.get i).v
def sortI (l : List Int) : List Int := l.mergeSort fun x y => decide (x ≤ y)
def midL (l : List Int) : Int := (sortI l).getD ((l.length - 1) / 2) 0
def mxV (a b : Int) : Int := if a < b then b else a
def mnV (a b : Int) : Int := if b < a then b else a
def farV (a b tol : Int) : Bool := decide (tol < mxV a b - mnV a b)
def putE (V : Vo) (i tick : Int) (strikes : Int) : Int := if strikes = 0 then 1 else if i < 0 ∨ 3 ≤ i then 3 else if tick < 0 ∨ tick ≤ (V.get i.toNat).t then 1 else 0
/-- What Put leaves. -/
def Vo.said (V : Vo) (i : Nat) (x tick : Int) : Vo := V.put i { V.get i with v := x, t := tick }
def b1 (b : Bool) : Nat := if b = true then 1 else 0
def Vo.badsK (V : Vo) (k : Nat) : Nat := b1 (decide (0 < k) && V.a.bad) + b1 (decide (1 < k) && V.b.bad) + b1 (decide (2 < k) && V.c.bad)
def Vo.bads (V : Vo) : Nat := V.badsK 3
theorem b1_le (b : Bool) : b1 b ≤ 1 := by unfold b1; split <;> omega
def Vo.reset1 (V : Vo) (i : Int) : Vo := if 0 ≤ i ∧ i < 3 then V.put i.toNat { V.get i.toNat with bad := false, k := 0 } else V
def Vo.reset (V : Vo) (l : List Int) : Vo := (if l = [] then [0, 1, 2] else l).foldl Vo.reset1 V
/-- One of those who count is looked at. -/
def Vo.look (V : Vo) (i : Nat) : Vo := V.put i { V.get i with k := if farV (V.get i).v V.last V.tol then wrap64 ((V.get i).k + 1) else 0 }
def Vo.outs (V : Vo) (i : Nat) : Bool := farV (V.get i).v V.last V.tol && decide (V.strikes ≤ wrap64 ((V.get i).k + 1))
def Vo.look2 (P : Vo × List Nat) (i : Nat) : Vo × List Nat := (P.1.look i, if P.1.outs i then P.2 ++ [i] else P.2)
def Vo.lookAll (V : Vo) (l : List Nat) : Vo × List Nat := l.foldl Vo.look2 (V, [])
def Vo.punish (n : Nat) (V : Vo) (i : Nat) : Vo := if n = 1 then V.put i { V.get i with bad := true } else V.put i { V.get i with k := V.strikes - 1 }
def Vo.strike (V : Vo) (counts : List Nat) : Vo := (V.lookAll counts).2.foldl (Vo.punish (V.lookAll counts).2.length) (V.lookAll counts).1
def Vo.vote (V : Vo) (now : Int) : Vo :=
  if V.says now = [] then V else if 1 < (V.says now).length then ({ V with last := midL (V.says now) } : Vo).strike (V.counts now) else { V with last := midL (V.says now) }
def newOkV (tol stale strikes : Int) : Bool := decide (0 ≤ tol) && (decide (0 ≤ stale) && (decide (stale ≤ 1000) && (decide (1 ≤ strikes) && decide (strikes ≤ 1000))))
/-- A voter in the making: k channels have their first tick. -/
def Vo.mkK (tol stale strikes : Int) (k : Nat) : Vo := ⟨⟨0, if 0 < k then -1 else 0, false, 0⟩, ⟨0, if 1 < k then -1 else 0, false, 0⟩, ⟨0, if 2 < k then -1 else 0, false, 0⟩, tol, stale, strikes, 0⟩
def Vo.new (tol stale strikes : Int) : Vo := ⟨⟨0, -1, false, 0⟩, ⟨0, -1, false, 0⟩, ⟨0, -1, false, 0⟩, tol, stale, strikes, 0⟩
theorem new_ok {tol stale strikes : Int} (h : newOkV tol stale strikes = true) (ht : tol ≤ 9223372036854775807) : (Vo.new tol stale strikes).ok := by
  unfold newOkV at h
  simp only [Bool.and_eq_true, decide_eq_true_eq] at h
  obtain ⟨h1, h2, h3, h4, h5⟩ := h
  have h0 : I64 0 := by unfold I64; omega
  exact ⟨h0, h0, h0, ⟨h1, ht⟩, ⟨h2, h3⟩, ⟨h4, h5⟩, h0⟩
/-- What a method leaves of the world: all but the voter's block is as it was. -/
structure E1 (w0 w w' : World) (g : Nat) : Prop where
  b : Below w0.heap.size w0 w'
  k : KeepX (· = g) w w'
  z : w.heap.size ≤ w'.heap.size
theorem E1.refl {w0 w : World} {g : Nat} (h : Below w0.heap.size w0 w) : E1 w0 w w g := ⟨h, KeepX.refl _ _, Nat.le_refl _⟩
theorem E1.ext {w0 w w1 w2 : World} {g : Nat} (h : E1 w0 w w1 g) (hb : Below w1.heap.size w1 w2) : E1 w0 w w2 g := ⟨bl_step h.b hb, h.k.ext hb, Nat.le_trans h.z hb.size⟩
theorem E1.trans {w0 w w1 w2 : World} {g : Nat} (h : E1 w0 w w1 g) (k : E1 w0 w1 w2 g) : E1 w0 w w2 g := ⟨k.b, h.k.trans k.k, Nat.le_trans h.z k.z⟩
theorem E1.set {w0 w w1 : World} {g : Nat} (h : E1 w0 w w1 g) (hg : w0.heap.size ≤ g) (i : Nat) (u : Value) : E1 w0 w (w1.setCell ⟨g, i, none⟩ u) g :=
  ⟨bl_set h.b (p := ⟨g, i, none⟩) hg u, h.k.set (p := ⟨g, i, none⟩) rfl u, by rw [setCell_size]; exact h.z⟩
theorem E1.drew {w0 w w1 : World} {g : Nat} (h : E1 w0 w w1 g) : E1 w0 w w1.drew g := h.ext (bl_drew (Below.refl _ _))
theorem E1.blk {w0 w w1 : World} {g k : Nat} {o : Obj} (h : E1 w0 w w1 g) (hne : k ≠ g) (hk : w.heap[k]? = some o) : w1.heap[k]? = some o := h.k k o hne hk
def encN (l : List Nat) : List Int := l.map fun i => Int.ofNat i
theorem far_iff {a b tol : Int} : farV a b tol = true ↔ (tol < a - b ∨ tol < b - a) := by
  unfold farV mxV mnV; simp only [decide_eq_true_eq]; split <;> split <;> omega
theorem look_ok {V : Vo} (h : V.ok) (i : Nat) : (V.look i).ok := h.put i (h.get i)
theorem look2_ok {P : Vo × List Nat} (h : P.1.ok) (i : Nat) : (Vo.look2 P i).1.ok := look_ok h i
theorem punish_ok {n : Nat} {V : Vo} (h : V.ok) (i : Nat) : (Vo.punish n V i).ok := by
  unfold Vo.punish; split
  · exact h.put i (h.get i)
  · exact h.put i (h.get i)
theorem foldl_ok {α β : Type} {f : α → β → α} {p : α → Prop} (hf : ∀ a b, p a → p (f a b)) : ∀ (l : List β) (a : α), p a → p (l.foldl f a)
  | [], a, h => h
  | b :: l, a, h => foldl_ok hf l _ (hf a b h)
theorem strike_ok {V : Vo} (h : V.ok) (l : List Nat) : (V.strike l).ok := by
  unfold Vo.strike
  exact foldl_ok (p := Vo.ok) (fun a b h => punish_ok h b) _ _ (foldl_ok (p := fun P : Vo × List Nat => P.1.ok) (fun a b h => look2_ok h b) _ _ h)
theorem sort_mem {l : List Int} {x : Int} : x ∈ sortI l ↔ x ∈ l := by unfold sortI; exact List.mem_mergeSort
theorem sort_length (l : List Int) : (sortI l).length = l.length := by unfold sortI; exact List.length_mergeSort _
theorem mid_mem {l : List Int} (h : l ≠ []) : midL l ∈ l := by
  have hl : 0 < l.length := List.length_pos_iff.2 h
  unfold midL
  rw [List.getD_eq_getElem?_getD, List.getElem?_eq_getElem (by rw [sort_length]; omega)]
  exact sort_mem.1 (List.getElem_mem _)
theorem says_ok {V : Vo} (h : V.ok) (now : Int) : ∀ x ∈ V.says now, I64 x := by
  intro x hx
  unfold Vo.says at hx
  obtain ⟨i, -, rfl⟩ := List.mem_map.1 hx
  exact h.get i
theorem vote_ok {V : Vo} (h : V.ok) (now : Int) : (V.vote now).ok := by
  unfold Vo.vote
  split
  · exact h
  · rename_i hn
    have hm := says_ok h now _ (mid_mem hn)
    have h2 : ({ V with last := midL (V.says now) } : Vo).ok := ⟨h.a, h.b, h.c, h.tol, h.stale, h.strikes, hm⟩
    split
    · exact strike_ok h2 _
    · exact h2
theorem said_ok {V : Vo} (h : V.ok) (i : Nat) {x : Int} (hx : I64 x) (t : Int) : (V.said i x t).ok := h.put i hx
theorem reset1_ok {V : Vo} (h : V.ok) (i : Int) : (V.reset1 i).ok := by
  unfold Vo.reset1; split
  · exact h.put _ (h.get _)
  · exact h
theorem reset_ok {V : Vo} (h : V.ok) (l : List Int) : (V.reset l).ok := by
  unfold Vo.reset; exact foldl_ok (p := Vo.ok) (fun a b h => reset1_ok h b) _ _ h
end Go.Pk.Vt
namespace Go.Proofs.Ytggididnclfahaa
end Go.Proofs.Ytggididnclfahaa
