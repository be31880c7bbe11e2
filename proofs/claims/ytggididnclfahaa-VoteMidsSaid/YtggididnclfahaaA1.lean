/- Proved here: lemmas and contracts (what a function of the program computes) that the proofs of the laws of this seat lean on. Conditions: as each theorem states. -/
import Derived.Test.YtggididnclfahaaA0
set_option linter.unusedVariables false
set_option linter.unusedSimpArgs false
namespace Go.Pk
open Go.RowKit
/-- Block g is not the accumulator's. -/
def PNe (p : Option Addr) (g : Nat) : Prop := ∀ a, p = some a → a.block ≠ g
theorem AccAt.ne {w : World} {p : Option Addr} {o : Bool} (h : AccAt w p o) {g : Nat} (hg : w.heap.size ≤ g) : PNe p g := by
  intro a e; subst e
  have := World.block_lt_of_cell? w a h.1
  omega
theorem blk_or {w : World} {p : Option Addr} {b : Bool} {g : Nat} {o : Obj} (h : w.heap[g]? = some o) (hne : PNe p g) : (orCell w p b).heap[g]? = some o := by
  rcases p with _ | a
  · exact h
  · cases b
    · exact h
    · exact blk_far h (hne a rfl) _
theorem blk_acc {w w1 : World} {p : Option Addr} {b : Bool} {g : Nat} {o : Obj} (hb : Below w.heap.size (orCell w p b) w1) (h : w.heap[g]? = some o) (hne : PNe p g) : w1.heap[g]? = some o :=
  (hb.block g (blk_lt h)).trans (blk_or h hne)
theorem bl_orSet {w w1 : World} {p : Option Addr} {b : Bool} (h : Below w.heap.size (orCell w p b) w1) {a : Addr} (ha : w.heap.size ≤ a.block) (u : Value) : Below w.heap.size (orCell w p b) (w1.setCell a u) := h.setCell ha u
theorem bl_orAlloc {w w1 : World} {p : Option Addr} {b : Bool} (h : Below w.heap.size (orCell w p b) w1) (o : Obj) : Below w.heap.size (orCell w p b) (w1.alloc o) :=
  h.alloc (by have := h.size; rwa [orCell_size] at this) o
theorem bl_orDrew {w w1 : World} {p : Option Addr} {b : Bool} (h : Below w.heap.size (orCell w p b) w1) : Below w.heap.size (orCell w p b) w1.drew := bl_drew h
theorem bl_orGrown {w w1 w2 : World} {p : Option Addr} {b : Bool} (h : Below w.heap.size (orCell w p b) w1) {row : Option Nat} (hg : w1.grownBy w2 row) (hr : ∀ k, row = some k → w.heap.size ≤ k) : Below w.heap.size (orCell w p b) w2 :=
  h.grown hg (by have := h.size; rwa [orCell_size] at this) hr
theorem RdC.acc {w w1 : World} {p : Option Addr} {o b : Bool} {A : Option Addr} {vs : List Value} (h : RdC w A vs) (hn : ∀ q, Value.bool q ∉ vs) (hp : AccAt w p o) (hb : Below w.heap.size (orCell w p b) w1) : RdC w1 A vs := by
  intro i u hi
  obtain ⟨g, off, e, hc⟩ := h i u hi
  refine ⟨g, off, e, ?_⟩
  have hlt : (⟨g, off + i, none⟩ : Addr).block < w.heap.size := World.block_lt_of_cell? w _ hc
  rw [hb.cell hlt]
  rcases p with _ | a
  · exact hc
  · cases b
    · exact hc
    · have hne : a ≠ ⟨g, off + i, none⟩ := by
        intro e2; subst e2
        rw [hp.1] at hc
        injection hc with hc
        exact hn o (by rw [hc]; exact List.mem_of_getElem? hi)
      show (w.setCell a _).cell? _ = _
      rw [World.cell?_setCell_other _ _ _ _ hne, hc]
theorem encI_nobool (l : List Int) (q : Bool) : Value.bool q ∉ encI l := by unfold encI; simp
theorem encS_nobool (l : List Sp) (q : Bool) : Value.bool q ∉ encS l := by unfold encS; simp
theorem RdI.acc {w w1 : World} {p : Option Addr} {o b : Bool} {A : Option Addr} {l : List Int} (h : RdI w A l) (hp : AccAt w p o) (hb : Below w.heap.size (orCell w p b) w1) : RdI w1 A l := ⟨h.1, h.2.acc (encI_nobool l) hp hb⟩
theorem RdS.acc {w w1 : World} {p : Option Addr} {o b : Bool} {A : Option Addr} {l : List Sp} (h : RdS w A l) (hp : AccAt w p o) (hb : Below w.heap.size (orCell w p b) w1) : RdS w1 A l := ⟨h.1, h.2.acc (encS_nobool l) hp hb⟩
theorem own_acc {w w1 : World} {p : Option Addr} {b : Bool} {base n : Nat} {e : TypeId} {size : Nat} {v : Value} {xs : List Value} (h : w.ownsRow base e size v n xs) (hb : Below w.heap.size (orCell w p b) w1) (hne : ∀ k, v.ownBlock = some k → PNe p k) : w1.ownsRow base e size v n xs := by
  refine own_below (w := orCell w p b) ?_ (by rw [orCell_size]; exact hb)
  rcases p with _ | a
  · exact h
  · cases b
    · exact h
    · exact own_set h (fun e => hne _ e.symm a rfl rfl) _
/-- The accumulator is a variable of the call's own. -/
theorem bl_own {w W w1 : World} {a : Addr} {b : Bool} (h : Below w.heap.size w W) (ha : w.heap.size ≤ a.block) (k : Below W.heap.size (orCell W (some a) b) w1) : Below w.heap.size w w1 := by
  have h2 : Below w.heap.size w (orCell W (some a) b) := by
    cases b
    · exact h
    · exact h.setCell ha _
  refine h2.trans ⟨k.os, k.tape, k.output, k.size, fun i hi => k.block i (Nat.lt_of_lt_of_le hi h.size)⟩
theorem PNe.of {a : Addr} {g : Nat} (h : a.block ≠ g) : PNe (some a) g := fun b e => by injection e with e; subst e; exact h
theorem AccAt.blk {w : World} {g : Nat} {o : Bool} {t : TypeId} (h : w.heap[g]? = some (.cells #[.bool o] t (0, 0))) : AccAt w (some ⟨g, 0, none⟩) o := blk_one h
section
variable {P : Program}
theorem res_cc {fn : Func} {p q : Tmp} {ty tz : TypeId} (h : fn.results = #[.cell p ty, .cell q tz]) (tmps : Array Value) (w : World) (g k : Nat) (t u : TypeId) (cs ds : Array Value) (fr gr : Nat × Nat) (d e : TypeDesc)
    (hp : tmps.getD p undef = .pointer (some ⟨g, 0, none⟩)) (hg : w.heap[g]? = some (.cells cs t fr)) (hu : P.underlying ty = some d) (hd : (match d with | .struct _ | .array _ _ => true | _ => false) = true) (hi : (P.info? ty).map (·.size) = some cs.size)
    (hq : tmps.getD q undef = .pointer (some ⟨k, 0, none⟩)) (hk : w.heap[k]? = some (.cells ds u gr)) (hv : P.underlying tz = some e) (he : (match e with | .struct _ | .array _ _ => true | _ => false) = true) (hj : (P.info? tz).map (·.size) = some ds.size) :
    (results fn tmps).run P w = .ok (.tuple #[.agg cs, .agg ds]) w := by
  have h1 : tmps[p]?.getD undef = .pointer (some ⟨g, 0, none⟩) := by simpa using hp
  have h2 : tmps[q]?.getD undef = .pointer (some ⟨k, 0, none⟩) := by simpa using hq
  simp [results, h, h1, h2, asAddr, run_loadVar_row w g t ty cs fr d hg hu hd hi, run_loadVar_row w k u tz ds gr e hk hv he hj]
end
/-- An append of m elements that lie in a new block. -/
theorem step_apm {P : Program} {w : World} {ops : Array Oper} {o : Oper} {a : Act} {K : Act → World → Prop} {Q : Exit → Act → World → Prop} {E : Prop} (hgd : o.guard = none) (s x : Operand) (t : TypeId)
    (ho : o.op = .call { callee := .builtin .append, args := #[s, x], argTypes := #[t, t] })
    (base : Nat) (e : TypeId) (z : Value) (size bytes : Nat) (ht : P.underlying t = some (.slice e)) (hinfo : (P.info? e).map (fun i => (i.zero, i.size, i.bytes)) = some (some z, size, bytes)) (hzs : z.cells.size = size) (hsz : 0 < size)
    (v : Value) (n : Nat) (xs : List Value) (hs : a.eval s = v) (hown : w.ownsRow base e size v n xs)
    (G m c : Nat) (news : List Value) (hx : a.eval x = .slice (some ⟨G, 0, none⟩) m c) (hm : 0 < m) (hl : news.length = m * size) (hG : w.heap[G]? = some (.cells news.toArray e (0, 0))) (h1 : ∀ u ∈ news, u.oneCell' = true)
    (hn : (n + m) * bytes ≤ 140737488355328) (hn2 : n + m ≤ 9223372036854775807) (hbase : base ≤ w.heap.size)
    (h : ∀ g cap w', w'.ownsRow base e size (.slice (some ⟨g, 0, none⟩) (n + m) cap) (n + m) (xs ++ news) → w.grownBy w' v.ownBlock → (v.ownBlock = some g ∨ g = w.heap.size) → g < w'.heap.size → K (a.put o.dst (.slice (some ⟨g, 0, none⟩) (n + m) cap)) w') :
    if Region.wanted o (yielded ops a.tmps) = true then Oper.wp P o a w K Q else E := by
  obtain ⟨i0, hi, hzz⟩ := Option.map_eq_some_iff.1 hinfo
  simp only [Prod.mk.injEq] at hzz
  obtain ⟨hz0, hz1, hz2⟩ := hzz
  exact step_append_lies w hgd s x t ho base e i0 z size bytes ht hi hz0 hz1 hz2 hzs hsz v n xs hs hown ⟨G, 0, none⟩ m c news hx hl (World.news_of_block (cs := news.toArray) hG) h1 hm (by simp only [maxLen]; exact hn2) hn hbase _ rfl h
theorem list_apm {P : Program} {w : World} {ops : Array Oper} {rest : List Oper} {o : Oper} {a : Act} {Q : Exit → Act → World → Prop} (hgd : o.guard = none) (s x : Operand) (t : TypeId)
    (ho : o.op = .call { callee := .builtin .append, args := #[s, x], argTypes := #[t, t] })
    (base : Nat) (e : TypeId) (z : Value) (size bytes : Nat) (ht : P.underlying t = some (.slice e)) (hinfo : (P.info? e).map (fun i => (i.zero, i.size, i.bytes)) = some (some z, size, bytes)) (hzs : z.cells.size = size) (hsz : 0 < size)
    (v : Value) (n : Nat) (xs : List Value) (hs : a.eval s = v) (hown : w.ownsRow base e size v n xs)
    (G m c : Nat) (news : List Value) (hx : a.eval x = .slice (some ⟨G, 0, none⟩) m c) (hm : 0 < m) (hl : news.length = m * size) (hG : w.heap[G]? = some (.cells news.toArray e (0, 0))) (h1 : ∀ u ∈ news, u.oneCell' = true)
    (hn : (n + m) * bytes ≤ 140737488355328) (hn2 : n + m ≤ 9223372036854775807) (hbase : base ≤ w.heap.size)
    (h : ∀ g cap w', w'.ownsRow base e size (.slice (some ⟨g, 0, none⟩) (n + m) cap) (n + m) (xs ++ news) → w.grownBy w' v.ownBlock → (v.ownBlock = some g ∨ g = w.heap.size) → g < w'.heap.size → wpList P ops Q rest (a.put o.dst (.slice (some ⟨g, 0, none⟩) (n + m) cap)) w') :
    wpList P ops Q (o :: rest) a w :=
  wpList_step fun K hK => step_apm hgd s x t ho base e z size bytes ht hinfo hzs hsz v n xs hs hown G m c news hx hm hl hG h1 hn hn2 hbase fun g cap w' q1 q2 q3 q4 => hK _ _ (h g cap w' q1 q2 q3 q4)
end Go.Pk
namespace Go.Pk
open Go.RowKit
theorem cutL {J G : Prop} (h : J → G) (j : J) : G := h j
theorem blk_cell {w : World} {g : Nat} {cs : Array Value} {t : TypeId} {fr : Nat × Nat} (h : w.heap[g]? = some (.cells cs t fr)) (i : Nat) {v : Value} (hv : cs[i]? = some v) : w.cell? ⟨g, i, none⟩ = some v := (blkc h i).trans hv
theorem AccAt.far {w : World} {a : Addr} {o : Bool} (h : AccAt w (some a) o) {g : Nat} (hne : PNe (some a) g) (i : Nat) (u : Value) : AccAt (w.setCell ⟨g, i, none⟩ u) (some a) o := by
  have e := hne a rfl
  refine ⟨?_, ?_⟩
  · rw [World.cell?_setCell_other w _ _ _ (fun k => e (by rw [← k]))]; exact h.1
  · rw [World.frozen?_setCell]; exact h.2
theorem AccAt.far2 {w : World} {a : Addr} {o : Bool} (h : AccAt w (some a) o) {g : Nat} (hne : PNe (some a) g) (u v : Value) : AccAt ((w.setCell ⟨g, 0, none⟩ u).setCell ⟨g, 1, none⟩ v) (some a) o := (h.far hne 0 u).far hne 1 v
end Go.Pk
namespace Go.Pk
open Go.RowKit
structure Bx (J : Prop) : Prop where
  out : J
theorem cutB {J G : Prop} (h : Bx J → G) (j : J) : G := h ⟨j⟩
theorem AccAt.other {w w1 : World} {p q : Addr} {o b : Bool} (h : AccAt w (some q) o) (hb : Below w.heap.size (orCell w (some p) b) w1) (hne : p.block ≠ q.block) : AccAt w1 (some q) o := by
  cases b
  · exact AccAt.below h hb
  · have h2 : AccAt (w.setCell p (.bool true)) (some q) o := by
      refine ⟨?_, ?_⟩
      · rw [World.cell?_setCell_other w _ _ _ (fun k => hne (by rw [k]))]; exact h.1
      · rw [World.frozen?_setCell]; exact h.2
    have hb2 : Below w.heap.size (w.setCell p (.bool true)) w1 := hb
    exact AccAt.below h2 (by rw [show (w.setCell p (.bool true)).heap.size = w.heap.size by simp [World.setCell]]; exact hb2)
end Go.Pk
