/- Proved here: lemmas and contracts (what a function of the program computes) that the proofs of the laws of this seat lean on. Conditions: as each theorem states. -/
import Derived.Test.YtggididnclfahaaM0
import Derived.WalkKit
import Derived.KernelRfl
import Derived.Laws.Externs
import Derived.Deep.QuietTactic
import Derived.BigQuiet
import Derived.Deep.RegionWith
import Derived.Deep.RegionHeld3
import Derived.Deep.AppendLies
import Derived.WalkSpells
import Derived.OwnWalk
import Derived.Deep.DeepCutAuto
set_option linter.unusedVariables false
set_option linter.unusedSimpArgs false
namespace Go.Pk
open Go.RowKit

@[go_sem] theorem drew_size (w : World) : w.drew.heap.size = w.heap.size := rfl
@[go_sem] theorem drewN_size (w : World) (n : Nat) : (w.drewN n).heap.size = w.heap.size := rfl
@[go_sem] theorem setCell_size (w : World) (a : Addr) (v : Value) : (w.setCell a v).heap.size = w.heap.size := by simp [World.setCell]
theorem bl_alloc {w W : World} (h : Below w.heap.size w W) (o : Obj) : Below w.heap.size w (W.alloc o) := h.alloc h.size o
theorem bl_drew {B : Nat} {w W : World} (h : Below B w W) : Below B w W.drew := ⟨h.os, h.tape, h.output, h.size, h.block⟩
theorem bl_drewN {B : Nat} {w W : World} (h : Below B w W) (n : Nat) : Below B w (W.drewN n) := ⟨h.os, h.tape, h.output, h.size, h.block⟩
theorem bl_step {w W W1 : World} (h : Below w.heap.size w W) (k : Below W.heap.size W W1) : Below w.heap.size w W1 :=
  h.trans ⟨k.os, k.tape, k.output, k.size, fun i hi => k.block i (Nat.lt_of_lt_of_le hi h.size)⟩
theorem bl_set {w W : World} (h : Below w.heap.size w W) {p : Addr} (hp : w.heap.size ≤ p.block) (u : Value) : Below w.heap.size w (W.setCell p u) := h.setCell hp u
theorem bl_grown {w W W1 : World} (h : Below w.heap.size w W) {row : Option Nat} (hg : W.grownBy W1 row) (hr : ∀ k, row = some k → w.heap.size ≤ k) : Below w.heap.size w W1 := h.grown hg h.size hr
/-- Facts on cells behind a call that changes nothing that was there. -/
theorem bl_cell {w w1 : World} (h : Below w.heap.size w w1) {a : Addr} {v : Value} (hc : w.cell? a = some v) : w1.cell? a = some v := (h.cell (World.block_lt_of_cell? w a hc)).trans hc
theorem bl_frozen {w w1 : World} (h : Below w.heap.size w w1) {a : Addr} {v : Value} (hc : w.cell? a = some v) : w1.frozen? a = w.frozen? a := h.frozen (World.block_lt_of_cell? w a hc)
theorem bl_block {w w1 : World} (h : Below w.heap.size w w1) {g : Nat} {o : Obj} (hc : w.heap[g]? = some o) : w1.heap[g]? = some o := (h.block g (Array.getElem?_eq_some_iff.1 hc).1).trans hc

theorem bcell {W w1 : World} (hb : Below W.heap.size W w1) : (∀ b o, b < W.heap.size → w1.cell? ⟨b, o, none⟩ = W.cell? ⟨b, o, none⟩) ∧ (∀ b o, b < W.heap.size → w1.frozen? ⟨b, o, none⟩ = W.frozen? ⟨b, o, none⟩) :=
  ⟨fun b o h => hb.cell (p := ⟨b, o, none⟩) h, fun b o h => hb.frozen (p := ⟨b, o, none⟩) h⟩

/-- What a call with an accumulator at p leaves of the world: the cell at p is set, if a number stayed at an end. -/
def orCell (w : World) (p : Option Addr) (b : Bool) : World := match p with
  | none => w
  | some a => if b then w.setCell a (.bool true) else w
theorem orCell_false (w : World) (p : Option Addr) : orCell w p false = w := by cases p <;> rfl
theorem orCell_none (w : World) (b : Bool) : orCell w none b = w := rfl
theorem orCell_true (w : World) (a : Addr) : orCell w (some a) true = w.setCell a (.bool true) := rfl
theorem orCell_size (w : World) (p : Option Addr) (b : Bool) : (orCell w p b).heap.size = w.heap.size := by
  cases p with
  | none => rfl
  | some a => cases b <;> simp [orCell, World.setCell]
/-- An accumulator: nil, or a cell with a bool. -/
def AccAt (w : World) (p : Option Addr) (o : Bool) : Prop := match p with
  | none => True
  | some a => w.cell? a = some (.bool o) ∧ w.frozen? a = false
theorem AccAt.below {w W : World} {p : Option Addr} {o : Bool} (h : AccAt w p o) (hb : Below w.heap.size w W) : AccAt W p o := by
  rcases p with _ | a
  · trivial
  · exact ⟨bl_cell hb h.1, (bl_frozen hb h.1).trans h.2⟩
def putIn (a : Addr) (u : Value) : Obj → Obj
  | .cells c elem frozen => .cells (if a.spot.isSome then c else c.setIfInBounds a.off u) elem frozen
  | o => o
theorem putIn_idem (a : Addr) (u : Value) (o : Obj) : putIn a u (putIn a u o) = putIn a u o := by
  cases o <;> simp only [putIn]
  congr 1
  split
  · rfl
  · apply Array.ext
    · simp
    · intro i h1 h2
      simp [Array.getElem_setIfInBounds]
theorem heap_setCell_q (w : World) (a : Addr) (u : Value) (k : Nat) : (w.setCell a u).heap[k]? = if a.block = k then (w.heap[k]?).map (putIn a u) else w.heap[k]? := by
  have : (w.setCell a u).heap = w.heap.modify a.block (putIn a u) := by
    simp only [World.setCell]
    congr 1
  rw [this, Array.getElem?_modify]
theorem bl_setBoth {B : Nat} {w w2 : World} (h : Below B w w2) (a : Addr) (u : Value) : Below B (w.setCell a u) (w2.setCell a u) := by
  refine ⟨h.os, h.tape, h.output, ?_, ?_⟩
  · simpa [World.setCell] using h.size
  · intro k hk
    rw [heap_setCell_q, heap_setCell_q, h.block k hk]
theorem bl_or {B : Nat} {w w2 : World} (h : Below B w w2) (p : Option Addr) (b : Bool) : Below B (orCell w p b) (orCell w2 p b) := by
  rcases p with _ | a
  · exact h
  · cases b
    · exact h
    · exact bl_setBoth h a _
theorem heap_or_idem (w : World) (p : Option Addr) (b c : Bool) (k : Nat) : (orCell (orCell w p b) p c).heap[k]? = (orCell w p (b || c)).heap[k]? := by
  rcases p with _ | a
  · rfl
  · cases b <;> cases c <;> simp only [orCell, Bool.or_false, Bool.or_true, Bool.false_eq_true, if_false, if_true]
    rw [heap_setCell_q, heap_setCell_q]
    split
    · rcases w.heap[k]? with _ | o
      · rfl
      · simp [putIn_idem]
    · rfl
/-- Two calls, one behind the other, with the same accumulator. -/
theorem bl_or2 {w w1 w2 : World} {p : Option Addr} {b c : Bool} (h : Below w.heap.size (orCell w p b) w1) (k : Below w1.heap.size (orCell w1 p c) w2) : Below w.heap.size (orCell w p (b || c)) w2 := by
  have hs : w.heap.size ≤ w1.heap.size := by have := h.size; rwa [orCell_size] at this
  have h2 := bl_or h p c
  refine ⟨?_, ?_, ?_, ?_, ?_⟩
  · rw [k.os, h2.os]; rcases p with _ | a <;> cases b <;> cases c <;> rfl
  · rw [k.tape, h2.tape]; rcases p with _ | a <;> cases b <;> cases c <;> rfl
  · rw [k.output, h2.output]; rcases p with _ | a <;> cases b <;> cases c <;> rfl
  · rw [orCell_size]; have := k.size; rw [orCell_size] at this; omega
  · intro i hi
    rw [k.block i (by omega), h2.block i hi, heap_or_idem]
theorem bl_or0 {w w1 : World} {p : Option Addr} (h : Below w.heap.size w w1) : Below w.heap.size (orCell w p false) w1 := by rw [orCell_false]; exact h
theorem bl_orThen {w w1 w2 : World} {p : Option Addr} {b : Bool} (h : Below w.heap.size (orCell w p b) w1) (k : Below w1.heap.size w1 w2) : Below w.heap.size (orCell w p b) w2 := by
  have hs := h.size; rw [orCell_size] at hs
  exact h.trans ⟨k.os, k.tape, k.output, k.size, fun i hi => k.block i (Nat.lt_of_lt_of_le hi hs)⟩
theorem bl_thenOr {w w1 w2 : World} {p : Option Addr} {b : Bool} (h : Below w.heap.size w w1) (k : Below w1.heap.size (orCell w1 p b) w2) : Below w.heap.size (orCell w p b) w2 := by
  have := bl_or2 (b := false) (bl_or0 (p := p) h) k
  simpa using this
/-- What an accumulator holds behind a call. -/
theorem AccAt.or {w w1 : World} {p : Option Addr} {o b : Bool} (h : AccAt w p o) (hb : Below w.heap.size (orCell w p b) w1) : AccAt w1 p (o || b) := by
  rcases p with _ | a
  · trivial
  · obtain ⟨h1, h2⟩ := h
    have hlt := World.block_lt_of_cell? w a h1
    cases b
    · rw [orCell_false] at hb; simpa using (AccAt.below (p := some a) ⟨h1, h2⟩ hb)
    · have hc : (w.setCell a (.bool true)).cell? a = some (.bool true) := by
        have := World.cell?_setCell_same (w := w) (a := a) (v := .bool true) h1
        exact this
      have hfz : (w.setCell a (.bool true)).frozen? a = false := by
        rw [World.frozen?_setCell]; exact h2
      refine ⟨?_, ?_⟩
      · have : (o || true) = true := by simp
        rw [this, ← hc]; exact hb.cell hlt
      · rw [← hfz]; exact hb.frozen hlt

/-! Blocks that are known whole. -/
theorem blkc {w : World} {g : Nat} {cs : Array Value} {t : TypeId} {fr : Nat × Nat} (h : w.heap[g]? = some (.cells cs t fr)) (i : Nat) : w.cell? ⟨g, i, none⟩ = cs[i]? := by simp [World.cell?, h]
theorem blkf {w : World} {g : Nat} {cs : Array Value} {t : TypeId} (h : w.heap[g]? = some (.cells cs t (0, 0))) (i : Nat) : w.frozen? ⟨g, i, none⟩ = false := by simp [World.frozen?, h]
theorem blk_lt {w : World} {g : Nat} {o : Obj} (h : w.heap[g]? = some o) : g < w.heap.size := (Array.getElem?_eq_some_iff.1 h).1
theorem blk_set {w : World} {g : Nat} {cs : Array Value} {t : TypeId} {fr : Nat × Nat} (h : w.heap[g]? = some (.cells cs t fr)) (i : Nat) (u : Value) : (w.setCell ⟨g, i, none⟩ u).heap[g]? = some (.cells (cs.setIfInBounds i u) t fr) := by
  rw [heap_setCell_q, if_pos rfl, h]; rfl
theorem blk_far {w : World} {g : Nat} {o : Obj} (h : w.heap[g]? = some o) {a : Addr} (hne : a.block ≠ g) (u : Value) : (w.setCell a u).heap[g]? = some o := by
  rw [heap_setCell_q, if_neg hne, h]
theorem blk_alloc {w : World} {g : Nat} {o : Obj} (h : w.heap[g]? = some o) (p : Obj) : (w.alloc p).heap[g]? = some o := (heap_alloc_old w p (blk_lt h)).trans h
theorem blk_new (w : World) (o : Obj) : (w.alloc o).heap[w.heap.size]? = some o := heap_alloc_new w o
theorem blk_newE {w : World} {g : Nat} {o : Obj} (h : w.heap.size = g) : (w.alloc o).heap[g]? = some o := by rw [← h]; exact blk_new w o
theorem blk_drew {w : World} {g : Nat} {o : Obj} (h : w.heap[g]? = some o) : w.drew.heap[g]? = some o := h
theorem blk_drewN {w : World} {g : Nat} {o : Obj} (h : w.heap[g]? = some o) (n : Nat) : (w.drewN n).heap[g]? = some o := h
theorem blk_two {w : World} {g : Nat} {a b : Value} {t : TypeId} (h : w.heap[g]? = some (.cells #[a, b] t (0, 0))) : w.cell? ⟨g, 0, none⟩ = some a ∧ w.cell? ⟨g, 1, none⟩ = some b ∧ w.frozen? ⟨g, 0, none⟩ = false ∧ w.frozen? ⟨g, 1, none⟩ = false :=
  ⟨(blkc h 0).trans rfl, (blkc h 1).trans rfl, blkf h 0, blkf h 1⟩
theorem blk_one {w : World} {g : Nat} {a : Value} {t : TypeId} (h : w.heap[g]? = some (.cells #[a] t (0, 0))) : w.cell? ⟨g, 0, none⟩ = some a ∧ w.frozen? ⟨g, 0, none⟩ = false :=
  ⟨(blkc h 0).trans rfl, blkf h 0⟩

theorem blk_put2 {w : World} {g : Nat} {a b : Value} {t : TypeId} {fr : Nat × Nat} (h : w.heap[g]? = some (.cells #[a, b] t fr)) (u v : Value) : ((w.setCell ⟨g, 0, none⟩ u).setCell ⟨g, 1, none⟩ v).heap[g]? = some (.cells #[u, v] t fr) :=
  blk_set (blk_set h 0 u) 1 v
/-! Slices that are read: the cells from an address on. -/
def RdC (w : World) (A : Option Addr) (vs : List Value) : Prop := ∀ i u, vs[i]? = some u → ∃ b off, A = some ⟨b, off, none⟩ ∧ w.cell? ⟨b, off + i, none⟩ = some u
theorem RdC.below {w W : World} {A : Option Addr} {vs : List Value} (h : RdC w A vs) (hb : Below w.heap.size w W) : RdC W A vs := fun i u hi => by
  obtain ⟨b, off, e, hc⟩ := h i u hi
  exact ⟨b, off, e, bl_cell hb hc⟩
theorem RdC.nil (w : World) (A : Option Addr) : RdC w A [] := fun i u h => by simp at h
def encI (l : List Int) : List Value := l.map (Value.int .i64)
def RdI (w : World) (A : Option Addr) (l : List Int) : Prop := l.length ≤ 9223372036854775807 ∧ RdC w A (encI l)
theorem RdI.below {w W : World} {A : Option Addr} {l : List Int} (h : RdI w A l) (hb : Below w.heap.size w W) : RdI W A l := ⟨h.1, h.2.below hb⟩
theorem RdI.at {w : World} {A : Option Addr} {l : List Int} (h : RdI w A l) {i : Nat} (hi : i < l.length) : ∃ b off, A = some ⟨b, off, none⟩ ∧ w.cell? ⟨b, off + i, none⟩ = some (.int .i64 (l.getD i 0)) := by
  refine h.2 i _ ?_
  simp [encI, List.getElem?_eq_getElem hi]
/-! Rows of the call's own. -/
theorem blk_grown {w w' : World} {g : Nat} {o : Obj} {row : Option Nat} (h : w.heap[g]? = some o) (hg : w.grownBy w' row) (hne : some g ≠ row) : w'.heap[g]? = some o := (hg.block g (blk_lt h) hne).trans h
theorem own_lt {w : World} {base n : Nat} {e : TypeId} {size : Nat} {v : Value} {xs : List Value} (h : w.ownsRow base e size v n xs) (k : Nat) (hk : v.ownBlock = some k) : base ≤ k ∧ k < w.heap.size := h.lt k hk
theorem own_ne_of_lt {w : World} {base n : Nat} {e : TypeId} {size : Nat} {v : Value} {xs : List Value} (h : w.ownsRow base e size v n xs) {g : Nat} (hg : w.heap.size ≤ g) : some g ≠ v.ownBlock := fun e => by have := (h.lt g e.symm).2; omega
theorem own_below {w w1 : World} {base n : Nat} {e : TypeId} {size : Nat} {v : Value} {xs : List Value} (h : w.ownsRow base e size v n xs) (hb : Below w.heap.size w w1) : w1.ownsRow base e size v n xs :=
  h.kept (row := none) ⟨hb.os, hb.tape, hb.output, hb.size, fun i hi _ => hb.block i hi⟩ (by cases v.ownBlock <;> simp)
theorem own_drew {w : World} {base n : Nat} {e : TypeId} {size : Nat} {v : Value} {xs : List Value} (h : w.ownsRow base e size v n xs) : w.drew.ownsRow base e size v n xs := h
theorem own_set {w : World} {base n : Nat} {e : TypeId} {size : Nat} {v : Value} {xs : List Value} (h : w.ownsRow base e size v n xs) {a : Addr} (ha : some a.block ≠ v.ownBlock) (u : Value) : (w.setCell a u).ownsRow base e size v n xs :=
  h.kept (row := some a.block) ⟨rfl, rfl, rfl, by simp [World.setCell], fun i hi hne => by rw [heap_setCell_q, if_neg]; intro e; exact hne (by rw [e])⟩ (Or.inr fun e => ha e.symm)
theorem own_alloc {w : World} {base n : Nat} {e : TypeId} {size : Nat} {v : Value} {xs : List Value} (h : w.ownsRow base e size v n xs) (o : Obj) : (w.alloc o).ownsRow base e size v n xs := h.alloc o
theorem own_grown {w w1 : World} {base n : Nat} {e : TypeId} {size : Nat} {v : Value} {xs : List Value} {row : Option Nat} (h : w.ownsRow base e size v n xs) (hg : w.grownBy w1 row) (hne : v.ownBlock = none ∨ v.ownBlock ≠ row) : w1.ownsRow base e size v n xs := h.kept hg hne
/-- Two rows: an append to one of them keeps them apart. -/
theorem apart_ap {w W : World} {base n m : Nat} {e f : TypeId} {s t : Nat} {v u : Value} {xs ys : List Value} {g : Nat} (h : w.ownsRow base e s v n xs) (k : w.ownsRow base f t u m ys) (hne : v.ownBlock = none ∨ v.ownBlock ≠ u.ownBlock) (hW : w.heap.size ≤ W.heap.size)
    (hat : v.ownBlock = some g ∨ g = W.heap.size) : u.ownBlock = none ∨ u.ownBlock ≠ some g := by
  rcases hat with hat | rfl
  · refine Or.inr fun e => ?_
    rcases hne with h0 | h0
    · rw [h0] at hat; cases hat
    · exact h0 (by rw [hat, e])
  · exact Or.inr fun e => by have := (k.lt _ e).2; omega
theorem own_row {w : World} {base n : Nat} {e : TypeId} {size : Nat} {v : Value} {xs : List Value} (h : w.ownsRow base e size v n xs) : ∀ k, v.ownBlock = some k → base ≤ k := fun k hk => (h.lt k hk).1
theorem apart_flip {u : Value} {g n c : Nat} (h : u.ownBlock = none ∨ u.ownBlock ≠ some g) : (Value.slice (some ⟨g, 0, none⟩) n c).ownBlock = none ∨ (Value.slice (some ⟨g, 0, none⟩) n c).ownBlock ≠ u.ownBlock := by
  refine Or.inr fun e => ?_
  have e' : some g = u.ownBlock := e
  rcases h with h | h
  · rw [h] at e'; cases e'
  · exact h e'.symm
theorem apart_ap2 {W : World} {u : Value} {g1 g2 n m c d : Nat} (h : u.ownBlock = none ∨ u.ownBlock ≠ some g1) (hlt : g1 < W.heap.size) (hat : u.ownBlock = some g2 ∨ g2 = W.heap.size) :
    (Value.slice (some ⟨g1, 0, none⟩) n c).ownBlock = none ∨ (Value.slice (some ⟨g1, 0, none⟩) n c).ownBlock ≠ (Value.slice (some ⟨g2, 0, none⟩) m d).ownBlock := by
  refine Or.inr fun e => ?_
  have e' : g1 = g2 := by simpa [Value.ownBlock] using e
  subst e'
  rcases hat with h2 | h2
  · rcases h with h | h
    · rw [h] at h2; cases h2
    · exact h h2
  · omega
theorem apart_symm {v u : Value} (h : v.ownBlock = none ∨ v.ownBlock ≠ u.ownBlock) : u.ownBlock = none ∨ u.ownBlock ≠ v.ownBlock := by
  rcases h with h | h
  · cases hu : u.ownBlock with
    | none => exact Or.inl rfl
    | some g => exact Or.inr (by rw [h]; simp)
  · exact Or.inr (Ne.symm h)
/-- An append of one element that lies in a new block. -/
theorem step_ap {P : Program} {w : World} {ops : Array Oper} {o : Oper} {a : Act} {K : Act → World → Prop} {Q : Exit → Act → World → Prop} {E : Prop} (hgd : o.guard = none) (s x : Operand) (t : TypeId)
    (ho : o.op = .call { callee := .builtin .append, args := #[s, x], argTypes := #[t, t] })
    (base : Nat) (e : TypeId) (z : Value) (size bytes : Nat) (ht : P.underlying t = some (.slice e)) (hinfo : (P.info? e).map (fun i => (i.zero, i.size, i.bytes)) = some (some z, size, bytes)) (hzs : z.cells.size = size) (hsz : 0 < size)
    (v : Value) (n : Nat) (xs : List Value) (hs : a.eval s = v) (hown : w.ownsRow base e size v n xs)
    (G : Nat) (news : List Value) (hx : a.eval x = .slice (some ⟨G, 0, none⟩) 1 1) (hl : news.length = size) (hG : w.heap[G]? = some (.cells news.toArray e (0, 0))) (h1 : ∀ u ∈ news, u.oneCell' = true)
    (hn : (n + 1) * bytes ≤ 140737488355328) (hn2 : n + 1 ≤ 9223372036854775807) (hbase : base ≤ w.heap.size)
    (h : ∀ g cap w', w'.ownsRow base e size (.slice (some ⟨g, 0, none⟩) (n + 1) cap) (n + 1) (xs ++ news) → w.grownBy w' v.ownBlock → (v.ownBlock = some g ∨ g = w.heap.size) → g < w'.heap.size → K (a.put o.dst (.slice (some ⟨g, 0, none⟩) (n + 1) cap)) w') :
    if Region.wanted o (yielded ops a.tmps) = true then Oper.wp P o a w K Q else E := by
  obtain ⟨i0, hi, hzz⟩ := Option.map_eq_some_iff.1 hinfo
  simp only [Prod.mk.injEq] at hzz
  obtain ⟨hz0, hz1, hz2⟩ := hzz
  exact step_append_lies w hgd s x t ho base e i0 z size bytes ht hi hz0 hz1 hz2 hzs hsz v n xs hs hown ⟨G, 0, none⟩ 1 1 news hx (by omega) (World.news_of_block (cs := news.toArray) hG) h1 (by omega) (by simp only [maxLen]; exact hn2) hn hbase _ rfl h
/-- The same in a region that does not draw. -/
theorem list_ap {P : Program} {w : World} {ops : Array Oper} {rest : List Oper} {o : Oper} {a : Act} {Q : Exit → Act → World → Prop} (hgd : o.guard = none) (s x : Operand) (t : TypeId)
    (ho : o.op = .call { callee := .builtin .append, args := #[s, x], argTypes := #[t, t] })
    (base : Nat) (e : TypeId) (z : Value) (size bytes : Nat) (ht : P.underlying t = some (.slice e)) (hinfo : (P.info? e).map (fun i => (i.zero, i.size, i.bytes)) = some (some z, size, bytes)) (hzs : z.cells.size = size) (hsz : 0 < size)
    (v : Value) (n : Nat) (xs : List Value) (hs : a.eval s = v) (hown : w.ownsRow base e size v n xs)
    (G : Nat) (news : List Value) (hx : a.eval x = .slice (some ⟨G, 0, none⟩) 1 1) (hl : news.length = size) (hG : w.heap[G]? = some (.cells news.toArray e (0, 0))) (h1 : ∀ u ∈ news, u.oneCell' = true)
    (hn : (n + 1) * bytes ≤ 140737488355328) (hn2 : n + 1 ≤ 9223372036854775807) (hbase : base ≤ w.heap.size)
    (h : ∀ g cap w', w'.ownsRow base e size (.slice (some ⟨g, 0, none⟩) (n + 1) cap) (n + 1) (xs ++ news) → w.grownBy w' v.ownBlock → (v.ownBlock = some g ∨ g = w.heap.size) → g < w'.heap.size → wpList P ops Q rest (a.put o.dst (.slice (some ⟨g, 0, none⟩) (n + 1) cap)) w') :
    wpList P ops Q (o :: rest) a w :=
  wpList_step fun K hK => step_ap hgd s x t ho base e z size bytes ht hinfo hzs hsz v n xs hs hown G news hx hl hG h1 hn hn2 hbase fun g cap w' q1 q2 q3 q4 => hK _ _ (h g cap w' q1 q2 q3 q4)
theorem own_reads {w : World} {base n : Nat} {e : TypeId} {size : Nat} {v : Value} {xs : List Value} (h : w.ownsRow base e size v n xs) : ∃ A c, v = .slice A n c ∧ RdC w A xs ∧ n ≤ 9223372036854775807 := by
  rcases h.2 with ⟨rfl, rfl⟩ | ⟨g, cap, cur, rfl, hb, hh, h1, h2, h3, h4⟩
  · have : xs = [] := List.eq_nil_of_length_eq_zero (by rw [h.1]; simp)
    subst this
    exact ⟨none, 0, rfl, RdC.nil _ _, by omega⟩
  · refine ⟨_, cap, rfl, ?_, by simp only [maxLen] at h2; omega⟩
    intro i u hi
    refine ⟨g, 0, rfl, ?_⟩
    have hc := h.cells (g := g) rfl i u hi
    have hadd : (⟨g, 0, none⟩ : Addr).add i = ⟨g, 0 + i, none⟩ := by unfold Addr.add; split <;> simp_all
    rwa [hadd] at hc
theorem own_readsI {w : World} {base n : Nat} {e : TypeId} {v : Value} {l : List Int} (h : w.ownsRow base e 1 v n (encI l)) : ∃ A c, v = .slice A l.length c ∧ RdI w A l := by
  obtain ⟨A, c, h1, h2, h3⟩ := own_reads h
  have hl : l.length = n := by have := h.1; simpa [encI] using this
  exact ⟨A, c, by rw [h1, hl], by omega, h2⟩
def encS (l : List Sp) : List Value := l.flatMap fun s => [.int .i64 s.lo, .int .i64 s.hi]
theorem encS_at (l : List Sp) : ∀ (k : Nat), k < l.length → (encS l)[k * 2]? = some (.int .i64 (l.getD k ⟨0, 0⟩).lo) ∧ (encS l)[k * 2 + 1]? = some (.int .i64 (l.getD k ⟨0, 0⟩).hi) := by
  induction l with
  | nil => intro k h; simp at h
  | cons x l ih =>
    intro k h
    cases k with
    | zero => simp [encS]
    | succ k =>
      have h2 := ih k (by simpa using h)
      have e : encS (x :: l) = .int .i64 x.lo :: .int .i64 x.hi :: encS l := rfl
      rw [e, show (k + 1) * 2 = k * 2 + 1 + 1 by omega]
      simpa using h2
theorem encS_length (l : List Sp) : (encS l).length = l.length * 2 := by
  induction l with
  | nil => rfl
  | cons x l ih => have e : encS (x :: l) = .int .i64 x.lo :: .int .i64 x.hi :: encS l := rfl; rw [e]; simp [ih]; omega
def RdS (w : World) (A : Option Addr) (l : List Sp) : Prop := l.length ≤ 9223372036854775807 ∧ RdC w A (encS l)
theorem RdS.below {w W : World} {A : Option Addr} {l : List Sp} (h : RdS w A l) (hb : Below w.heap.size w W) : RdS W A l := ⟨h.1, h.2.below hb⟩
theorem RdS.at {w : World} {A : Option Addr} {l : List Sp} (h : RdS w A l) {k : Nat} (hi : k < l.length) : ∃ b off, A = some ⟨b, off, none⟩ ∧ w.cell? ⟨b, off + k * 2, none⟩ = some (.int .i64 (l.getD k ⟨0, 0⟩).lo) ∧ w.cell? ⟨b, off + k * 2 + 1, none⟩ = some (.int .i64 (l.getD k ⟨0, 0⟩).hi) := by
  obtain ⟨b, off, e, h0⟩ := h.2 _ _ (encS_at l k hi).1
  obtain ⟨b', off', e', h1⟩ := h.2 _ _ (encS_at l k hi).2
  rw [e] at e'
  obtain ⟨rfl, rfl⟩ : b = b' ∧ off = off' := by simpa using e'
  exact ⟨b, off, e, h0, h1⟩
end Go.Pk
