/- Proved here: lemmas and contracts (what a function of the program computes) that the proofs of the laws of this seat lean on. Conditions: as each theorem states. -/
import Derived.Test.YthdaidmjjcmccaaA0
set_option linter.unusedVariables false
set_option linter.unusedSimpArgs false
namespace Go.Pk
open Go.RowKit
/-- Block g is not the accumulator's. -/
def PNe (p : Option Addr) (g : Nat) : Prop := ∀ a, p = some a → a.block ≠ g
theorem AccAt.ne {w : World} {p : Option Addr} {o : Bool} (h : AccAt w p o) {g : Nat} (hg : w.heap.size ≤ g) : PNe p g := by
  intro a e; subst e
  have := World.block_lt_of_cell? w a h.1
  omega
theorem blk_or {w : World} {p : Option Addr} {b : Bool} {g : Nat} {o : Obj} (h : w.heap[g]? = some o) (hne : PNe p g) : (orCell w p b).heap[g]? = some o := by
  rcases p with _ | a
  · exact h
  · cases b
    · exact h
    · exact blk_far h (hne a rfl) _
theorem blk_acc {w w1 : World} {p : Option Addr} {b : Bool} {g : Nat} {o : Obj} (hb : Below w.heap.size (orCell w p b) w1) (h : w.heap[g]? = some o) (hne : PNe p g) : w1.heap[g]? = some o :=
  (hb.block g (blk_lt h)).trans (blk_or h hne)
theorem bl_orSet {w w1 : World} {p : Option Addr} {b : Bool} (h : Below w.heap.size (orCell w p b) w1) {a : Addr} (ha : w.heap.size ≤ a.block) (u : Value) : Below w.heap.size (orCell w p b) (w1.setCell a u) := h.setCell ha u
theorem bl_orAlloc {w w1 : World} {p : Option Addr} {b : Bool} (h : Below w.heap.size (orCell w p b) w1) (o : Obj) : Below w.heap.size (orCell w p b) (w1.alloc o) :=
  h.alloc (by have := h.size; rwa [orCell_size] at this) o
theorem bl_orGrown {w w1 w2 : World} {p : Option Addr} {b : Bool} (h : Below w.heap.size (orCell w p b) w1) {row : Option Nat} (hg : w1.grownBy w2 row) (hr : ∀ k, row = some k → w.heap.size ≤ k) : Below w.heap.size (orCell w p b) w2 :=
  h.grown hg (by have := h.size; rwa [orCell_size] at this) hr
theorem RdC.acc {w w1 : World} {p : Option Addr} {o b : Bool} {A : Option Addr} {vs : List Value} (h : RdC w A vs) (hn : ∀ q, Value.bool q ∉ vs) (hp : AccAt w p o) (hb : Below w.heap.size (orCell w p b) w1) : RdC w1 A vs := by
  intro i u hi
  obtain ⟨g, off, e, hc⟩ := h i u hi
  refine ⟨g, off, e, ?_⟩
  have hlt : (⟨g, off + i, none⟩ : Addr).block < w.heap.size := World.block_lt_of_cell? w _ hc
  rw [hb.cell hlt]
  rcases p with _ | a
  · exact hc
  · cases b
    · exact hc
    · have hne : a ≠ ⟨g, off + i, none⟩ := by
        intro e2; subst e2
        rw [hp.1] at hc
        injection hc with hc
        exact hn o (by rw [hc]; exact List.mem_of_getElem? hi)
      show (w.setCell a _).cell? _ = _
      rw [World.cell?_setCell_other _ _ _ _ hne, hc]
theorem encI_nobool (l : List Int) (q : Bool) : Value.bool q ∉ encI l := by unfold encI; simp
theorem encS_nobool (l : List Sp) (q : Bool) : Value.bool q ∉ encS l := by unfold encS; simp
theorem RdI.acc {w w1 : World} {p : Option Addr} {o b : Bool} {A : Option Addr} {l : List Int} (h : RdI w A l) (hp : AccAt w p o) (hb : Below w.heap.size (orCell w p b) w1) : RdI w1 A l := ⟨h.1, h.2.acc (encI_nobool l) hp hb⟩
theorem RdS.acc {w w1 : World} {p : Option Addr} {o b : Bool} {A : Option Addr} {l : List Sp} (h : RdS w A l) (hp : AccAt w p o) (hb : Below w.heap.size (orCell w p b) w1) : RdS w1 A l := ⟨h.1, h.2.acc (encS_nobool l) hp hb⟩
theorem own_acc {w w1 : World} {p : Option Addr} {b : Bool} {base n : Nat} {e : TypeId} {size : Nat} {v : Value} {xs : List Value} (h : w.ownsRow base e size v n xs) (hb : Below w.heap.size (orCell w p b) w1) (hne : ∀ k, v.ownBlock = some k → PNe p k) : w1.ownsRow base e size v n xs := by
  refine own_below (w := orCell w p b) ?_ (by rw [orCell_size]; exact hb)
  rcases p with _ | a
  · exact h
  · cases b
    · exact h
    · exact own_set h (fun e => hne _ e.symm a rfl rfl) _
/-- The accumulator is a variable of the call's own. -/
theorem bl_own {w W w1 : World} {a : Addr} {b : Bool} (h : Below w.heap.size w W) (ha : w.heap.size ≤ a.block) (k : Below W.heap.size (orCell W (some a) b) w1) : Below w.heap.size w w1 := by
  have h2 : Below w.heap.size w (orCell W (some a) b) := by
    cases b
    · exact h
    · exact h.setCell ha _
  refine h2.trans ⟨k.os, k.tape, k.output, k.size, fun i hi => k.block i (Nat.lt_of_lt_of_le hi h.size)⟩
theorem PNe.of {a : Addr} {g : Nat} (h : a.block ≠ g) : PNe (some a) g := fun b e => by injection e with e; subst e; exact h
theorem AccAt.blk {w : World} {g : Nat} {o : Bool} {t : TypeId} (h : w.heap[g]? = some (.cells #[.bool o] t (0, 0))) : AccAt w (some ⟨g, 0, none⟩) o := blk_one h
section
variable {P : Program}
theorem res_cc {fn : Func} {p q : Tmp} {ty tz : TypeId} (h : fn.results = #[.cell p ty, .cell q tz]) (tmps : Array Value) (w : World) (g k : Nat) (t u : TypeId) (cs ds : Array Value) (fr gr : Nat × Nat) (d e : TypeDesc)
    (hp : tmps.getD p undef = .pointer (some ⟨g, 0, none⟩)) (hg : w.heap[g]? = some (.cells cs t fr)) (hu : P.underlying ty = some d) (hd : (match d with | .struct _ | .array _ _ => true | _ => false) = true) (hi : (P.info? ty).map (·.size) = some cs.size)
    (hq : tmps.getD q undef = .pointer (some ⟨k, 0, none⟩)) (hk : w.heap[k]? = some (.cells ds u gr)) (hv : P.underlying tz = some e) (he : (match e with | .struct _ | .array _ _ => true | _ => false) = true) (hj : (P.info? tz).map (·.size) = some ds.size) :
    (results fn tmps).run P w = .ok (.tuple #[.agg cs, .agg ds]) w := by
  have h1 : tmps[p]?.getD undef = .pointer (some ⟨g, 0, none⟩) := by simpa using hp
  have h2 : tmps[q]?.getD undef = .pointer (some ⟨k, 0, none⟩) := by simpa using hq
  simp [results, h, h1, h2, asAddr, run_loadVar_row w g t ty cs fr d hg hu hd hi, run_loadVar_row w k u tz ds gr e hk hv he hj]
end
end Go.Pk
namespace Go.Pk
open Go.RowKit
theorem blk_cell {w : World} {g : Nat} {cs : Array Value} {t : TypeId} {fr : Nat × Nat} (h : w.heap[g]? = some (.cells cs t fr)) (i : Nat) {v : Value} (hv : cs[i]? = some v) : w.cell? ⟨g, i, none⟩ = some v := (blkc h i).trans hv
end Go.Pk
namespace Go.Pk
open Go.RowKit
structure Bx (J : Prop) : Prop where
  out : J
theorem cutB {J G : Prop} (h : Bx J → G) (j : J) : G := h ⟨j⟩
theorem AccAt.other {w w1 : World} {p q : Addr} {o b : Bool} (h : AccAt w (some q) o) (hb : Below w.heap.size (orCell w (some p) b) w1) (hne : p.block ≠ q.block) : AccAt w1 (some q) o := by
  cases b
  · exact AccAt.below h hb
  · have h2 : AccAt (w.setCell p (.bool true)) (some q) o := by
      refine ⟨?_, ?_⟩
      · rw [World.cell?_setCell_other w _ _ _ (fun k => hne (by rw [k]))]; exact h.1
      · rw [World.frozen?_setCell]; exact h.2
    have hb2 : Below w.heap.size (w.setCell p (.bool true)) w1 := hb
    exact AccAt.below h2 (by rw [show (w.setCell p (.bool true)).heap.size = w.heap.size by simp [World.setCell]]; exact hb2)
end Go.Pk
