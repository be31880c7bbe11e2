/- Proved here: lemmas and contracts (what a function of the program computes) that the proofs of the laws of this seat lean on. Conditions: as each theorem states. -/
import Derived.Test.YtggididnclfahaaPlap
import Derived.Test.YtggididnclfahaaPl1
set_option linter.unusedVariables false
set_option linter.unusedSimpArgs false
namespace Go.Pk
open Go.RowKit
/-! Three rows of numbers of one's own, apart from one another. -/
def Ap (a b : Value) : Prop := a.ownBlock = none ∨ a.ownBlock ≠ b.ownBlock
theorem Ap.symm {a b : Value} (h : Ap a b) : Ap b a := apart_symm h
structure Own3 (w : World) (base : Nat) (e : TypeId) (v1 v2 v3 : Value) (l1 l2 l3 : List Int) : Prop where
  o1 : w.ownsRow base e 1 v1 l1.length (encI l1)
  o2 : w.ownsRow base e 1 v2 l2.length (encI l2)
  o3 : w.ownsRow base e 1 v3 l3.length (encI l3)
  a12 : Ap v1 v2
  a13 : Ap v1 v3
  a23 : Ap v2 v3
variable {w w1 W : World} {base B : Nat} {e : TypeId} {v1 v2 v3 : Value} {l1 l2 l3 : List Int}
theorem Own3.nil (w : World) (base : Nat) (e : TypeId) : Own3 w base e (.slice none 0 0) (.slice none 0 0) (.slice none 0 0) [] [] [] :=
  ⟨World.ownsRow_nil _ _ _ _, World.ownsRow_nil _ _ _ _, World.ownsRow_nil _ _ _ _, Or.inl rfl, Or.inl rfl, Or.inl rfl⟩
theorem Own3.rot (h : Own3 w base e v1 v2 v3 l1 l2 l3) : Own3 w base e v2 v3 v1 l2 l3 l1 := ⟨h.o2, h.o3, h.o1, h.a23, h.a12.symm, h.a13.symm⟩
theorem Own3.below (h : Own3 w base e v1 v2 v3 l1 l2 l3) (hb : Below w.heap.size w w1) : Own3 w1 base e v1 v2 v3 l1 l2 l3 := ⟨own_below h.o1 hb, own_below h.o2 hb, own_below h.o3 hb, h.a12, h.a13, h.a23⟩
theorem Own3.drew (h : Own3 w base e v1 v2 v3 l1 l2 l3) : Own3 w.drew base e v1 v2 v3 l1 l2 l3 := ⟨h.o1, h.o2, h.o3, h.a12, h.a13, h.a23⟩
theorem Own3.alloc (h : Own3 w base e v1 v2 v3 l1 l2 l3) (o : Obj) : Own3 (w.alloc o) base e v1 v2 v3 l1 l2 l3 := ⟨own_alloc h.o1 o, own_alloc h.o2 o, own_alloc h.o3 o, h.a12, h.a13, h.a23⟩
theorem Own3.acc {p : Option Addr} {b : Bool} (h : Own3 w base e v1 v2 v3 l1 l2 l3) (hb : Below w.heap.size (orCell w p b) w1) (hp : ∀ k, base ≤ k → PNe p k) : Own3 w1 base e v1 v2 v3 l1 l2 l3 :=
  ⟨own_acc h.o1 hb fun k hk => hp k (own_lt h.o1 k hk).1, own_acc h.o2 hb fun k hk => hp k (own_lt h.o2 k hk).1, own_acc h.o3 hb fun k hk => hp k (own_lt h.o3 k hk).1, h.a12, h.a13, h.a23⟩
theorem Ap.app {a a' b : Value} {n m : Nat} {ys : List Value} (hb : w.ownsRow base e 1 b n ys) (h : Ap a b) (hat : a'.ownBlock = a.ownBlock ∨ a'.ownBlock = some w.heap.size) : Ap a' b := by
  rcases hat with hat | hat
  · rcases h with h | h
    · exact Or.inl (hat.trans h)
    · exact Or.inr (by rw [hat]; exact h)
  · refine Or.inr fun e1 => ?_
    rw [hat] at e1
    exact own_ne_of_lt hb (Nat.le_refl _) e1
/-- An append of numbers that a slice reads onto the first row. -/
theorem Own3.app {P : Program} (h : Own3 w base e v1 v2 v3 l1 l2 l3) (t : TypeId) (ht : P.underlying t = some (.slice e)) (hinfo : (P.info? e).map (fun i => (i.zero, i.size, i.bytes)) = some (some (.int .i64 0), 1, 8)) (A : Option Addr) (m : List Int) (k c : Nat) (hk : m.length = k) (hm : RdI w A m) (hb : l1.length + m.length ≤ 1000000) (hbase : base ≤ w.heap.size) :
    ∃ v1' w1, (Builtin.append_ #[t, t] t #[v1, .slice A k c]).run P w = .ok v1' w1 ∧ Own3 w1 base e v1' v2 v3 (l1 ++ m) l2 l3 ∧ Below base w w1 := by
  subst hk
  have h1 : ∀ u ∈ encI m, u.oneCell' = true := by intro u hu; simp [encI] at hu; obtain ⟨_, _, rfl⟩ := hu; rfl
  obtain ⟨v, w1, hr, ho, hg, hat⟩ := run_appRd (P := P) w base t t e _ 1 8 ht hinfo (by rfl) (by omega) v1 l1.length (encI l1) h.o1 A m.length c (encI m) (by simp [encI]) hm.2 h1 (by omega) (by omega) hbase
  refine ⟨v, w1, hr, ⟨?_, own_grown h.o2 hg (Ap.symm h.a12), own_grown h.o3 hg (Ap.symm h.a13), Ap.app (n := l2.length) (m := 0) h.o2 h.a12 hat, Ap.app (n := l3.length) (m := 0) h.o3 h.a13 hat, h.a23⟩, (Below.refl base w).grown hg hbase fun k hk => (own_lt h.o1 k hk).1⟩
  have e1 : encI (l1 ++ m) = encI l1 ++ encI m := by simp [encI]
  rw [e1, List.length_append]
  exact ho
/-- An append of one number that lies in a new block. -/
theorem Own3.app1 {P : Program} (h : Own3 w base e v1 v2 v3 l1 l2 l3) (t : TypeId) (ht : P.underlying t = some (.slice e)) (hinfo : (P.info? e).map (fun i => (i.zero, i.size, i.bytes)) = some (some (.int .i64 0), 1, 8)) (g : Nat) (x : Int) (hg : w.heap[g]? = some (.cells #[.int .i64 x] e (0, 0))) (hb : l1.length ≤ 900000) (hbase : base ≤ w.heap.size) :
    ∃ v1' w1, (Builtin.append_ #[t, t] t #[v1, .slice (some ⟨g, 0, none⟩) 1 1]).run P w = .ok v1' w1 ∧ Own3 w1 base e v1' v2 v3 (l1 ++ [x]) l2 l3 ∧ Below base w w1 :=
  h.app t ht hinfo (some ⟨g, 0, none⟩) [x] 1 1 rfl (RdI.of_blk (l := [x]) hg (by simp)) (by simp; omega) hbase
theorem list_app3 {P : Program} {ops : Array Oper} {rest : List Oper} {o : Oper} {a : Act} {Q : Exit → Act → World → Prop} (hgd : o.guard = none) (s x : Operand) (t : TypeId) (ho : o.op = .call { callee := .builtin .append, args := #[s, x], argTypes := #[t, t] }) (hot : o.type = t)
    (ht : P.underlying t = some (.slice e)) (hinfo : (P.info? e).map (fun i => (i.zero, i.size, i.bytes)) = some (some (.int .i64 0), 1, 8)) (h : Own3 w base e v1 v2 v3 l1 l2 l3) (A : Option Addr) (m : List Int) (k c : Nat) (hk : m.length = k) (hm : RdI w A m) (hs : a.eval s = v1) (hx : a.eval x = .slice A k c) (hb : l1.length + m.length ≤ 1000000) (hbase : base ≤ w.heap.size)
    (hK : ∀ v1' w1, Own3 w1 base e v1' v2 v3 (l1 ++ m) l2 l3 → Below base w w1 → wpList P ops Q rest (a.put o.dst v1') w1) : wpList P ops Q (o :: rest) a w := by
  obtain ⟨v', w1, hr, h1, h2⟩ := h.app (P := P) t ht hinfo A m k c hk hm hb hbase
  rw [← hot] at hr
  refine wpList_plain hgd fun K hK' => ?_
  unfold Oper.wp execOp
  simp only [ho, resolve, invoke, builtin, Sem.run_bind, Sem.run_pure, Result.andThen_ok, List.map_toArray, List.map_cons, List.map_nil, hs, hx, hot]
  rw [hot] at hr
  simp only [hr]
  exact hK' _ _ (hK v' w1 h1 h2)
/-- What a row reads as. -/
theorem Own3.rd (h : Own3 w base e v1 v2 v3 l1 l2 l3) : ∃ A c, v1 = .slice A l1.length c ∧ l1.length ≤ c ∧ RdI w A l1 := by
  obtain ⟨A, c, e1, h1, h2, h3, -⟩ := own_rdC h.o1
  exact ⟨A, c, e1, h1, h3, h2⟩
end Go.Pk
namespace Go.Proofs.Ytggididnclfahaa
end Go.Proofs.Ytggididnclfahaa
