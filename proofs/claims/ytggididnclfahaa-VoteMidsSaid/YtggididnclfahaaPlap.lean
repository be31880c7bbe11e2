/- Proved here: lemmas and contracts (what a function of the program computes) that the proofs of the laws of this seat lean on. Conditions: as each theorem states. -/
import Derived.Test.YtggididnclfahaaPl
import Derived.Deep.AppendLies
import Derived.Laws.AppendOwn
import Derived.Deep.Slices
import Derived.Laws.Cover3
set_option linter.unusedVariables false
set_option linter.unusedSimpArgs false
namespace Go.Pk
open Go.RowKit
theorem add_at (b off j : Nat) : (⟨b, off, none⟩ : Addr).add j = ⟨b, off + j, none⟩ := by
  unfold Addr.add
  by_cases q : j = 0
  · subst q; simp
  · simp [q]
section
variable {P : Program}
@[go_sem] theorem run_eql_slice_nil (w : World) (t e : TypeId) (a : Option Addr) (l c : Nat) (h : P.underlying t = some (.slice e)) : (binOp .eql t (.slice a l c) (.slice none 0 0)).run P w = .ok (.bool a.isNone) w := by
  simp only [binOp]
  simp [run_equal_slice_nil w t e a l c h]
/-- An append of all that a slice reads, whatever its elements. -/
theorem run_appRd (w : World) (base : Nat) (t rt e : TypeId) (z : Value) (size bytes : Nat) (ht : P.underlying t = some (.slice e)) (hinfo : (P.info? e).map (fun i => (i.zero, i.size, i.bytes)) = some (some z, size, bytes)) (hzs : z.cells.size = size) (hsz : 0 < size)
    (v : Value) (n : Nat) (xs : List Value) (hown : w.ownsRow base e size v n xs) (A : Option Addr) (m c : Nat) (vs : List Value) (hl : vs.length = m * size) (hR : RdC w A vs) (h1 : ∀ u ∈ vs, u.oneCell' = true) (hb : (n + m) * bytes ≤ 140737488355328) (h63 : n + m ≤ 9223372036854775807) (hbase : base ≤ w.heap.size) :
    ∃ v1 w1, (Builtin.append_ #[t, t] rt #[v, .slice A m c]).run P w = .ok v1 w1 ∧ w1.ownsRow base e size v1 (n + m) (xs ++ vs) ∧ w.grownBy w1 v.ownBlock ∧ (v1.ownBlock = v.ownBlock ∨ v1.ownBlock = some w.heap.size) := by
  obtain ⟨i0, hi, hzz⟩ := Option.map_eq_some_iff.1 hinfo
  simp only [Prod.mk.injEq] at hzz
  obtain ⟨hz0, hz1, hz2⟩ := hzz
  rcases A with _ | ad
  · have h0 : m = 0 := by
      rcases Nat.eq_zero_or_pos m with h0 | h0
      · exact h0
      · have : 0 < vs.length := by rw [hl]; exact Nat.mul_pos h0 hsz
        obtain ⟨b, off, e, _⟩ := hR 0 _ (List.getElem?_eq_getElem this)
        cases e
    subst h0
    obtain rfl : vs = [] := List.eq_nil_of_length_eq_zero (by omega)
    refine ⟨v, w, ?_, by simpa using hown, World.grownBy.refl w _, .inl rfl⟩
    rcases hown.2 with ⟨rfl, hn⟩ | ⟨g, cap, cur, rfl, _, _, hnc, _⟩
    · simp [Builtin.append_, run_underlying ht, sizeOf, typeInfo, hi, Builtin.lenOf, Builtin.firstCells]
    · simp [Builtin.append_, run_underlying ht, sizeOf, typeInfo, hi, Builtin.lenOf, Builtin.firstCells, hnc, storeCells]
  · have hcells : ∀ j u, vs[j]? = some u → w.cell? (ad.add j) = some u := by
      intro j u hu
      obtain ⟨b, off, e1, hc⟩ := hR j u hu
      injection e1 with e1
      subst e1
      rw [add_at]; exact hc
    obtain ⟨v1, w1, hr, h2, h3, _, h5⟩ := run_append_own_at (P := P) w base t rt e i0 z size bytes ht hi hz0 hz1 hz2 hzs hsz v n xs hown ad m c vs hl hcells h1 (by simp only [maxLen]; omega) hb hbase
    exact ⟨v1, w1, hr, h2, h3, h5⟩
theorem list_appRd {w : World} {ops : Array Oper} {rest : List Oper} {o : Oper} {a : Act} {Q : Exit → Act → World → Prop} (base : Nat) (hgd : o.guard = none) (s x : Operand) (t e : TypeId) (z : Value) (size bytes : Nat)
    (ho : o.op = .call { callee := .builtin .append, args := #[s, x], argTypes := #[t, t] })
    (ht : P.underlying t = some (.slice e)) (hinfo : (P.info? e).map (fun i => (i.zero, i.size, i.bytes)) = some (some z, size, bytes)) (hzs : z.cells.size = size) (hsz : 0 < size)
    (v : Value) (n : Nat) (xs : List Value) (A : Option Addr) (m c : Nat) (vs : List Value) (hs : a.eval s = v) (hx : a.eval x = .slice A m c) (hown : w.ownsRow base e size v n xs) (hl : vs.length = m * size) (hR : RdC w A vs) (h1 : ∀ u ∈ vs, u.oneCell' = true) (hb : (n + m) * bytes ≤ 140737488355328) (h63 : n + m ≤ 9223372036854775807) (hbase : base ≤ w.heap.size)
    (h : ∀ v1 w1, w1.ownsRow base e size v1 (n + m) (xs ++ vs) → w.grownBy w1 v.ownBlock → (v1.ownBlock = v.ownBlock ∨ v1.ownBlock = some w.heap.size) → wpList P ops Q rest (a.put o.dst v1) w1) :
    wpList P ops Q (o :: rest) a w := by
  obtain ⟨v1, w1, hr, hown1, hg, hat⟩ := run_appRd (P := P) w base t o.type e z size bytes ht hinfo hzs hsz v n xs hown A m c vs hl hR h1 hb h63 hbase
  refine wpList_plain hgd fun K hK => ?_
  unfold Oper.wp execOp
  simp only [ho, resolve, invoke, builtin, Sem.run_bind, Sem.run_pure, Result.andThen_ok, List.map_toArray, List.map_cons, List.map_nil, hs, hx, hr]
  exact hK _ _ (h v1 w1 hown1 hg hat)
theorem exec_app {w w1 : World} {o : Oper} {a : Act} {v v1 : Value} {A : Option Addr} {m c : Nat} (s x : Operand) (t : TypeId) (ho : o.op = .call { callee := .builtin .append, args := #[s, x], argTypes := #[t, t] }) (hs : a.eval s = v) (hx : a.eval x = .slice A m c)
    (hr : (Builtin.append_ #[t, t] o.type #[v, .slice A m c]).run P w = .ok v1 w1) : (execOp a.eval o).run P w = .ok (.value v1) w1 := by
  unfold execOp
  simp only [ho, resolve, invoke, builtin, Sem.run_bind, Sem.run_pure, Result.andThen_ok, List.map_toArray, List.map_cons, List.map_nil, hs, hx, hr]
end
theorem own_le {w : World} {base base' n : Nat} {e : TypeId} {size : Nat} {v : Value} {xs : List Value} (h : w.ownsRow base e size v n xs) (hb : base' ≤ base) : w.ownsRow base' e size v n xs := by
  refine ⟨h.1, ?_⟩
  rcases h.2 with h | ⟨g, cap, cur, h1, h2, h3⟩
  · exact Or.inl h
  · exact Or.inr ⟨g, cap, cur, h1, Nat.le_trans hb h2, h3⟩
theorem own_fresh {w : World} {base g n size : Nat} {e : TypeId} {cs : Array Value} (hb : base ≤ g) (h : w.heap[g]? = some (.cells cs e (0, 0))) (hs : cs.size = n * size) (hn : n ≤ 9223372036854775807) : w.ownsRow base e size (.slice (some ⟨g, 0, none⟩) n n) n cs.toList :=
  ⟨by simpa using hs, .inr ⟨g, n, cs, rfl, hb, h, Nat.le_refl _, by simpa [maxLen] using hn, hs, by rw [← hs, ← Array.length_toList]; exact List.take_length⟩⟩
theorem own_rdC {w : World} {base n : Nat} {e : TypeId} {size : Nat} {v : Value} {xs : List Value} (h : w.ownsRow base e size v n xs) : ∃ A c, v = .slice A n c ∧ n ≤ c ∧ RdC w A xs ∧ n ≤ 9223372036854775807 ∧ ∀ a, A = some a → base ≤ a.block := by
  obtain ⟨A, c, e1, h1, h2⟩ := own_reads h
  subst e1
  rcases h.2 with ⟨h3, h4⟩ | ⟨g, cap, cur, h3, h4, _, h5, _⟩
  · injection h3 with e1 e2 e3
    exact ⟨A, c, rfl, by omega, h1, h2, fun a ha => by rw [e1] at ha; cases ha⟩
  · injection h3 with e1 e2 e3
    exact ⟨A, c, rfl, by omega, h1, h2, fun a ha => by rw [e1] at ha; injection ha with ha; rw [← ha]; exact h4⟩
/-- All blocks but some are kept. -/
def KeepX (X : Nat → Prop) (w w' : World) : Prop := ∀ k o, ¬ X k → w.heap[k]? = some o → w'.heap[k]? = some o
theorem KeepX.refl (X : Nat → Prop) (w : World) : KeepX X w w := fun _ _ _ h => h
theorem KeepX.of1 {X : Nat → Prop} {x : Nat} {w w' : World} (h : ∀ k o, k ≠ x → w.heap[k]? = some o → w'.heap[k]? = some o) (hx : X x) : KeepX X w w' := fun k o hn => h k o (fun e => hn (e ▸ hx))
theorem KeepX.ext {X : Nat → Prop} {w w1 w2 : World} (h : KeepX X w w1) (hb : Below w1.heap.size w1 w2) : KeepX X w w2 := fun k o hn ho => bl_block hb (h k o hn ho)
theorem KeepX.trans {X : Nat → Prop} {w w1 w2 : World} (h : KeepX X w w1) (g : KeepX X w1 w2) : KeepX X w w2 := fun k o hn ho => g k o hn (h k o hn ho)
theorem KeepX.set {X : Nat → Prop} {w w1 : World} (h : KeepX X w w1) {p : Addr} (hp : X p.block) (u : Value) : KeepX X w (w1.setCell p u) := fun k o hn ho => blk_far (h k o hn ho) (fun e => hn (by rw [← e]; exact hp)) u
theorem KeepX.cell {X : Nat → Prop} {w w' : World} (h : KeepX X w w') {a : Addr} {v : Value} (ha : ¬ X a.block) (hc : w.cell? a = some v) : w'.cell? a = some v := by
  cases ho : w.heap[a.block]? with
  | none => simp [World.cell?, ho] at hc
  | some o =>
    have h2 := h _ _ ha ho
    simp only [World.cell?, ho] at hc
    simp only [World.cell?, h2]
    exact hc
theorem RdC.keepX {X : Nat → Prop} {w w' : World} {A : Option Addr} {vs : List Value} (h : RdC w A vs) (hk : KeepX X w w') (ho : 0 < vs.length → ∀ a, A = some a → ¬ X a.block) : RdC w' A vs := fun i u hi => by
  obtain ⟨b, off, e, hc⟩ := h i u hi
  exact ⟨b, off, e, hk.cell (show ¬ X (⟨b, off + i, none⟩ : Addr).block from ho (by have := (List.getElem?_eq_some_iff.1 hi).1; omega) ⟨b, off, none⟩ e) hc⟩
def Off (X : Nat → Prop) (A : Option Addr) (n : Nat) : Prop := 0 < n → ∀ a, A = some a → ¬ X a.block
theorem RdI.keepX {X : Nat → Prop} {w w' : World} {A : Option Addr} {l : List Int} (h : RdI w A l) (hk : KeepX X w w') (ho : Off X A l.length) : RdI w' A l := ⟨h.1, h.2.keepX hk (fun h0 => ho (by simpa [encI] using h0))⟩
theorem RdS.keepX {X : Nat → Prop} {w w' : World} {A : Option Addr} {l : List Sp} (h : RdS w A l) (hk : KeepX X w w') (ho : Off X A l.length) : RdS w' A l := ⟨h.1, h.2.keepX hk (fun h0 => ho (by rw [encS_length] at h0; omega))⟩
theorem RdI.off {X : Nat → Prop} {w : World} {A : Option Addr} {l : List Int} (h : RdI w A l) (hx : ∀ k, X k → w.heap.size ≤ k) : Off X A l.length := fun h0 a ha e => by
  obtain ⟨b, off, e2, hc⟩ := h.at h0
  have := World.block_lt_of_cell? w _ hc
  have h3 := hx _ e
  rw [ha] at e2
  injection e2 with e2
  subst e2
  simp only [] at this h3
  omega
theorem Off.of {X : Nat → Prop} {B n : Nat} {A : Option Addr} (h : ∀ a, A = some a → B ≤ a.block) (hx : ∀ k, X k → k < B) : Off X A n := fun _ a ha e => by have := h a ha; have := hx _ e; omega
/-- The slices of a row, as values. -/
theorem RdR.vals {w : World} {A : Option Addr} {l : List (List Int)} (h : RdR w A l) : ∃ vs : List Value, vs.length = l.length ∧ RdC w A vs ∧ (∀ u ∈ vs, u.oneCell' = true) ∧ ∀ i, i < l.length → ∃ B c, vs[i]? = some (.slice B (l.getD i []).length c) ∧ (l.getD i []).length ≤ c ∧ RdI w B (l.getD i []) := by
  obtain ⟨q, hq⟩ := Go.Deep.choose_lt (n := l.length) (α := Option Addr × Nat) (p := fun i q => ∃ b off, A = some ⟨b, off, none⟩ ∧ w.cell? ⟨b, off + i, none⟩ = some (.slice q.1 (l.getD i []).length q.2) ∧ (l.getD i []).length ≤ q.2 ∧ RdI w q.1 (l.getD i [])) (fun i hi => by
    obtain ⟨b, off, B, c, h1, h2, h3, h4⟩ := h.2 i hi
    exact ⟨(B, c), b, off, h1, h2, h3, h4⟩)
  refine ⟨(List.range l.length).map fun i => .slice (q i).1 (l.getD i []).length (q i).2, by simp, fun i u hu => ?_, fun u hu => ?_, fun i hi => ?_⟩
  · simp only [List.getElem?_map] at hu
    obtain ⟨j, hj, rfl⟩ := Option.map_eq_some_iff.1 hu
    have hlt : i < l.length := by
      have := (List.getElem?_eq_some_iff.1 hj).1
      simpa using this
    rw [List.getElem?_range hlt] at hj
    injection hj with hj
    subst hj
    obtain ⟨b, off, h1, h2, _⟩ := hq i hlt
    exact ⟨b, off, h1, h2⟩
  · obtain ⟨i, _, rfl⟩ := List.mem_map.1 hu
    rfl
  · obtain ⟨b, off, h1, h2, h3, h4⟩ := hq i hi
    exact ⟨_, _, by simp [List.getElem?_range hi], h3, h4⟩
theorem RdR.of {w : World} {A : Option Addr} {l : List (List Int)} {vs : List Value} (hlen : l.length ≤ 9223372036854775807) (hR : RdC w A vs) (h : ∀ i, i < l.length → ∃ B c, vs[i]? = some (.slice B (l.getD i []).length c) ∧ (l.getD i []).length ≤ c ∧ RdI w B (l.getD i [])) : RdR w A l :=
  ⟨hlen, fun i hi => by
    obtain ⟨B, c, h1, h2, h3⟩ := h i hi
    obtain ⟨b, off, e, hc⟩ := hR i _ h1
    exact ⟨b, off, B, c, e, hc, h2, h3⟩⟩
end Go.Pk
