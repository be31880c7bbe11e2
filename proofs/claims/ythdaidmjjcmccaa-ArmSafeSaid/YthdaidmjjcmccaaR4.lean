/- Proved here: lemmas and contracts (what a function of the program computes) that the proofs of the laws of this seat lean on. Conditions: as each theorem states. -/
import Derived.Test.YthdaidmjjcmccaaR0
import Derived.ShutString
set_option linter.unusedVariables false
set_option linter.unusedSimpArgs false
namespace Go.Pk
open Go.RowKit Go.ChangeShapes Go.WideShapes Go.ChangeAt Go.Deep
/-! Slices of steps: two numbers, bytes, numbers. -/
structure OpR where
  kind : Int
  why : Int
  b : ByteArray
  x : List Int
def opNo : OpR := ⟨0, 0, ⟨#[]⟩, []⟩
instance : Inhabited OpR := ⟨opNo⟩
structure OpOk (o : OpR) : Prop where
  k0 : -9223372036854775808 ≤ o.kind
  k1 : o.kind ≤ 9223372036854775807
  y0 : -9223372036854775808 ≤ o.why
  y1 : o.why ≤ 9223372036854775807
  b1 : o.b.size ≤ 9223372036854775807
  x1 : ∀ v ∈ o.x, -9223372036854775808 ≤ v ∧ v ≤ 9223372036854775807
def OpAt (w : World) (bb off : Nat) (o : OpR) : Prop := ∃ B c, w.cell? ⟨bb, off, none⟩ = some (.int .i64 o.kind) ∧ w.cell? ⟨bb, off + 1, none⟩ = some (.int .i64 o.why) ∧ w.cell? ⟨bb, off + 2, none⟩ = some (.string o.b) ∧ w.cell? ⟨bb, off + 3, none⟩ = some (.slice B o.x.length c) ∧ RdI w B o.x
def RdO (w : World) (A : Option Addr) (l : List OpR) : Prop := l.length ≤ 9223372036854775807 ∧ ∀ i, i < l.length → OpOk (l.getD i opNo) ∧ ∃ bb off, A = some ⟨bb, off, none⟩ ∧ OpAt w bb (off + i * 4) (l.getD i opNo)
theorem OpAt.below {w W : World} {bb off : Nat} {o : OpR} (h : OpAt w bb off o) (hb : Below w.heap.size w W) : OpAt W bb off o := by
  obtain ⟨B, c, h0, h1, h2, h3, h4⟩ := h
  exact ⟨B, c, bl_cell hb h0, bl_cell hb h1, bl_cell hb h2, bl_cell hb h3, h4.below hb⟩
theorem RdO.below {w W : World} {A : Option Addr} {l : List OpR} (h : RdO w A l) (hb : Below w.heap.size w W) : RdO W A l := ⟨h.1, fun i hi => by
  obtain ⟨h1, bb, off, h2, h3⟩ := h.2 i hi
  exact ⟨h1, bb, off, h2, h3.below hb⟩⟩
section
variable {H : Type} {enc : TypeId × Value → H} {P : Program} {w : World} {base : Nat} {spare : Nat → Bool} {held : Bool}
theorem four_of {α : Type} {l : List α} (h : l.length = 4) : ∃ a b c d, l = [a, b, c, d] := by
  match l, h with
  | [a, b, c, d], _ => exact ⟨a, b, c, d, rfl⟩
theorem open_opsC {t e : TypeId} {f0 f1 f2 f3 : Field} {te : TypeId} {fuel : Nat} {cs : List Value} {x : DataW H × List MemPlace} (ht : P.underlying t = some (.slice e)) (hs : P.underlying e = some (.struct #[f0, f1, f2, f3])) (hk : P.cellsOf e = 4)
    (o0 : f0.offset = 0) (o1 : f1.offset = 1) (o2 : f2.offset = 2) (o3 : f3.offset = 3) (c0 : P.cellsOf f0.type = 1) (c1 : P.cellsOf f1.type = 1) (c2 : P.cellsOf f2.type = 1) (c3 : P.cellsOf f3.type = 1)
    (u0 : P.underlying f0.type = some (.int .i64)) (u1 : P.underlying f1.type = some (.int .i64)) (u2 : P.underlying f2.type = some .string) (u3 : P.underlying f3.type = some (.slice te)) (v3 : P.underlying te = some (.int .i64)) (w3 : P.cellsOf te = 1)
    (h : DataW.trod enc P w base spare held fuel t cs = some x) :
    ∃ (A : Option Addr) (l : List OpR) (c : Nat), cs = [.slice A l.length c] ∧ l.length ≤ c ∧ RdO w A l := by
  obtain ⟨A, n, c, m, R, rfl, hc, hn, hR, hrd⟩ := open_rowC ht hk (by omega) h
  have hone : ∀ i, i < n → ∃ o : OpR, OpOk o ∧ ∃ B cc, R i = [.int .i64 o.kind, .int .i64 o.why, .string o.b, .slice B o.x.length cc] ∧ RdI w B o.x := fun i hi => by
    obtain ⟨hl, y, hy⟩ := hR i hi
    obtain ⟨a0, a1, a2, a3, e⟩ := four_of hl
    rw [e] at hy
    obtain ⟨n0, y0, hy0⟩ := open_field hs hy (i := 0) rfl
    obtain ⟨n1, y1, hy1⟩ := open_field hs hy (i := 1) rfl
    obtain ⟨n2, y2, hy2⟩ := open_field hs hy (i := 2) rfl
    obtain ⟨n3, y3, hy3⟩ := open_field hs hy (i := 3) rfl
    replace hy0 : DataW.trod enc P w base spare held n0 f0.type (List.take (P.cellsOf f0.type) (List.drop f0.offset [a0, a1, a2, a3])) = some y0 := hy0
    rw [o0, c0] at hy0
    replace hy1 : DataW.trod enc P w base spare held n1 f1.type (List.take (P.cellsOf f1.type) (List.drop f1.offset [a0, a1, a2, a3])) = some y1 := hy1
    rw [o1, c1] at hy1
    replace hy2 : DataW.trod enc P w base spare held n2 f2.type (List.take (P.cellsOf f2.type) (List.drop f2.offset [a0, a1, a2, a3])) = some y2 := hy2
    rw [o2, c2] at hy2
    replace hy3 : DataW.trod enc P w base spare held n3 f3.type (List.take (P.cellsOf f3.type) (List.drop f3.offset [a0, a1, a2, a3])) = some y3 := hy3
    rw [o3, c3] at hy3
    obtain ⟨q0, r0, -, s0⟩ := DataW.trod_int u0 hy0
    obtain ⟨q1, r1, -, s1⟩ := DataW.trod_int u1 hy1
    obtain ⟨q2, r2, -, s2⟩ := DataW.trod_string u2 hy2
    obtain ⟨q3, l3, cc, r3, -, d3, b3⟩ := open_intsC u3 v3 w3 hy3
    simp at r0 r1 r2 r3
    subst r0 r1 r2 r3
    have z0 := bounds_i64 s0
    have z1 := bounds_i64 s1
    exact ⟨⟨q0, q1, q2, l3⟩, ⟨z0.1, z0.2, z1.1, z1.2, by have h_ := s2; unfold maxLen at h_; omega, b3⟩, q3, cc, e, d3⟩
  obtain ⟨z, hz⟩ := choose_lt (n := n) (α := OpR) (p := fun i o => OpOk o ∧ ∃ B cc, R i = [.int .i64 o.kind, .int .i64 o.why, .string o.b, .slice B o.x.length cc] ∧ RdI w B o.x) hone
  obtain ⟨hf1, hf2⟩ := flat_at R 4 (by omega) n (fun i hi => (hR i hi).1)
  refine ⟨A, (List.range n).map z, c, by simp, by simpa using hc, by simpa using hn, fun i hi => ?_⟩
  have hi' : i < n := by simpa using hi
  have eg : ((List.range n).map z).getD i opNo = z i := by rw [List.getD_eq_getElem?_getD, List.getElem?_map, List.getElem?_range hi']; rfl
  rw [eg]
  obtain ⟨hok, B, cc, hRi, hrx⟩ := hz i hi'
  have cell : ∀ j v, j < 4 → (R i)[j]? = some v → ∃ b off, A = some ⟨b, off, none⟩ ∧ w.cell? ⟨b, off + (i * 4 + j), none⟩ = some v := fun j v hj hv => by
    refine hrd (i * 4 + j) v ?_
    rw [hf2 (i * 4 + j) (by omega)]
    rw [show (i * 4 + j) / 4 = i by omega, show (i * 4 + j) % 4 = j by omega]
    exact hv
  obtain ⟨b, off, rfl, k0⟩ := cell 0 _ (by omega) (by rw [hRi]; rfl)
  obtain ⟨b', off', e1, k1⟩ := cell 1 _ (by omega) (by rw [hRi]; rfl)
  cases e1
  obtain ⟨b', off', e2, k2⟩ := cell 2 _ (by omega) (by rw [hRi]; rfl)
  cases e2
  obtain ⟨b', off', e3, k3⟩ := cell 3 _ (by omega) (by rw [hRi]; rfl)
  cases e3
  refine ⟨hok, b, off, rfl, B, cc, ?_, ?_, ?_, ?_, hrx⟩
  · simpa using k0
  · simpa [Nat.add_assoc] using k1
  · simpa [Nat.add_assoc] using k2
  · simpa [Nat.add_assoc] using k3
theorem open_opsV {r : Reach} {b0 : Nat} {t e : TypeId} {f0 f1 f2 f3 : Field} {te : TypeId} {v : Value} {d : DataW H} {ps : List MemPlace} (ht : P.underlying t = some (.slice e)) (hs : P.underlying e = some (.struct #[f0, f1, f2, f3])) (hk : P.cellsOf e = 4)
    (o0 : f0.offset = 0) (o1 : f1.offset = 1) (o2 : f2.offset = 2) (o3 : f3.offset = 3) (c0 : P.cellsOf f0.type = 1) (c1 : P.cellsOf f1.type = 1) (c2 : P.cellsOf f2.type = 1) (c3 : P.cellsOf f3.type = 1)
    (u0 : P.underlying f0.type = some (.int .i64)) (u1 : P.underlying f1.type = some (.int .i64)) (u2 : P.underlying f2.type = some .string) (u3 : P.underlying f3.type = some (.slice te)) (v3 : P.underlying te = some (.int .i64)) (w3 : P.cellsOf te = 1)
    (hv : Value.okWide P w r b0 t v) (h : DataW.Trod enc P w base spare held t v d ps) :
    ∃ (A : Option Addr) (l : List OpR) (c : Nat), v = .slice A l.length c ∧ l.length ≤ c ∧ RdO w A l := by
  obtain ⟨a, l, c, rfl⟩ := okWide_slice ht hv
  obtain ⟨fuel, hf⟩ := h
  obtain ⟨A, xs, cc, h1, h2, h3⟩ := open_opsC ht hs hk o0 o1 o2 o3 c0 c1 c2 c3 u0 u1 u2 u3 v3 w3 (cs := [.slice a l c]) (by simpa [Value.cells] using hf)
  injection h1 with h1
  exact ⟨A, xs, cc, h1, h2, h3⟩
end
end Go.Pk
namespace Go.Proofs.Ythdaidmjjcmccaa
end Go.Proofs.Ythdaidmjjcmccaa
