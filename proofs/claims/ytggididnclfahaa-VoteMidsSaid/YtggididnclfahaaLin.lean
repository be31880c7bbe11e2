/- Proved here: lemmas and contracts (what a function of the program computes) that the proofs of the laws of this seat lean on. Conditions: as each theorem states. -/
import Derived.Test.YtggididnclfahaaA1
import Derived.Deep.RegionHeld3
set_option linter.unusedVariables false
set_option linter.unusedSimpArgs false
namespace Go.Pk
open Go.RowKit
/-! A region that draws its order, each operation shown once: facts that an operation leaves stay till an operation of its kill list is done. -/
inductive Fact where
  | v (own : List Nat) (p : List Value → Prop)
  | w (own : List Nat) (p : List Value → World → Prop)
def Fact.own : Fact → List Nat
  | .v o _ => o
  | .w o _ => o
def Fact.isV : Fact → Bool
  | .v _ _ => true
  | .w _ _ => false
def Fact.at (f : Fact) (s : Nat → Value) (w : World) : Prop := match f with
  | .v o p => p (o.map s)
  | .w o p => p (o.map s) w
def upS (s : Nat → Value) (d : Option Tmp) (v : Value) : Nat → Value := match d with
  | none => s
  | some d => fun k => if k = d then v else s k
def factN (Fs : List Fact) (j : Nat) : Fact := Fs.getD j (.v [] fun _ => True)
def AllF (Fs : List Fact) (s : Nat → Value) (w : World) : List Nat → Prop
  | [] => True
  | j :: L => (factN Fs j).at s w ∧ AllF Fs s w L
theorem allF_iff {Fs : List Fact} {s : Nat → Value} {w : World} : ∀ {L : List Nat}, (∀ j ∈ L, (factN Fs j).at s w) → AllF Fs s w L
  | [], _ => trivial
  | j :: L, h => ⟨h j (List.mem_cons_self ..), allF_iff fun k hk => h k (List.mem_cons_of_mem _ hk)⟩
/-- What a region's walk is made of: what each operation waits for (some of it), who ends its facts, its kind, where it writes, what it needs. -/
def inR (R : List Nat) (j k : Nat) : Bool := (R.getD j 0).testBit k
structure LinT where
  R : List Nat
  kill : List (List Nat)
  cls : List Nat
  dst : List (Option Tmp)
  pre : List (List Nat)
  cov : List (Nat × Nat)
  fin : List Nat
  locs : List (Nat × Tmp)
  tgt : List (Option Tmp)
  abt : List (Option Tmp)
  m : Nat := 0
def blkV : Value → Option Nat
  | .pointer (some a) => some a.block
  | .slice (some a) _ _ => some a.block
  | _ => none
def LinT.isLoc (T : LinT) (k : Nat) : Bool := T.locs.any fun p => p.1 == k
def LinT.Dis (T : LinT) (s : Nat → Value) (c j : Nat) : Prop := ∀ d d', T.tgt.getD c none = some d → T.abt.getD j none = some d' → d ≠ d' → ∀ g, blkV (s d) = some g → blkV (s d') ≠ some g
def LinT.waits (T : LinT) (j i : Nat) : Bool := inR T.R j i
section
variable {P : Program} {ops : Array Oper} {Q : Exit → Act → World → Prop}
def okR (ops : Array Oper) (R : List Nat) : Bool :=
  (List.range ops.size).all fun j => match ops[j]? with
    | none => true
    | some o => (o.after.toList.all fun e => !Region.binds .any e || decide (e.on < j)) &&
      ((List.range ops.size).all fun k => !(inR R j k) || o.after.toList.any fun e => Region.binds .any e && (e.on == k || inR R e.on k))
def okT (T : LinT) (Fs : List Fact) (n : Nat) : Bool :=
  (List.range n).all fun i =>
    ((T.pre.getD i []).all fun j => decide (j < n + T.m) && (decide (n ≤ j) || T.waits i j) && (T.kill.getD j []).all fun k => k == i || T.waits k i) &&
    ((List.range (n + T.m)).all fun j => i == j || (T.kill.getD j []).contains i || (decide (j < n) && T.waits j i) ||
      ((match T.dst.getD i none with | none => true | some d => !((factN Fs j).own.contains d)) && ((factN Fs j).isV || T.cov.contains (T.cls.getD i 0, j)) && (decide (j < n) || (T.abt.getD j none).isNone))) &&
    decide (i < n)
def okL (T : LinT) (n : Nat) : Bool :=
  ((List.range n).all fun i => (match T.tgt.getD (T.cls.getD i 0) none with | none => true | some d => T.locs.any fun p => p.2 == d && T.waits i p.1) &&
    (match T.abt.getD i none with | none => true | some d => T.locs.any fun p => p.2 == d && (p.1 == i || T.waits i p.1))) &&
  T.locs.all fun p => decide (p.1 < n) && T.dst.getD p.1 none == some p.2 && (List.range n).all fun i => i == p.1 || T.dst.getD i none != some p.2 || T.waits p.1 i
def okFin (T : LinT) (n : Nat) : Bool := T.fin.all fun j => decide (j < n + T.m) && (T.kill.getD j []).isEmpty
def okD (ops : Array Oper) (dst : List (Option Tmp)) : Bool := ops.toList.map (·.dst) == dst
def Cl (ops : Array Oper) (listed : Array Bool) : Prop := ∀ j oj, ops[j]? = some oj → listed.getD j false = true → ∀ e ∈ oj.after, Region.binds .any e = true → listed.getD e.on false = true
theorem okR_at {R : List Nat} (h : okR ops R = true) {j : Nat} {o : Oper} (ho : ops[j]? = some o) :
    (∀ e ∈ o.after, Region.binds .any e = true → e.on < j) ∧ ∀ k, k < ops.size → inR R j k = true → ∃ e ∈ o.after, Region.binds .any e = true ∧ (e.on = k ∨ inR R e.on k = true) := by
  have hlt : j < ops.size := (Array.getElem?_eq_some_iff.1 ho).1
  have h1 := List.all_eq_true.1 h j (List.mem_range.2 hlt)
  rw [ho] at h1
  simp only [Bool.and_eq_true, List.all_eq_true, List.any_eq_true, Bool.or_eq_true, Bool.not_eq_true', decide_eq_true_eq, beq_iff_eq, List.contains_iff_mem] at h1
  refine ⟨fun e he hb => (h1.1 e (by simpa using he)).resolve_left (by simp [hb]), fun k hkn hk => ?_⟩
  obtain ⟨e, he, hb, hh⟩ := (h1.2 k (List.mem_range.2 hkn)).resolve_left (by simp [hk])
  exact ⟨e, by simpa using he, hb, hh⟩
theorem R_of_direct {R : List Nat} (h : okR ops R = true) {listed : Array Bool} (hc : Cl ops listed) : ∀ (j : Nat) (o : Oper), ops[j]? = some o → (∀ e ∈ o.after, Region.binds .any e = true → listed.getD e.on false = true) → ∀ k, k < ops.size → inR R j k = true → listed.getD k false = true := by
  intro j
  induction j using Nat.strongRecOn with
  | _ j ih =>
    intro o ho hall k hkn hk
    obtain ⟨hlt, hR⟩ := okR_at h ho
    obtain ⟨e, he, hb, hh⟩ := hR k hkn hk
    have hl := hall e he hb
    rcases hh with rfl | hh
    · exact hl
    · have hj : e.on < j := hlt e he hb
      have hsz : j < ops.size := (Array.getElem?_eq_some_iff.1 ho).1
      have he2 : ops[e.on]? = some ops[e.on] := Array.getElem?_eq_getElem (by omega)
      exact ih e.on hj _ he2 (fun e' he' hb' => hc _ _ he2 hl e' he' hb') k hkn hh
theorem Cl_set {listed : Array Bool} {i : Nat} (h : Cl ops listed) (hi : i ∈ Region.ready .any ops listed) : Cl ops (listed.setIfInBounds i true) := by
  obtain ⟨_, oi, hoi, hall⟩ := mem_ready.1 hi
  intro j oj hj hl e he hb
  by_cases hij : i = j
  · subst hij
    have : oj = oi := Option.some.inj (hj.symm.trans hoi)
    subst this
    exact getD_set_true (hall e he hb)
  · rw [getD_set_ne false hij] at hl
    exact getD_set_true (h j oj hj hl e he hb)
theorem not_listed_of_waits {R : List Nat} (h : okR ops R = true) {listed : Array Bool} (hc : Cl ops listed) {i k : Nat} (hin : i < ops.size) (hk : k < ops.size) (hw : inR R k i = true) (hi : listed.getD i false = false) : listed.getD k false = false := by
  cases hl : listed.getD k false with
  | false => rfl
  | true =>
    have he2 : ops[k]? = some ops[k] := Array.getElem?_eq_getElem hk
    have := R_of_direct h hc k _ he2 (fun e' he' hb' => hc _ _ he2 hl e' he' hb') i hin hw
    rw [hi] at this
    cases this
/-- If nothing may come up, all is done. -/
theorem all_listed {R : List Nat} (h : okR ops R = true) {listed : Array Bool} (hsz : listed.size = ops.size) (hr : Region.ready .any ops listed = []) : ∀ j, j < ops.size → listed.getD j false = true := by
  intro j
  induction j using Nat.strongRecOn with
  | _ j ih =>
    intro hj
    cases hl : listed.getD j false with
    | true => rfl
    | false =>
      have he2 : ops[j]? = some ops[j] := Array.getElem?_eq_getElem hj
      have : j ∈ Region.ready .any ops listed := by
        rw [mem_ready]
        refine ⟨?_, _, he2, fun e he hb => ?_⟩
        · have hlt : j < listed.size := by omega
          simp [hlt] at hl ⊢
          exact hl
        · have hlt := (okR_at h he2).1 e he hb
          exact ih e.on hlt (by omega)
      rw [hr] at this
      cases this
def cntF : List Bool → Nat
  | [] => 0
  | b :: l => (if b then 0 else 1) + cntF l
theorem cntF_set : ∀ (l : List Bool) (i : Nat), l[i]? = some false → cntF (l.set i true) + 1 = cntF l
  | [], _, h => by simp at h
  | b :: l, 0, h => by simp at h; subst h; simp [cntF]; omega
  | b :: l, i + 1, h => by simp at h; have := cntF_set l i h; simp [cntF]; omega
theorem cntF_rep : ∀ n, cntF (List.replicate n false) = n
  | 0 => rfl
  | n + 1 => by simp [List.replicate_succ, cntF, cntF_rep n]; omega
theorem cntF_zero : ∀ (l : List Bool), cntF l = 0 → ∀ (i : Nat) (b : Bool), l[i]? = some b → b = true
  | [], _, i, b, h => by simp at h
  | c :: l, h, 0, b, hb => by simp at hb; subst hb; cases c <;> simp [cntF] at h ⊢
  | c :: l, h, i + 1, b, hb => by simp at hb; exact cntF_zero l (by cases c <;> simp [cntF] at h ⊢; exact h) i b hb
def guardP (dst : List (Option Tmp)) (o : Oper) (a : Act) (X Y : Prop) : Prop := match o.guard with
  | none => X
  | some (j, want) => ∃ d, dst.getD j none = some d ∧ ((a.tmps.getD d undef = .bool want ∧ X) ∨ (a.tmps.getD d undef ≠ .bool want ∧ Y))
theorem guardP_wp {dst : List (Option Tmp)} (hd : okD ops dst = true) {o : Oper} {a : Act} {X Y : Prop} (h : guardP dst o a X Y) : if Region.wanted o (yielded ops a.tmps) = true then X else Y := by
  unfold guardP at h
  unfold Region.wanted
  cases hg : o.guard with
  | none => rw [hg] at h; simpa using h
  | some p =>
    obtain ⟨j, want⟩ := p
    rw [hg] at h
    obtain ⟨d, h1, h2⟩ := h
    have hd' : ops.toList.map (·.dst) = dst := by simpa [okD] using hd
    have hb : (ops[j]?).bind (·.dst) = some d := by
      subst hd'
      rw [List.getD_eq_getElem?_getD, List.getElem?_map] at h1
      cases hj : ops[j]? with
      | none => simp [hj] at h1
      | some oj => simp [hj] at h1; simp [h1]
    have hy : (yielded ops a.tmps j == some want) = true ↔ a.tmps.getD d undef = .bool want := by
      have e : yielded ops a.tmps j = match a.tmps[d]? with | some (Value.bool b) => some b | x => none := by unfold yielded; rw [hb]; rfl
      rw [e]
      have e2 : a.tmps.getD d undef = (a.tmps[d]?).getD undef := by simp
      rw [e2]
      cases hx : a.tmps[d]? with
      | none => exact ⟨fun h => by simp at h, fun h => by cases h⟩
      | some u =>
        cases u with
        | bool b =>
          constructor
          · intro h
            have h' : b = want := by simpa using h
            subst h'
            rfl
          · intro h
            have h' : Value.bool b = Value.bool want := h
            cases h'
            exact beq_self_eq_true (some want)
        | _ =>
          constructor
          · intro h; simp at h
          · intro h; cases h
    rcases h2 with ⟨h2, hX⟩ | ⟨h2, hY⟩
    · have := hy.2 h2
      simpa [this] using hX
    · have : ¬ (yielded ops a.tmps j == some want) = true := fun e => h2 (hy.1 e)
      simpa [this] using hY
/-- One operation's step. -/
def StepP (P : Program) (T : LinT) (Fs : List Fact) (C : World → Prop) (E : Nat → (Nat → Value) → World → World → Prop) (st : (Nat → Value) → Array Value) (df : List Deferred) (k : Nat) (o : Oper) : Prop :=
  ∀ (Q : Exit → Act → World → Prop) (s : Nat → Value) (w : World), C w → AllF Fs s w (T.pre.getD k []) → ∀ K : Act → World → Prop,
    Shut (∀ v w', E (T.cls.getD k 0) s w w' → (factN Fs k).at (upS s o.dst v) w' → (T.isLoc k = true → ∀ g, blkV v = some g → w.heap.size ≤ g ∧ g < w'.heap.size) → K (Act.put ⟨st s, df⟩ o.dst v) w') →
    guardP T.dst o ⟨st s, df⟩ (Oper.wp P o ⟨st s, df⟩ w K Q) (K (Act.put ⟨st s, df⟩ o.dst undef) w)
def StepsP (P : Program) (T : LinT) (Fs : List Fact) (C : World → Prop) (E : Nat → (Nat → Value) → World → World → Prop) (st : (Nat → Value) → Array Value) (df : List Deferred) : Nat → List Oper → Prop
  | _, [] => True
  | k, o :: l => StepP P T Fs C E st df k o ∧ StepsP P T Fs C E st df (k + 1) l
theorem StepsP.cons {T : LinT} {Fs : List Fact} {C : World → Prop} {E : Nat → (Nat → Value) → World → World → Prop} {st : (Nat → Value) → Array Value} {df : List Deferred} {k : Nat} {o : Oper} {l : List Oper} (h : StepP P T Fs C E st df k o) (hs : StepsP P T Fs C E st df (k + 1) l) : StepsP P T Fs C E st df k (o :: l) := ⟨h, hs⟩
theorem StepsP.nil {T : LinT} {Fs : List Fact} {C : World → Prop} {E : Nat → (Nat → Value) → World → World → Prop} {st : (Nat → Value) → Array Value} {df : List Deferred} {k : Nat} : StepsP P T Fs C E st df k [] := trivial
theorem StepsP.at {T : LinT} {Fs : List Fact} {C : World → Prop} {E : Nat → (Nat → Value) → World → World → Prop} {st : (Nat → Value) → Array Value} {df : List Deferred} : ∀ {l : List Oper} {k : Nat}, StepsP P T Fs C E st df k l → ∀ i o, l[i]? = some o → StepP P T Fs C E st df (k + i) o
  | [], _, _, i, o, h => by simp at h
  | x :: l, k, ⟨h1, h2⟩, 0, o, h => by simp at h; subst h; exact h1
  | x :: l, k, ⟨h1, h2⟩, i + 1, o, h => by simp at h; have := StepsP.at h2 i o h; rwa [show k + 1 + i = k + (i + 1) by omega] at this
theorem fact_up {Fs : List Fact} {j : Nat} {s : Nat → Value} {w w' : World} {d : Option Tmp} {v : Value} (hd : (match d with | none => true | some d => !((factN Fs j).own.contains d)) = true) (hw : (factN Fs j).isV = true ∨ ((factN Fs j).at s w → (factN Fs j).at s w'))
    (h : (factN Fs j).at s w) : (factN Fs j).at (upS s d v) w' := by
  have h2 : (factN Fs j).at s w' := by
    rcases hw with hv | hw
    · generalize factN Fs j = f at *
      cases f with
      | v o p => exact h
      | w o p => cases hv
    · exact hw h
  have e : (factN Fs j).own.map (upS s d v) = (factN Fs j).own.map s := by
    cases d with
    | none => rfl
    | some d =>
      refine List.map_congr_left fun k hk => ?_
      have : k ≠ d := by
        intro e; subst e
        simp at hd
        exact hd hk
      simp [upS, this]
  generalize factN Fs j = f at *
  cases f with
  | v o p => show p (o.map (upS s d v)); have e' : o.map (upS s d v) = o.map s := e; rw [e']; exact h2
  | w o p => show p (o.map (upS s d v)) w'; have e' : o.map (upS s d v) = o.map s := e; rw [e']; exact h2
def AllC (cov : List (Nat × Nat)) (X : Nat → Nat → Prop) : Prop := match cov with
  | [] => True
  | (c, j) :: l => X c j ∧ AllC l X
theorem AllC.at {X : Nat → Nat → Prop} : ∀ {cov : List (Nat × Nat)}, AllC cov X → ∀ c j, (c, j) ∈ cov → X c j
  | [], _, c, j, h => by cases h
  | (c', j') :: l, h, c, j, hm => by
    rcases List.mem_cons.1 hm with e | hm
    · cases e; exact h.1
    · exact AllC.at h.2 c j hm
structure LinI (ops : Array Oper) (T : LinT) (Fs : List Fact) (C : World → Prop) (st : (Nat → Value) → Array Value) (df : List Deferred) (listed : Array Bool) (a : Act) (w : World) : Prop where
  sz : listed.size = ops.size
  cl : Cl ops listed
  ex : ∃ s, a = ⟨st s, df⟩ ∧ C w ∧ (∀ j, j < ops.size + T.m → (j < ops.size → listed.getD j false = true) → (∀ k ∈ T.kill.getD j [], listed.getD k false = false) → (factN Fs j).at s w) ∧
    (∀ p ∈ T.locs, listed.getD p.1 false = true → ∀ g, blkV (s p.2) = some g → g < w.heap.size) ∧
    (∀ p ∈ T.locs, ∀ q ∈ T.locs, p.1 ≠ q.1 → listed.getD p.1 false = true → listed.getD q.1 false = true → ∀ g, blkV (s p.2) = some g → blkV (s q.2) ≠ some g)
structure LinH (P : Program) (ops : Array Oper) (T : LinT) (Fs : List Fact) (C : World → Prop) (E : Nat → (Nat → Value) → World → World → Prop) (st : (Nat → Value) → Array Value) (df : List Deferred) (n : Nat) : Prop where
  hn : ops.size = n
  hR : okR ops T.R = true
  hT : okT T Fs n = true
  hkn : T.kill.all (fun l => l.all fun k => decide (k < n)) = true
  hL : okL T n = true
  hF : okFin T n = true
  hd : okD ops T.dst = true
  hput : ∀ d ∈ T.dst, ∀ s v, Act.put ⟨st s, df⟩ d v = ⟨st (upS s d v), df⟩
  hE : ∀ c s w w', E c s w w' → w.heap.size ≤ w'.heap.size
  hC : ∀ c s w w', C w → E c s w w' → C w'
  hS : AllC T.cov fun c j => ∀ s w w', T.Dis s c j → C w → E c s w w' → (factN Fs j).at s w → (factN Fs j).at s w'
  hstep : StepsP P T Fs C E st df 0 ops.toList
variable {T : LinT} {Fs : List Fact} {C : World → Prop} {E : Nat → (Nat → Value) → World → World → Prop} {st : (Nat → Value) → Array Value} {df : List Deferred} {n : Nat}
theorem lin_step (H : LinH P ops T Fs C E st df n) {listed : Array Bool} {a : Act} {w : World} {i : Nat} (hI : LinI ops T Fs C st df listed a w) (hi : i ∈ Region.ready .any ops listed) :
    wpOp P ops Q i (LinI ops T Fs C st df (listed.setIfInBounds i true)) a w := by
  have hn := H.hn
  have hR := H.hR
  obtain ⟨h0, oi, hoi, hall⟩ := mem_ready.1 hi
  have hin : i < ops.size := (Array.getElem?_eq_some_iff.1 hoi).1
  have hlt : i < listed.size := by rw [hI.sz]; exact hin
  have h0f : listed.getD i false = false := by simp [hlt] at h0 ⊢; exact h0
  obtain ⟨s, rfl, hCw, hf, hl1, hl2⟩ := hI.ex
  have hRi := R_of_direct hR hI.cl i oi hoi hall
  have hTi := List.all_eq_true.1 H.hT i (List.mem_range.2 (by omega))
  simp only [Bool.and_eq_true] at hTi
  obtain ⟨⟨hTp, hTs⟩, _⟩ := hTi
  have hLL := H.hL
  simp only [okL, Bool.and_eq_true] at hLL
  obtain ⟨hL1, hL2⟩ := hLL
  have hdi : oi.dst ∈ T.dst ∧ T.dst.getD i none = oi.dst := by
    have hd' : ops.toList.map (·.dst) = T.dst := by simpa [okD] using H.hd
    rw [← hd']
    refine ⟨List.mem_map.2 ⟨oi, by simpa using (Array.mem_of_getElem? hoi), rfl⟩, ?_⟩
    rw [List.getD_eq_getElem?_getD, List.getElem?_map]
    simp [hoi]
  refine wpOp_step hoi fun K hK => ?_
  refine guardP_wp H.hd ?_
  have hsi := StepsP.at H.hstep i oi (by simpa using hoi)
  rw [Nat.zero_add] at hsi
  have set_true : (listed.setIfInBounds i true).getD i false = true := by simp [hlt]
  -- a slot of locs stays
  have hslot : ∀ p ∈ T.locs, p.1 ≠ i → (listed.setIfInBounds i true).getD p.1 false = true → ∀ v, (upS s oi.dst v) p.2 = s p.2 := by
    intro p hp hne hl v
    have h1 := List.all_eq_true.1 hL2 p hp
    simp only [Bool.and_eq_true, decide_eq_true_eq] at h1
    have h2 := List.all_eq_true.1 h1.2 i (List.mem_range.2 (by omega))
    simp only [Bool.or_eq_true, beq_iff_eq, bne_iff_ne, LinT.waits] at h2
    rcases h2 with (h2 | h2) | h2
    · exact absurd h2.symm hne
    · rw [hdi.2] at h2
      cases hd : oi.dst with
      | none => rfl
      | some d => rw [hd] at h2; simp only [upS]; rw [if_neg]; intro e; exact h2 (by rw [e])
    · rw [getD_set_ne false (Ne.symm hne)] at hl
      have := not_listed_of_waits hR hI.cl (by omega) (by omega) h2 h0f
      rw [this] at hl
      cases hl
  refine hsi Q s w hCw (allF_iff fun j hj => ?_) K (fun v w' hE hnew hfr => hK _ _ ?_)
  · have h1 := List.all_eq_true.1 hTp j hj
    simp only [Bool.and_eq_true, decide_eq_true_eq, LinT.waits] at h1
    have h12 := h1.1.2
    simp only [Bool.or_eq_true, decide_eq_true_eq] at h12
    refine hf j (by omega) (fun hjs => hRi j hjs (h12.resolve_left (by omega))) (fun k hk => ?_)
    have h2 := List.all_eq_true.1 h1.2 k hk
    simp only [Bool.or_eq_true, beq_iff_eq, List.contains_iff_mem] at h2
    rcases h2 with rfl | h2
    · exact h0f
    · have hks : k < ops.size := by
        have hjl : T.kill.getD j [] ∈ T.kill := by
          rw [List.getD_eq_getElem?_getD] at hk ⊢
          cases hjj : T.kill[j]? with
          | none => rw [hjj] at hk; simp at hk
          | some l => simpa [hjj] using List.mem_of_getElem? hjj
        have := List.all_eq_true.1 (List.all_eq_true.1 H.hkn _ hjl) k hk
        simp at this; omega
      exact not_listed_of_waits hR hI.cl (by omega) hks h2 h0f
  · have hsz := H.hE _ _ _ _ hE
    refine ⟨by simp [hI.sz], Cl_set hI.cl hi, upS s oi.dst v, H.hput _ hdi.1 s v, H.hC _ _ _ _ hCw hE, fun j hj hl hk => ?_, ?_, ?_⟩
    · by_cases hij : i = j
      · subst hij; exact hnew
      · replace hl : j < ops.size → listed.getD j false = true := fun h => by have h2 := hl h; rwa [getD_set_ne false hij] at h2
        have h1 := List.all_eq_true.1 hTs j (List.mem_range.2 (by omega))
        simp only [Bool.or_eq_true, beq_iff_eq, List.contains_iff_mem, Bool.and_eq_true, decide_eq_true_eq] at h1
        rcases h1 with ((h1 | h1) | h1) | h1
        · exact absurd h1 hij
        · have := hk i h1
          rw [set_true] at this
          cases this
        · have hjs : j < ops.size := by omega
          have h2 := not_listed_of_waits hR hI.cl (by omega) hjs h1.2 h0f
          rw [hl hjs] at h2
          cases h2
        · refine fact_up (w := w) ?_ ?_ (hf j hj hl fun k hkk => ?_)
          · rw [← hdi.2]; exact h1.1.1
          · rcases h1.1.2 with h2 | h2
            · exact Or.inl h2
            · refine Or.inr fun h => AllC.at H.hS _ _ h2 s w w' ?_ hCw hE h
              intro d d' hd hd' hne g hg
              have hjs : j < ops.size := by
                rcases h1.2 with q | q
                · omega
                · rw [Option.isNone_iff_eq_none] at q; rw [q] at hd'; cases hd'
              have g1 := List.all_eq_true.1 hL1 i (List.mem_range.2 (by omega))
              have g2 := List.all_eq_true.1 hL1 j (List.mem_range.2 (by omega))
              rw [Bool.and_eq_true] at g1 g2
              have g1 := g1.1
              have g2 := g2.2
              rw [hd] at g1
              rw [hd'] at g2
              obtain ⟨p, hp, hp2⟩ := List.any_eq_true.1 g1
              obtain ⟨q, hq, hq2⟩ := List.any_eq_true.1 g2
              simp only [Bool.and_eq_true, beq_iff_eq, Bool.or_eq_true, LinT.waits, List.contains_iff_mem] at hp2 hq2
              obtain ⟨rfl, hp3⟩ := hp2
              obtain ⟨rfl, hq3⟩ := hq2
              have hpn_ := List.all_eq_true.1 hL2 p hp
              have hqn_ := List.all_eq_true.1 hL2 q hq
              simp only [Bool.and_eq_true, decide_eq_true_eq] at hpn_ hqn_
              have hpn : p.1 < ops.size := by omega
              have hqn : q.1 < ops.size := by omega
              clear hpn_ hqn_
              refine hl2 p hp q hq ?_ (hRi _ hpn hp3) ?_ g hg
              · intro e
                have e1 := List.all_eq_true.1 hL2 p hp
                have e2 := List.all_eq_true.1 hL2 q hq
                simp only [Bool.and_eq_true, decide_eq_true_eq, beq_iff_eq] at e1 e2
                have := e1.1.2
                rw [e, e2.1.2] at this
                exact hne (Option.some.inj this).symm
              · rcases hq3 with hq3 | hq3
                · rw [hq3]; exact hl hjs
                · have he2 : ops[j]? = some ops[j] := Array.getElem?_eq_getElem hjs
                  exact R_of_direct hR hI.cl j _ he2 (fun e' he' hb' => hI.cl _ _ he2 (hl hjs) e' he' hb') _ hqn hq3
          · have := hk k hkk
            cases hkl : listed.getD k false with
            | false => rfl
            | true => rw [getD_set_true hkl] at this; cases this
    · intro p hp hl g hg
      by_cases hpi : p.1 = i
      · have hv : (upS s oi.dst v) p.2 = v := by
          have e1 := List.all_eq_true.1 hL2 p hp
          simp only [Bool.and_eq_true, decide_eq_true_eq, beq_iff_eq] at e1
          have := e1.1.2
          rw [hpi, hdi.2] at this
          rw [this]; simp [upS]
        rw [hv] at hg
        exact (hfr (List.any_eq_true.2 ⟨p, hp, by simpa using hpi⟩) g hg).2
      · rw [hslot p hp hpi hl v] at hg
        rw [getD_set_ne false (Ne.symm hpi)] at hl
        exact Nat.lt_of_lt_of_le (hl1 p hp hl g hg) hsz
    · intro p hp q hq hne hlp hlq g hg
      have val : ∀ r ∈ T.locs, r.1 = i → (upS s oi.dst v) r.2 = v := by
        intro r hr hri
        have e1 := List.all_eq_true.1 hL2 r hr
        simp only [Bool.and_eq_true, decide_eq_true_eq, beq_iff_eq] at e1
        have := e1.1.2
        rw [hri, hdi.2] at this
        rw [this]; simp [upS]
      by_cases hpi : p.1 = i
      · have hqi : q.1 ≠ i := fun e => hne (hpi.trans e.symm)
        rw [val p hp hpi] at hg
        have hf2 := hfr (List.any_eq_true.2 ⟨p, hp, by simpa using hpi⟩) g hg
        rw [hslot q hq hqi hlq v]
        rw [getD_set_ne false (Ne.symm hqi)] at hlq
        intro e
        have := hl1 q hq hlq g e
        omega
      · rw [hslot p hp hpi hlp v] at hg
        rw [getD_set_ne false (Ne.symm hpi)] at hlp
        by_cases hqi : q.1 = i
        · rw [val q hq hqi]
          intro e
          have hf2 := hfr (List.any_eq_true.2 ⟨q, hq, by simpa using hqi⟩) g e
          have := hl1 p hp hlp g hg
          omega
        · rw [hslot q hq hqi hlq v]
          rw [getD_set_ne false (Ne.symm hqi)] at hlq
          exact hl2 p hp q hq hne hlp hlq g hg
theorem lin_done (H : LinH P ops T Fs C E st df n) (hfin : ∀ s w, C w → AllF Fs s w T.fin → Q .normal ⟨st s, df⟩ w) {listed : Array Bool} {a : Act} {w : World} (hI : LinI ops T Fs C st df listed a w) (hall : ∀ j, j < ops.size → listed.getD j false = true) : Q .normal a w := by
  obtain ⟨s, rfl, hCw, hf, _⟩ := hI.ex
  refine hfin s w hCw (allF_iff fun j hj => ?_)
  have h1 := List.all_eq_true.1 H.hF j hj
  simp only [Bool.and_eq_true, decide_eq_true_eq, List.isEmpty_iff] at h1
  have hn := H.hn
  refine hf j (by omega) (fun hjs => hall j hjs) (fun k hk => ?_)
  rw [h1.2] at hk
  cases hk
theorem wpAny_lin (H : LinH P ops T Fs C E st df n) (hfin : ∀ s w, C w → AllF Fs s w T.fin → Q .normal ⟨st s, df⟩ w) :
    ∀ (fuel : Nat) (listed : Array Bool) (a : Act) (w : World), cntF listed.toList ≤ fuel → LinI ops T Fs C st df listed a w → wpAny P .any ops Q fuel listed a w := by
  intro fuel
  induction fuel with
  | zero =>
    intro listed a w hcnt hI
    have hr : Region.ready .any ops listed = [] := by
      cases hh : Region.ready .any ops listed with
      | nil => rfl
      | cons i l =>
        have hi : i ∈ Region.ready .any ops listed := by rw [hh]; exact List.mem_cons_self ..
        obtain ⟨h0, o, ho, _⟩ := mem_ready.1 hi
        have hlt : i < listed.size := by rw [hI.sz]; exact (Array.getElem?_eq_some_iff.1 ho).1
        have hz := cntF_zero listed.toList (by omega) i (listed.getD i true) (by simp [hlt])
        rw [h0] at hz
        cases hz
    exact ⟨hr, lin_done H hfin hI (all_listed H.hR hI.sz hr)⟩
  | succ fuel ih =>
    intro listed a w hcnt hI
    refine ⟨fun hr => lin_done H hfin hI (all_listed H.hR hI.sz hr), fun i hi => ?_⟩
    obtain ⟨h0, o, ho, _⟩ := mem_ready.1 hi
    have hlt : i < listed.size := by rw [hI.sz]; exact (Array.getElem?_eq_some_iff.1 ho).1
    refine wpOp_mono (fun a' w' h => ih _ a' w' ?_ h) (lin_step H hI hi)
    have h0f : listed.getD i true = false := h0
    have : listed.toList[i]? = some false := by
      simp [hlt] at h0f
      simp [hlt, h0f]
    have := cntF_set _ _ this
    rw [Array.toList_setIfInBounds]
    omega
theorem wpOps_lin (H : LinH P ops T Fs C E st df n) (hfin : ∀ s w, C w → AllF Fs s w T.fin → Q .normal ⟨st s, df⟩ w) :
    ∀ (m k : Nat) (listed : Array Bool) (a : Act) (w : World), k + m = ops.size → (∀ j, listed.getD j true = decide (j < k ∨ ops.size ≤ j)) → LinI ops T Fs C st df listed a w → wpOps P ops Q (List.range' k m) a w := by
  intro m
  induction m with
  | zero =>
    intro k listed a w hk hl hI
    show Q .normal a w
    refine lin_done H hfin hI (fun j hj => ?_)
    have := hl j
    have hlt : j < listed.size := by rw [hI.sz]; exact hj
    have hjk : j < k := by omega
    simp [hlt, hjk] at this ⊢
    exact this
  | succ m ih =>
    intro k listed a w hk hl hI
    rw [List.range'_succ, wpOps_cons]
    have hkn : k < ops.size := by omega
    have hlt : k < listed.size := by rw [hI.sz]; exact hkn
    have hready : k ∈ Region.ready .any ops listed := by
      have ho : ops[k]? = some ops[k] := Array.getElem?_eq_getElem hkn
      rw [mem_ready]
      refine ⟨by rw [hl]; simp; omega, _, ho, fun e he hb => ?_⟩
      have h1 := (okR_at H.hR ho).1 e he hb
      have h2 := hl e.on
      have h3 : e.on < listed.size := by omega
      simp [h3, h1] at h2 ⊢
      exact h2
    refine wpOp_mono (fun a' w' h => ih (k + 1) _ a' w' (by omega) (fun j => ?_) h) (lin_step H hI hready)
    by_cases hj : k = j
    · subst hj; simp [hlt]
    · rw [getD_set_ne true hj, hl, Bool.eq_iff_iff]
      simp only [decide_eq_true_eq]
      omega
def fillS (ds : List Tmp) (b : Array Value) (s : Nat → Value) : Array Value := ds.foldl (fun arr d => arr.setIfInBounds d (s d)) b
theorem fillS_size (ds : List Tmp) (s : Nat → Value) : ∀ b, (fillS ds b s).size = b.size := by
  induction ds with
  | nil => intro b; rfl
  | cons d ds ih => intro b; show (fillS ds _ s).size = _; rw [ih]; simp
theorem fillS_get (ds : List Tmp) (s : Nat → Value) : ∀ (b : Array Value) (k : Nat), (fillS ds b s)[k]? = if k ∈ ds ∧ k < b.size then some (s k) else b[k]? := by
  induction ds with
  | nil => intro b k; simp [fillS]
  | cons d ds ih =>
    intro b k
    show (fillS ds _ s)[k]? = _
    rw [ih]
    by_cases h : k ∈ ds ∧ k < b.size
    · rw [if_pos (by simpa using h), if_pos ⟨List.mem_cons_of_mem _ h.1, h.2⟩]
    · rw [if_neg (by simpa using h)]
      by_cases hk : k = d
      · subst hk
        by_cases hb : k < b.size
        · rw [if_pos ⟨List.mem_cons_self .., hb⟩]; simp [hb]
        · rw [if_neg (fun e => hb e.2)]; simp [Array.getElem?_setIfInBounds, hb]
      · rw [if_neg (fun e => (List.mem_cons.1 e.1).elim hk (fun e2 => h ⟨e2, e.2⟩)), Array.getElem?_setIfInBounds_ne (Ne.symm hk)]
theorem fillS_put (ds : List Tmp) (b : Array Value) (df : List Deferred) (d : Option Tmp) (hd : ∀ k, d = some k → k ∈ ds) (s : Nat → Value) (v : Value) : Act.put ⟨fillS ds b s, df⟩ d v = ⟨fillS ds b (upS s d v), df⟩ := by
  cases d with
  | none => rfl
  | some d =>
    show Act.mk _ _ = Act.mk _ _
    congr 1
    apply Array.ext_getElem?
    intro k
    rw [fillS_get]
    by_cases hk : k = d
    · subst hk
      simp only [upS, if_true, hd k rfl, true_and]
      by_cases hb : k < b.size
      · rw [if_pos hb]; simp [fillS_size, hb]
      · rw [if_neg hb]; simp [Array.getElem?_setIfInBounds, fillS_size, hb]
    · rw [Array.getElem?_setIfInBounds_ne (Ne.symm hk), fillS_get]
      simp [upS, hk]
theorem fillS_self (ds : List Tmp) (b : Array Value) : fillS ds b (fun k => b.getD k undef) = b := by
  apply Array.ext_getElem?
  intro k
  rw [fillS_get]
  split
  · rename_i h; simp [h.2]
  · rfl
theorem LinI.start {b : Array Value} {ds : List Tmp} {w : World} (hC0 : C w) (hF0 : ∀ j, ops.size ≤ j → j < ops.size + T.m → (factN Fs j).at (fun k => b.getD k undef) w) : LinI ops T Fs C (fun s => fillS ds b s) df (Array.replicate ops.size false) ⟨b, df⟩ w := by
  refine ⟨by simp, ?_, fun k => b.getD k undef, ?_, hC0, ?_, ?_, ?_⟩
  · intro j oj hj hl
    have hlt : j < ops.size := (Array.getElem?_eq_some_iff.1 hj).1
    simp [hlt] at hl
  · show Act.mk _ _ = Act.mk _ _
    congr 1
    exact (fillS_self ds b).symm
  · intro j hj hl _
    by_cases hjs : j < ops.size
    · have := hl hjs; simp [hjs] at this
    · exact hF0 j (by omega) hj
  · intro p hp hl
    by_cases h : p.1 < ops.size
    · simp [h] at hl
    · simp [h] at hl
  · intro p hp q hq hne hl
    by_cases h : p.1 < ops.size
    · simp [h] at hl
    · simp [h] at hl
structure LinC (ops : Array Oper) (T : LinT) (Fs : List Fact) (n : Nat) (ds : List Tmp) : Prop where
  hn : ops.size = n
  hR : okR ops T.R = true
  hT : okT T Fs n = true
  hkn : T.kill.all (fun l => l.all fun k => decide (k < n)) = true
  hL : okL T n = true
  hF : okFin T n = true
  hd : okD ops T.dst = true
  hds : (T.dst.all fun d => match d with | none => true | some k => ds.contains k) = true
theorem allF_mem {Fs : List Fact} {s : Nat → Value} {w : World} : ∀ {L : List Nat}, AllF Fs s w L → ∀ {j}, j ∈ L → (factN Fs j).at s w
  | a :: L, h, j, hj => by
    rcases List.mem_cons.1 hj with rfl | hj
    · exact h.1
    · exact allF_mem h.2 hj
theorem region_linM {id : Nat} {b : Array Value} {w : World} {dr : Bool} (T : LinT) (Fs : List Fact) (C : World → Prop) (E : Nat → (Nat → Value) → World → World → Prop) (ds : List Tmp) (hm : P.follows .mixedOrders = true) (hc : LinC ops T Fs n ds)
    {st : (Nat → Value) → Array Value} (hst : ∀ s, fillS ds b s = st s) (hC0 : C (if dr then w.drew else w)) (hF0 : AllF Fs (fun k => b.getD k undef) (if dr then w.drew else w) ((List.range T.m).map (n + ·)))
    (hE : ∀ c s w w', E c s w w' → w.heap.size ≤ w'.heap.size)
    (hC : ∀ c s w w', C w → E c s w w' → C w') (hS : AllC T.cov fun c j => ∀ s w w', T.Dis s c j → C w → E c s w w' → (factN Fs j).at s w → (factN Fs j).at s w')
    (hstep : StepsP P T Fs C E st df 0 ops.toList) (hfin : ∀ s w, C w → AllF Fs s w T.fin → Q .normal ⟨st s, df⟩ w) : (Code.region id ops dr).wp P Q ⟨b, df⟩ w := by
  have e : (fun s => fillS ds b s) = st := funext hst
  subst e
  have H : LinH P ops T Fs C E (fun s => fillS ds b s) df n := by
    refine ⟨hc.hn, hc.hR, hc.hT, hc.hkn, hc.hL, hc.hF, hc.hd, ?_, hE, hC, hS, hstep⟩
    intro d hd s v
    refine fillS_put ds b df d (fun k e => ?_) s v
    subst e
    have := List.all_eq_true.1 hc.hds _ hd
    simpa using this
  have hF1 : ∀ j, ops.size ≤ j → j < ops.size + T.m → (factN Fs j).at (fun k => b.getD k undef) (if dr then w.drew else w) := fun j h1 h2 => by
    have hn := hc.hn
    refine allF_mem hF0 ?_
    exact List.mem_map.2 ⟨j - n, List.mem_range.2 (by omega), by omega⟩
  cases dr with
  | true =>
    refine wp_region_any hm ?_
    refine wpAny_lin H hfin ops.size _ _ _ ?_ (LinI.start hC0 hF1)
    rw [Array.toList_replicate, cntF_rep]; exact Nat.le_refl _
  | false =>
    refine wp_region ?_
    rw [List.range_eq_range']
    refine wpOps_lin H hfin ops.size 0 _ _ _ (by omega) (fun j => ?_) (LinI.start hC0 hF1)
    by_cases h : j < ops.size
    · simp [h]
    · simp [h]; omega
theorem region_lin {id : Nat} {b : Array Value} {w : World} {dr : Bool} (T : LinT) (Fs : List Fact) (C : World → Prop) (E : Nat → (Nat → Value) → World → World → Prop) (ds : List Tmp) (hm : P.follows .mixedOrders = true) (hc : LinC ops T Fs n ds)
    {st : (Nat → Value) → Array Value} (hst : ∀ s, fillS ds b s = st s) (hC0 : C (if dr then w.drew else w))
    (hE : ∀ c s w w', E c s w w' → w.heap.size ≤ w'.heap.size)
    (hC : ∀ c s w w', C w → E c s w w' → C w') (hS : AllC T.cov fun c j => ∀ s w w', T.Dis s c j → C w → E c s w w' → (factN Fs j).at s w → (factN Fs j).at s w')
    (hstep : StepsP P T Fs C E st df 0 ops.toList) (hfin : ∀ s w, C w → AllF Fs s w T.fin → Q .normal ⟨st s, df⟩ w) (hm0 : T.m = 0 := by rfl) : (Code.region id ops dr).wp P Q ⟨b, df⟩ w := by
  exact region_linM T Fs C E ds hm hc hst hC0 (by rw [hm0]; exact trivial) hE hC hS hstep hfin
theorem guard_none {dst : List (Option Tmp)} {o : Oper} {a : Act} {X Y : Prop} (hg : o.guard = none) (h : X) : guardP dst o a X Y := by unfold guardP; rw [hg]; exact h
theorem guard_on {dst : List (Option Tmp)} {o : Oper} {a : Act} {X Y : Prop} {j d : Nat} {want : Bool} (hg : o.guard = some (j, want)) (hd : dst.getD j none = some d) (hv : a.tmps.getD d undef = .bool want) (h : X) : guardP dst o a X Y := by
  unfold guardP; rw [hg]; exact ⟨d, hd, Or.inl ⟨hv, h⟩⟩
theorem guard_off {dst : List (Option Tmp)} {o : Oper} {a : Act} {X Y : Prop} {j d : Nat} {want : Bool} (hg : o.guard = some (j, want)) (hd : dst.getD j none = some d) (hv : a.tmps.getD d undef ≠ .bool want) (h : Y) : guardP dst o a X Y := by
  unfold guardP; rw [hg]; exact ⟨d, hd, Or.inr ⟨hv, h⟩⟩
theorem wp_value {oi : Oper} {a : Act} {w w1 : World} {v : Value} {K : Act → World → Prop} (hrun : (execOp a.eval oi).run P w = .ok (.value v) w1) (h : K (a.put oi.dst v) w1) : Oper.wp P oi a w K Q := by
  unfold Oper.wp
  rw [hrun]
  exact h
theorem wp_skip_ {oi : Oper} {a : Act} {w w1 : World} {K : Act → World → Prop} (hrun : (execOp a.eval oi).run P w = .ok .skip w1) (h : K (a.put oi.dst undef) w1) : Oper.wp P oi a w K Q := by
  unfold Oper.wp
  rw [hrun]
  exact h
theorem wp_call {oi : Oper} {N : Option Tmp} {a : Act} {w : World} {K : Act → World → Prop} {f : FuncId} {fn : Func} {ats : Array Operand} {ts : Array TypeId} (hN : oi.dst = N) (hf : P.funcs[f]? = some fn) (hname : (fn.name == "runtime.NumGoroutine") = false) (args : Array Value) (hb : fn.body.isSome = true)
    (hop : oi.op = .call { callee := .value (.func f), args := ats, argTypes := ts }) (hargsL : ats.toList.map a.eval = args.toList)
    (h : Calls P f args w fun e w' => ∃ v, e = .returned v ∧ K (a.put N v) w') : Oper.wp P oi a w K Q := by
  have h1 : fn.name ≠ "runtime.NumGoroutine" := by simpa using hname
  have hargs : ats.map a.eval = args := by rw [← Array.toList_inj, Array.toList_map]; exact hargsL
  obtain ⟨c, hc⟩ := Option.isSome_iff_exists.1 hb
  have he : (callFunc f args).run P w = .ok (.enter f args) w := by simp [callFunc, hf, h1, hc]
  have hrun : (execOp a.eval oi).run P w = .ok (.enter f args) w := by
    unfold execOp
    simp [hop, resolve, Deferred.ofValue, invoke, Act.eval, hargs, he]
  unfold Oper.wp
  rw [hrun, Oper.upon_enter]
  refine h.mono fun e w'' hh => ?_
  obtain ⟨v, rfl, hk⟩ := hh
  subst hN
  exact hk
theorem fresh_alloc {w : World} {o : Obj} {g : Nat} (h : w.heap.size = g) : w.heap.size ≤ g ∧ g < (w.alloc o).heap.size := by subst h; exact ⟨Nat.le_refl _, by simp⟩
theorem AccAt.keep {w w1 : World} {p : Option Addr} {o : Bool} {B : Nat} (h : AccAt w p o) (hb : Below B w w1) (hp : ∀ a, p = some a → a.block < B) : AccAt w1 p o := by
  rcases p with _ | a
  · trivial
  · have hl := hp a rfl
    exact ⟨(hb.cell hl).trans h.1, (hb.frozen hl).trans h.2⟩
theorem act_eq {R : Exit → Act → World → Prop} {b b' : Array Value} {df : List Deferred} {w : World} (h : b = b') (hq : R .normal ⟨b', df⟩ w) : R .normal ⟨b, df⟩ w := by subst h; exact hq
end
end Go.Pk
