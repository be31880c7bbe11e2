/- Proved here: lemmas and contracts (what a function of the program computes) that the proofs of the laws of this seat lean on. Conditions: as each theorem states. -/
import Derived.Test.YtggididnclfahaaV3
set_option linter.unusedVariables false
set_option linter.unusedSimpArgs false
namespace Go.Proofs.Ytggididnclfahaa
open Go.RowKit Go.Pk Go.Pk.Vt Go.Shelf
set_option maxHeartbeats 1000000 in
theorem values_calls (a : Option Addr) (len cap : Nat) (w : World) :
    Calls Try.prog 29 #[.slice a len cap] w fun e w' => e = .returned (.func (.func 39) #[] #[.pointer (some ⟨w.heap.size, 0, none⟩)]) ∧ w' = w.alloc (.cells #[.slice a len cap] 22) := by
  go_enter Try.func29, Try.ntmps29
  go_wp2
  go_ret
  exact ⟨rfl, rfl⟩
set_option maxHeartbeats 1000000 in
theorem collect_calls (Bs : Nat) (sv : Value) (zs : List Int) (hlen : zs.length ≤ 100000) (w : World) (hBs : Bs < w.heap.size) (hcs : w.cell? ⟨Bs, 0, none⟩ = some sv) (hI : IntsV w.heap.size w sv zs) :
    Calls Try.prog 37 #[.func (.func 39) #[] #[.pointer (some ⟨Bs, 0, none⟩)]] w fun e W' => ∃ v, e = .returned v ∧ W'.ownsRow w.heap.size 3 1 v zs.length (zs.map (Value.int .i64)) ∧ (v = .slice none 0 0 ↔ zs = []) ∧ Below w.heap.size w W' := by
  have hap := hidI (callsIn_wide.1 (appendSeq_in Fence.wide 3 trivial trivial rfl (by omega) Bs sv zs (by unfold maxLen; omega) (by omega) w hBs hcs hI))
  clear hcs hI hBs hlen
  go_enter Try.func37, Try.ntmps37
  go_wp2_with fail
  refine hap.out.mono ?_
  rintro e w1 ⟨v, rfl, hrow, hnil, hb⟩
  replace hnil := hidI hnil
  go_wp2
  go_ret
  exact ⟨v, rfl, hrow, hnil.out, hb⟩
set_option maxHeartbeats 2000000 in
theorem sorted_calls (Bs : Nat) (sv : Value) (zs : List Int) (hlen : zs.length ≤ 100000) (w : World) (hBs : Bs < w.heap.size) (hcs : w.cell? ⟨Bs, 0, none⟩ = some sv) (hI : IntsV w.heap.size w sv zs) (hne : zs ≠ []) :
    Calls Try.prog 28 #[.func (.func 39) #[] #[.pointer (some ⟨Bs, 0, none⟩)]] w fun e W' => ∃ g cap, w.heap.size ≤ g ∧ e = .returned (.slice (some ⟨g, 0, none⟩) zs.length cap) ∧ W'.ownsRow w.heap.size 3 1 (.slice (some ⟨g, 0, none⟩) zs.length cap) zs.length (Go.Pk.encI (sortI zs)) ∧ Below w.heap.size w W' := by
  have hco := hidI (collect_calls Bs sv zs hlen w hBs hcs hI)
  have hl0 : zs.length ≠ 0 := fun h => hne (List.eq_nil_of_length_eq_zero h)
  replace hl0 := hidI hl0
  clear hcs hI hBs hne
  go_enter Try.func28, Try.ntmps28
  go_wp2_with fail
  refine hco.out.mono ?_
  rintro e W ⟨v, rfl, hrow, -, hb⟩
  obtain ⟨g, cap, cur, rfl, hbase, hgb, r1, r2, r3, r4⟩ : ∃ g cap cur, v = .slice (some ⟨g, 0, none⟩) zs.length cap ∧ w.heap.size ≤ g ∧ W.heap[g]? = some (.cells cur 3 (0, 0)) ∧ zs.length ≤ cap ∧ cap ≤ maxLen ∧ cur.size = cap * 1 ∧ cur.toList.take (zs.length * 1) = zs.map (Value.int .i64) := by
    rcases hrow.2 with ⟨_, h0⟩ | h'
    · exact absurd h0 hl0.out
    · exact h'
  have hH : Go.Sort.Holds (Value.int .i64) W g 0 zs.toArray := holds_of_blockI hgb (by simpa using r4)
  have hgl : g < W.heap.size := blk_lt hgb
  have hso := hidI (AnyG.slices_Sort_int Try.laysSort g 0 cap zs W hH hgl (by omega))
  have hfin := hidI (fun n os => And.intro (ownsRow_sortedI (w := W) (base := w.heap.size) (g := g) (cap := cap) (n := n) (e := 3) (os := os) (cur := cur) (ss := zs) (ts := sortI zs) (sort_length zs) hbase hgb r1 r2 r3) (hb.grown (grownBy_sortedI (w := W) (g := g) (n := n) (os := os) (sortI zs).toArray) hb.size (fun j hj => by cases hj; exact hbase)))
  clear hrow hgb r1 r2 r3 r4 hH hb hco
  go_wp2_with fail
  refine hso.out.mono ?_
  rintro e w' ⟨rfl, nn, os, rfl⟩
  go_wp2
  go_ret
  exact ⟨g, cap, hbase, rfl, (hfin.out nn os).1, (hfin.out nn os).2⟩
set_option maxHeartbeats 2000000 in
theorem mid_calls (l : List Int) (A : Option Addr) (c : Nat) (w : World) (hA : RdI w A l) (hlen : l.length ≤ 100000) :
    Calls Try.prog 11 #[.slice A l.length c] w fun e w' => e = .returned (.int .i64 (midL l)) ∧ Below w.heap.size w w' := by
  by_cases h0 : l = []
  · subst h0
    have hm : Hid (midL [] = 0) := by show _ = _; unfold midL sortI; simp
    clear hA hlen
    rw [hm.out]
    go_enter Try.func11, Try.ntmps11
    go_wp2
    go_ret
    exact ⟨rfl, Below.refl _ _⟩
  · have hl0 : 1 ≤ l.length := by
      rcases Nat.eq_zero_or_pos l.length with h | h
      · exact absurd (List.eq_nil_of_length_eq_zero h) h0
      · omega
    have d0 : ((l.length : Int) == 0) = false := by simp; omega
    have d1 : (l.length == 0) = false := by simp; omega
    obtain ⟨b, off, rfl, hc0⟩ := hA.at (i := 0) (by omega)
    have hblt : b < w.heap.size := World.block_lt_of_cell? w _ hc0
    have hI : IntsV w.heap.size w (.slice (some ⟨b, off, none⟩) l.length c) l := Or.inr ⟨b, off, c, rfl, hblt, fun j hj => by
      obtain ⟨b', off', e, hc⟩ := hA.at (i := j) hj
      injection e with e
      injection e with e1 e2
      subst e1 e2
      rw [hc, List.getD_eq_getElem?_getD]⟩
    have hB1 := bl_alloc (Below.refl w.heap.size w) (.cells #[.slice (some ⟨b, off, none⟩) l.length c] 22)
    have hso := hidI (sorted_calls w.heap.size (.slice (some ⟨b, off, none⟩) l.length c) l hlen (w.alloc (.cells #[.slice (some ⟨b, off, none⟩) l.length c] 22)) (by simp) (blk_cell (blk_new w _) 0 (by rfl)) ((hI.below hB1).elim Or.inl (fun ⟨b, off, cap, e, hb, h⟩ => Or.inr ⟨b, off, cap, e, by simp; omega, h⟩)) h0)
    obtain ⟨k, hk⟩ : ∃ k : Nat, k = (l.length - 1) / 2 := ⟨_, rfl⟩
    have hkl : k < l.length := by omega
    have hq : ((l.length : Int) - 1) / 2 = (k : Int) := by omega
    have hm : Hid (midL l = (sortI l).getD k 0) := by show _ = _; rw [hk]; rfl
    rw [hm.out]
    have hsl := hidI (sort_length l)
    clear hI hA hc0 h0 hk hm hblt
    go_enter Try.func11, Try.ntmps11
    go_wp2_with fail
    refine (values_calls (some ⟨b, off, none⟩) l.length c w).mono ?_
    rintro e w1 ⟨rfl, rfl⟩
    go_wp2_with fail
    refine hso.out.mono ?_
    rintro e w2 ⟨g, cap, hg, rfl, hown, hb⟩
    replace hb := bl_step hB1 hb
    have hcell : w2.cell? ⟨g, 0 + k, none⟩ = some (.int .i64 ((sortI l).getD k 0)) := by
      obtain ⟨A', c', e, h1, -⟩ := own_reads hown
      injection e with e1 e2 e3
      obtain ⟨b', off', e4, hc⟩ := h1 k _ (by unfold Go.Pk.encI; rw [List.getElem?_map, List.getElem?_eq_getElem (by rw [hsl.out]; exact hkl)]; rfl)
      rw [← e1] at e4
      injection e4 with e4
      injection e4 with e5 e6
      subst e5 e6
      rw [hc, List.getD_eq_getElem?_getD, List.getElem?_eq_getElem (by rw [hsl.out]; exact hkl)]
      try rfl
    rw [Nat.zero_add] at hcell
    clear hown hso hB1
    go_wp2
    go_ret
    exact ⟨rfl, hb⟩
end Go.Proofs.Ytggididnclfahaa
