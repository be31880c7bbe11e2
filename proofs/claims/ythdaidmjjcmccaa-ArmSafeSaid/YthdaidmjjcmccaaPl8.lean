/- Proved here: lemmas and contracts (what a function of the program computes) that the proofs of the laws of this seat lean on. Conditions: as each theorem states. -/
import Derived.Test.YthdaidmjjcmccaaPl7
set_option linter.unusedVariables false
set_option linter.unusedSimpArgs false
namespace Go.Pk
open Go.RowKit
theorem all_range_take {f : Nat → Bool} {n k : Nat} (h : ∀ j, j < k → f j = true) (hk : k < n) (hf : f k = false) : (List.range n).all f = false := by
  rw [← Bool.not_eq_true]
  intro e
  rw [List.all_eq_true] at e
  have := e k (List.mem_range.2 hk)
  rw [hf] at this
  cases this
end Go.Pk
namespace Go.Proofs.Ythdaidmjjcmccaa
open Go.RowKit Go.Pk Go.Proofs.YthdaidmjjcmccaaW.PrintLast
set_option maxHeartbeats 8000000 in
set_option maxRecDepth 100000 in
theorem Inside_calls (g : Nat) (p : Pl) (lx : List Int) (ax : Option Addr) (cx : Nat) (w : World) (hk : KitAt w g 116 p) (hIl : p.Inv.length = p.B.length) (hx : RdI w ax lx) :
    Calls Try.prog 32 #[.pointer (some ⟨g, 0, none⟩), .slice ax lx.length cx] w fun e w' => e = .returned (.bool (insideP p lx)) ∧ Below w.heap.size w w' := by
  have hlen := hx.1
  cases hare : areP p lx.length
  · have hin : insideP p lx = false := by unfold insideP; rw [hare]; rfl
    rw [hin]
    clear hin
    replace hare := hidI hare
    go_enter Try.func32, Try.ntmps32
    go_wp2_with fail
    refine (are_calls g p lx.length _ hk).mono ?_
    rintro e w1 ⟨rfl, hw1⟩
    obtain rfl := hw1
    rw [hare.out]
    go_wp2
    go_ret
    exact ⟨rfl, Below.refl _ _⟩
  · have hin : Hid (insideP p lx = (List.range lx.length).all fun i => hasS (p.Inv.getD i ⟨0, 0⟩) (lx.getD i 0)) := by unfold Hid insideP; rw [hare]; rfl
    have hxl : Hid (lx.length = p.Inv.length) := by unfold areP at hare; simp at hare; unfold Hid; omega
    replace hare := hidI hare
    clear hIl
    obtain ⟨q1, q2, hkc, hr1, hr2⟩ := id hk
    obtain ⟨aA, cA, aB, cB, aW, cW, aI, cI, aS, cS, aG, cG⟩ := q2
    obtain ⟨-, -, -, hI, -, -, -, -, -, -, -, -⟩ := hr2
    simp only [] at hI
    go_enter Try.func32, Try.ntmps32
    go_wp2_with fail
    refine (are_calls g p lx.length _ hk).mono ?_
    rintro e w1 ⟨rfl, hw1⟩
    obtain rfl := hw1
    rw [hare.out]
    go_upto_region 4 with fail
    go_loopw [5, 6, 14] (fun v5 v6 x wr => ∃ i : Nat, i ≤ lx.length ∧ x = .int .i64 i ∧ Below w1.heap.size w1 wr ∧ Hid (∀ j, j < i → hasS (p.Inv.getD j ⟨0, 0⟩) (lx.getD j 0) = true)) (fun _ _ x _ => (lx.length - intOf x).toNat)
    case atStart => exact ⟨0, by omega, rfl, Below.refl _ _, fun j hj => by omega⟩
    case round =>
      obtain ⟨i, hi, rfl, hbw, hall⟩ := hrel
      by_cases hlt : i < lx.length
      · obtain ⟨bx, ox, rfl, hc0⟩ := (hx.below hbw).at hlt
        have hiI : i < p.Inv.length := by have := hxl.out; omega
        obtain ⟨bI, oI, rfl, hc1, hc2⟩ := (hI.below hbw).at hiI
        have hk14 : wr.cell? ⟨g, 14, none⟩ = some (.slice (some ⟨bI, oI, none⟩) p.Inv.length cI) := blk_cell (bl_block hbw hkc) 14 (by rfl)
        have hd : decide ((i : Int) < (lx.length : Int)) = true := decide_eq_true (by omega)
        have hd2 : decide ((i : Int) < (p.Inv.length : Int)) = true := decide_eq_true (by omega)
        have hH := hidI (Has_calls (p.Inv.getD i ⟨0, 0⟩).lo (p.Inv.getD i ⟨0, 0⟩).hi (lx.getD i 0) wr)
        obtain ⟨hb, hhb⟩ : ∃ z, Hid (hasS (p.Inv.getD i ⟨0, 0⟩) (lx.getD i 0) = z) := ⟨_, rfl⟩
        have hH' := hH.out
        rw [show hasS ⟨(p.Inv.getD i ⟨0, 0⟩).lo, (p.Inv.getD i ⟨0, 0⟩).hi⟩ (lx.getD i 0) = hb from hhb.out] at hH'
        clear hH
        obtain ⟨n0, hn0⟩ : ∃ z, Hid ((p.Inv.getD i ⟨0, 0⟩).lo = z) := ⟨_, rfl⟩
        obtain ⟨n1, hn1⟩ : ∃ z, Hid ((p.Inv.getD i ⟨0, 0⟩).hi = z) := ⟨_, rfl⟩
        obtain ⟨xi, hxi⟩ : ∃ z, Hid (lx.getD i 0 = z) := ⟨_, rfl⟩
        rw [hn0.out, hn1.out, hxi.out] at hH'
        rw [hn0.out] at hc1
        rw [hn1.out] at hc2
        rw [hxi.out] at hc0
        replace hH' := hidI hH'
        go_wp2_with fail
        refine hH'.out.mono ?_
        rintro e w2 ⟨rfl, hb2⟩
        cases hb
        · go_wp2
          go_ret
          exact ⟨by rw [hin.out, all_range_take (f := fun i => hasS (p.Inv.getD i ⟨0, 0⟩) (lx.getD i 0)) hall.out hlt hhb.out]; rfl, bl_step hbw hb2⟩
        · go_wp2
          go_roundw
          case rel =>
            refine ⟨i + 1, by omega, by go_num, bl_step hbw hb2, fun j hj => ?_⟩
            by_cases hji : j < i
            · exact hall.out j hji
            · obtain rfl : j = i := by omega
              exact hhb.out
          case measure => simp [intOf]; omega
      · have hie : i = lx.length := by omega
        subst hie
        have hd : decide ((lx.length : Int) < (lx.length : Int)) = false := decide_eq_false (by omega)
        go_wp2
        go_ret
        exact ⟨by rw [hin.out, show ((List.range lx.length).all fun i => hasS (p.Inv.getD i ⟨0, 0⟩) (lx.getD i 0)) = true from List.all_eq_true.2 (fun j hj => hall.out j (List.mem_range.1 hj))]; rfl, hbw⟩
end Go.Proofs.Ythdaidmjjcmccaa
