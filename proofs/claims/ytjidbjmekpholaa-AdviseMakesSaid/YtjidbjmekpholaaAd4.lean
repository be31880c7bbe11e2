/- Proved here: lemmas and contracts (what a function of the program computes) that the proofs of the laws of this seat lean on. Conditions: as each theorem states. -/
import Derived.Test.YtjidbjmekpholaaAd3
set_option linter.unusedVariables false
set_option linter.unusedSimpArgs false
namespace Go.Proofs.Ytjidbjmekpholaa
open Go.RowKit Go.Pk Go.Pk.Ad Go.Proofs.YtjidbjmekpholaaW.PrintMore
attribute [local go_sem] max2_int min2_int max_two min_two
theorem own_lower {w : World} {b b' n s : Nat} {e : TypeId} {v : Value} {xs : List Value} (h : w.ownsRow b e s v n xs) (hb : b' ≤ b) : w.ownsRow b' e s v n xs := by
  refine ⟨h.1, ?_⟩
  rcases h.2 with h2 | ⟨g, cap, cur, h1, h2, h3⟩
  · exact Or.inl h2
  · exact Or.inr ⟨g, cap, cur, h1, Nat.le_trans hb h2, h3⟩
/-- A maker: what it knows, and what it has made. -/
def MkAt (w : World) (g B0 : Nat) (high climb : Int) (W bl : List Int) : Prop := ∃ vw vb, w.heap[g]? = some (.cells #[.int .i64 high, .int .i64 climb, vw, vb] 76 (0, 0)) ∧ w.ownsRow B0 3 1 vw W.length (encI W) ∧ w.ownsRow B0 5 1 vb bl.length (encB bl) ∧ B0 ≤ g ∧ B0 ≤ w.heap.size
theorem adBeh_of {w : World} {g B0 : Nat} {high climb : Int} {W : List Int} {vw vb : Value} (h : w.heap[g]? = some (.cells #[.int .i64 high, .int .i64 climb, vw, vb] 76 (0, 0))) (ho : w.ownsRow B0 3 1 vw W.length (encI W)) : BehAt w g high climb W := by
  obtain ⟨A, c, rfl, hr⟩ := own_readsI ho
  exact ⟨A, c, (blkc h 0).trans rfl, (blkc h 1).trans rfl, (blkc h 2).trans rfl, hr⟩
def AdTickPost (w : World) (g B0 : Nat) (high climb : Int) (W bl : List Int) (e : Ending) (w' : World) : Prop := e = .returned (.tuple #[]) ∧ MkAt w' g B0 high climb (tickW high climb W) (bl ++ tickB high climb W) ∧ Below B0 w w'
set_option maxHeartbeats 2000000 in
set_option maxRecDepth 100000 in
theorem adTick_calls (g B0 : Nat) (high climb b : Int) (W bl : List Int) (w : World) (hM : MkAt w g B0 high climb W bl) (hW : GoodW high W b) (hb : 0 ≤ b) (hb2 : b ≤ 1000000) (hg0 : 1 ≤ high) (hg1 : high ≤ 60) (hm0 : 1 ≤ climb) (hm1 : climb ≤ 10) (hbl : bl.length ≤ 1000000) :
    Calls Try.prog 41 #[.pointer (some ⟨g, 0, none⟩)] w (AdTickPost w g B0 high climb W bl) := by
  obtain ⟨vw, vb, hx, how, hob, hB0g, hB0⟩ := hM
  obtain ⟨N, hN⟩ : ∃ N, N = (2 * high + 1).toNat := ⟨_, rfl⟩
  have hN2 : (N : Int) ≤ 2 * high + 1 ∧ 2 * high + 1 ≤ (N : Int) := by omega
  have HN := hidI hN
  clear hN
  have hvw : ∀ k, vw.ownBlock = some k → k < w.heap.size := fun k hk => (how.lt k hk).2
  have HVW := hidI hvw
  clear hvw
  have m0 := (blkc hx 0).trans rfl
  have m1 := (blkc hx 1).trans rfl
  simp at m0 m1
  go_enter Try.func41, Try.ntmps41
  go_wp2
  clear m0 m1
  go_loopw [2, 3, 4, 5] (fun v i p q wr => ∃ k : Nat, k ≤ N ∧ i = .int .i64 ((k : Int) - high) ∧ Below B0 w wr ∧ w.heap.size ≤ wr.heap.size ∧ wr.ownsRow w.heap.size 3 1 v k (encI ((tickW high climb W).take k)) ∧ wr.ownsRow B0 3 1 vw W.length (encI W) ∧ ∃ vc, wr.heap[g]? = some (.cells #[.int .i64 high, .int .i64 climb, vw, vc] 76 (0, 0)) ∧ wr.ownsRow B0 5 1 vc (bl.length + k) (encB (bl ++ (tickB high climb W).take k))) (fun _ i _ _ _ => (high + 1 - intOf i).toNat)
  case atStart => exact ⟨0, by omega, by simp, Below.refl _ _, Nat.le_refl _, World.ownsRow_nil _ _ _ _, how, vb, hx, by simpa using hob⟩
  case round =>
    clear hx how hob
    obtain ⟨k, hk, rfl, hbw, hsz, ho, how, vc, hx, hob⟩ := hrel
    have hB1 : B0 ≤ wr.heap.size := Nat.le_trans hB0 hsz
    have m0 := blkc hx 0
    have m2 := blkc hx 2
    have m3 := blkc hx 3
    simp at m0 m2 m3
    have z2 := blkf hx 2
    have z3 := blkf hx 3
    by_cases hlt : k < N
    · have hle : decide ((k : Int) - high ≤ high) = true := decide_eq_true (by omega)
      have hxw : Hid (encI ((tickW high climb W).take (k + 1)) = encI ((tickW high climb W).take k) ++ [.int .i64 (bestA high climb W ((k : Int) - high)).2]) := by
        unfold Hid
        rw [tickW, hsL_take high _ k (by rw [← HN.out]; exact hlt)]; simp [encI]
      have hxb : Hid (encB (bl ++ (tickB high climb W).take (k + 1)) = encB (bl ++ (tickB high climb W).take k) ++ [.int .u8 (bestA high climb W ((k : Int) - high)).1]) := by
        unfold Hid
        rw [tickB, hsL_take high _ k (by rw [← HN.out]; exact hlt)]; simp [encB]
      have hstep : Hid (Value.int .i64 ((k : Int) - high + 1) = Value.int .i64 (((k + 1 : Nat) : Int) - high)) := by unfold Hid; congr 1; omega
      have hr0 := bestA_do high climb W ((k : Int) - high)
      have hr1 := bestA_rng (climb := climb) hW hb ((k : Int) - high)
      obtain ⟨t, ht⟩ : ∃ t, t = (k : Int) - high := ⟨_, rfl⟩
      rw [← ht] at hxw hxb hle hstep hr0 hr1 ⊢
      have htb : -high ≤ t ∧ t ≤ high := by omega
      have Ht := hidI ht
      clear ht
      go_wp2_with fail
      refine (adBest_calls g high climb t b W _ (adBeh_of hx how) hW hb hb2 hg0 hg1 hm0 hm1 htb.1 htb.2).mono ?_
      rintro e w1 ⟨rfl, hb1⟩
      generalize bestA high climb W t = s at *
      obtain ⟨sd, sn⟩ := s
      simp only [] at hr0 hr1 hxw hxb ⊢
      have hs1 := hb1.size
      replace hbw := bl2_step hbw hB1 hb1
      replace ho := own_below ho hb1
      replace how := own_below how hb1
      replace hob := own_below hob hb1
      replace hx := bl_block hb1 hx
      replace hsz : w.heap.size ≤ w1.heap.size := Nat.le_trans hsz hs1
      replace hB1 : B0 ≤ w1.heap.size := Nat.le_trans hB1 hs1
      clear hb1 m0 m2 m3 z2 z3 hs1
      have m3 := blkc hx 3
      simp at m3
      have q0 := own_ne_blk hob hx (by decide)
      have hu8 : IntKind.u8.wrap sd = sd := IntWalk.u8_in _ (by omega)
      have n1 := own_ne_type ho hob (by decide)
      have n2 := own_ne_type how hob (by decide)
      have r0 := own_row hob
      go_upto_region 6 with ((at_builtin; refine list_ap (by rfl) _ _ _ (by rfl) B0 5 _ 1 1 Try.underlying35 adInfoB rfl (by omega) vc (bl.length + k) (encB (bl ++ (tickB high climb W).take k)) (by rfl) ?ho _ [.int .u8 sd] (by rfl) rfl ?hG (by simp [Value.oneCell']) (by omega) (by omega) ?hB ?_; (case ho => (repeat (first | with_reducible assumption | with_reducible apply own_drew | with_reducible apply own_alloc | (with_reducible refine own_below ?_ (by assumption)) | (with_reducible refine own_grown ?_ (by assumption) (by assumption))))); (case hG => (repeat (first | with_reducible assumption | with_reducible exact blk_new _ _ | with_reducible apply blk_drew | (with_reducible refine blk_newE ?_; (first | done | (simp; done))) | with_reducible apply blk_put2 | (with_reducible refine blk_far ?_ (by first | omega | (simp; done) | (simp; omega)) _) | with_reducible apply blk_alloc | (with_reducible refine bl_block (by assumption) ?_) | (with_reducible refine blk_grown ?_ (by assumption) (by assumption)) | (with_reducible refine blk_acc (by assumption) ?_ (by assumption))))); (case hB => (simp; omega)); intro g1 c1 w2 hown hgrow hat hlt1; have hx2 := blk_grown (blk_alloc hx _) hgrow q0; have e2 := blkc hx2 3; simp at e2; have f2 := blkf hx2 3))
      have q2 := own_ne_blk hown hx2 (by decide)
      have ho2 := own_grown (own_alloc ho (.cells #[.int .u8 sd] 5)) hgrow n1
      have how2 := own_grown (own_alloc how (.cells #[.int .u8 sd] 5)) hgrow n2
      have hb2' : Below B0 w w2 := (hbw.alloc hB1 (.cells #[.int .u8 sd] 5)).grown hgrow (by simp; omega) r0
      have hs2 : w1.heap.size + 1 ≤ w2.heap.size := by have := hgrow.size; simpa using this
      have p1 := own_ne_blk ho2 hx2 (by decide)
      have p2 := own_ne_blk how2 hx2 (by decide)
      replace ho := own_set ho2 (a := ⟨g, 3, none⟩) p1 (.slice (some ⟨g1, 0, none⟩) (bl.length + k + 1) c1)
      replace how := own_set how2 (a := ⟨g, 3, none⟩) p2 (.slice (some ⟨g1, 0, none⟩) (bl.length + k + 1) c1)
      replace hob := own_set hown (a := ⟨g, 3, none⟩) q2 (.slice (some ⟨g1, 0, none⟩) (bl.length + k + 1) c1)
      replace hx := blk_set hx2 3 (.slice (some ⟨g1, 0, none⟩) (bl.length + k + 1) c1)
      replace hbw := hb2'.setCell (p := ⟨g, 3, none⟩) hB0g (.slice (some ⟨g1, 0, none⟩) (bl.length + k + 1) c1)
      simp at hx
      have hs3 : w1.heap.size + 1 ≤ (w2.setCell ⟨g, 3, none⟩ (.slice (some ⟨g1, 0, none⟩) (bl.length + k + 1) c1)).heap.size := by simpa [World.setCell] using hs2
      clear hb2' ho2 how2 hx2 e2 f2 hown hgrow hat hlt1 p1 p2 n1 n2 q0 q2 r0 m3 hu8 hs2
      generalize w2.setCell ⟨g, 3, none⟩ (.slice (some ⟨g1, 0, none⟩) (bl.length + k + 1) c1) = w3 at *
      have hB3 : B0 ≤ w3.heap.size := by omega
      have hz3 : w.heap.size ≤ w3.heap.size := by omega
      have n1 := own_ne_type how ho
      have n2 := own_ne_type hob ho (by decide)
      have q0 := own_ne_blk ho hx (by decide)
      have r0 := own_row ho
      have n3 : vw.ownBlock = none ∨ vw.ownBlock ≠ u2.ownBlock := by
        cases hv : vw.ownBlock with
        | none => exact Or.inl rfl
        | some kk =>
          refine Or.inr fun e => ?_
          have h1 := HVW.out kk hv
          have h2 := r0 kk e.symm
          omega
      clear n1
      go_wp2_with ((at_builtin; refine list_ap (by rfl) _ _ _ (by rfl) w.heap.size 3 _ 1 8 Try.underlying24 adInfoI rfl (by omega) u2 k (encI ((tickW high climb W).take k)) (by rfl) ?ho _ [.int .i64 sn] (by rfl) rfl ?hG (by simp [Value.oneCell']) (by omega) (by omega) ?hB ?_; (case ho => (repeat (first | with_reducible assumption | with_reducible apply own_drew | with_reducible apply own_alloc | (with_reducible refine own_below ?_ (by assumption)) | (with_reducible refine own_grown ?_ (by assumption) (by assumption))))); (case hG => (repeat (first | with_reducible assumption | with_reducible exact blk_new _ _ | with_reducible apply blk_drew | (with_reducible refine blk_newE ?_; (first | done | (simp; done))) | with_reducible apply blk_put2 | (with_reducible refine blk_far ?_ (by first | omega | (simp; done) | (simp; omega)) _) | with_reducible apply blk_alloc | (with_reducible refine bl_block (by assumption) ?_) | (with_reducible refine blk_grown ?_ (by assumption) (by assumption)) | (with_reducible refine blk_acc (by assumption) ?_ (by assumption))))); (case hB => (simp; omega)); intro g2 c2 w4 hown hgrow hat hlt1))
      have hs4 : w3.heap.size + 1 ≤ w4.heap.size := by have := hgrow.size; simpa using this
      go_roundw
      case rel => exact ⟨k + 1, by omega, hstep.out, (hbw.alloc hB3 _).grown hgrow (by simp; omega) (fun kk h => Nat.le_trans hB0 (r0 kk h)), by omega, by rw [hxw.out]; exact hown, own_grown (own_alloc how _) hgrow n3, _, blk_grown (blk_alloc hx _) hgrow q0, by rw [hxb.out, ← Nat.add_assoc]; exact own_grown (own_alloc hob _) hgrow n2⟩
      case measure => have := Ht.out; simp [intOf]; omega
    · have hkN : k = N := by omega
      subst hkN
      have hle : decide ((k : Int) - high ≤ high) = false := decide_eq_false (by omega)
      have hall : Hid (encI ((tickW high climb W).take k) = encI (tickW high climb W)) := by unfold Hid; rw [HN.out, tickW, hsL_all]
      have halb : Hid ((tickB high climb W).take k = tickB high climb W) := by unfold Hid; rw [HN.out, tickB, hsL_all]
      have hlw : Hid ((tickW high climb W).length = k) := by unfold Hid; rw [HN.out, tickW, List.length_map, hsL_length]
      have hlb : Hid ((tickB high climb W).length = k) := by unfold Hid; rw [HN.out, tickB, List.length_map, hsL_length]
      rw [hall.out] at ho
      rw [halb.out] at hob
      obtain ⟨A1, c1, rfl, -⟩ := own_reads ho
      go_wp2
      have p1 := own_ne_blk ho hx (by decide)
      have p2 := own_ne_blk hob hx (by decide)
      have hx2 := blk_set hx 2 (.slice A1 k c1)
      simp at hx2
      have hW1 := own_set ho (a := ⟨g, 2, none⟩) p1 (.slice A1 k c1)
      have hW2 := own_set hob (a := ⟨g, 2, none⟩) p2 (.slice A1 k c1)
      go_end0
      refine ⟨rfl, ⟨.slice A1 k c1, vc, hx2, ?_, ?_, hB0g, by simpa [World.setCell] using hB1⟩, hbw.setCell (p := ⟨g, 2, none⟩) hB0g _⟩
      · rw [hlw.out]
        exact own_lower hW1 hB0
      · rw [List.length_append, hlb.out]
        exact hW2
end Go.Proofs.Ytjidbjmekpholaa
