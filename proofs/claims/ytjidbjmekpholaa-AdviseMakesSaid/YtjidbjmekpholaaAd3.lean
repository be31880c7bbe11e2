/- Proved here: lemmas and contracts (what a function of the program computes) that the proofs of the laws of this seat lean on. Conditions: as each theorem states. -/
import Derived.Test.YtjidbjmekpholaaAd2
set_option linter.unusedVariables false
set_option linter.unusedSimpArgs false
namespace Go.Pk
open Go.RowKit
def encB (l : List Int) : List Value := l.map (Value.int .u8)
theorem own_ne_type {w : World} {b b' n n' s s' : Nat} {e e' : TypeId} {v v' : Value} {xs xs' : List Value} (h : w.ownsRow b e s v n xs) (h' : w.ownsRow b' e' s' v' n' xs') (hne : e ≠ e') : v.ownBlock = none ∨ v.ownBlock ≠ v'.ownBlock := by
  rcases h.2 with ⟨rfl, _⟩ | ⟨g, cap, cur, rfl, _, hh, _⟩
  · exact Or.inl rfl
  · refine Or.inr fun e1 => ?_
    rcases h'.2 with ⟨rfl, _⟩ | ⟨g', cap', cur', rfl, _, hh', _⟩
    · cases e1
    · have : g = g' := by simpa [Value.ownBlock] using e1
      subst this
      rw [hh] at hh'
      injection hh' with hh'
      injection hh' with _ h3 _
      exact hne h3
theorem own_ne_blk {w : World} {b n s g : Nat} {e t : TypeId} {v : Value} {xs : List Value} {cs : Array Value} {fr : Nat × Nat} (h : w.ownsRow b e s v n xs) (h' : w.heap[g]? = some (.cells cs t fr)) (hne : t ≠ e) : some g ≠ v.ownBlock := by
  intro e1
  rcases h.2 with ⟨rfl, _⟩ | ⟨g', cap, cur, rfl, _, hh, _⟩
  · cases e1
  · have : g = g' := by simpa [Value.ownBlock] using e1
    subst this
    rw [hh] at h'
    injection h' with h'
    injection h' with _ h3 _
    exact hne h3.symm
theorem own_below2 {B : Nat} {w w1 : World} {base n : Nat} {e : TypeId} {size : Nat} {v : Value} {xs : List Value} (h : w.ownsRow base e size v n xs) (hb : Below w.heap.size w w1) : w1.ownsRow base e size v n xs := own_below h hb
theorem bl2_step {B : Nat} {w W W1 : World} (h : Below B w W) (hB : B ≤ W.heap.size) (k : Below W.heap.size W W1) : Below B w W1 :=
  h.trans ⟨k.os, k.tape, k.output, k.size, fun i hi => k.block i (Nat.lt_of_lt_of_le hi hB)⟩
theorem own_made (w : World) {g base N : Nat} {e : TypeId} {z : Value} (h : w.heap[g]? = some (.cells (madeCells #[z] N) e (0, 0))) (hb : base ≤ g) (hN : N ≤ maxLen) : w.ownsRow base e 1 (.slice (some ⟨g, 0, none⟩) N N) N (List.replicate N z) := by
  have hm : madeCells #[z] N = Array.replicate N z := by
    apply Array.ext
    · simp [madeCells]
    · intro i h1 h2
      simp [madeCells, Nat.mod_one]
  rw [hm] at h
  exact ⟨by simp, Or.inr ⟨g, N, _, rfl, hb, h, Nat.le_refl _, hN, by simp, by simp⟩⟩
namespace Ad
theorem hsL_take (high : Int) (f : Int → Int) (k : Nat) (h : k < (2 * high + 1).toNat) : ((hsL high).map f).take (k + 1) = ((hsL high).map f).take k ++ [f ((k : Int) - high)] := by
  have hl : k < ((hsL high).map f).length := by rw [List.length_map, hsL_length]; exact h
  rw [List.take_succ_eq_append_getElem hl]
  congr 2
  simp [hsL, hsN]
theorem hsL_all (high : Int) (f : Int → Int) : ((hsL high).map f).take (2 * high + 1).toNat = (hsL high).map f := List.take_of_length_le (by rw [List.length_map, hsL_length]; exact Nat.le_refl _)
theorem hsL_takelen (high : Int) (f : Int → Int) (k : Nat) (h : k ≤ (2 * high + 1).toNat) : (((hsL high).map f).take k).length = k := by rw [List.length_take, List.length_map, hsL_length]; omega
end Ad
end Go.Pk
namespace Go.Proofs.Ytjidbjmekpholaa
open Go.RowKit Go.Pk Go.Pk.Ad Go.Proofs.YtjidbjmekpholaaW.PrintMore
attribute [local go_sem] max2_int min2_int max_two min_two
theorem adInfoI : (Try.prog.info? 3).map (fun i => (i.zero, i.size, i.bytes)) = some (some (.int .i64 0), 1, 8) := by kernel_rfl
theorem adInfoB : (Try.prog.info? 5).map (fun i => (i.zero, i.size, i.bytes)) = some (some (.int .u8 0), 1, 1) := by kernel_rfl
def AdEndPost (w : World) (high near climb : Int) (e : Ending) (w' : World) : Prop := ∃ v, e = .returned (.agg #[.int .i64 high, .int .i64 climb, v]) ∧ w'.ownsRow w.heap.size 3 1 v (2 * high + 1).toNat (encI (endW high near)) ∧ Below w.heap.size w w'
set_option maxHeartbeats 1000000 in
set_option maxRecDepth 100000 in
theorem adEnd_calls (high near climb : Int) (w : World) (hg0 : 1 ≤ high) (hg1 : high ≤ 60) (hn0 : 0 ≤ near) (hn1 : near ≤ 1000) (hm0 : 0 ≤ climb) (hm1 : climb ≤ 1000) :
    Calls Try.prog 40 #[.int .i64 high, .int .i64 near, .int .i64 climb] w (AdEndPost w high near climb) := by
  obtain ⟨N, hN⟩ : ∃ N, N = (2 * high + 1).toNat := ⟨_, rfl⟩
  have hN2 : (N : Int) ≤ 2 * high + 1 ∧ 2 * high + 1 ≤ (N : Int) := by omega
  have HN := hidI hN
  clear hN
  go_enter Try.func40, Try.ntmps40
  go_wp2
  go_loopw [8, 9] (fun i n wr => ∃ k : Nat, k ≤ N ∧ i = .int .i64 ((k : Int) - high) ∧ Below w.heap.size w wr ∧ ∃ v, wr.heap[w.heap.size]? = some (.cells #[.int .i64 0, .int .i64 0, .slice none 0 0] 73 (0, 0)) ∧ wr.heap[w.heap.size + 1]? = some (.cells #[.int .i64 high, .int .i64 climb, v] 73 (0, 0)) ∧ wr.ownsRow w.heap.size 3 1 v k (encI ((endW high near).take k))) (fun i _ _ => (high + 1 - intOf i).toNat)
  case atStart => exact ⟨0, by omega, by simp, (by (repeat (first | with_reducible exact Below.refl _ _ | with_reducible assumption | with_reducible apply bl_alloc | with_reducible apply bl_drew | with_reducible apply bl_drewN | (with_reducible refine bl_set ?_ (by first | omega | (simp; done) | (simp; omega)) _) | (with_reducible refine bl_step ?_ (by assumption)) | (with_reducible refine bl_grown ?_ (by assumption) (by assumption)) | (with_reducible refine bl_own ?_ (by assumption) (by assumption))))), .slice none 0 0, (by (repeat (first | with_reducible assumption | with_reducible exact blk_new _ _ | with_reducible apply blk_drew | (with_reducible refine blk_newE ?_; (first | done | (simp; done))) | with_reducible apply blk_put2 | (with_reducible refine blk_far ?_ (by first | omega | (simp; done) | (simp; omega)) _) | with_reducible apply blk_alloc | (with_reducible refine bl_block (by assumption) ?_) | (with_reducible refine blk_grown ?_ (by assumption) (by assumption)) | (with_reducible refine blk_acc (by assumption) ?_ (by assumption))))), (by (repeat (first | with_reducible assumption | with_reducible exact blk_new _ _ | with_reducible apply blk_drew | (with_reducible refine blk_newE ?_; (first | done | (simp; done))) | with_reducible apply blk_put2 | (with_reducible refine blk_far ?_ (by first | omega | (simp; done) | (simp; omega)) _) | with_reducible apply blk_alloc | (with_reducible refine bl_block (by assumption) ?_) | (with_reducible refine blk_grown ?_ (by assumption) (by assumption)) | (with_reducible refine blk_acc (by assumption) ?_ (by assumption))))), World.ownsRow_nil _ _ _ _⟩
  case round =>
    obtain ⟨k, hk, rfl, hbw, v, hr, hx, ho⟩ := hrel
    have m0 := blkc hx 0
    have m1 := blkc hx 1
    have m2 := blkc hx 2
    simp at m0 m1 m2
    have z2 := blkf hx 2
    have q0 := own_ne_blk ho hx (by decide)
    have q1 := own_ne_blk ho hr (by decide)
    by_cases hlt : k < N
    · have hle : decide ((k : Int) - high ≤ high) = true := decide_eq_true (by omega)
      have hx1 : Hid (encI ((endW high near).take (k + 1)) = encI ((endW high near).take k) ++ [.int .i64 (nearV near ((k : Int) - high))]) := by
        unfold Hid
        rw [endW, hsL_take high _ k (by rw [← HN.out]; exact hlt)]; simp [encI]
      have hstep : Hid (Value.int .i64 ((k : Int) - high + 1) = Value.int .i64 (((k + 1 : Nat) : Int) - high)) := by unfold Hid; congr 1; omega
      obtain ⟨t, ht⟩ : ∃ t, t = (k : Int) - high := ⟨_, rfl⟩
      rw [← ht] at hx1 hle hstep ⊢
      have htb : -high ≤ t ∧ t ≤ high := by omega
      have Ht := hidI ht
      clear ht
      by_cases hs : t < -t
      · by_cases hc : -t < near
        · have hv : nearV near t = 1000 := by unfold nearV; rw [if_pos]; omega
          rw [hv] at hx1
          clear hv
          go_wp2_with ((at_builtin; refine list_ap (by rfl) _ _ _ (by rfl) w.heap.size 3 _ 1 8 Try.underlying24 adInfoI rfl (by omega) v k (encI ((endW high near).take k)) (by rfl) ?ho _ [.int .i64 1000] (by rfl) rfl ?hG (by simp [Value.oneCell']) (by omega) (by omega) ?hB ?_; (case ho => (repeat (first | with_reducible assumption | with_reducible apply own_drew | with_reducible apply own_alloc | (with_reducible refine own_below ?_ (by assumption)) | (with_reducible refine own_grown ?_ (by assumption) (by assumption))))); (case hG => (repeat (first | with_reducible assumption | with_reducible exact blk_new _ _ | with_reducible apply blk_drew | (with_reducible refine blk_newE ?_; (first | done | (simp; done))) | with_reducible apply blk_put2 | (with_reducible refine blk_far ?_ (by first | omega | (simp; done) | (simp; omega)) _) | with_reducible apply blk_alloc | (with_reducible refine bl_block (by assumption) ?_) | (with_reducible refine blk_grown ?_ (by assumption) (by assumption)) | (with_reducible refine blk_acc (by assumption) ?_ (by assumption))))); (case hB => (have h_ := hbw.size; simp; omega)); intro g1 c1 w2 hown hgrow hat hlt1; have hx2 := blk_grown (blk_alloc hx _) hgrow q0; have hr2 := blk_grown (blk_alloc hr _) hgrow q1; have e2 := blkc hx2 2; simp at e2; have f2 := blkf hx2 2; have q2 := own_ne_blk hown hx2 (by decide)))
          have r1 := own_row ho
          have hbF : Below w.heap.size w w2 := (by (repeat (first | with_reducible exact Below.refl _ _ | with_reducible assumption | with_reducible apply bl_alloc | with_reducible apply bl_drew | with_reducible apply bl_drewN | (with_reducible refine bl_set ?_ (by first | omega | (simp; done) | (simp; omega)) _) | (with_reducible refine bl_step ?_ (by assumption)) | (with_reducible refine bl_grown ?_ (by assumption) (by assumption)) | (with_reducible refine bl_own ?_ (by assumption) (by assumption)))))
          go_roundw
          case rel => exact ⟨k + 1, by omega, hstep.out, bl_set hbF (by simp) _, _, blk_far hr2 (by simp) _, by simpa using blk_set hx2 2 (.slice (some ⟨g1, 0, none⟩) (k + 1) c1), by rw [hx1.out]; exact own_set hown (a := ⟨w.heap.size + 1, 2, none⟩) q2 _⟩
          case measure => have := Ht.out; simp [intOf]; omega
        · have hv : nearV near t = 0 := by unfold nearV; rw [if_neg]; omega
          rw [hv] at hx1
          clear hv
          go_wp2_with ((at_builtin; refine list_ap (by rfl) _ _ _ (by rfl) w.heap.size 3 _ 1 8 Try.underlying24 adInfoI rfl (by omega) v k (encI ((endW high near).take k)) (by rfl) ?ho _ [.int .i64 0] (by rfl) rfl ?hG (by simp [Value.oneCell']) (by omega) (by omega) ?hB ?_; (case ho => (repeat (first | with_reducible assumption | with_reducible apply own_drew | with_reducible apply own_alloc | (with_reducible refine own_below ?_ (by assumption)) | (with_reducible refine own_grown ?_ (by assumption) (by assumption))))); (case hG => (repeat (first | with_reducible assumption | with_reducible exact blk_new _ _ | with_reducible apply blk_drew | (with_reducible refine blk_newE ?_; (first | done | (simp; done))) | with_reducible apply blk_put2 | (with_reducible refine blk_far ?_ (by first | omega | (simp; done) | (simp; omega)) _) | with_reducible apply blk_alloc | (with_reducible refine bl_block (by assumption) ?_) | (with_reducible refine blk_grown ?_ (by assumption) (by assumption)) | (with_reducible refine blk_acc (by assumption) ?_ (by assumption))))); (case hB => (have h_ := hbw.size; simp; omega)); intro g1 c1 w2 hown hgrow hat hlt1; have hx2 := blk_grown (blk_alloc hx _) hgrow q0; have hr2 := blk_grown (blk_alloc hr _) hgrow q1; have e2 := blkc hx2 2; simp at e2; have f2 := blkf hx2 2; have q2 := own_ne_blk hown hx2 (by decide)))
          have r1 := own_row ho
          have hbF : Below w.heap.size w w2 := (by (repeat (first | with_reducible exact Below.refl _ _ | with_reducible assumption | with_reducible apply bl_alloc | with_reducible apply bl_drew | with_reducible apply bl_drewN | (with_reducible refine bl_set ?_ (by first | omega | (simp; done) | (simp; omega)) _) | (with_reducible refine bl_step ?_ (by assumption)) | (with_reducible refine bl_grown ?_ (by assumption) (by assumption)) | (with_reducible refine bl_own ?_ (by assumption) (by assumption)))))
          go_roundw
          case rel => exact ⟨k + 1, by omega, hstep.out, bl_set hbF (by simp) _, _, blk_far hr2 (by simp) _, by simpa using blk_set hx2 2 (.slice (some ⟨g1, 0, none⟩) (k + 1) c1), by rw [hx1.out]; exact own_set hown (a := ⟨w.heap.size + 1, 2, none⟩) q2 _⟩
          case measure => have := Ht.out; simp [intOf]; omega
      · by_cases hc : t < near
        · have hv : nearV near t = 1000 := by unfold nearV; rw [if_pos]; omega
          rw [hv] at hx1
          clear hv
          go_wp2_with ((at_builtin; refine list_ap (by rfl) _ _ _ (by rfl) w.heap.size 3 _ 1 8 Try.underlying24 adInfoI rfl (by omega) v k (encI ((endW high near).take k)) (by rfl) ?ho _ [.int .i64 1000] (by rfl) rfl ?hG (by simp [Value.oneCell']) (by omega) (by omega) ?hB ?_; (case ho => (repeat (first | with_reducible assumption | with_reducible apply own_drew | with_reducible apply own_alloc | (with_reducible refine own_below ?_ (by assumption)) | (with_reducible refine own_grown ?_ (by assumption) (by assumption))))); (case hG => (repeat (first | with_reducible assumption | with_reducible exact blk_new _ _ | with_reducible apply blk_drew | (with_reducible refine blk_newE ?_; (first | done | (simp; done))) | with_reducible apply blk_put2 | (with_reducible refine blk_far ?_ (by first | omega | (simp; done) | (simp; omega)) _) | with_reducible apply blk_alloc | (with_reducible refine bl_block (by assumption) ?_) | (with_reducible refine blk_grown ?_ (by assumption) (by assumption)) | (with_reducible refine blk_acc (by assumption) ?_ (by assumption))))); (case hB => (have h_ := hbw.size; simp; omega)); intro g1 c1 w2 hown hgrow hat hlt1; have hx2 := blk_grown (blk_alloc hx _) hgrow q0; have hr2 := blk_grown (blk_alloc hr _) hgrow q1; have e2 := blkc hx2 2; simp at e2; have f2 := blkf hx2 2; have q2 := own_ne_blk hown hx2 (by decide)))
          have r1 := own_row ho
          have hbF : Below w.heap.size w w2 := (by (repeat (first | with_reducible exact Below.refl _ _ | with_reducible assumption | with_reducible apply bl_alloc | with_reducible apply bl_drew | with_reducible apply bl_drewN | (with_reducible refine bl_set ?_ (by first | omega | (simp; done) | (simp; omega)) _) | (with_reducible refine bl_step ?_ (by assumption)) | (with_reducible refine bl_grown ?_ (by assumption) (by assumption)) | (with_reducible refine bl_own ?_ (by assumption) (by assumption)))))
          go_roundw
          case rel => exact ⟨k + 1, by omega, hstep.out, bl_set hbF (by simp) _, _, blk_far hr2 (by simp) _, by simpa using blk_set hx2 2 (.slice (some ⟨g1, 0, none⟩) (k + 1) c1), by rw [hx1.out]; exact own_set hown (a := ⟨w.heap.size + 1, 2, none⟩) q2 _⟩
          case measure => have := Ht.out; simp [intOf]; omega
        · have hv : nearV near t = 0 := by unfold nearV; rw [if_neg]; omega
          rw [hv] at hx1
          clear hv
          go_wp2_with ((at_builtin; refine list_ap (by rfl) _ _ _ (by rfl) w.heap.size 3 _ 1 8 Try.underlying24 adInfoI rfl (by omega) v k (encI ((endW high near).take k)) (by rfl) ?ho _ [.int .i64 0] (by rfl) rfl ?hG (by simp [Value.oneCell']) (by omega) (by omega) ?hB ?_; (case ho => (repeat (first | with_reducible assumption | with_reducible apply own_drew | with_reducible apply own_alloc | (with_reducible refine own_below ?_ (by assumption)) | (with_reducible refine own_grown ?_ (by assumption) (by assumption))))); (case hG => (repeat (first | with_reducible assumption | with_reducible exact blk_new _ _ | with_reducible apply blk_drew | (with_reducible refine blk_newE ?_; (first | done | (simp; done))) | with_reducible apply blk_put2 | (with_reducible refine blk_far ?_ (by first | omega | (simp; done) | (simp; omega)) _) | with_reducible apply blk_alloc | (with_reducible refine bl_block (by assumption) ?_) | (with_reducible refine blk_grown ?_ (by assumption) (by assumption)) | (with_reducible refine blk_acc (by assumption) ?_ (by assumption))))); (case hB => (have h_ := hbw.size; simp; omega)); intro g1 c1 w2 hown hgrow hat hlt1; have hx2 := blk_grown (blk_alloc hx _) hgrow q0; have hr2 := blk_grown (blk_alloc hr _) hgrow q1; have e2 := blkc hx2 2; simp at e2; have f2 := blkf hx2 2; have q2 := own_ne_blk hown hx2 (by decide)))
          have r1 := own_row ho
          have hbF : Below w.heap.size w w2 := (by (repeat (first | with_reducible exact Below.refl _ _ | with_reducible assumption | with_reducible apply bl_alloc | with_reducible apply bl_drew | with_reducible apply bl_drewN | (with_reducible refine bl_set ?_ (by first | omega | (simp; done) | (simp; omega)) _) | (with_reducible refine bl_step ?_ (by assumption)) | (with_reducible refine bl_grown ?_ (by assumption) (by assumption)) | (with_reducible refine bl_own ?_ (by assumption) (by assumption)))))
          go_roundw
          case rel => exact ⟨k + 1, by omega, hstep.out, bl_set hbF (by simp) _, _, blk_far hr2 (by simp) _, by simpa using blk_set hx2 2 (.slice (some ⟨g1, 0, none⟩) (k + 1) c1), by rw [hx1.out]; exact own_set hown (a := ⟨w.heap.size + 1, 2, none⟩) q2 _⟩
          case measure => have := Ht.out; simp [intOf]; omega
    · have hkN : k = N := by omega
      subst hkN
      have hle : decide ((k : Int) - high ≤ high) = false := decide_eq_false (by omega)
      have hall : Hid (encI ((endW high near).take k) = encI (endW high near)) := by unfold Hid; rw [HN.out, endW, hsL_all]
      have y0 := blkc hr 0
      have y1 := blkc hr 1
      have y2 := blkc hr 2
      simp at y0 y1 y2
      have z0 := blkf hr 0
      have z1 := blkf hr 1
      have z3 := blkf hr 2
      obtain ⟨A1, c1, rfl, hlen1⟩ : ∃ A1 c1, v = .slice A1 k c1 ∧ True := by
        obtain ⟨A1, c1, h1, h2, h3⟩ := own_reads ho
        exact ⟨A1, c1, h1, trivial⟩
      go_wp2
      have hF := blk_set (blk_set (blk_set hr 0 (.int .i64 high)) 1 (.int .i64 climb)) 2 (.slice A1 k c1)
      refine bodyPost_ret (results_cell_row rfl _ _ w.heap.size 73 #[.int .i64 high, .int .i64 climb, .slice A1 k c1] (0, 0) _ rfl (by simpa using hF) Try.underlying73 rfl (by kernel_rfl)) rfl ?_
      refine ⟨_, rfl, ?_, (by (repeat (first | with_reducible exact Below.refl _ _ | with_reducible assumption | with_reducible apply bl_alloc | with_reducible apply bl_drew | with_reducible apply bl_drewN | (with_reducible refine bl_set ?_ (by first | omega | (simp; done) | (simp; omega)) _) | (with_reducible refine bl_step ?_ (by assumption)) | (with_reducible refine bl_grown ?_ (by assumption) (by assumption)) | (with_reducible refine bl_own ?_ (by assumption) (by assumption)))))⟩
      rw [← HN.out, ← hall.out]
      exact own_set (own_set (own_set ho (a := ⟨w.heap.size, 0, none⟩) q1 _) (a := ⟨w.heap.size, 1, none⟩) q1 _) (a := ⟨w.heap.size, 2, none⟩) q1 _
end Go.Proofs.Ytjidbjmekpholaa
