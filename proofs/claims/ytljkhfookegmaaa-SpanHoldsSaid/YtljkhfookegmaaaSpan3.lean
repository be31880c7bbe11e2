/- Proved here: lemmas and contracts (what a function of the program computes) that the proofs of the laws of this seat lean on. Conditions: as each theorem states. -/
import Derived.Test.YtljkhfookegmaaaSpan2
import Derived.Test.YtljkhfookegmaaaM1
set_option linter.unusedVariables false
set_option linter.unusedSimpArgs false
namespace Go.Proofs.Ytljkhfookegmaaa
open Go.RowKit Go.Pk
theorem RdS.of_blk {w : World} {g : Nat} {l : List Sp} {t : TypeId} {fr : Nat × Nat} (h : w.heap[g]? = some (.cells (encS l).toArray t fr)) (hn : l.length ≤ 9223372036854775807) : RdS w (some ⟨g, 0, none⟩) l :=
  ⟨hn, fun i u hi => ⟨g, 0, rfl, by rw [Nat.zero_add, blkc h]; simpa using hi⟩⟩
theorem RdI.of_blk {w : World} {g : Nat} {l : List Int} {t : TypeId} {fr : Nat × Nat} (h : w.heap[g]? = some (.cells (encI l).toArray t fr)) (hn : l.length ≤ 9223372036854775807) : RdI w (some ⟨g, 0, none⟩) l :=
  ⟨hn, fun i u hi => ⟨g, 0, rfl, by rw [Nat.zero_add, blkc h]; simpa using hi⟩⟩
theorem Minus_none (p : Option Addr) (a b c d : Int) (w : World) (hs : someB [⟨a, b⟩, ⟨c, d⟩] = false) :
    Calls Try.prog 38 #[.pointer p, .agg #[.int .i64 (a), .int .i64 (b)], .agg #[.int .i64 (c), .int .i64 (d)]] w fun e w' => e = .returned (.agg #[.int .i64 (0), .int .i64 ((-1))]) ∧ Below w.heap.size w w' := by
  go_enter Try.func38, Try.ntmps38
  go_wp2_with fail
  refine (some_calls _ [⟨a, b⟩, ⟨c, d⟩] _ _ ?_).mono ?_
  · refine RdS.of_blk (g := w.heap.size + 1 + 1 + 1) (t := 23) (fr := (0, 0)) ?_ (by simp)
    change _ = some (Obj.cells #[.int .i64 a, .int .i64 b, .int .i64 c, .int .i64 d] 23 (0, 0))
    exact (by (repeat (first | with_reducible assumption | with_reducible exact blk_new _ _ | with_reducible apply blk_drew | (with_reducible refine blk_newE ?_; (first | done | (simp; done))) | with_reducible apply blk_put2 | (with_reducible refine blk_far ?_ (by first | omega | (simp; done) | (simp; omega)) _) | with_reducible apply blk_alloc | (with_reducible refine bl_block (by assumption) ?_) | (with_reducible refine blk_grown ?_ (by assumption) (by assumption)) | (with_reducible refine blk_acc (by assumption) ?_ (by assumption)))))
  rintro e w1 ⟨rfl, hb1⟩
  rw [hs]
  have hk1 : w1.heap[w.heap.size + 1 + 1]? = _ := bl_block (o := .cells #[.int .i64 0, .int .i64 0] 23) hb1 (by (repeat (first | with_reducible assumption | with_reducible exact blk_new _ _ | with_reducible apply blk_drew | (with_reducible refine blk_newE ?_; (first | done | (simp; done))) | with_reducible apply blk_put2 | (with_reducible refine blk_far ?_ (by first | omega | (simp; done) | (simp; omega)) _) | with_reducible apply blk_alloc | (with_reducible refine bl_block (by assumption) ?_) | (with_reducible refine blk_grown ?_ (by assumption) (by assumption)) | (with_reducible refine blk_acc (by assumption) ?_ (by assumption)))))
  go_wp2_with fail
  refine (none_calls _).mono ?_
  rintro e w2 ⟨rfl, hb2⟩
  have hk2 := bl_block hb2 hk1
  obtain ⟨hd0, hd1, hf0, hf1⟩ := blk_two hk2
  go_wp2
  refine bodyPost_ret (results_cell_row rfl _ _ (w.heap.size + 1 + 1) 23 #[.int .i64 (0), .int .i64 ((-1))] (0, 0) _ rfl (by (repeat (first | with_reducible assumption | with_reducible exact blk_new _ _ | with_reducible apply blk_drew | (with_reducible refine blk_newE ?_; (first | done | (simp; done))) | with_reducible apply blk_put2 | (with_reducible refine blk_far ?_ (by first | omega | (simp; done) | (simp; omega)) _) | with_reducible apply blk_alloc | (with_reducible refine bl_block (by assumption) ?_) | (with_reducible refine blk_grown ?_ (by assumption) (by assumption)) | (with_reducible refine blk_acc (by assumption) ?_ (by assumption))))) Try.underlying23 rfl (by kernel_rfl)) rfl ?_
  exact ⟨rfl, (by (repeat (first | with_reducible exact Below.refl _ _ | with_reducible assumption | with_reducible apply bl_alloc | with_reducible apply bl_drew | with_reducible apply bl_drewN | (with_reducible refine bl_set ?_ (by first | omega | (simp; done) | (simp; omega)) _) | (with_reducible refine bl_step ?_ (by assumption)) | (with_reducible refine bl_grown ?_ (by assumption) (by assumption)) | (with_reducible refine bl_own ?_ (by assumption) (by assumption)))))⟩
set_option maxRecDepth 100000 in
theorem Minus_some (p : Option Addr) (o : Bool) (a b c d : Int) (w : World) (hp : AccAt w p o) (hs : someB [⟨a, b⟩, ⟨c, d⟩] = true) (hin : InS [⟨a, b⟩, ⟨c, d⟩]) :
    Calls Try.prog 38 #[.pointer p, .agg #[.int .i64 (a), .int .i64 (b)], .agg #[.int .i64 (c), .int .i64 (d)]] w fun e w' => e = .returned (.agg #[.int .i64 (clampI (a - d)), .int .i64 (clampI (b - c))]) ∧ Below w.heap.size (orCell w p (ovI (a - d) || ovI (b - c))) w' := by
  have h1 := hin ⟨a, b⟩ (by simp)
  have h2 := hin ⟨c, d⟩ (by simp)
  simp only [] at h1 h2
  obtain ⟨⟨ha0, ha1⟩, hb0, hb1⟩ := h1
  obtain ⟨⟨hc0, hc1⟩, hd0, hd1⟩ := h2
  go_enter Try.func38, Try.ntmps38
  go_wp2_with fail
  refine (some_calls _ [⟨a, b⟩, ⟨c, d⟩] _ _ ?_).mono ?_
  · refine RdS.of_blk (g := w.heap.size + 1 + 1 + 1) (t := 23) (fr := (0, 0)) ?_ (by simp)
    change _ = some (Obj.cells #[.int .i64 a, .int .i64 b, .int .i64 c, .int .i64 d] 23 (0, 0))
    exact (by (repeat (first | with_reducible assumption | with_reducible exact blk_new _ _ | with_reducible apply blk_drew | (with_reducible refine blk_newE ?_; (first | done | (simp; done))) | with_reducible apply blk_put2 | (with_reducible refine blk_far ?_ (by first | omega | (simp; done) | (simp; omega)) _) | with_reducible apply blk_alloc | (with_reducible refine bl_block (by assumption) ?_) | (with_reducible refine blk_grown ?_ (by assumption) (by assumption)) | (with_reducible refine blk_acc (by assumption) ?_ (by assumption)))))
  rintro e w1 ⟨rfl, hb1⟩
  rw [hs]
  clear hs
  have hk1 : w1.heap[w.heap.size]? = _ := bl_block (o := .cells #[.int .i64 a, .int .i64 b] 23) hb1 (by (repeat (first | with_reducible assumption | with_reducible exact blk_new _ _ | with_reducible apply blk_drew | (with_reducible refine blk_newE ?_; (first | done | (simp; done))) | with_reducible apply blk_put2 | (with_reducible refine blk_far ?_ (by first | omega | (simp; done) | (simp; omega)) _) | with_reducible apply blk_alloc | (with_reducible refine bl_block (by assumption) ?_) | (with_reducible refine blk_grown ?_ (by assumption) (by assumption)) | (with_reducible refine blk_acc (by assumption) ?_ (by assumption)))))
  have hk2 : w1.heap[w.heap.size + 1]? = _ := bl_block (o := .cells #[.int .i64 c, .int .i64 d] 23) hb1 (by (repeat (first | with_reducible assumption | with_reducible exact blk_new _ _ | with_reducible apply blk_drew | (with_reducible refine blk_newE ?_; (first | done | (simp; done))) | with_reducible apply blk_put2 | (with_reducible refine blk_far ?_ (by first | omega | (simp; done) | (simp; omega)) _) | with_reducible apply blk_alloc | (with_reducible refine bl_block (by assumption) ?_) | (with_reducible refine blk_grown ?_ (by assumption) (by assumption)) | (with_reducible refine blk_acc (by assumption) ?_ (by assumption)))))
  have hk3 : w1.heap[w.heap.size + 1 + 1]? = _ := bl_block (o := .cells #[.int .i64 0, .int .i64 0] 23) hb1 (by (repeat (first | with_reducible assumption | with_reducible exact blk_new _ _ | with_reducible apply blk_drew | (with_reducible refine blk_newE ?_; (first | done | (simp; done))) | with_reducible apply blk_put2 | (with_reducible refine blk_far ?_ (by first | omega | (simp; done) | (simp; omega)) _) | with_reducible apply blk_alloc | (with_reducible refine bl_block (by assumption) ?_) | (with_reducible refine blk_grown ?_ (by assumption) (by assumption)) | (with_reducible refine blk_acc (by assumption) ?_ (by assumption)))))
  have hbw : Below w.heap.size w w1 := (by (repeat (first | with_reducible exact Below.refl _ _ | with_reducible assumption | with_reducible apply bl_alloc | with_reducible apply bl_drew | with_reducible apply bl_drewN | (with_reducible refine bl_set ?_ (by first | omega | (simp; done) | (simp; omega)) _) | (with_reducible refine bl_step ?_ (by assumption)) | (with_reducible refine bl_grown ?_ (by assumption) (by assumption)) | (with_reducible refine bl_own ?_ (by assumption) (by assumption)))))
  have hp1 := AccAt.below hp hbw
  have n0 := hp.ne (g := w.heap.size) (by omega)
  have n1 := hp.ne (g := w.heap.size + 1) (by omega)
  have n2 := hp.ne (g := w.heap.size + 1 + 1) (by omega)
  clear hb1
  have q1 : ¬ w.heap.size = w.heap.size + 1 + 1 := by omega
  have q2 : ¬ w.heap.size + 1 + 1 = w.heap.size := by omega
  go_wp2_with fail
  have m1 := blk_two hk1
  have m2 := blk_two hk2
  go_region_held3 (fun w' => w'.cell? ⟨w.heap.size, 0, none⟩ = some (.int .i64 a) ∧ w'.cell? ⟨w.heap.size, 1, none⟩ = some (.int .i64 b) ∧ w'.cell? ⟨w.heap.size + 1, 0, none⟩ = some (.int .i64 c) ∧ w'.cell? ⟨w.heap.size + 1, 1, none⟩ = some (.int .i64 d)) (go_keep) (first | (go_at_call 64; refine (acc_calls _ _).mono ?_; rintro e w9 ⟨rfl, hw9⟩; obtain rfl := hw9) | (go_at_call 19; ((with_reducible refine (Sub_calls _ a d o _ ?_ ha0 ha1 hd0 hd1).mono ?_); exact hp1; rintro e w3 ⟨rfl, hb3⟩; have hk31 := blk_acc hb3 (blk_drew hk1) n0; have hk32 := blk_acc hb3 (blk_drew hk2) n1; have hk33 := blk_acc hb3 (blk_drew hk3) n2; have hp3 := AccAt.or (w := w1.drew) hp1 hb3; have m3 := blk_two hk31; have m4 := blk_two hk32; have m5 := blk_two hk33)) | (go_at_call 19; ((with_reducible refine (Sub_calls _ b c _ _ hp3 hb0 hb1 hc0 hc1).mono ?_); rintro e w4 ⟨rfl, hb4⟩; have hk41 := blk_acc hb4 hk31 n0; have hk42 := blk_acc hb4 hk32 n1; have hk43 := blk_acc hb4 hk33 n2; have m6 := blk_two hk41; have m7 := blk_two hk42; have m8 := blk_two hk43)))
  go_wp2
  refine bodyPost_ret (results_cell_row rfl _ _ (w.heap.size + 1 + 1) 23 #[.int .i64 (clampI (a - d)), .int .i64 (clampI (b - c))] (0, 0) _ rfl (by (repeat (first | with_reducible assumption | with_reducible exact blk_new _ _ | with_reducible apply blk_drew | (with_reducible refine blk_newE ?_; (first | done | (simp; done))) | with_reducible apply blk_put2 | (with_reducible refine blk_far ?_ (by first | omega | (simp; done) | (simp; omega)) _) | with_reducible apply blk_alloc | (with_reducible refine bl_block (by assumption) ?_) | (with_reducible refine blk_grown ?_ (by assumption) (by assumption)) | (with_reducible refine blk_acc (by assumption) ?_ (by assumption))))) Try.underlying23 rfl (by kernel_rfl)) rfl ?_
  exact ⟨rfl, bl_orSet (bl_orSet (bl_or2 (bl_thenOr (bl_drew hbw) hb3) hb4) (by first | omega | (simp; done) | (simp; omega)) _) (by first | omega | (simp; done) | (simp; omega)) _⟩
end Go.Proofs.Ytljkhfookegmaaa
