/- Proved here: lemmas and contracts (what a function of the program computes) that the proofs of the laws of this seat lean on. Conditions: as each theorem states. -/
import Derived.Test.YtjidbjmekpholaaChecked
import Derived.Test.YtjidbjmekpholaaA1
import Derived.Test.YtjidbjmekpholaaM0
import Derived.Test.YtjidbjmekpholaaWMoreX
import Derived.Test.YtjidbjmekpholaaWWords
import Derived.Laws.MakeOwn
import Derived.Laws.BytesArg
import Derived.Outline
set_option linter.unusedVariables false
set_option linter.unusedSimpArgs false
namespace Go.Pk.Fx
/-- So many low bytes of a number are laid, from behind. -/
def cont (v : Int) (N k : Nat) : List Int := (List.range N).map fun j => if N - 1 - j < k then (v / 256 ^ (N - 1 - j)) % 256 else 0
def contA (v : Int) (N k : Nat) : Array Value := ((cont v N k).map (Value.int .u8)).toArray
def putL (v : Int) (N : Nat) : List Int := (List.range N).map fun j => (v / 256 ^ (N - 1 - j)) % 256
theorem cont_all (v : Int) (N : Nat) : cont v N N = putL v N := by
  unfold cont putL
  refine List.map_congr_left fun j hj => ?_
  have := List.mem_range.1 hj
  rw [if_pos (by omega)]
theorem contA_at (v : Int) (N k i : Nat) (h : i < N) : (contA v N k)[i]? = some (.int .u8 (if N - 1 - i < k then (v / 256 ^ (N - 1 - i)) % 256 else 0)) := by
  simp [contA, cont, h]
theorem contA_zero (v : Int) (N : Nat) : contA v N 0 = Array.replicate N (.int .u8 0) := by
  apply Array.ext_getElem?
  intro i
  by_cases hi : i < N
  · rw [contA_at _ _ _ _ hi]; simp [hi]
  · rw [Array.getElem?_eq_none (by simp [contA, cont]; omega), Array.getElem?_eq_none (by simp; omega)]
theorem made_rep (z : Value) (N : Nat) : madeCells #[z] N = Array.replicate N z := by
  apply Array.ext
  · simp [madeCells]
  · intro i h1 h2
    simp [madeCells, Nat.mod_one]
theorem pow256 (k : Nat) : (256 : Int) ^ k = 2 ^ (8 * k) := by rw [Int.pow_mul]; rfl
theorem contA_own (v : Int) (N : Nat) (w : World) {g : Nat} {t : TypeId} (h : w.heap[g]? = some (.cells (contA v N N) t (0, 0))) (hN : N ≤ maxLen) : w.ownsRow g t 1 (.slice (some ⟨g, 0, none⟩) N N) N ((putL v N).map (Value.int .u8)) := by
  have e : (contA v N N).toList = (putL v N).map (Value.int .u8) := by unfold contA; rw [cont_all]
  refine ⟨by simp [putL], Or.inr ⟨g, N, _, rfl, Nat.le_refl _, h, Nat.le_refl _, hN, by simp [contA, cont], ?_⟩⟩
  rw [e, List.take_of_length_le (by simp [putL])]
theorem contA_set (v : Int) (N k : Nat) (h : k < N) : (contA v N k).setIfInBounds (N - 1 - k) (.int .u8 ((v / 256 ^ k) % 256)) = contA v N (k + 1) := by
  apply Array.ext_getElem?
  intro i
  by_cases hi : i < N
  · rw [contA_at _ _ _ _ hi, Array.getElem?_setIfInBounds]
    have hs : (contA v N k).size = N := by simp [contA, cont]
    by_cases he : N - 1 - k = i
    · rw [if_pos he, if_pos (by omega), if_pos (by omega)]
      rw [show N - 1 - i = k by omega]
    · rw [if_neg he, contA_at _ _ _ _ hi]
      by_cases h2 : N - 1 - i < k
      · rw [if_pos h2, if_pos (by omega)]
      · rw [if_neg h2, if_neg (by omega)]
  · rw [Array.getElem?_eq_none (by simp [contA, cont]; omega), Array.getElem?_eq_none (by simp [contA, cont]; omega)]
end Go.Pk.Fx
namespace Go.Proofs.Ytjidbjmekpholaa
open Go.RowKit Go.Pk Go.Pk.Fx Go.Proofs.YtjidbjmekpholaaW.PrintMore
theorem fxInfoB : (Try.prog.info? 5).map (fun i => (i.zero, i.size, i.bytes)) = some (some (.int .u8 0), 1, 1) := by kernel_rfl
set_option maxRecDepth 100000 in
set_option maxHeartbeats 1000000 in
theorem fxPut5 (v : Int) (w : World) (hv : v / 549755813888 = 0) : Calls Try.prog 33 #[.int .i64 v, .int .i64 5] w fun e w' => e = .returned (.tuple #[.string (strOfNums (putL v 5)), .int .i64 0]) ∧ Below w.heap.size w w' := by
  obtain ⟨ib, hib, hz0, hz1, hz2⟩ := info_parts fxInfoB
  go_enter Try.func33, Try.ntmps33
  have hmk : ∀ W : World, (Instr.makeSlice 35 (.int .i64 5) (.int .i64 5)).run Try.prog W = .ok (.slice (some ⟨W.heap.size, 0, none⟩) 5 5) (W.alloc (.cells (contA v 5 0) 5)) := by
    intro W
    have h := run_make (P := Try.prog) W 35 5 ib (.int .u8 0) Try.underlying35 hib hz0 .i64 .i64 5 5 (by omega) (by omega) (by rw [hz2]; omega) (by omega)
    rw [h, hz1, contA_zero]
    have e := made_rep (.int .u8 0) 5
    simp only [Value.cells, Nat.mul_one]
    show Result.ok _ (W.alloc (.cells (madeCells #[.int .u8 0] 5) 5)) = _
    rw [e]
    rfl
  go_wp2
  clear hmk
  go_loopw [7, 38] (fun p i wr => ∃ k : Nat, k ≤ 5 ∧ i = .int .i64 k ∧ Below w.heap.size w wr ∧ wr.heap[w.heap.size]? = some (.cells (contA v 5 k) 5 (0, 0))) (fun _ i _ => (5 - intOf i).toNat)
  case atStart => exact ⟨0, by omega, rfl, (by (repeat (first | with_reducible exact Below.refl _ _ | with_reducible assumption | with_reducible apply bl_alloc | with_reducible apply bl_drew | with_reducible apply bl_drewN | (with_reducible refine bl_set ?_ (by first | omega | (simp; done) | (simp; omega)) _) | (with_reducible refine bl_step ?_ (by assumption)) | (with_reducible refine bl_grown ?_ (by assumption) (by assumption)) | (with_reducible refine bl_own ?_ (by assumption) (by assumption))))), blk_new _ _⟩
  case round =>
    obtain ⟨k, hk, rfl, hbw, hx⟩ := hrel
    by_cases hlt : k < 5
    · have hc := blkc hx (5 - 1 - k)
      rw [contA_at v 5 k _ (by omega)] at hc
      have hz := blkf hx (5 - 1 - k)
      go_wp2
      have hF := blk_set hx (5 - 1 - k) (.int .u8 ((v / 256 ^ k) % 256))
      rw [contA_set v 5 k (by omega), pow256] at hF
      go_roundw
      case rel => exact ⟨k + 1, by omega, by go_num, bl_set hbw (by simp) _, hF⟩
      case measure => simp [intOf]; omega
    · have hkN : k = 5 := by omega
      subst hkN
      have hown : wr.ownsRow w.heap.size 5 1 (.slice (some ⟨w.heap.size, 0, none⟩) 5 5) 5 ((putL v 5).map (Value.int .u8)) := contA_own v 5 wr hx (by decide)
      have hcv : (convert 35 9 (.slice (some ⟨w.heap.size, 0, none⟩) 5 5)).run Try.prog wr = .ok (.string (strOfNums (putL v 5))) wr := Go.Proofs.YtjidbjmekpholaaW.PrintWords.own_string Try.underlying35 Try.underlying5 Try.underlying9 hown
      obtain ⟨S, hS⟩ : ∃ S, Hid (strOfNums (putL v 5) = S) := ⟨_, rfl⟩
      rw [hS.out] at hcv
      go_wp2
      go_ret2
      exact ⟨by rw [hS.out]; rfl, hbw⟩
set_option maxRecDepth 100000 in
set_option maxHeartbeats 1000000 in
theorem fxPut5m (v : Int) (w : World) (hv : v / 549755813888 = -1) : Calls Try.prog 33 #[.int .i64 v, .int .i64 5] w fun e w' => e = .returned (.tuple #[.string (strOfNums (putL v 5)), .int .i64 0]) ∧ Below w.heap.size w w' := by
  obtain ⟨ib, hib, hz0, hz1, hz2⟩ := info_parts fxInfoB
  go_enter Try.func33, Try.ntmps33
  have hmk : ∀ W : World, (Instr.makeSlice 35 (.int .i64 5) (.int .i64 5)).run Try.prog W = .ok (.slice (some ⟨W.heap.size, 0, none⟩) 5 5) (W.alloc (.cells (contA v 5 0) 5)) := by
    intro W
    have h := run_make (P := Try.prog) W 35 5 ib (.int .u8 0) Try.underlying35 hib hz0 .i64 .i64 5 5 (by omega) (by omega) (by rw [hz2]; omega) (by omega)
    rw [h, hz1, contA_zero]
    have e := made_rep (.int .u8 0) 5
    simp only [Value.cells, Nat.mul_one]
    show Result.ok _ (W.alloc (.cells (madeCells #[.int .u8 0] 5) 5)) = _
    rw [e]
    rfl
  go_wp2
  clear hmk
  go_loopw [7, 38] (fun p i wr => ∃ k : Nat, k ≤ 5 ∧ i = .int .i64 k ∧ Below w.heap.size w wr ∧ wr.heap[w.heap.size]? = some (.cells (contA v 5 k) 5 (0, 0))) (fun _ i _ => (5 - intOf i).toNat)
  case atStart => exact ⟨0, by omega, rfl, (by (repeat (first | with_reducible exact Below.refl _ _ | with_reducible assumption | with_reducible apply bl_alloc | with_reducible apply bl_drew | with_reducible apply bl_drewN | (with_reducible refine bl_set ?_ (by first | omega | (simp; done) | (simp; omega)) _) | (with_reducible refine bl_step ?_ (by assumption)) | (with_reducible refine bl_grown ?_ (by assumption) (by assumption)) | (with_reducible refine bl_own ?_ (by assumption) (by assumption))))), blk_new _ _⟩
  case round =>
    obtain ⟨k, hk, rfl, hbw, hx⟩ := hrel
    by_cases hlt : k < 5
    · have hc := blkc hx (5 - 1 - k)
      rw [contA_at v 5 k _ (by omega)] at hc
      have hz := blkf hx (5 - 1 - k)
      go_wp2
      have hF := blk_set hx (5 - 1 - k) (.int .u8 ((v / 256 ^ k) % 256))
      rw [contA_set v 5 k (by omega), pow256] at hF
      go_roundw
      case rel => exact ⟨k + 1, by omega, by go_num, bl_set hbw (by simp) _, hF⟩
      case measure => simp [intOf]; omega
    · have hkN : k = 5 := by omega
      subst hkN
      have hown : wr.ownsRow w.heap.size 5 1 (.slice (some ⟨w.heap.size, 0, none⟩) 5 5) 5 ((putL v 5).map (Value.int .u8)) := contA_own v 5 wr hx (by decide)
      have hcv : (convert 35 9 (.slice (some ⟨w.heap.size, 0, none⟩) 5 5)).run Try.prog wr = .ok (.string (strOfNums (putL v 5))) wr := Go.Proofs.YtjidbjmekpholaaW.PrintWords.own_string Try.underlying35 Try.underlying5 Try.underlying9 hown
      obtain ⟨S, hS⟩ : ∃ S, Hid (strOfNums (putL v 5) = S) := ⟨_, rfl⟩
      rw [hS.out] at hcv
      go_wp2
      go_ret2
      exact ⟨by rw [hS.out]; rfl, hbw⟩
set_option maxRecDepth 100000 in
set_option maxHeartbeats 1000000 in
theorem fxPut5n (v : Int) (w : World) (hv : ¬ v / 549755813888 = 0) (hw : ¬ v / 549755813888 = -1) : Calls Try.prog 33 #[.int .i64 v, .int .i64 5] w fun e w' => e = .returned (.tuple #[.string ⟨#[]⟩, .int .i64 1]) ∧ Below w.heap.size w w' := by
  have b1 : (v / 549755813888 != 0) = true := bne_iff_ne.2 hv
  have b2 : (v / 549755813888 != -1) = true := bne_iff_ne.2 hw
  clear hv hw
  go_enter Try.func33, Try.ntmps33
  go_wp2
  go_ret2
  exact ⟨rfl, (by (repeat (first | with_reducible exact Below.refl _ _ | with_reducible assumption | with_reducible apply bl_alloc | with_reducible apply bl_drew | with_reducible apply bl_drewN | (with_reducible refine bl_set ?_ (by first | omega | (simp; done) | (simp; omega)) _) | (with_reducible refine bl_step ?_ (by assumption)) | (with_reducible refine bl_grown ?_ (by assumption) (by assumption)) | (with_reducible refine bl_own ?_ (by assumption) (by assumption)))))⟩
set_option maxRecDepth 100000 in
set_option maxHeartbeats 1000000 in
theorem fxPut6 (v : Int) (w : World) (hv : v / 140737488355328 = 0) : Calls Try.prog 33 #[.int .i64 v, .int .i64 6] w fun e w' => e = .returned (.tuple #[.string (strOfNums (putL v 6)), .int .i64 0]) ∧ Below w.heap.size w w' := by
  obtain ⟨ib, hib, hz0, hz1, hz2⟩ := info_parts fxInfoB
  go_enter Try.func33, Try.ntmps33
  have hmk : ∀ W : World, (Instr.makeSlice 35 (.int .i64 6) (.int .i64 6)).run Try.prog W = .ok (.slice (some ⟨W.heap.size, 0, none⟩) 6 6) (W.alloc (.cells (contA v 6 0) 5)) := by
    intro W
    have h := run_make (P := Try.prog) W 35 5 ib (.int .u8 0) Try.underlying35 hib hz0 .i64 .i64 6 6 (by omega) (by omega) (by rw [hz2]; omega) (by omega)
    rw [h, hz1, contA_zero]
    have e := made_rep (.int .u8 0) 6
    simp only [Value.cells, Nat.mul_one]
    show Result.ok _ (W.alloc (.cells (madeCells #[.int .u8 0] 6) 5)) = _
    rw [e]
    rfl
  go_wp2
  clear hmk
  go_loopw [7, 38] (fun p i wr => ∃ k : Nat, k ≤ 6 ∧ i = .int .i64 k ∧ Below w.heap.size w wr ∧ wr.heap[w.heap.size]? = some (.cells (contA v 6 k) 5 (0, 0))) (fun _ i _ => (6 - intOf i).toNat)
  case atStart => exact ⟨0, by omega, rfl, (by (repeat (first | with_reducible exact Below.refl _ _ | with_reducible assumption | with_reducible apply bl_alloc | with_reducible apply bl_drew | with_reducible apply bl_drewN | (with_reducible refine bl_set ?_ (by first | omega | (simp; done) | (simp; omega)) _) | (with_reducible refine bl_step ?_ (by assumption)) | (with_reducible refine bl_grown ?_ (by assumption) (by assumption)) | (with_reducible refine bl_own ?_ (by assumption) (by assumption))))), blk_new _ _⟩
  case round =>
    obtain ⟨k, hk, rfl, hbw, hx⟩ := hrel
    by_cases hlt : k < 6
    · have hc := blkc hx (6 - 1 - k)
      rw [contA_at v 6 k _ (by omega)] at hc
      have hz := blkf hx (6 - 1 - k)
      go_wp2
      have hF := blk_set hx (6 - 1 - k) (.int .u8 ((v / 256 ^ k) % 256))
      rw [contA_set v 6 k (by omega), pow256] at hF
      go_roundw
      case rel => exact ⟨k + 1, by omega, by go_num, bl_set hbw (by simp) _, hF⟩
      case measure => simp [intOf]; omega
    · have hkN : k = 6 := by omega
      subst hkN
      have hown : wr.ownsRow w.heap.size 5 1 (.slice (some ⟨w.heap.size, 0, none⟩) 6 6) 6 ((putL v 6).map (Value.int .u8)) := contA_own v 6 wr hx (by decide)
      have hcv : (convert 35 9 (.slice (some ⟨w.heap.size, 0, none⟩) 6 6)).run Try.prog wr = .ok (.string (strOfNums (putL v 6))) wr := Go.Proofs.YtjidbjmekpholaaW.PrintWords.own_string Try.underlying35 Try.underlying5 Try.underlying9 hown
      obtain ⟨S, hS⟩ : ∃ S, Hid (strOfNums (putL v 6) = S) := ⟨_, rfl⟩
      rw [hS.out] at hcv
      go_wp2
      go_ret2
      exact ⟨by rw [hS.out]; rfl, hbw⟩
set_option maxRecDepth 100000 in
set_option maxHeartbeats 1000000 in
theorem fxPut6m (v : Int) (w : World) (hv : v / 140737488355328 = -1) : Calls Try.prog 33 #[.int .i64 v, .int .i64 6] w fun e w' => e = .returned (.tuple #[.string (strOfNums (putL v 6)), .int .i64 0]) ∧ Below w.heap.size w w' := by
  obtain ⟨ib, hib, hz0, hz1, hz2⟩ := info_parts fxInfoB
  go_enter Try.func33, Try.ntmps33
  have hmk : ∀ W : World, (Instr.makeSlice 35 (.int .i64 6) (.int .i64 6)).run Try.prog W = .ok (.slice (some ⟨W.heap.size, 0, none⟩) 6 6) (W.alloc (.cells (contA v 6 0) 5)) := by
    intro W
    have h := run_make (P := Try.prog) W 35 5 ib (.int .u8 0) Try.underlying35 hib hz0 .i64 .i64 6 6 (by omega) (by omega) (by rw [hz2]; omega) (by omega)
    rw [h, hz1, contA_zero]
    have e := made_rep (.int .u8 0) 6
    simp only [Value.cells, Nat.mul_one]
    show Result.ok _ (W.alloc (.cells (madeCells #[.int .u8 0] 6) 5)) = _
    rw [e]
    rfl
  go_wp2
  clear hmk
  go_loopw [7, 38] (fun p i wr => ∃ k : Nat, k ≤ 6 ∧ i = .int .i64 k ∧ Below w.heap.size w wr ∧ wr.heap[w.heap.size]? = some (.cells (contA v 6 k) 5 (0, 0))) (fun _ i _ => (6 - intOf i).toNat)
  case atStart => exact ⟨0, by omega, rfl, (by (repeat (first | with_reducible exact Below.refl _ _ | with_reducible assumption | with_reducible apply bl_alloc | with_reducible apply bl_drew | with_reducible apply bl_drewN | (with_reducible refine bl_set ?_ (by first | omega | (simp; done) | (simp; omega)) _) | (with_reducible refine bl_step ?_ (by assumption)) | (with_reducible refine bl_grown ?_ (by assumption) (by assumption)) | (with_reducible refine bl_own ?_ (by assumption) (by assumption))))), blk_new _ _⟩
  case round =>
    obtain ⟨k, hk, rfl, hbw, hx⟩ := hrel
    by_cases hlt : k < 6
    · have hc := blkc hx (6 - 1 - k)
      rw [contA_at v 6 k _ (by omega)] at hc
      have hz := blkf hx (6 - 1 - k)
      go_wp2
      have hF := blk_set hx (6 - 1 - k) (.int .u8 ((v / 256 ^ k) % 256))
      rw [contA_set v 6 k (by omega), pow256] at hF
      go_roundw
      case rel => exact ⟨k + 1, by omega, by go_num, bl_set hbw (by simp) _, hF⟩
      case measure => simp [intOf]; omega
    · have hkN : k = 6 := by omega
      subst hkN
      have hown : wr.ownsRow w.heap.size 5 1 (.slice (some ⟨w.heap.size, 0, none⟩) 6 6) 6 ((putL v 6).map (Value.int .u8)) := contA_own v 6 wr hx (by decide)
      have hcv : (convert 35 9 (.slice (some ⟨w.heap.size, 0, none⟩) 6 6)).run Try.prog wr = .ok (.string (strOfNums (putL v 6))) wr := Go.Proofs.YtjidbjmekpholaaW.PrintWords.own_string Try.underlying35 Try.underlying5 Try.underlying9 hown
      obtain ⟨S, hS⟩ : ∃ S, Hid (strOfNums (putL v 6) = S) := ⟨_, rfl⟩
      rw [hS.out] at hcv
      go_wp2
      go_ret2
      exact ⟨by rw [hS.out]; rfl, hbw⟩
set_option maxRecDepth 100000 in
set_option maxHeartbeats 1000000 in
theorem fxPut6n (v : Int) (w : World) (hv : ¬ v / 140737488355328 = 0) (hw : ¬ v / 140737488355328 = -1) : Calls Try.prog 33 #[.int .i64 v, .int .i64 6] w fun e w' => e = .returned (.tuple #[.string ⟨#[]⟩, .int .i64 1]) ∧ Below w.heap.size w w' := by
  have b1 : (v / 140737488355328 != 0) = true := bne_iff_ne.2 hv
  have b2 : (v / 140737488355328 != -1) = true := bne_iff_ne.2 hw
  clear hv hw
  go_enter Try.func33, Try.ntmps33
  go_wp2
  go_ret2
  exact ⟨rfl, (by (repeat (first | with_reducible exact Below.refl _ _ | with_reducible assumption | with_reducible apply bl_alloc | with_reducible apply bl_drew | with_reducible apply bl_drewN | (with_reducible refine bl_set ?_ (by first | omega | (simp; done) | (simp; omega)) _) | (with_reducible refine bl_step ?_ (by assumption)) | (with_reducible refine bl_grown ?_ (by assumption) (by assumption)) | (with_reducible refine bl_own ?_ (by assumption) (by assumption)))))⟩
set_option maxRecDepth 100000 in
set_option maxHeartbeats 1000000 in
theorem fxPut8 (v : Int) (w : World) : Calls Try.prog 33 #[.int .i64 v, .int .i64 8] w fun e w' => e = .returned (.tuple #[.string (strOfNums (putL v 8)), .int .i64 0]) ∧ Below w.heap.size w w' := by
  obtain ⟨ib, hib, hz0, hz1, hz2⟩ := info_parts fxInfoB
  go_enter Try.func33, Try.ntmps33
  have hmk : ∀ W : World, (Instr.makeSlice 35 (.int .i64 8) (.int .i64 8)).run Try.prog W = .ok (.slice (some ⟨W.heap.size, 0, none⟩) 8 8) (W.alloc (.cells (contA v 8 0) 5)) := by
    intro W
    have h := run_make (P := Try.prog) W 35 5 ib (.int .u8 0) Try.underlying35 hib hz0 .i64 .i64 8 8 (by omega) (by omega) (by rw [hz2]; omega) (by omega)
    rw [h, hz1, contA_zero]
    have e := made_rep (.int .u8 0) 8
    simp only [Value.cells, Nat.mul_one]
    show Result.ok _ (W.alloc (.cells (madeCells #[.int .u8 0] 8) 5)) = _
    rw [e]
    rfl
  go_wp2
  clear hmk
  go_loopw [7, 38] (fun p i wr => ∃ k : Nat, k ≤ 8 ∧ i = .int .i64 k ∧ Below w.heap.size w wr ∧ wr.heap[w.heap.size]? = some (.cells (contA v 8 k) 5 (0, 0))) (fun _ i _ => (8 - intOf i).toNat)
  case atStart => exact ⟨0, by omega, rfl, (by (repeat (first | with_reducible exact Below.refl _ _ | with_reducible assumption | with_reducible apply bl_alloc | with_reducible apply bl_drew | with_reducible apply bl_drewN | (with_reducible refine bl_set ?_ (by first | omega | (simp; done) | (simp; omega)) _) | (with_reducible refine bl_step ?_ (by assumption)) | (with_reducible refine bl_grown ?_ (by assumption) (by assumption)) | (with_reducible refine bl_own ?_ (by assumption) (by assumption))))), blk_new _ _⟩
  case round =>
    obtain ⟨k, hk, rfl, hbw, hx⟩ := hrel
    by_cases hlt : k < 8
    · have hc := blkc hx (8 - 1 - k)
      rw [contA_at v 8 k _ (by omega)] at hc
      have hz := blkf hx (8 - 1 - k)
      go_wp2
      have hF := blk_set hx (8 - 1 - k) (.int .u8 ((v / 256 ^ k) % 256))
      rw [contA_set v 8 k (by omega), pow256] at hF
      go_roundw
      case rel => exact ⟨k + 1, by omega, by go_num, bl_set hbw (by simp) _, hF⟩
      case measure => simp [intOf]; omega
    · have hkN : k = 8 := by omega
      subst hkN
      have hown : wr.ownsRow w.heap.size 5 1 (.slice (some ⟨w.heap.size, 0, none⟩) 8 8) 8 ((putL v 8).map (Value.int .u8)) := contA_own v 8 wr hx (by decide)
      have hcv : (convert 35 9 (.slice (some ⟨w.heap.size, 0, none⟩) 8 8)).run Try.prog wr = .ok (.string (strOfNums (putL v 8))) wr := Go.Proofs.YtjidbjmekpholaaW.PrintWords.own_string Try.underlying35 Try.underlying5 Try.underlying9 hown
      obtain ⟨S, hS⟩ : ∃ S, Hid (strOfNums (putL v 8) = S) := ⟨_, rfl⟩
      rw [hS.out] at hcv
      go_wp2
      go_ret2
      exact ⟨by rw [hS.out]; rfl, hbw⟩
/-- What is laid, or the error, of five, six or eight bytes. -/
def putF (v n : Int) : Option (ByteArray × Int) :=
  if n = 5 then (if v / 549755813888 = 0 ∨ v / 549755813888 = -1 then some (strOfNums (putL v 5), 0) else some (⟨#[]⟩, 1))
  else if n = 6 then (if v / 140737488355328 = 0 ∨ v / 140737488355328 = -1 then some (strOfNums (putL v 6), 0) else some (⟨#[]⟩, 1))
  else if n = 8 then some (strOfNums (putL v 8), 0) else none
theorem fxPut_calls (v n : Int) (s : ByteArray) (c : Int) (w : World) (h : putF v n = some (s, c)) : Calls Try.prog 33 #[.int .i64 v, .int .i64 n] w fun e w' => e = .returned (.tuple #[.string s, .int .i64 c]) ∧ Below w.heap.size w w' := by
  unfold putF at h
  by_cases h5 : n = 5
  · subst h5
    rw [if_pos rfl] at h
    by_cases hv : v / 549755813888 = 0 ∨ v / 549755813888 = -1
    · rw [if_pos hv] at h
      simp only [Option.some.injEq, Prod.mk.injEq] at h
      obtain ⟨rfl, rfl⟩ := h
      rcases hv with hv | hv
      · exact fxPut5 v w hv
      · exact fxPut5m v w hv
    · rw [if_neg hv] at h
      simp only [Option.some.injEq, Prod.mk.injEq] at h
      obtain ⟨rfl, rfl⟩ := h
      exact fxPut5n v w (fun e => hv (Or.inl e)) (fun e => hv (Or.inr e))
  rw [if_neg h5] at h
  by_cases h6 : n = 6
  · subst h6
    rw [if_pos rfl] at h
    by_cases hv : v / 140737488355328 = 0 ∨ v / 140737488355328 = -1
    · rw [if_pos hv] at h
      simp only [Option.some.injEq, Prod.mk.injEq] at h
      obtain ⟨rfl, rfl⟩ := h
      rcases hv with hv | hv
      · exact fxPut6 v w hv
      · exact fxPut6m v w hv
    · rw [if_neg hv] at h
      simp only [Option.some.injEq, Prod.mk.injEq] at h
      obtain ⟨rfl, rfl⟩ := h
      exact fxPut6n v w (fun e => hv (Or.inl e)) (fun e => hv (Or.inr e))
  rw [if_neg h6] at h
  by_cases h8 : n = 8
  · subst h8
    rw [if_pos rfl] at h
    simp only [Option.some.injEq, Prod.mk.injEq] at h
    obtain ⟨rfl, rfl⟩ := h
    exact fxPut8 v w
  rw [if_neg h8] at h
  cases h
end Go.Proofs.Ytjidbjmekpholaa
