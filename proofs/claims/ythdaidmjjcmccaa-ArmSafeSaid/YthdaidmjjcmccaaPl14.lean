/- Proved here: lemmas and contracts (what a function of the program computes) that the proofs of the laws of this seat lean on. Conditions: as each theorem states. -/
import Derived.Test.YthdaidmjjcmccaaPl12
import Derived.Test.YthdaidmjjcmccaaMp
import Derived.Test.YthdaidmjjcmccaaSpan9
set_option linter.unusedVariables false
set_option linter.unusedSimpArgs false
namespace Go.Proofs.Ythdaidmjjcmccaa
open Go.RowKit Go.Pk Go.Proofs.YthdaidmjjcmccaaW.PrintLast
theorem Times_calls (p : Option Addr) (o : Bool) (s : Sp) (k : Int) (w : World) (hp : AccAt w p o) (hs : InSp s) (hk0 : -9223372036854775808 ≤ k) (hk1 : k ≤ 9223372036854775807) :
    Calls Try.prog 64 #[.pointer p, .agg #[.int .i64 (s.lo), .int .i64 (s.hi)], .int .i64 k] w fun e w' => e = .returned (.agg #[.int .i64 ((timesS s k).lo), .int .i64 ((timesS s k).hi)]) ∧ Below w.heap.size (orCell w p (timesO s k)) w' := by
  unfold timesS timesO
  unfold InSp at hs
  by_cases h : s.hi < s.lo
  · rw [if_pos h, if_pos h]
    refine (Times_none p s.lo s.hi k w h).mono ?_
    rintro e w' ⟨rfl, hb⟩
    exact ⟨rfl, by rw [orCell_false]; exact hb⟩
  · rw [if_neg h, if_neg h]
    exact Times_some p o s.lo s.hi k w hp h hs.1.1 hs.1.2 hs.2.1 hs.2.2 hk0 hk1
theorem Plus_calls (p : Option Addr) (o : Bool) (A : Option Addr) (l : List Sp) (c : Nat) (w : World) (hp : AccAt w p o) (hl : RdS w A l) (hin : InS l) (hsm : l.length ≤ 1000000) :
    Calls Try.prog 66 #[.pointer p, .slice A l.length c] w fun e w' => e = .returned (.agg #[.int .i64 ((plusS l).lo), .int .i64 ((plusS l).hi)]) ∧ Below w.heap.size (orCell w p (plusO l)) w' := by
  unfold plusS plusO
  cases h : someB l
  · rw [if_neg (by simp), Bool.false_and]
    refine (Plus_none p A l c w hl h).mono ?_
    rintro e w' ⟨rfl, hb⟩
    exact ⟨rfl, by rw [orCell_false]; exact hb⟩
  · rw [if_pos rfl, Bool.true_and]
    exact Plus_some p o A l c w hp hl hin hsm h
theorem whole_calls (n : Int) (w : World) (h0 : -1000 ≤ n) (h1 : n ≤ 1000) : Calls Try.prog 65 #[.int .i64 n] w fun e w' => e = .returned (.int .i64 (wholeI n)) ∧ w' = w := by
  have hw : wrap64 (n * 4294967296) = wholeI n := by unfold wholeI wrap64; omega
  go_enter Try.func65, Try.ntmps65
  go_wp2
  go_ret
  exact ⟨rfl, rfl⟩
theorem boxed_calls (g : Nat) (p : Pl) (A : Option Addr) (l : List Sp) (c : Nat) (w : World) (hk : KitAt w g 116 p) (hl : RdS w A l) :
    Calls Try.prog 63 #[.pointer (some ⟨g, 0, none⟩), .slice A l.length c] w fun e w' => e = .returned (.bool (boxedP p l)) ∧ Below w.heap.size w w' := by
  have hA := hidI (fun W (h : KitAt W g 116 p) => are_calls g p l.length W h)
  have hC := hidI (fun W (h : RdS W A l) => ContainsS_calls A l c W h)
  unfold boxedP
  generalize areP p l.length = b1 at *
  generalize l.any emptyB = b2 at *
  go_enter Try.func63, Try.ntmps63
  cases b1
  · go_wp2_with fail
    refine (hA.out _ hk).mono ?_
    rintro e w1 ⟨rfl, hw1⟩
    subst hw1
    go_wp2
    go_ret
    exact ⟨rfl, Below.refl _ _⟩
  · go_wp2_with fail
    refine (hA.out _ hk).mono ?_
    rintro e w1 ⟨rfl, hw1⟩
    subst hw1
    go_wp2_with fail
    refine (hC.out _ hl).mono ?_
    rintro e w2 ⟨rfl, hb2⟩
    go_wp2
    go_ret
    exact ⟨by simp, hb2⟩
end Go.Proofs.Ythdaidmjjcmccaa
