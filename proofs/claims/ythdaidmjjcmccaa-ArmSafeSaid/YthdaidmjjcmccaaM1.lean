/- Proved here: lemmas and contracts (what a function of the program computes) that the proofs of the laws of this seat lean on. Conditions: as each theorem states. -/
import Derived.Test.YthdaidmjjcmccaaM0
set_option linter.unusedVariables false
set_option linter.unusedSimpArgs false
namespace Go.Pk
open Go.RowKit
def mxI (a b : Int) : Int := if a < b then b else a
def prodL (l m : List Int) (up : Bool) : List Int := l.flatMap fun x => m.map fun y => clampI (fmul x y up)
def ovP (l m : List Int) : Bool := l.any fun x => m.any fun y => ovI (fmul x y false) || ovI (fmul x y true)
theorem prodL_snoc (l m : List Int) (x : Int) (up : Bool) : prodL (l ++ [x]) m up = prodL l m up ++ m.map fun y => clampI (fmul x y up) := by simp [prodL]
theorem ovP_snoc (l m : List Int) (x : Int) : ovP (l ++ [x]) m = (ovP l m || m.any fun y => ovI (fmul x y false) || ovI (fmul x y true)) := by simp [ovP]
def halvesS (s : Sp) : Sp × Sp := if s.hi < s.lo then (⟨0, -1⟩, ⟨0, -1⟩) else if s.lo = s.hi then (s, ⟨0, -1⟩) else (⟨s.lo, (s.lo + s.hi) / 2⟩, ⟨(s.lo + s.hi) / 2 + 1, s.hi⟩)
def wideS (s : Sp) (n : Int) : Sp := if s.hi < s.lo then ⟨0, -1⟩ else ⟨clampI (s.lo - mxI n 0), clampI (s.hi + mxI n 0)⟩
def spanOf (l : List Int) : Sp := if l = [] then ⟨0, -1⟩ else ⟨minL l, maxL l⟩
end Go.Pk
