/-
  No cell of these rows narrows 'for every input' (looked for: loops, veiled, ifaces, maps, wideKeys, modest, calm, conditions, laid).
  DERIVED. THE GIVEN ROWS OF THIS SEAT. 9 by the template 'for every input the law returns true; each argument reads behind the call as it read before'; 0 by the template 'total and deterministic' (their statements: YtcmdhkefenjldaaTotals.lean).
  GIVEN WITH THE SEED: the statements are not yours to turn. If you find one false, say at which input.
  Laid BY PROGRAM, IN A SANDBOX (cutbox-rows.mjs): the forced cells as the released guide's own fill.sh prints them over the translation 0eb1d5af56de8fbe… (all of the seat's roots in one cut). By AI agents, Wed Nov 11 2026. No macro, syntax, notation, axiom, sorry.
-/
import Derived.Test.YtcmdhkefenjldaaChecked
import GoSem.Claim
import GoSem.ClaimJoined
import GoSem.ClaimMapViews
import Derived.JoinedTies
import Derived.KernelRfl
namespace Go.Proofs.Ytcmdhkefenjldaa
/- THE CELL 'sum', in the pinned program and in every row, IS THE sha256 OF THE DUMP (.gsa) THAT YtcmdhkefenjldaaProg.lean LOADS. Nothing in Lean hashes anything: it is a label: what it is worth is what the hold of that sum in a sandbox is worth. -/
noncomputable def Try.pinned : Pinned := { name := "ytcmdhkefenjldaa", sum := "0eb1d5af56de8fbe65f83ee883089f7d151a9e515e41fd2d87a45a928b03a479", checked := Try.checked }
namespace Rows
def none {H : Type} : Left H := { results := [], args := [] }

/-- 'picketlaw15.PlantAdds': WHATEVER THE INPUT: true; the input reads as it did. -/
def plantAddsSpec : ChangeSpec := { name := "plantAdds", fn := fun _ => fun
  | [d1, d2, d3, d4, d5, d6] => { results := [.lit (.bool true)], args := [d1, d2, d3, d4, d5, d6] }
  | _ => none }
def plantAddsRow : OpenClaim := { program := "ytcmdhkefenjldaa", sum := "0eb1d5af56de8fbe65f83ee883089f7d151a9e515e41fd2d87a45a928b03a479", func := "picket/picketlaw15.PlantAdds", spec := "plantAdds", inPlace := ["math/bits.Add64"], unfollowed := true, recurses := true, apart := false }
def PlantAddsSaid : Prop := plantAddsRow.holds Try.pinned (OpenSpec.ofChange plantAddsSpec)

/-- ITS FALSE NEIGHBOUR: 'it returns false'. Refute it at one input. -/
def plantAddsWrong : ChangeSpec := { name := "plantAdds", fn := fun _ => fun
  | [d1, d2, d3, d4, d5, d6] => { results := [.lit (.bool false)], args := [d1, d2, d3, d4, d5, d6] }
  | _ => none }
def PlantAddsWrongFalsely : Prop := plantAddsRow.holds Try.pinned (OpenSpec.ofChange plantAddsWrong)

/-- 'picketlaw15.PlantStays': WHATEVER THE INPUT: true; the input reads as it did. -/
def plantStaysSpec : ChangeSpec := { name := "plantStays", fn := fun _ => fun
  | [d1, d2] => { results := [.lit (.bool true)], args := [d1, d2] }
  | _ => none }
def plantStaysRow : OpenClaim := { program := "ytcmdhkefenjldaa", sum := "0eb1d5af56de8fbe65f83ee883089f7d151a9e515e41fd2d87a45a928b03a479", func := "picket/picketlaw15.PlantStays", spec := "plantStays", inPlace := ["math/bits.Add64"], unfollowed := true, recurses := true, apart := false }
def PlantStaysSaid : Prop := plantStaysRow.holds Try.pinned (OpenSpec.ofChange plantStaysSpec)

/-- ITS FALSE NEIGHBOUR: 'it returns false'. Refute it at one input. -/
def plantStaysWrong : ChangeSpec := { name := "plantStays", fn := fun _ => fun
  | [d1, d2] => { results := [.lit (.bool false)], args := [d1, d2] }
  | _ => none }
def PlantStaysWrongFalsely : Prop := plantStaysRow.holds Try.pinned (OpenSpec.ofChange plantStaysWrong)

/-- 'picketlaw15.PlantHolds': WHATEVER THE INPUT: true; the input reads as it did. -/
def plantHoldsSpec : ChangeSpec := { name := "plantHolds", fn := fun _ => fun
  | [d1, d2, d3, d4, d5, d6] => { results := [.lit (.bool true)], args := [d1, d2, d3, d4, d5, d6] }
  | _ => none }
def plantHoldsRow : OpenClaim := { program := "ytcmdhkefenjldaa", sum := "0eb1d5af56de8fbe65f83ee883089f7d151a9e515e41fd2d87a45a928b03a479", func := "picket/picketlaw15.PlantHolds", spec := "plantHolds", inPlace := ["math/bits.Add64"], unfollowed := true, recurses := true, apart := false }
def PlantHoldsSaid : Prop := plantHoldsRow.holds Try.pinned (OpenSpec.ofChange plantHoldsSpec)

/-- ITS FALSE NEIGHBOUR: 'it returns false'. Refute it at one input. -/
def plantHoldsWrong : ChangeSpec := { name := "plantHolds", fn := fun _ => fun
  | [d1, d2, d3, d4, d5, d6] => { results := [.lit (.bool false)], args := [d1, d2, d3, d4, d5, d6] }
  | _ => none }
def PlantHoldsWrongFalsely : Prop := plantHoldsRow.holds Try.pinned (OpenSpec.ofChange plantHoldsWrong)

/-- 'picketlaw15.PlantNone': WHATEVER THE INPUT: true; the input reads as it did. -/
def plantNoneSpec : ChangeSpec := { name := "plantNone", fn := fun _ => fun
  | [d1, d2] => { results := [.lit (.bool true)], args := [d1, d2] }
  | _ => none }
def plantNoneRow : OpenClaim := { program := "ytcmdhkefenjldaa", sum := "0eb1d5af56de8fbe65f83ee883089f7d151a9e515e41fd2d87a45a928b03a479", func := "picket/picketlaw15.PlantNone", spec := "plantNone", inPlace := ["math/bits.Add64"], unfollowed := true, recurses := true, apart := false }
def PlantNoneSaid : Prop := plantNoneRow.holds Try.pinned (OpenSpec.ofChange plantNoneSpec)

/-- ITS FALSE NEIGHBOUR: 'it returns false'. Refute it at one input. -/
def plantNoneWrong : ChangeSpec := { name := "plantNone", fn := fun _ => fun
  | [d1, d2] => { results := [.lit (.bool false)], args := [d1, d2] }
  | _ => none }
def PlantNoneWrongFalsely : Prop := plantNoneRow.holds Try.pinned (OpenSpec.ofChange plantNoneWrong)

/-- 'picketlaw16.ProveSplits': WHATEVER THE INPUT: true; the input reads as it did. -/
def proveSplitsSpec : ChangeSpec := { name := "proveSplits", fn := fun _ => fun
  | [d1, d2, d3, d4] => { results := [.lit (.bool true)], args := [d1, d2, d3, d4] }
  | _ => none }
def proveSplitsRow : OpenClaim := { program := "ytcmdhkefenjldaa", sum := "0eb1d5af56de8fbe65f83ee883089f7d151a9e515e41fd2d87a45a928b03a479", func := "picket/picketlaw16.ProveSplits", spec := "proveSplits", inPlace := ["math/bits.Add64"], unfollowed := true, recurses := true, apart := false }
def ProveSplitsSaid : Prop := proveSplitsRow.holds Try.pinned (OpenSpec.ofChange proveSplitsSpec)

/-- ITS FALSE NEIGHBOUR: 'it returns false'. Refute it at one input. -/
def proveSplitsWrong : ChangeSpec := { name := "proveSplits", fn := fun _ => fun
  | [d1, d2, d3, d4] => { results := [.lit (.bool false)], args := [d1, d2, d3, d4] }
  | _ => none }
def ProveSplitsWrongFalsely : Prop := proveSplitsRow.holds Try.pinned (OpenSpec.ofChange proveSplitsWrong)

/-- 'picketlaw16.ProveNone': WHATEVER THE INPUT: true; the input reads as it did. -/
def proveNoneSpec : ChangeSpec := { name := "proveNone", fn := fun _ => fun
  | [d1, d2] => { results := [.lit (.bool true)], args := [d1, d2] }
  | _ => none }
def proveNoneRow : OpenClaim := { program := "ytcmdhkefenjldaa", sum := "0eb1d5af56de8fbe65f83ee883089f7d151a9e515e41fd2d87a45a928b03a479", func := "picket/picketlaw16.ProveNone", spec := "proveNone", inPlace := ["math/bits.Add64"], unfollowed := true, recurses := true, apart := false }
def ProveNoneSaid : Prop := proveNoneRow.holds Try.pinned (OpenSpec.ofChange proveNoneSpec)

/-- ITS FALSE NEIGHBOUR: 'it returns false'. Refute it at one input. -/
def proveNoneWrong : ChangeSpec := { name := "proveNone", fn := fun _ => fun
  | [d1, d2] => { results := [.lit (.bool false)], args := [d1, d2] }
  | _ => none }
def ProveNoneWrongFalsely : Prop := proveNoneRow.holds Try.pinned (OpenSpec.ofChange proveNoneWrong)

/-- 'picketlaw16.ProveTight': WHATEVER THE INPUT: true; the input reads as it did. -/
def proveTightSpec : ChangeSpec := { name := "proveTight", fn := fun _ => fun
  | [d1, d2, d3] => { results := [.lit (.bool true)], args := [d1, d2, d3] }
  | _ => none }
def proveTightRow : OpenClaim := { program := "ytcmdhkefenjldaa", sum := "0eb1d5af56de8fbe65f83ee883089f7d151a9e515e41fd2d87a45a928b03a479", func := "picket/picketlaw16.ProveTight", spec := "proveTight", inPlace := ["math/bits.Add64"], unfollowed := true, recurses := true, apart := false }
def ProveTightSaid : Prop := proveTightRow.holds Try.pinned (OpenSpec.ofChange proveTightSpec)

/-- ITS FALSE NEIGHBOUR: 'it returns false'. Refute it at one input. -/
def proveTightWrong : ChangeSpec := { name := "proveTight", fn := fun _ => fun
  | [d1, d2, d3] => { results := [.lit (.bool false)], args := [d1, d2, d3] }
  | _ => none }
def ProveTightWrongFalsely : Prop := proveTightRow.holds Try.pinned (OpenSpec.ofChange proveTightWrong)

/-- 'picketlaw16.ProveDeeper': WHATEVER THE INPUT: true; the input reads as it did. -/
def proveDeeperSpec : ChangeSpec := { name := "proveDeeper", fn := fun _ => fun
  | [d1, d2, d3] => { results := [.lit (.bool true)], args := [d1, d2, d3] }
  | _ => none }
def proveDeeperRow : OpenClaim := { program := "ytcmdhkefenjldaa", sum := "0eb1d5af56de8fbe65f83ee883089f7d151a9e515e41fd2d87a45a928b03a479", func := "picket/picketlaw16.ProveDeeper", spec := "proveDeeper", inPlace := ["math/bits.Add64"], unfollowed := true, recurses := true, apart := false }
def ProveDeeperSaid : Prop := proveDeeperRow.holds Try.pinned (OpenSpec.ofChange proveDeeperSpec)

/-- ITS FALSE NEIGHBOUR: 'it returns false'. Refute it at one input. -/
def proveDeeperWrong : ChangeSpec := { name := "proveDeeper", fn := fun _ => fun
  | [d1, d2, d3] => { results := [.lit (.bool false)], args := [d1, d2, d3] }
  | _ => none }
def ProveDeeperWrongFalsely : Prop := proveDeeperRow.holds Try.pinned (OpenSpec.ofChange proveDeeperWrong)

/-- 'picketlaw16.ProveHolds': WHATEVER THE INPUT: true; the input reads as it did. -/
def proveHoldsSpec : ChangeSpec := { name := "proveHolds", fn := fun _ => fun
  | [d1, d2, d3, d4, d5, d6] => { results := [.lit (.bool true)], args := [d1, d2, d3, d4, d5, d6] }
  | _ => none }
def proveHoldsRow : OpenClaim := { program := "ytcmdhkefenjldaa", sum := "0eb1d5af56de8fbe65f83ee883089f7d151a9e515e41fd2d87a45a928b03a479", func := "picket/picketlaw16.ProveHolds", spec := "proveHolds", inPlace := ["math/bits.Add64"], unfollowed := true, recurses := true, apart := false }
def ProveHoldsSaid : Prop := proveHoldsRow.holds Try.pinned (OpenSpec.ofChange proveHoldsSpec)

/-- ITS FALSE NEIGHBOUR: 'it returns false'. Refute it at one input. -/
def proveHoldsWrong : ChangeSpec := { name := "proveHolds", fn := fun _ => fun
  | [d1, d2, d3, d4, d5, d6] => { results := [.lit (.bool false)], args := [d1, d2, d3, d4, d5, d6] }
  | _ => none }
def ProveHoldsWrongFalsely : Prop := proveHoldsRow.holds Try.pinned (OpenSpec.ofChange proveHoldsWrong)

/- THE SECOND FORM. 'bulk': how many values and letters a reading holds, each counted each time it is reached (what is shared counts as often as it is met; a slice's spare places count too). A statement '..UptoSaid' is the law's where the arguments, and the package variables that the reading takes, are together of bulk at most 1048576: NARROWER than '..Said'. Prove '..Said' where nothing that the law and all that it calls make is longer than what came in: it says more and counts as full. Else prove '..UptoSaid'. A law counts once. -/
mutual
def uptoBulk {H : Type} : DataW H → Nat
  | .lit (.string bytes) => bytes.length + 1
  | .lit _ => 1
  | .nil => 1
  | .ptr d => uptoBulk d + 1
  | .slice elems spare => uptoBulkAll elems + uptoBulkAll spare + 1
  | .agg parts => uptoBulkAll parts + 1
  | .iface _ d => uptoBulk d + 1
  | .map entries => uptoBulkEntries entries + 1
  | .held _ => 1
def uptoBulkAll {H : Type} : List (DataW H) → Nat
  | [] => 0
  | d :: r => uptoBulk d + uptoBulkAll r
def uptoBulkEntries {H : Type} : List (Lit × DataW H) → Nat
  | [] => 0
  | x :: r => uptoBulkEntry x + uptoBulkEntries r
def uptoBulkEntry {H : Type} : Lit × DataW H → Nat
  | (.string bytes, d) => bytes.length + uptoBulk d + 1
  | (_, d) => uptoBulk d + 1
 end
def uptoSmall : (H : Type) → List (DataW H) → Bool := fun _ ds => decide (uptoBulkAll ds ≤ 1048576)
def OpenSpec.upto (s : _root_.Go.ChangeSpec) : _root_.Go.OpenSpec := { _root_.Go.OpenSpec.ofChange s with cond := some uptoSmall }

/-- 'picketlaw15.PlantAdds', WHERE WHAT IT READS IS OF BULK AT MOST 1048576: true; the input reads as it did. -/
def plantAddsUptoRow : OpenClaim := { program := "ytcmdhkefenjldaa", sum := "0eb1d5af56de8fbe65f83ee883089f7d151a9e515e41fd2d87a45a928b03a479", func := "picket/picketlaw15.PlantAdds", spec := "plantAdds", inPlace := ["math/bits.Add64"], unfollowed := true, recurses := true, apart := false, narrowed := true }
def PlantAddsUptoSaid : Prop := plantAddsUptoRow.holds Try.pinned (OpenSpec.upto plantAddsSpec)

/-- 'picketlaw15.PlantStays', WHERE WHAT IT READS IS OF BULK AT MOST 1048576: true; the input reads as it did. -/
def plantStaysUptoRow : OpenClaim := { program := "ytcmdhkefenjldaa", sum := "0eb1d5af56de8fbe65f83ee883089f7d151a9e515e41fd2d87a45a928b03a479", func := "picket/picketlaw15.PlantStays", spec := "plantStays", inPlace := ["math/bits.Add64"], unfollowed := true, recurses := true, apart := false, narrowed := true }
def PlantStaysUptoSaid : Prop := plantStaysUptoRow.holds Try.pinned (OpenSpec.upto plantStaysSpec)

/-- 'picketlaw15.PlantHolds', WHERE WHAT IT READS IS OF BULK AT MOST 1048576: true; the input reads as it did. -/
def plantHoldsUptoRow : OpenClaim := { program := "ytcmdhkefenjldaa", sum := "0eb1d5af56de8fbe65f83ee883089f7d151a9e515e41fd2d87a45a928b03a479", func := "picket/picketlaw15.PlantHolds", spec := "plantHolds", inPlace := ["math/bits.Add64"], unfollowed := true, recurses := true, apart := false, narrowed := true }
def PlantHoldsUptoSaid : Prop := plantHoldsUptoRow.holds Try.pinned (OpenSpec.upto plantHoldsSpec)

/-- 'picketlaw15.PlantNone', WHERE WHAT IT READS IS OF BULK AT MOST 1048576: true; the input reads as it did. -/
def plantNoneUptoRow : OpenClaim := { program := "ytcmdhkefenjldaa", sum := "0eb1d5af56de8fbe65f83ee883089f7d151a9e515e41fd2d87a45a928b03a479", func := "picket/picketlaw15.PlantNone", spec := "plantNone", inPlace := ["math/bits.Add64"], unfollowed := true, recurses := true, apart := false, narrowed := true }
def PlantNoneUptoSaid : Prop := plantNoneUptoRow.holds Try.pinned (OpenSpec.upto plantNoneSpec)

/-- 'picketlaw16.ProveSplits', WHERE WHAT IT READS IS OF BULK AT MOST 1048576: true; the input reads as it did. -/
def proveSplitsUptoRow : OpenClaim := { program := "ytcmdhkefenjldaa", sum := "0eb1d5af56de8fbe65f83ee883089f7d151a9e515e41fd2d87a45a928b03a479", func := "picket/picketlaw16.ProveSplits", spec := "proveSplits", inPlace := ["math/bits.Add64"], unfollowed := true, recurses := true, apart := false, narrowed := true }
def ProveSplitsUptoSaid : Prop := proveSplitsUptoRow.holds Try.pinned (OpenSpec.upto proveSplitsSpec)

/-- 'picketlaw16.ProveNone', WHERE WHAT IT READS IS OF BULK AT MOST 1048576: true; the input reads as it did. -/
def proveNoneUptoRow : OpenClaim := { program := "ytcmdhkefenjldaa", sum := "0eb1d5af56de8fbe65f83ee883089f7d151a9e515e41fd2d87a45a928b03a479", func := "picket/picketlaw16.ProveNone", spec := "proveNone", inPlace := ["math/bits.Add64"], unfollowed := true, recurses := true, apart := false, narrowed := true }
def ProveNoneUptoSaid : Prop := proveNoneUptoRow.holds Try.pinned (OpenSpec.upto proveNoneSpec)

/-- 'picketlaw16.ProveTight', WHERE WHAT IT READS IS OF BULK AT MOST 1048576: true; the input reads as it did. -/
def proveTightUptoRow : OpenClaim := { program := "ytcmdhkefenjldaa", sum := "0eb1d5af56de8fbe65f83ee883089f7d151a9e515e41fd2d87a45a928b03a479", func := "picket/picketlaw16.ProveTight", spec := "proveTight", inPlace := ["math/bits.Add64"], unfollowed := true, recurses := true, apart := false, narrowed := true }
def ProveTightUptoSaid : Prop := proveTightUptoRow.holds Try.pinned (OpenSpec.upto proveTightSpec)

/-- 'picketlaw16.ProveDeeper', WHERE WHAT IT READS IS OF BULK AT MOST 1048576: true; the input reads as it did. -/
def proveDeeperUptoRow : OpenClaim := { program := "ytcmdhkefenjldaa", sum := "0eb1d5af56de8fbe65f83ee883089f7d151a9e515e41fd2d87a45a928b03a479", func := "picket/picketlaw16.ProveDeeper", spec := "proveDeeper", inPlace := ["math/bits.Add64"], unfollowed := true, recurses := true, apart := false, narrowed := true }
def ProveDeeperUptoSaid : Prop := proveDeeperUptoRow.holds Try.pinned (OpenSpec.upto proveDeeperSpec)

/-- 'picketlaw16.ProveHolds', WHERE WHAT IT READS IS OF BULK AT MOST 1048576: true; the input reads as it did. -/
def proveHoldsUptoRow : OpenClaim := { program := "ytcmdhkefenjldaa", sum := "0eb1d5af56de8fbe65f83ee883089f7d151a9e515e41fd2d87a45a928b03a479", func := "picket/picketlaw16.ProveHolds", spec := "proveHolds", inPlace := ["math/bits.Add64"], unfollowed := true, recurses := true, apart := false, narrowed := true }
def ProveHoldsUptoSaid : Prop := proveHoldsUptoRow.holds Try.pinned (OpenSpec.upto proveHoldsSpec)

end Rows
end Go.Proofs.Ytcmdhkefenjldaa
