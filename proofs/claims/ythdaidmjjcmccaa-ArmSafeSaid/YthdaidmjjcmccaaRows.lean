/-
  No cell of these rows narrows 'for every input' (looked for: loops, veiled, ifaces, maps, wideKeys, modest, calm, conditions, laid).
  DERIVED. THE GIVEN ROWS OF THIS SEAT. 12 by the template 'for every input the law returns true; each argument reads behind the call as it read before'; 0 by the template 'total and deterministic' (their statements: YthdaidmjjcmccaaTotals.lean).
  GIVEN WITH THE SEED: the statements are not yours to turn. If you find one false, say at which input.
  Laid BY PROGRAM, IN A SANDBOX (cutbox-rows.mjs): the forced cells as the released guide's own fill.sh prints them over the translation 7cdaa9d95261d447… (all of the seat's roots in one cut). By AI agents, Wed Nov 11 2026. No macro, syntax, notation, axiom, sorry.
-/
import Derived.Test.YthdaidmjjcmccaaChecked
import GoSem.Claim
import GoSem.ClaimJoined
import GoSem.ClaimMapViews
import Derived.JoinedTies
import Derived.KernelRfl
namespace Go.Proofs.Ythdaidmjjcmccaa
/- THE CELL 'sum', in the pinned program and in every row, IS THE sha256 OF THE DUMP (.gsa) THAT YthdaidmjjcmccaaProg.lean LOADS. Nothing in Lean hashes anything: it is a label: what it is worth is what the hold of that sum in a sandbox is worth. -/
noncomputable def Try.pinned : Pinned := { name := "ythdaidmjjcmccaa", sum := "7cdaa9d95261d447e79951cffc4018ee7a01c2aea28f5ff6383150f086f2088c", checked := Try.checked }
namespace Rows
def none {H : Type} : Left H := { results := [], args := [] }

/-- 'picketlaw15.PlantHolds': WHATEVER THE INPUT: true; the input reads as it did. -/
def plantHoldsSpec : ChangeSpec := { name := "plantHolds", fn := fun _ => fun
  | [d1, d2, d3, d4, d5, d6] => { results := [.lit (.bool true)], args := [d1, d2, d3, d4, d5, d6] }
  | _ => none }
def plantHoldsRow : OpenClaim := { program := "ythdaidmjjcmccaa", sum := "7cdaa9d95261d447e79951cffc4018ee7a01c2aea28f5ff6383150f086f2088c", func := "picket/picketlaw15.PlantHolds", spec := "plantHolds", inPlace := ["math/bits.Add64"], unfollowed := true, recurses := true, apart := false }
def PlantHoldsSaid : Prop := plantHoldsRow.holds Try.pinned (OpenSpec.ofChange plantHoldsSpec)

/-- ITS FALSE NEIGHBOUR: 'it returns false'. Refute it at one input. -/
def plantHoldsWrong : ChangeSpec := { name := "plantHolds", fn := fun _ => fun
  | [d1, d2, d3, d4, d5, d6] => { results := [.lit (.bool false)], args := [d1, d2, d3, d4, d5, d6] }
  | _ => none }
def PlantHoldsWrongFalsely : Prop := plantHoldsRow.holds Try.pinned (OpenSpec.ofChange plantHoldsWrong)

/-- 'picketlaw16.ProveSplits': WHATEVER THE INPUT: true; the input reads as it did. -/
def proveSplitsSpec : ChangeSpec := { name := "proveSplits", fn := fun _ => fun
  | [d1, d2, d3, d4] => { results := [.lit (.bool true)], args := [d1, d2, d3, d4] }
  | _ => none }
def proveSplitsRow : OpenClaim := { program := "ythdaidmjjcmccaa", sum := "7cdaa9d95261d447e79951cffc4018ee7a01c2aea28f5ff6383150f086f2088c", func := "picket/picketlaw16.ProveSplits", spec := "proveSplits", inPlace := ["math/bits.Add64"], unfollowed := true, recurses := true, apart := false }
def ProveSplitsSaid : Prop := proveSplitsRow.holds Try.pinned (OpenSpec.ofChange proveSplitsSpec)

/-- ITS FALSE NEIGHBOUR: 'it returns false'. Refute it at one input. -/
def proveSplitsWrong : ChangeSpec := { name := "proveSplits", fn := fun _ => fun
  | [d1, d2, d3, d4] => { results := [.lit (.bool false)], args := [d1, d2, d3, d4] }
  | _ => none }
def ProveSplitsWrongFalsely : Prop := proveSplitsRow.holds Try.pinned (OpenSpec.ofChange proveSplitsWrong)

/-- 'picketlaw16.ProveTight': WHATEVER THE INPUT: true; the input reads as it did. -/
def proveTightSpec : ChangeSpec := { name := "proveTight", fn := fun _ => fun
  | [d1, d2, d3] => { results := [.lit (.bool true)], args := [d1, d2, d3] }
  | _ => none }
def proveTightRow : OpenClaim := { program := "ythdaidmjjcmccaa", sum := "7cdaa9d95261d447e79951cffc4018ee7a01c2aea28f5ff6383150f086f2088c", func := "picket/picketlaw16.ProveTight", spec := "proveTight", inPlace := ["math/bits.Add64"], unfollowed := true, recurses := true, apart := false }
def ProveTightSaid : Prop := proveTightRow.holds Try.pinned (OpenSpec.ofChange proveTightSpec)

/-- ITS FALSE NEIGHBOUR: 'it returns false'. Refute it at one input. -/
def proveTightWrong : ChangeSpec := { name := "proveTight", fn := fun _ => fun
  | [d1, d2, d3] => { results := [.lit (.bool false)], args := [d1, d2, d3] }
  | _ => none }
def ProveTightWrongFalsely : Prop := proveTightRow.holds Try.pinned (OpenSpec.ofChange proveTightWrong)

/-- 'picketlaw16.ProveDeeper': WHATEVER THE INPUT: true; the input reads as it did. -/
def proveDeeperSpec : ChangeSpec := { name := "proveDeeper", fn := fun _ => fun
  | [d1, d2, d3] => { results := [.lit (.bool true)], args := [d1, d2, d3] }
  | _ => none }
def proveDeeperRow : OpenClaim := { program := "ythdaidmjjcmccaa", sum := "7cdaa9d95261d447e79951cffc4018ee7a01c2aea28f5ff6383150f086f2088c", func := "picket/picketlaw16.ProveDeeper", spec := "proveDeeper", inPlace := ["math/bits.Add64"], unfollowed := true, recurses := true, apart := false }
def ProveDeeperSaid : Prop := proveDeeperRow.holds Try.pinned (OpenSpec.ofChange proveDeeperSpec)

/-- ITS FALSE NEIGHBOUR: 'it returns false'. Refute it at one input. -/
def proveDeeperWrong : ChangeSpec := { name := "proveDeeper", fn := fun _ => fun
  | [d1, d2, d3] => { results := [.lit (.bool false)], args := [d1, d2, d3] }
  | _ => none }
def ProveDeeperWrongFalsely : Prop := proveDeeperRow.holds Try.pinned (OpenSpec.ofChange proveDeeperWrong)

/-- 'picketlaw16.ProveHolds': WHATEVER THE INPUT: true; the input reads as it did. -/
def proveHoldsSpec : ChangeSpec := { name := "proveHolds", fn := fun _ => fun
  | [d1, d2, d3, d4, d5, d6] => { results := [.lit (.bool true)], args := [d1, d2, d3, d4, d5, d6] }
  | _ => none }
def proveHoldsRow : OpenClaim := { program := "ythdaidmjjcmccaa", sum := "7cdaa9d95261d447e79951cffc4018ee7a01c2aea28f5ff6383150f086f2088c", func := "picket/picketlaw16.ProveHolds", spec := "proveHolds", inPlace := ["math/bits.Add64"], unfollowed := true, recurses := true, apart := false }
def ProveHoldsSaid : Prop := proveHoldsRow.holds Try.pinned (OpenSpec.ofChange proveHoldsSpec)

/-- ITS FALSE NEIGHBOUR: 'it returns false'. Refute it at one input. -/
def proveHoldsWrong : ChangeSpec := { name := "proveHolds", fn := fun _ => fun
  | [d1, d2, d3, d4, d5, d6] => { results := [.lit (.bool false)], args := [d1, d2, d3, d4, d5, d6] }
  | _ => none }
def ProveHoldsWrongFalsely : Prop := proveHoldsRow.holds Try.pinned (OpenSpec.ofChange proveHoldsWrong)

/-- 'picketlaw20.ArmHolds': WHATEVER THE INPUT: true; the input reads as it did. -/
def armHoldsSpec : ChangeSpec := { name := "armHolds", fn := fun _ => fun
  | [d1, d2] => { results := [.lit (.bool true)], args := [d1, d2] }
  | _ => none }
def armHoldsRow : OpenClaim := { program := "ythdaidmjjcmccaa", sum := "7cdaa9d95261d447e79951cffc4018ee7a01c2aea28f5ff6383150f086f2088c", func := "picket/picketlaw20.ArmHolds", spec := "armHolds", inPlace := ["math/bits.Add64"], unfollowed := true, recurses := true, apart := false }
def ArmHoldsSaid : Prop := armHoldsRow.holds Try.pinned (OpenSpec.ofChange armHoldsSpec)

/-- ITS FALSE NEIGHBOUR: 'it returns false'. Refute it at one input. -/
def armHoldsWrong : ChangeSpec := { name := "armHolds", fn := fun _ => fun
  | [d1, d2] => { results := [.lit (.bool false)], args := [d1, d2] }
  | _ => none }
def ArmHoldsWrongFalsely : Prop := armHoldsRow.holds Try.pinned (OpenSpec.ofChange armHoldsWrong)

/-- 'picketlaw20.ArmNone': WHATEVER THE INPUT: true; the input reads as it did. -/
def armNoneSpec : ChangeSpec := { name := "armNone", fn := fun _ => fun
  | [d1, d2] => { results := [.lit (.bool true)], args := [d1, d2] }
  | _ => none }
def armNoneRow : OpenClaim := { program := "ythdaidmjjcmccaa", sum := "7cdaa9d95261d447e79951cffc4018ee7a01c2aea28f5ff6383150f086f2088c", func := "picket/picketlaw20.ArmNone", spec := "armNone", inPlace := ["math/bits.Add64"], unfollowed := true, recurses := true, apart := false }
def ArmNoneSaid : Prop := armNoneRow.holds Try.pinned (OpenSpec.ofChange armNoneSpec)

/-- ITS FALSE NEIGHBOUR: 'it returns false'. Refute it at one input. -/
def armNoneWrong : ChangeSpec := { name := "armNone", fn := fun _ => fun
  | [d1, d2] => { results := [.lit (.bool false)], args := [d1, d2] }
  | _ => none }
def ArmNoneWrongFalsely : Prop := armNoneRow.holds Try.pinned (OpenSpec.ofChange armNoneWrong)

/-- 'picketlaw20.ArmCounts': WHATEVER THE INPUT: true; the input reads as it did. -/
def armCountsSpec : ChangeSpec := { name := "armCounts", fn := fun _ => fun
  | [d1, d2] => { results := [.lit (.bool true)], args := [d1, d2] }
  | _ => none }
def armCountsRow : OpenClaim := { program := "ythdaidmjjcmccaa", sum := "7cdaa9d95261d447e79951cffc4018ee7a01c2aea28f5ff6383150f086f2088c", func := "picket/picketlaw20.ArmCounts", spec := "armCounts", inPlace := ["math/bits.Add64"], unfollowed := true, recurses := true, apart := false }
def ArmCountsSaid : Prop := armCountsRow.holds Try.pinned (OpenSpec.ofChange armCountsSpec)

/-- ITS FALSE NEIGHBOUR: 'it returns false'. Refute it at one input. -/
def armCountsWrong : ChangeSpec := { name := "armCounts", fn := fun _ => fun
  | [d1, d2] => { results := [.lit (.bool false)], args := [d1, d2] }
  | _ => none }
def ArmCountsWrongFalsely : Prop := armCountsRow.holds Try.pinned (OpenSpec.ofChange armCountsWrong)

/-- 'picketlaw20.ArmSafe': WHATEVER THE INPUT: true; the input reads as it did. -/
def armSafeSpec : ChangeSpec := { name := "armSafe", fn := fun _ => fun
  | [d1, d2, d3, d4, d5, d6, d7] => { results := [.lit (.bool true)], args := [d1, d2, d3, d4, d5, d6, d7] }
  | _ => none }
def armSafeRow : OpenClaim := { program := "ythdaidmjjcmccaa", sum := "7cdaa9d95261d447e79951cffc4018ee7a01c2aea28f5ff6383150f086f2088c", func := "picket/picketlaw20.ArmSafe", spec := "armSafe", inPlace := ["math/bits.Add64"], unfollowed := true, recurses := true, apart := false }
def ArmSafeSaid : Prop := armSafeRow.holds Try.pinned (OpenSpec.ofChange armSafeSpec)

/-- ITS FALSE NEIGHBOUR: 'it returns false'. Refute it at one input. -/
def armSafeWrong : ChangeSpec := { name := "armSafe", fn := fun _ => fun
  | [d1, d2, d3, d4, d5, d6, d7] => { results := [.lit (.bool false)], args := [d1, d2, d3, d4, d5, d6, d7] }
  | _ => none }
def ArmSafeWrongFalsely : Prop := armSafeRow.holds Try.pinned (OpenSpec.ofChange armSafeWrong)

/-- 'picketlaw21.ArbiterParks': WHATEVER THE INPUT: true; the input reads as it did. -/
def arbiterParksSpec : ChangeSpec := { name := "arbiterParks", fn := fun _ => fun
  | [d1, d2, d3] => { results := [.lit (.bool true)], args := [d1, d2, d3] }
  | _ => none }
def arbiterParksRow : OpenClaim := { program := "ythdaidmjjcmccaa", sum := "7cdaa9d95261d447e79951cffc4018ee7a01c2aea28f5ff6383150f086f2088c", func := "picket/picketlaw21.ArbiterParks", spec := "arbiterParks", inPlace := ["math/bits.Add64"], unfollowed := true, recurses := true, apart := false }
def ArbiterParksSaid : Prop := arbiterParksRow.holds Try.pinned (OpenSpec.ofChange arbiterParksSpec)

/-- ITS FALSE NEIGHBOUR: 'it returns false'. Refute it at one input. -/
def arbiterParksWrong : ChangeSpec := { name := "arbiterParks", fn := fun _ => fun
  | [d1, d2, d3] => { results := [.lit (.bool false)], args := [d1, d2, d3] }
  | _ => none }
def ArbiterParksWrongFalsely : Prop := arbiterParksRow.holds Try.pinned (OpenSpec.ofChange arbiterParksWrong)

/-- 'picketlaw21.ArbiterNone': WHATEVER THE INPUT: true; the input reads as it did. -/
def arbiterNoneSpec : ChangeSpec := { name := "arbiterNone", fn := fun _ => fun
  | [d1, d2] => { results := [.lit (.bool true)], args := [d1, d2] }
  | _ => none }
def arbiterNoneRow : OpenClaim := { program := "ythdaidmjjcmccaa", sum := "7cdaa9d95261d447e79951cffc4018ee7a01c2aea28f5ff6383150f086f2088c", func := "picket/picketlaw21.ArbiterNone", spec := "arbiterNone", inPlace := ["math/bits.Add64"], unfollowed := true, recurses := true, apart := false }
def ArbiterNoneSaid : Prop := arbiterNoneRow.holds Try.pinned (OpenSpec.ofChange arbiterNoneSpec)

/-- ITS FALSE NEIGHBOUR: 'it returns false'. Refute it at one input. -/
def arbiterNoneWrong : ChangeSpec := { name := "arbiterNone", fn := fun _ => fun
  | [d1, d2] => { results := [.lit (.bool false)], args := [d1, d2] }
  | _ => none }
def ArbiterNoneWrongFalsely : Prop := arbiterNoneRow.holds Try.pinned (OpenSpec.ofChange arbiterNoneWrong)

/-- 'picketlaw21.ArbiterSafe': WHATEVER THE INPUT: true; the input reads as it did. -/
def arbiterSafeSpec : ChangeSpec := { name := "arbiterSafe", fn := fun _ => fun
  | [d1, d2, d3, d4, d5] => { results := [.lit (.bool true)], args := [d1, d2, d3, d4, d5] }
  | _ => none }
def arbiterSafeRow : OpenClaim := { program := "ythdaidmjjcmccaa", sum := "7cdaa9d95261d447e79951cffc4018ee7a01c2aea28f5ff6383150f086f2088c", func := "picket/picketlaw21.ArbiterSafe", spec := "arbiterSafe", inPlace := ["math/bits.Add64"], unfollowed := true, recurses := true, apart := false }
def ArbiterSafeSaid : Prop := arbiterSafeRow.holds Try.pinned (OpenSpec.ofChange arbiterSafeSpec)

/-- ITS FALSE NEIGHBOUR: 'it returns false'. Refute it at one input. -/
def arbiterSafeWrong : ChangeSpec := { name := "arbiterSafe", fn := fun _ => fun
  | [d1, d2, d3, d4, d5] => { results := [.lit (.bool false)], args := [d1, d2, d3, d4, d5] }
  | _ => none }
def ArbiterSafeWrongFalsely : Prop := arbiterSafeRow.holds Try.pinned (OpenSpec.ofChange arbiterSafeWrong)

/- THE SECOND FORM. 'bulk': how many values and letters a reading holds, each counted each time it is reached (what is shared counts as often as it is met; a slice's spare places count too). A statement '..UptoSaid' is the law's where the arguments, and the package variables that the reading takes, are together of bulk at most 1048576: NARROWER than '..Said'. Prove '..Said' where nothing that the law and all that it calls make is longer than what came in: it says more and counts as full. Else prove '..UptoSaid'. A law counts once. -/
mutual
def uptoBulk {H : Type} : DataW H → Nat
  | .lit (.string bytes) => bytes.length + 1
  | .lit _ => 1
  | .nil => 1
  | .ptr d => uptoBulk d + 1
  | .slice elems spare => uptoBulkAll elems + uptoBulkAll spare + 1
  | .agg parts => uptoBulkAll parts + 1
  | .iface _ d => uptoBulk d + 1
  | .map entries => uptoBulkEntries entries + 1
  | .held _ => 1
def uptoBulkAll {H : Type} : List (DataW H) → Nat
  | [] => 0
  | d :: r => uptoBulk d + uptoBulkAll r
def uptoBulkEntries {H : Type} : List (Lit × DataW H) → Nat
  | [] => 0
  | x :: r => uptoBulkEntry x + uptoBulkEntries r
def uptoBulkEntry {H : Type} : Lit × DataW H → Nat
  | (.string bytes, d) => bytes.length + uptoBulk d + 1
  | (_, d) => uptoBulk d + 1
 end
def uptoSmall : (H : Type) → List (DataW H) → Bool := fun _ ds => decide (uptoBulkAll ds ≤ 1048576)
def OpenSpec.upto (s : _root_.Go.ChangeSpec) : _root_.Go.OpenSpec := { _root_.Go.OpenSpec.ofChange s with cond := some uptoSmall }

/-- 'picketlaw15.PlantHolds', WHERE WHAT IT READS IS OF BULK AT MOST 1048576: true; the input reads as it did. -/
def plantHoldsUptoRow : OpenClaim := { program := "ythdaidmjjcmccaa", sum := "7cdaa9d95261d447e79951cffc4018ee7a01c2aea28f5ff6383150f086f2088c", func := "picket/picketlaw15.PlantHolds", spec := "plantHolds", inPlace := ["math/bits.Add64"], unfollowed := true, recurses := true, apart := false, narrowed := true }
def PlantHoldsUptoSaid : Prop := plantHoldsUptoRow.holds Try.pinned (OpenSpec.upto plantHoldsSpec)

/-- 'picketlaw16.ProveSplits', WHERE WHAT IT READS IS OF BULK AT MOST 1048576: true; the input reads as it did. -/
def proveSplitsUptoRow : OpenClaim := { program := "ythdaidmjjcmccaa", sum := "7cdaa9d95261d447e79951cffc4018ee7a01c2aea28f5ff6383150f086f2088c", func := "picket/picketlaw16.ProveSplits", spec := "proveSplits", inPlace := ["math/bits.Add64"], unfollowed := true, recurses := true, apart := false, narrowed := true }
def ProveSplitsUptoSaid : Prop := proveSplitsUptoRow.holds Try.pinned (OpenSpec.upto proveSplitsSpec)

/-- 'picketlaw16.ProveTight', WHERE WHAT IT READS IS OF BULK AT MOST 1048576: true; the input reads as it did. -/
def proveTightUptoRow : OpenClaim := { program := "ythdaidmjjcmccaa", sum := "7cdaa9d95261d447e79951cffc4018ee7a01c2aea28f5ff6383150f086f2088c", func := "picket/picketlaw16.ProveTight", spec := "proveTight", inPlace := ["math/bits.Add64"], unfollowed := true, recurses := true, apart := false, narrowed := true }
def ProveTightUptoSaid : Prop := proveTightUptoRow.holds Try.pinned (OpenSpec.upto proveTightSpec)

/-- 'picketlaw16.ProveDeeper', WHERE WHAT IT READS IS OF BULK AT MOST 1048576: true; the input reads as it did. -/
def proveDeeperUptoRow : OpenClaim := { program := "ythdaidmjjcmccaa", sum := "7cdaa9d95261d447e79951cffc4018ee7a01c2aea28f5ff6383150f086f2088c", func := "picket/picketlaw16.ProveDeeper", spec := "proveDeeper", inPlace := ["math/bits.Add64"], unfollowed := true, recurses := true, apart := false, narrowed := true }
def ProveDeeperUptoSaid : Prop := proveDeeperUptoRow.holds Try.pinned (OpenSpec.upto proveDeeperSpec)

/-- 'picketlaw16.ProveHolds', WHERE WHAT IT READS IS OF BULK AT MOST 1048576: true; the input reads as it did. -/
def proveHoldsUptoRow : OpenClaim := { program := "ythdaidmjjcmccaa", sum := "7cdaa9d95261d447e79951cffc4018ee7a01c2aea28f5ff6383150f086f2088c", func := "picket/picketlaw16.ProveHolds", spec := "proveHolds", inPlace := ["math/bits.Add64"], unfollowed := true, recurses := true, apart := false, narrowed := true }
def ProveHoldsUptoSaid : Prop := proveHoldsUptoRow.holds Try.pinned (OpenSpec.upto proveHoldsSpec)

/-- 'picketlaw20.ArmHolds', WHERE WHAT IT READS IS OF BULK AT MOST 1048576: true; the input reads as it did. -/
def armHoldsUptoRow : OpenClaim := { program := "ythdaidmjjcmccaa", sum := "7cdaa9d95261d447e79951cffc4018ee7a01c2aea28f5ff6383150f086f2088c", func := "picket/picketlaw20.ArmHolds", spec := "armHolds", inPlace := ["math/bits.Add64"], unfollowed := true, recurses := true, apart := false, narrowed := true }
def ArmHoldsUptoSaid : Prop := armHoldsUptoRow.holds Try.pinned (OpenSpec.upto armHoldsSpec)

/-- 'picketlaw20.ArmNone', WHERE WHAT IT READS IS OF BULK AT MOST 1048576: true; the input reads as it did. -/
def armNoneUptoRow : OpenClaim := { program := "ythdaidmjjcmccaa", sum := "7cdaa9d95261d447e79951cffc4018ee7a01c2aea28f5ff6383150f086f2088c", func := "picket/picketlaw20.ArmNone", spec := "armNone", inPlace := ["math/bits.Add64"], unfollowed := true, recurses := true, apart := false, narrowed := true }
def ArmNoneUptoSaid : Prop := armNoneUptoRow.holds Try.pinned (OpenSpec.upto armNoneSpec)

/-- 'picketlaw20.ArmCounts', WHERE WHAT IT READS IS OF BULK AT MOST 1048576: true; the input reads as it did. -/
def armCountsUptoRow : OpenClaim := { program := "ythdaidmjjcmccaa", sum := "7cdaa9d95261d447e79951cffc4018ee7a01c2aea28f5ff6383150f086f2088c", func := "picket/picketlaw20.ArmCounts", spec := "armCounts", inPlace := ["math/bits.Add64"], unfollowed := true, recurses := true, apart := false, narrowed := true }
def ArmCountsUptoSaid : Prop := armCountsUptoRow.holds Try.pinned (OpenSpec.upto armCountsSpec)

/-- 'picketlaw20.ArmSafe', WHERE WHAT IT READS IS OF BULK AT MOST 1048576: true; the input reads as it did. -/
def armSafeUptoRow : OpenClaim := { program := "ythdaidmjjcmccaa", sum := "7cdaa9d95261d447e79951cffc4018ee7a01c2aea28f5ff6383150f086f2088c", func := "picket/picketlaw20.ArmSafe", spec := "armSafe", inPlace := ["math/bits.Add64"], unfollowed := true, recurses := true, apart := false, narrowed := true }
def ArmSafeUptoSaid : Prop := armSafeUptoRow.holds Try.pinned (OpenSpec.upto armSafeSpec)

/-- 'picketlaw21.ArbiterParks', WHERE WHAT IT READS IS OF BULK AT MOST 1048576: true; the input reads as it did. -/
def arbiterParksUptoRow : OpenClaim := { program := "ythdaidmjjcmccaa", sum := "7cdaa9d95261d447e79951cffc4018ee7a01c2aea28f5ff6383150f086f2088c", func := "picket/picketlaw21.ArbiterParks", spec := "arbiterParks", inPlace := ["math/bits.Add64"], unfollowed := true, recurses := true, apart := false, narrowed := true }
def ArbiterParksUptoSaid : Prop := arbiterParksUptoRow.holds Try.pinned (OpenSpec.upto arbiterParksSpec)

/-- 'picketlaw21.ArbiterNone', WHERE WHAT IT READS IS OF BULK AT MOST 1048576: true; the input reads as it did. -/
def arbiterNoneUptoRow : OpenClaim := { program := "ythdaidmjjcmccaa", sum := "7cdaa9d95261d447e79951cffc4018ee7a01c2aea28f5ff6383150f086f2088c", func := "picket/picketlaw21.ArbiterNone", spec := "arbiterNone", inPlace := ["math/bits.Add64"], unfollowed := true, recurses := true, apart := false, narrowed := true }
def ArbiterNoneUptoSaid : Prop := arbiterNoneUptoRow.holds Try.pinned (OpenSpec.upto arbiterNoneSpec)

/-- 'picketlaw21.ArbiterSafe', WHERE WHAT IT READS IS OF BULK AT MOST 1048576: true; the input reads as it did. -/
def arbiterSafeUptoRow : OpenClaim := { program := "ythdaidmjjcmccaa", sum := "7cdaa9d95261d447e79951cffc4018ee7a01c2aea28f5ff6383150f086f2088c", func := "picket/picketlaw21.ArbiterSafe", spec := "arbiterSafe", inPlace := ["math/bits.Add64"], unfollowed := true, recurses := true, apart := false, narrowed := true }
def ArbiterSafeUptoSaid : Prop := arbiterSafeUptoRow.holds Try.pinned (OpenSpec.upto arbiterSafeSpec)

end Rows
end Go.Proofs.Ythdaidmjjcmccaa
