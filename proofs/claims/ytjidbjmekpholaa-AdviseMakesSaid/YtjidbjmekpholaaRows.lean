/-
  No cell of these rows narrows 'for every input' (looked for: loops, veiled, ifaces, maps, wideKeys, modest, calm, conditions, laid).
  DERIVED. THE GIVEN ROWS OF THIS SEAT. 10 by the template 'for every input the law returns true; each argument reads behind the call as it read before'; 0 by the template 'total and deterministic' (their statements: YtjidbjmekpholaaTotals.lean).
  GIVEN WITH THE SEED: the statements are not yours to turn. If you find one false, say at which input.
  Laid BY PROGRAM, IN A SANDBOX (cutbox-rows.mjs): the forced cells as the released guide's own fill.sh prints them over the translation 0c028f94c4e273d0… (all of the seat's roots in one cut). By AI agents, Wed Nov 11 2026. No macro, syntax, notation, axiom, sorry.
-/
import Derived.Test.YtjidbjmekpholaaChecked
import GoSem.Claim
import GoSem.ClaimJoined
import GoSem.ClaimMapViews
import Derived.JoinedTies
import Derived.KernelRfl
namespace Go.Proofs.Ytjidbjmekpholaa
/- THE CELL 'sum', in the pinned program and in every row, IS THE sha256 OF THE DUMP (.gsa) THAT YtjidbjmekpholaaProg.lean LOADS. Nothing in Lean hashes anything: it is a label: what it is worth is what the hold of that sum in a sandbox is worth. -/
noncomputable def Try.pinned : Pinned := { name := "ytjidbjmekpholaa", sum := "0c028f94c4e273d0e399a9e20ce30af0794963017404d7331d62b557a867da79", checked := Try.checked }
namespace Rows
def none {H : Type} : Left H := { results := [], args := [] }

/-- 'picketlaw4.WireApart': WHATEVER THE INPUT: true; the input reads as it did. -/
def wireApartSpec : ChangeSpec := { name := "wireApart", fn := fun _ => fun
  | [d1, d2] => { results := [.lit (.bool true)], args := [d1, d2] }
  | _ => none }
def wireApartRow : OpenClaim := { program := "ytjidbjmekpholaa", sum := "0c028f94c4e273d0e399a9e20ce30af0794963017404d7331d62b557a867da79", func := "picket/picketlaw4.WireApart", spec := "wireApart", unfollowed := true, recurses := true, apart := false }
def WireApartSaid : Prop := wireApartRow.holds Try.pinned (OpenSpec.ofChange wireApartSpec)

/-- ITS FALSE NEIGHBOUR: 'it returns false'. Refute it at one input. -/
def wireApartWrong : ChangeSpec := { name := "wireApart", fn := fun _ => fun
  | [d1, d2] => { results := [.lit (.bool false)], args := [d1, d2] }
  | _ => none }
def WireApartWrongFalsely : Prop := wireApartRow.holds Try.pinned (OpenSpec.ofChange wireApartWrong)

/-- 'picketlaw4.WireBack': WHATEVER THE INPUT: true; the input reads as it did. -/
def wireBackSpec : ChangeSpec := { name := "wireBack", fn := fun _ => fun
  | [d1, d2, d3] => { results := [.lit (.bool true)], args := [d1, d2, d3] }
  | _ => none }
def wireBackRow : OpenClaim := { program := "ytjidbjmekpholaa", sum := "0c028f94c4e273d0e399a9e20ce30af0794963017404d7331d62b557a867da79", func := "picket/picketlaw4.WireBack", spec := "wireBack", unfollowed := true, recurses := true, apart := false }
def WireBackSaid : Prop := wireBackRow.holds Try.pinned (OpenSpec.ofChange wireBackSpec)

/-- ITS FALSE NEIGHBOUR: 'it returns false'. Refute it at one input. -/
def wireBackWrong : ChangeSpec := { name := "wireBack", fn := fun _ => fun
  | [d1, d2, d3] => { results := [.lit (.bool false)], args := [d1, d2, d3] }
  | _ => none }
def WireBackWrongFalsely : Prop := wireBackRow.holds Try.pinned (OpenSpec.ofChange wireBackWrong)

/-- 'picketlaw4.WireChanged': WHATEVER THE INPUT: true; the input reads as it did. -/
def wireChangedSpec : ChangeSpec := { name := "wireChanged", fn := fun _ => fun
  | [d1, d2, d3] => { results := [.lit (.bool true)], args := [d1, d2, d3] }
  | _ => none }
def wireChangedRow : OpenClaim := { program := "ytjidbjmekpholaa", sum := "0c028f94c4e273d0e399a9e20ce30af0794963017404d7331d62b557a867da79", func := "picket/picketlaw4.WireChanged", spec := "wireChanged", unfollowed := true, recurses := true, apart := false }
def WireChangedSaid : Prop := wireChangedRow.holds Try.pinned (OpenSpec.ofChange wireChangedSpec)

/-- ITS FALSE NEIGHBOUR: 'it returns false'. Refute it at one input. -/
def wireChangedWrong : ChangeSpec := { name := "wireChanged", fn := fun _ => fun
  | [d1, d2, d3] => { results := [.lit (.bool false)], args := [d1, d2, d3] }
  | _ => none }
def WireChangedWrongFalsely : Prop := wireChangedRow.holds Try.pinned (OpenSpec.ofChange wireChangedWrong)

/-- 'picketlaw18.AdviseMakes': WHATEVER THE INPUT: true; the input reads as it did. -/
def adviseMakesSpec : ChangeSpec := { name := "adviseMakes", fn := fun _ => fun
  | [d1, d2, d3, d4, d5, d6, d7, d8] => { results := [.lit (.bool true)], args := [d1, d2, d3, d4, d5, d6, d7, d8] }
  | _ => none }
def adviseMakesRow : OpenClaim := { program := "ytjidbjmekpholaa", sum := "0c028f94c4e273d0e399a9e20ce30af0794963017404d7331d62b557a867da79", func := "picket/picketlaw18.AdviseMakes", spec := "adviseMakes", unfollowed := true, recurses := true, apart := false }
def AdviseMakesSaid : Prop := adviseMakesRow.holds Try.pinned (OpenSpec.ofChange adviseMakesSpec)

/-- ITS FALSE NEIGHBOUR: 'it returns false'. Refute it at one input. -/
def adviseMakesWrong : ChangeSpec := { name := "adviseMakes", fn := fun _ => fun
  | [d1, d2, d3, d4, d5, d6, d7, d8] => { results := [.lit (.bool false)], args := [d1, d2, d3, d4, d5, d6, d7, d8] }
  | _ => none }
def AdviseMakesWrongFalsely : Prop := adviseMakesRow.holds Try.pinned (OpenSpec.ofChange adviseMakesWrong)

/-- 'picketlaw18.AdviseAny': WHATEVER THE INPUT: true; the input reads as it did. -/
def adviseAnySpec : ChangeSpec := { name := "adviseAny", fn := fun _ => fun
  | [d1, d2, d3, d4] => { results := [.lit (.bool true)], args := [d1, d2, d3, d4] }
  | _ => none }
def adviseAnyRow : OpenClaim := { program := "ytjidbjmekpholaa", sum := "0c028f94c4e273d0e399a9e20ce30af0794963017404d7331d62b557a867da79", func := "picket/picketlaw18.AdviseAny", spec := "adviseAny", unfollowed := true, recurses := true, apart := false }
def AdviseAnySaid : Prop := adviseAnyRow.holds Try.pinned (OpenSpec.ofChange adviseAnySpec)

/-- ITS FALSE NEIGHBOUR: 'it returns false'. Refute it at one input. -/
def adviseAnyWrong : ChangeSpec := { name := "adviseAny", fn := fun _ => fun
  | [d1, d2, d3, d4] => { results := [.lit (.bool false)], args := [d1, d2, d3, d4] }
  | _ => none }
def AdviseAnyWrongFalsely : Prop := adviseAnyRow.holds Try.pinned (OpenSpec.ofChange adviseAnyWrong)

/-- 'picketlaw18.AdviseEdge': WHATEVER THE INPUT: true; the input reads as it did. -/
def adviseEdgeSpec : ChangeSpec := { name := "adviseEdge", fn := fun _ => fun
  | [d1, d2, d3, d4, d5, d6, d7, d8] => { results := [.lit (.bool true)], args := [d1, d2, d3, d4, d5, d6, d7, d8] }
  | _ => none }
def adviseEdgeRow : OpenClaim := { program := "ytjidbjmekpholaa", sum := "0c028f94c4e273d0e399a9e20ce30af0794963017404d7331d62b557a867da79", func := "picket/picketlaw18.AdviseEdge", spec := "adviseEdge", unfollowed := true, recurses := true, apart := false }
def AdviseEdgeSaid : Prop := adviseEdgeRow.holds Try.pinned (OpenSpec.ofChange adviseEdgeSpec)

/-- ITS FALSE NEIGHBOUR: 'it returns false'. Refute it at one input. -/
def adviseEdgeWrong : ChangeSpec := { name := "adviseEdge", fn := fun _ => fun
  | [d1, d2, d3, d4, d5, d6, d7, d8] => { results := [.lit (.bool false)], args := [d1, d2, d3, d4, d5, d6, d7, d8] }
  | _ => none }
def AdviseEdgeWrongFalsely : Prop := adviseEdgeRow.holds Try.pinned (OpenSpec.ofChange adviseEdgeWrong)

/-- 'picketlaw18.AdviseBest': WHATEVER THE INPUT: true; the input reads as it did. -/
def adviseBestSpec : ChangeSpec := { name := "adviseBest", fn := fun _ => fun
  | [d1, d2, d3, d4, d5, d6, d7] => { results := [.lit (.bool true)], args := [d1, d2, d3, d4, d5, d6, d7] }
  | _ => none }
def adviseBestRow : OpenClaim := { program := "ytjidbjmekpholaa", sum := "0c028f94c4e273d0e399a9e20ce30af0794963017404d7331d62b557a867da79", func := "picket/picketlaw18.AdviseBest", spec := "adviseBest", unfollowed := true, recurses := true, apart := false }
def AdviseBestSaid : Prop := adviseBestRow.holds Try.pinned (OpenSpec.ofChange adviseBestSpec)

/-- ITS FALSE NEIGHBOUR: 'it returns false'. Refute it at one input. -/
def adviseBestWrong : ChangeSpec := { name := "adviseBest", fn := fun _ => fun
  | [d1, d2, d3, d4, d5, d6, d7] => { results := [.lit (.bool false)], args := [d1, d2, d3, d4, d5, d6, d7] }
  | _ => none }
def AdviseBestWrongFalsely : Prop := adviseBestRow.holds Try.pinned (OpenSpec.ofChange adviseBestWrong)

/-- 'picketlaw18.AdviseTurned': WHATEVER THE INPUT: true; the input reads as it did. -/
def adviseTurnedSpec : ChangeSpec := { name := "adviseTurned", fn := fun _ => fun
  | [d1, d2, d3, d4] => { results := [.lit (.bool true)], args := [d1, d2, d3, d4] }
  | _ => none }
def adviseTurnedRow : OpenClaim := { program := "ytjidbjmekpholaa", sum := "0c028f94c4e273d0e399a9e20ce30af0794963017404d7331d62b557a867da79", func := "picket/picketlaw18.AdviseTurned", spec := "adviseTurned", unfollowed := true, recurses := true, apart := false }
def AdviseTurnedSaid : Prop := adviseTurnedRow.holds Try.pinned (OpenSpec.ofChange adviseTurnedSpec)

/-- ITS FALSE NEIGHBOUR: 'it returns false'. Refute it at one input. -/
def adviseTurnedWrong : ChangeSpec := { name := "adviseTurned", fn := fun _ => fun
  | [d1, d2, d3, d4] => { results := [.lit (.bool false)], args := [d1, d2, d3, d4] }
  | _ => none }
def AdviseTurnedWrongFalsely : Prop := adviseTurnedRow.holds Try.pinned (OpenSpec.ofChange adviseTurnedWrong)

/-- 'picketlaw18.AdviseFar': WHATEVER THE INPUT: true; the input reads as it did. -/
def adviseFarSpec : ChangeSpec := { name := "adviseFar", fn := fun _ => fun
  | [d1, d2, d3, d4, d5] => { results := [.lit (.bool true)], args := [d1, d2, d3, d4, d5] }
  | _ => none }
def adviseFarRow : OpenClaim := { program := "ytjidbjmekpholaa", sum := "0c028f94c4e273d0e399a9e20ce30af0794963017404d7331d62b557a867da79", func := "picket/picketlaw18.AdviseFar", spec := "adviseFar", unfollowed := true, recurses := true, apart := false }
def AdviseFarSaid : Prop := adviseFarRow.holds Try.pinned (OpenSpec.ofChange adviseFarSpec)

/-- ITS FALSE NEIGHBOUR: 'it returns false'. Refute it at one input. -/
def adviseFarWrong : ChangeSpec := { name := "adviseFar", fn := fun _ => fun
  | [d1, d2, d3, d4, d5] => { results := [.lit (.bool false)], args := [d1, d2, d3, d4, d5] }
  | _ => none }
def AdviseFarWrongFalsely : Prop := adviseFarRow.holds Try.pinned (OpenSpec.ofChange adviseFarWrong)

/-- 'picketlaw4.WirePieces': WHATEVER THE INPUT: true; the input reads as it did. -/
def wirePiecesSpec : ChangeSpec := { name := "wirePieces", fn := fun _ => fun
  | [d1, d2, d3] => { results := [.lit (.bool true)], args := [d1, d2, d3] }
  | _ => none }
def wirePiecesRow : OpenClaim := { program := "ytjidbjmekpholaa", sum := "0c028f94c4e273d0e399a9e20ce30af0794963017404d7331d62b557a867da79", func := "picket/picketlaw4.WirePieces", spec := "wirePieces", inPlace := ["internal/abi.NoEscape", "internal/bytealg.MakeNoZero"], unfollowed := true, recurses := true, apart := false }
def WirePiecesSaid : Prop := wirePiecesRow.holds Try.pinned (OpenSpec.ofChange wirePiecesSpec)

/-- ITS FALSE NEIGHBOUR: 'it returns false'. Refute it at one input. -/
def wirePiecesWrong : ChangeSpec := { name := "wirePieces", fn := fun _ => fun
  | [d1, d2, d3] => { results := [.lit (.bool false)], args := [d1, d2, d3] }
  | _ => none }
def WirePiecesWrongFalsely : Prop := wirePiecesRow.holds Try.pinned (OpenSpec.ofChange wirePiecesWrong)

/- THE SECOND FORM. 'bulk': how many values and letters a reading holds, each counted each time it is reached (what is shared counts as often as it is met; a slice's spare places count too). A statement '..UptoSaid' is the law's where the arguments, and the package variables that the reading takes, are together of bulk at most 1048576: NARROWER than '..Said'. Prove '..Said' where nothing that the law and all that it calls make is longer than what came in: it says more and counts as full. Else prove '..UptoSaid'. A law counts once. -/
mutual
def uptoBulk {H : Type} : DataW H → Nat
  | .lit (.string bytes) => bytes.length + 1
  | .lit _ => 1
  | .nil => 1
  | .ptr d => uptoBulk d + 1
  | .slice elems spare => uptoBulkAll elems + uptoBulkAll spare + 1
  | .agg parts => uptoBulkAll parts + 1
  | .iface _ d => uptoBulk d + 1
  | .map entries => uptoBulkEntries entries + 1
  | .held _ => 1
def uptoBulkAll {H : Type} : List (DataW H) → Nat
  | [] => 0
  | d :: r => uptoBulk d + uptoBulkAll r
def uptoBulkEntries {H : Type} : List (Lit × DataW H) → Nat
  | [] => 0
  | x :: r => uptoBulkEntry x + uptoBulkEntries r
def uptoBulkEntry {H : Type} : Lit × DataW H → Nat
  | (.string bytes, d) => bytes.length + uptoBulk d + 1
  | (_, d) => uptoBulk d + 1
 end
def uptoSmall : (H : Type) → List (DataW H) → Bool := fun _ ds => decide (uptoBulkAll ds ≤ 1048576)
def OpenSpec.upto (s : _root_.Go.ChangeSpec) : _root_.Go.OpenSpec := { _root_.Go.OpenSpec.ofChange s with cond := some uptoSmall }

/-- 'picketlaw4.WireApart', WHERE WHAT IT READS IS OF BULK AT MOST 1048576: true; the input reads as it did. -/
def wireApartUptoRow : OpenClaim := { program := "ytjidbjmekpholaa", sum := "0c028f94c4e273d0e399a9e20ce30af0794963017404d7331d62b557a867da79", func := "picket/picketlaw4.WireApart", spec := "wireApart", unfollowed := true, recurses := true, apart := false, narrowed := true }
def WireApartUptoSaid : Prop := wireApartUptoRow.holds Try.pinned (OpenSpec.upto wireApartSpec)

/-- 'picketlaw4.WireBack', WHERE WHAT IT READS IS OF BULK AT MOST 1048576: true; the input reads as it did. -/
def wireBackUptoRow : OpenClaim := { program := "ytjidbjmekpholaa", sum := "0c028f94c4e273d0e399a9e20ce30af0794963017404d7331d62b557a867da79", func := "picket/picketlaw4.WireBack", spec := "wireBack", unfollowed := true, recurses := true, apart := false, narrowed := true }
def WireBackUptoSaid : Prop := wireBackUptoRow.holds Try.pinned (OpenSpec.upto wireBackSpec)

/-- 'picketlaw4.WireChanged', WHERE WHAT IT READS IS OF BULK AT MOST 1048576: true; the input reads as it did. -/
def wireChangedUptoRow : OpenClaim := { program := "ytjidbjmekpholaa", sum := "0c028f94c4e273d0e399a9e20ce30af0794963017404d7331d62b557a867da79", func := "picket/picketlaw4.WireChanged", spec := "wireChanged", unfollowed := true, recurses := true, apart := false, narrowed := true }
def WireChangedUptoSaid : Prop := wireChangedUptoRow.holds Try.pinned (OpenSpec.upto wireChangedSpec)

/-- 'picketlaw18.AdviseMakes', WHERE WHAT IT READS IS OF BULK AT MOST 1048576: true; the input reads as it did. -/
def adviseMakesUptoRow : OpenClaim := { program := "ytjidbjmekpholaa", sum := "0c028f94c4e273d0e399a9e20ce30af0794963017404d7331d62b557a867da79", func := "picket/picketlaw18.AdviseMakes", spec := "adviseMakes", unfollowed := true, recurses := true, apart := false, narrowed := true }
def AdviseMakesUptoSaid : Prop := adviseMakesUptoRow.holds Try.pinned (OpenSpec.upto adviseMakesSpec)

/-- 'picketlaw18.AdviseAny', WHERE WHAT IT READS IS OF BULK AT MOST 1048576: true; the input reads as it did. -/
def adviseAnyUptoRow : OpenClaim := { program := "ytjidbjmekpholaa", sum := "0c028f94c4e273d0e399a9e20ce30af0794963017404d7331d62b557a867da79", func := "picket/picketlaw18.AdviseAny", spec := "adviseAny", unfollowed := true, recurses := true, apart := false, narrowed := true }
def AdviseAnyUptoSaid : Prop := adviseAnyUptoRow.holds Try.pinned (OpenSpec.upto adviseAnySpec)

/-- 'picketlaw18.AdviseEdge', WHERE WHAT IT READS IS OF BULK AT MOST 1048576: true; the input reads as it did. -/
def adviseEdgeUptoRow : OpenClaim := { program := "ytjidbjmekpholaa", sum := "0c028f94c4e273d0e399a9e20ce30af0794963017404d7331d62b557a867da79", func := "picket/picketlaw18.AdviseEdge", spec := "adviseEdge", unfollowed := true, recurses := true, apart := false, narrowed := true }
def AdviseEdgeUptoSaid : Prop := adviseEdgeUptoRow.holds Try.pinned (OpenSpec.upto adviseEdgeSpec)

/-- 'picketlaw18.AdviseBest', WHERE WHAT IT READS IS OF BULK AT MOST 1048576: true; the input reads as it did. -/
def adviseBestUptoRow : OpenClaim := { program := "ytjidbjmekpholaa", sum := "0c028f94c4e273d0e399a9e20ce30af0794963017404d7331d62b557a867da79", func := "picket/picketlaw18.AdviseBest", spec := "adviseBest", unfollowed := true, recurses := true, apart := false, narrowed := true }
def AdviseBestUptoSaid : Prop := adviseBestUptoRow.holds Try.pinned (OpenSpec.upto adviseBestSpec)

/-- 'picketlaw18.AdviseTurned', WHERE WHAT IT READS IS OF BULK AT MOST 1048576: true; the input reads as it did. -/
def adviseTurnedUptoRow : OpenClaim := { program := "ytjidbjmekpholaa", sum := "0c028f94c4e273d0e399a9e20ce30af0794963017404d7331d62b557a867da79", func := "picket/picketlaw18.AdviseTurned", spec := "adviseTurned", unfollowed := true, recurses := true, apart := false, narrowed := true }
def AdviseTurnedUptoSaid : Prop := adviseTurnedUptoRow.holds Try.pinned (OpenSpec.upto adviseTurnedSpec)

/-- 'picketlaw18.AdviseFar', WHERE WHAT IT READS IS OF BULK AT MOST 1048576: true; the input reads as it did. -/
def adviseFarUptoRow : OpenClaim := { program := "ytjidbjmekpholaa", sum := "0c028f94c4e273d0e399a9e20ce30af0794963017404d7331d62b557a867da79", func := "picket/picketlaw18.AdviseFar", spec := "adviseFar", unfollowed := true, recurses := true, apart := false, narrowed := true }
def AdviseFarUptoSaid : Prop := adviseFarUptoRow.holds Try.pinned (OpenSpec.upto adviseFarSpec)

/-- 'picketlaw4.WirePieces', WHERE WHAT IT READS IS OF BULK AT MOST 1048576: true; the input reads as it did. -/
def wirePiecesUptoRow : OpenClaim := { program := "ytjidbjmekpholaa", sum := "0c028f94c4e273d0e399a9e20ce30af0794963017404d7331d62b557a867da79", func := "picket/picketlaw4.WirePieces", spec := "wirePieces", inPlace := ["internal/abi.NoEscape", "internal/bytealg.MakeNoZero"], unfollowed := true, recurses := true, apart := false, narrowed := true }
def WirePiecesUptoSaid : Prop := wirePiecesUptoRow.holds Try.pinned (OpenSpec.upto wirePiecesSpec)

end Rows
end Go.Proofs.Ytjidbjmekpholaa
