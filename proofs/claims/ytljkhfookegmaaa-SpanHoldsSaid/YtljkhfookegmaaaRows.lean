/-
  No cell of these rows narrows 'for every input' (looked for: loops, veiled, ifaces, maps, wideKeys, modest, calm, conditions, laid).
  DERIVED. THE GIVEN ROWS OF THIS SEAT. 8 by the template 'for every input the law returns true; each argument reads behind the call as it read before'; 0 by the template 'total and deterministic' (their statements: YtljkhfookegmaaaTotals.lean).
  GIVEN WITH THE SEED: the statements are not yours to turn. If you find one false, say at which input.
  Laid BY PROGRAM, IN A SANDBOX (cutbox-rows.mjs): the forced cells as the released guide's own fill.sh prints them over the translation 2a2465c6c172a3f3… (all of the seat's roots in one cut). By AI agents, Wed Nov 11 2026. No macro, syntax, notation, axiom, sorry.
-/
import Derived.Test.YtljkhfookegmaaaChecked
import GoSem.Claim
import GoSem.ClaimJoined
import GoSem.ClaimMapViews
import Derived.JoinedTies
import Derived.KernelRfl
namespace Go.Proofs.Ytljkhfookegmaaa
/- THE CELL 'sum', in the pinned program and in every row, IS THE sha256 OF THE DUMP (.gsa) THAT YtljkhfookegmaaaProg.lean LOADS. Nothing in Lean hashes anything: it is a label: what it is worth is what the hold of that sum in a sandbox is worth. -/
noncomputable def Try.pinned : Pinned := { name := "ytljkhfookegmaaa", sum := "2a2465c6c172a3f31a35ab6fc5ba10f517689e29c6363681b4e0af7973075566", checked := Try.checked }
namespace Rows
def none {H : Type} : Left H := { results := [], args := [] }

/-- 'picketlaw2.SpanHalves': WHATEVER THE INPUT: true; the input reads as it did. -/
def spanHalvesSpec : ChangeSpec := { name := "spanHalves", fn := fun _ => fun
  | [d1, d2, d3] => { results := [.lit (.bool true)], args := [d1, d2, d3] }
  | _ => none }
def spanHalvesRow : OpenClaim := { program := "ytljkhfookegmaaa", sum := "2a2465c6c172a3f31a35ab6fc5ba10f517689e29c6363681b4e0af7973075566", func := "picket/picketlaw2.SpanHalves", spec := "spanHalves", inPlace := ["math/bits.Add64"], apart := false }
def SpanHalvesSaid : Prop := spanHalvesRow.holds Try.pinned (OpenSpec.ofChange spanHalvesSpec)

/-- ITS FALSE NEIGHBOUR: 'it returns false'. Refute it at one input. -/
def spanHalvesWrong : ChangeSpec := { name := "spanHalves", fn := fun _ => fun
  | [d1, d2, d3] => { results := [.lit (.bool false)], args := [d1, d2, d3] }
  | _ => none }
def SpanHalvesWrongFalsely : Prop := spanHalvesRow.holds Try.pinned (OpenSpec.ofChange spanHalvesWrong)

/-- 'picketlaw2.SpanLattice': WHATEVER THE INPUT: true; the input reads as it did. -/
def spanLatticeSpec : ChangeSpec := { name := "spanLattice", fn := fun _ => fun
  | [d1, d2, d3, d4] => { results := [.lit (.bool true)], args := [d1, d2, d3, d4] }
  | _ => none }
def spanLatticeRow : OpenClaim := { program := "ytljkhfookegmaaa", sum := "2a2465c6c172a3f31a35ab6fc5ba10f517689e29c6363681b4e0af7973075566", func := "picket/picketlaw2.SpanLattice", spec := "spanLattice", inPlace := ["math/bits.Add64"], apart := false }
def SpanLatticeSaid : Prop := spanLatticeRow.holds Try.pinned (OpenSpec.ofChange spanLatticeSpec)

/-- ITS FALSE NEIGHBOUR: 'it returns false'. Refute it at one input. -/
def spanLatticeWrong : ChangeSpec := { name := "spanLattice", fn := fun _ => fun
  | [d1, d2, d3, d4] => { results := [.lit (.bool false)], args := [d1, d2, d3, d4] }
  | _ => none }
def SpanLatticeWrongFalsely : Prop := spanLatticeRow.holds Try.pinned (OpenSpec.ofChange spanLatticeWrong)

/-- 'picketlaw2.SpanTells': WHATEVER THE INPUT: true; the input reads as it did. -/
def spanTellsSpec : ChangeSpec := { name := "spanTells", fn := fun _ => fun
  | [d1, d2, d3, d4, d5] => { results := [.lit (.bool true)], args := [d1, d2, d3, d4, d5] }
  | _ => none }
def spanTellsRow : OpenClaim := { program := "ytljkhfookegmaaa", sum := "2a2465c6c172a3f31a35ab6fc5ba10f517689e29c6363681b4e0af7973075566", func := "picket/picketlaw2.SpanTells", spec := "spanTells", inPlace := ["math/bits.Add64"], apart := false }
def SpanTellsSaid : Prop := spanTellsRow.holds Try.pinned (OpenSpec.ofChange spanTellsSpec)

/-- ITS FALSE NEIGHBOUR: 'it returns false'. Refute it at one input. -/
def spanTellsWrong : ChangeSpec := { name := "spanTells", fn := fun _ => fun
  | [d1, d2, d3, d4, d5] => { results := [.lit (.bool false)], args := [d1, d2, d3, d4, d5] }
  | _ => none }
def SpanTellsWrongFalsely : Prop := spanTellsRow.holds Try.pinned (OpenSpec.ofChange spanTellsWrong)

/-- 'picketlaw2.SpanTight': WHATEVER THE INPUT: true; the input reads as it did. -/
def spanTightSpec : ChangeSpec := { name := "spanTight", fn := fun _ => fun
  | [d1, d2, d3] => { results := [.lit (.bool true)], args := [d1, d2, d3] }
  | _ => none }
def spanTightRow : OpenClaim := { program := "ytljkhfookegmaaa", sum := "2a2465c6c172a3f31a35ab6fc5ba10f517689e29c6363681b4e0af7973075566", func := "picket/picketlaw2.SpanTight", spec := "spanTight", inPlace := ["math/bits.Add64"], apart := false }
def SpanTightSaid : Prop := spanTightRow.holds Try.pinned (OpenSpec.ofChange spanTightSpec)

/-- ITS FALSE NEIGHBOUR: 'it returns false'. Refute it at one input. -/
def spanTightWrong : ChangeSpec := { name := "spanTight", fn := fun _ => fun
  | [d1, d2, d3] => { results := [.lit (.bool false)], args := [d1, d2, d3] }
  | _ => none }
def SpanTightWrongFalsely : Prop := spanTightRow.holds Try.pinned (OpenSpec.ofChange spanTightWrong)

/-- 'picketlaw2.SpanSelf': WHATEVER THE INPUT: true; the input reads as it did. -/
def spanSelfSpec : ChangeSpec := { name := "spanSelf", fn := fun _ => fun
  | [d] => { results := [.lit (.bool true)], args := [d] }
  | _ => none }
def spanSelfRow : OpenClaim := { program := "ytljkhfookegmaaa", sum := "2a2465c6c172a3f31a35ab6fc5ba10f517689e29c6363681b4e0af7973075566", func := "picket/picketlaw2.SpanSelf", spec := "spanSelf", inPlace := ["math/bits.Add64"], apart := false }
def SpanSelfSaid : Prop := spanSelfRow.holds Try.pinned (OpenSpec.ofChange spanSelfSpec)

/-- ITS FALSE NEIGHBOUR: 'it returns false'. Refute it at one input. -/
def spanSelfWrong : ChangeSpec := { name := "spanSelf", fn := fun _ => fun
  | [d] => { results := [.lit (.bool false)], args := [d] }
  | _ => none }
def SpanSelfWrongFalsely : Prop := spanSelfRow.holds Try.pinned (OpenSpec.ofChange spanSelfWrong)

/-- 'picketlaw2.SpanReckons': WHATEVER THE INPUT: true; the input reads as it did. -/
def spanReckonsSpec : ChangeSpec := { name := "spanReckons", fn := fun _ => fun
  | [d1, d2, d3, d4, d5] => { results := [.lit (.bool true)], args := [d1, d2, d3, d4, d5] }
  | _ => none }
def spanReckonsRow : OpenClaim := { program := "ytljkhfookegmaaa", sum := "2a2465c6c172a3f31a35ab6fc5ba10f517689e29c6363681b4e0af7973075566", func := "picket/picketlaw2.SpanReckons", spec := "spanReckons", inPlace := ["math/bits.Add64"], apart := false }
def SpanReckonsSaid : Prop := spanReckonsRow.holds Try.pinned (OpenSpec.ofChange spanReckonsSpec)

/-- ITS FALSE NEIGHBOUR: 'it returns false'. Refute it at one input. -/
def spanReckonsWrong : ChangeSpec := { name := "spanReckons", fn := fun _ => fun
  | [d1, d2, d3, d4, d5] => { results := [.lit (.bool false)], args := [d1, d2, d3, d4, d5] }
  | _ => none }
def SpanReckonsWrongFalsely : Prop := spanReckonsRow.holds Try.pinned (OpenSpec.ofChange spanReckonsWrong)

/-- 'picketlaw2.SpanGrows': WHATEVER THE INPUT: true; the input reads as it did. -/
def spanGrowsSpec : ChangeSpec := { name := "spanGrows", fn := fun _ => fun
  | [d1, d2, d3, d4] => { results := [.lit (.bool true)], args := [d1, d2, d3, d4] }
  | _ => none }
def spanGrowsRow : OpenClaim := { program := "ytljkhfookegmaaa", sum := "2a2465c6c172a3f31a35ab6fc5ba10f517689e29c6363681b4e0af7973075566", func := "picket/picketlaw2.SpanGrows", spec := "spanGrows", inPlace := ["math/bits.Add64"], apart := false }
def SpanGrowsSaid : Prop := spanGrowsRow.holds Try.pinned (OpenSpec.ofChange spanGrowsSpec)

/-- ITS FALSE NEIGHBOUR: 'it returns false'. Refute it at one input. -/
def spanGrowsWrong : ChangeSpec := { name := "spanGrows", fn := fun _ => fun
  | [d1, d2, d3, d4] => { results := [.lit (.bool false)], args := [d1, d2, d3, d4] }
  | _ => none }
def SpanGrowsWrongFalsely : Prop := spanGrowsRow.holds Try.pinned (OpenSpec.ofChange spanGrowsWrong)

/-- 'picketlaw2.SpanHolds': WHATEVER THE INPUT: true; the input reads as it did. -/
def spanHoldsSpec : ChangeSpec := { name := "spanHolds", fn := fun _ => fun
  | [d1, d2, d3, d4, d5] => { results := [.lit (.bool true)], args := [d1, d2, d3, d4, d5] }
  | _ => none }
def spanHoldsRow : OpenClaim := { program := "ytljkhfookegmaaa", sum := "2a2465c6c172a3f31a35ab6fc5ba10f517689e29c6363681b4e0af7973075566", func := "picket/picketlaw2.SpanHolds", spec := "spanHolds", inPlace := ["math/bits.Add64"], apart := false }
def SpanHoldsSaid : Prop := spanHoldsRow.holds Try.pinned (OpenSpec.ofChange spanHoldsSpec)

/-- ITS FALSE NEIGHBOUR: 'it returns false'. Refute it at one input. -/
def spanHoldsWrong : ChangeSpec := { name := "spanHolds", fn := fun _ => fun
  | [d1, d2, d3, d4, d5] => { results := [.lit (.bool false)], args := [d1, d2, d3, d4, d5] }
  | _ => none }
def SpanHoldsWrongFalsely : Prop := spanHoldsRow.holds Try.pinned (OpenSpec.ofChange spanHoldsWrong)

/- THE SECOND FORM. 'bulk': how many values and letters a reading holds, each counted each time it is reached (what is shared counts as often as it is met; a slice's spare places count too). A statement '..UptoSaid' is the law's where the arguments, and the package variables that the reading takes, are together of bulk at most 1048576: NARROWER than '..Said'. Prove '..Said' where nothing that the law and all that it calls make is longer than what came in: it says more and counts as full. Else prove '..UptoSaid'. A law counts once. -/
mutual
def uptoBulk {H : Type} : DataW H → Nat
  | .lit (.string bytes) => bytes.length + 1
  | .lit _ => 1
  | .nil => 1
  | .ptr d => uptoBulk d + 1
  | .slice elems spare => uptoBulkAll elems + uptoBulkAll spare + 1
  | .agg parts => uptoBulkAll parts + 1
  | .iface _ d => uptoBulk d + 1
  | .map entries => uptoBulkEntries entries + 1
  | .held _ => 1
def uptoBulkAll {H : Type} : List (DataW H) → Nat
  | [] => 0
  | d :: r => uptoBulk d + uptoBulkAll r
def uptoBulkEntries {H : Type} : List (Lit × DataW H) → Nat
  | [] => 0
  | x :: r => uptoBulkEntry x + uptoBulkEntries r
def uptoBulkEntry {H : Type} : Lit × DataW H → Nat
  | (.string bytes, d) => bytes.length + uptoBulk d + 1
  | (_, d) => uptoBulk d + 1
 end
def uptoSmall : (H : Type) → List (DataW H) → Bool := fun _ ds => decide (uptoBulkAll ds ≤ 1048576)
def OpenSpec.upto (s : _root_.Go.ChangeSpec) : _root_.Go.OpenSpec := { _root_.Go.OpenSpec.ofChange s with cond := some uptoSmall }

/-- 'picketlaw2.SpanHalves', WHERE WHAT IT READS IS OF BULK AT MOST 1048576: true; the input reads as it did. -/
def spanHalvesUptoRow : OpenClaim := { program := "ytljkhfookegmaaa", sum := "2a2465c6c172a3f31a35ab6fc5ba10f517689e29c6363681b4e0af7973075566", func := "picket/picketlaw2.SpanHalves", spec := "spanHalves", inPlace := ["math/bits.Add64"], apart := false, narrowed := true }
def SpanHalvesUptoSaid : Prop := spanHalvesUptoRow.holds Try.pinned (OpenSpec.upto spanHalvesSpec)

/-- 'picketlaw2.SpanLattice', WHERE WHAT IT READS IS OF BULK AT MOST 1048576: true; the input reads as it did. -/
def spanLatticeUptoRow : OpenClaim := { program := "ytljkhfookegmaaa", sum := "2a2465c6c172a3f31a35ab6fc5ba10f517689e29c6363681b4e0af7973075566", func := "picket/picketlaw2.SpanLattice", spec := "spanLattice", inPlace := ["math/bits.Add64"], apart := false, narrowed := true }
def SpanLatticeUptoSaid : Prop := spanLatticeUptoRow.holds Try.pinned (OpenSpec.upto spanLatticeSpec)

/-- 'picketlaw2.SpanTells', WHERE WHAT IT READS IS OF BULK AT MOST 1048576: true; the input reads as it did. -/
def spanTellsUptoRow : OpenClaim := { program := "ytljkhfookegmaaa", sum := "2a2465c6c172a3f31a35ab6fc5ba10f517689e29c6363681b4e0af7973075566", func := "picket/picketlaw2.SpanTells", spec := "spanTells", inPlace := ["math/bits.Add64"], apart := false, narrowed := true }
def SpanTellsUptoSaid : Prop := spanTellsUptoRow.holds Try.pinned (OpenSpec.upto spanTellsSpec)

/-- 'picketlaw2.SpanTight', WHERE WHAT IT READS IS OF BULK AT MOST 1048576: true; the input reads as it did. -/
def spanTightUptoRow : OpenClaim := { program := "ytljkhfookegmaaa", sum := "2a2465c6c172a3f31a35ab6fc5ba10f517689e29c6363681b4e0af7973075566", func := "picket/picketlaw2.SpanTight", spec := "spanTight", inPlace := ["math/bits.Add64"], apart := false, narrowed := true }
def SpanTightUptoSaid : Prop := spanTightUptoRow.holds Try.pinned (OpenSpec.upto spanTightSpec)

/-- 'picketlaw2.SpanSelf', WHERE WHAT IT READS IS OF BULK AT MOST 1048576: true; the input reads as it did. -/
def spanSelfUptoRow : OpenClaim := { program := "ytljkhfookegmaaa", sum := "2a2465c6c172a3f31a35ab6fc5ba10f517689e29c6363681b4e0af7973075566", func := "picket/picketlaw2.SpanSelf", spec := "spanSelf", inPlace := ["math/bits.Add64"], apart := false, narrowed := true }
def SpanSelfUptoSaid : Prop := spanSelfUptoRow.holds Try.pinned (OpenSpec.upto spanSelfSpec)

/-- 'picketlaw2.SpanReckons', WHERE WHAT IT READS IS OF BULK AT MOST 1048576: true; the input reads as it did. -/
def spanReckonsUptoRow : OpenClaim := { program := "ytljkhfookegmaaa", sum := "2a2465c6c172a3f31a35ab6fc5ba10f517689e29c6363681b4e0af7973075566", func := "picket/picketlaw2.SpanReckons", spec := "spanReckons", inPlace := ["math/bits.Add64"], apart := false, narrowed := true }
def SpanReckonsUptoSaid : Prop := spanReckonsUptoRow.holds Try.pinned (OpenSpec.upto spanReckonsSpec)

/-- 'picketlaw2.SpanGrows', WHERE WHAT IT READS IS OF BULK AT MOST 1048576: true; the input reads as it did. -/
def spanGrowsUptoRow : OpenClaim := { program := "ytljkhfookegmaaa", sum := "2a2465c6c172a3f31a35ab6fc5ba10f517689e29c6363681b4e0af7973075566", func := "picket/picketlaw2.SpanGrows", spec := "spanGrows", inPlace := ["math/bits.Add64"], apart := false, narrowed := true }
def SpanGrowsUptoSaid : Prop := spanGrowsUptoRow.holds Try.pinned (OpenSpec.upto spanGrowsSpec)

/-- 'picketlaw2.SpanHolds', WHERE WHAT IT READS IS OF BULK AT MOST 1048576: true; the input reads as it did. -/
def spanHoldsUptoRow : OpenClaim := { program := "ytljkhfookegmaaa", sum := "2a2465c6c172a3f31a35ab6fc5ba10f517689e29c6363681b4e0af7973075566", func := "picket/picketlaw2.SpanHolds", spec := "spanHolds", inPlace := ["math/bits.Add64"], apart := false, narrowed := true }
def SpanHoldsUptoSaid : Prop := spanHoldsUptoRow.holds Try.pinned (OpenSpec.upto spanHoldsSpec)

end Rows
end Go.Proofs.Ytljkhfookegmaaa
