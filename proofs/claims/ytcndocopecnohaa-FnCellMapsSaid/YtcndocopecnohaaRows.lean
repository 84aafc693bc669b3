/-
  No cell of these rows narrows 'for every input' (looked for: loops, veiled, ifaces, maps, wideKeys, modest, calm, conditions, laid).
  DERIVED. THE GIVEN ROWS OF THIS SEAT. 7 by the template 'for every input the law returns true; each argument reads behind the call as it read before'; 0 by the template 'total and deterministic' (their statements: YtcndocopecnohaaTotals.lean).
  GIVEN WITH THE SEED: the statements are not yours to turn. If you find one false, say at which input.
  Laid BY PROGRAM, IN A SANDBOX (cutbox-rows.mjs): the forced cells as the released guide's own fill.sh prints them over the translation feec3d647ba2c77b… (all of the seat's roots in one cut). By AI agents, Wed Nov 11 2026. No macro, syntax, notation, axiom, sorry.
-/
import Derived.Test.YtcndocopecnohaaChecked
import GoSem.Claim
import GoSem.ClaimJoined
import GoSem.ClaimMapViews
import Derived.JoinedTies
import Derived.KernelRfl
namespace Go.Proofs.Ytcndocopecnohaa
/- THE CELL 'sum', in the pinned program and in every row, IS THE sha256 OF THE DUMP (.gsa) THAT YtcndocopecnohaaProg.lean LOADS. Nothing in Lean hashes anything: it is a label: what it is worth is what the hold of that sum in a sandbox is worth. -/
noncomputable def Try.pinned : Pinned := { name := "ytcndocopecnohaa", sum := "feec3d647ba2c77b71991d09469863c7d4578fdbd21cfd53cf958adc41364c46", checked := Try.checked }
namespace Rows
def none {H : Type} : Left H := { results := [], args := [] }

/-- 'laws.FnExactAreaOf': WHATEVER THE INPUT: true; the input reads as it did. -/
def fnExactAreaOfSpec : ChangeSpec := { name := "fnExactAreaOf", fn := fun _ => fun
  | [d1, d2] => { results := [.lit (.bool true)], args := [d1, d2] }
  | _ => none }
def fnExactAreaOfRow : OpenClaim := { program := "ytcndocopecnohaa", sum := "feec3d647ba2c77b71991d09469863c7d4578fdbd21cfd53cf958adc41364c46", func := "loop.example/g00509/laws.FnExactAreaOf", spec := "fnExactAreaOf", apart := false }
def FnExactAreaOfSaid : Prop := fnExactAreaOfRow.holds Try.pinned (OpenSpec.ofChange fnExactAreaOfSpec)

/-- ITS FALSE NEIGHBOUR: 'it returns false'. Refute it at one input. -/
def fnExactAreaOfWrong : ChangeSpec := { name := "fnExactAreaOf", fn := fun _ => fun
  | [d1, d2] => { results := [.lit (.bool false)], args := [d1, d2] }
  | _ => none }
def FnExactAreaOfWrongFalsely : Prop := fnExactAreaOfRow.holds Try.pinned (OpenSpec.ofChange fnExactAreaOfWrong)

/-- 'laws.FnExactAreNeighbors': WHATEVER THE INPUT: true; the input reads as it did. -/
def fnExactAreNeighborsSpec : ChangeSpec := { name := "fnExactAreNeighbors", fn := fun _ => fun
  | [d1, d2, d3] => { results := [.lit (.bool true)], args := [d1, d2, d3] }
  | _ => none }
def fnExactAreNeighborsRow : OpenClaim := { program := "ytcndocopecnohaa", sum := "feec3d647ba2c77b71991d09469863c7d4578fdbd21cfd53cf958adc41364c46", func := "loop.example/g00509/laws.FnExactAreNeighbors", spec := "fnExactAreNeighbors", apart := false }
def FnExactAreNeighborsSaid : Prop := fnExactAreNeighborsRow.holds Try.pinned (OpenSpec.ofChange fnExactAreNeighborsSpec)

/-- ITS FALSE NEIGHBOUR: 'it returns false'. Refute it at one input. -/
def fnExactAreNeighborsWrong : ChangeSpec := { name := "fnExactAreNeighbors", fn := fun _ => fun
  | [d1, d2, d3] => { results := [.lit (.bool false)], args := [d1, d2, d3] }
  | _ => none }
def FnExactAreNeighborsWrongFalsely : Prop := fnExactAreNeighborsRow.holds Try.pinned (OpenSpec.ofChange fnExactAreNeighborsWrong)

/-- 'laws.FnExactCellsInArea': WHATEVER THE INPUT: true; the input reads as it did. -/
def fnExactCellsInAreaSpec : ChangeSpec := { name := "fnExactCellsInArea", fn := fun _ => fun
  | [d1, d2] => { results := [.lit (.bool true)], args := [d1, d2] }
  | _ => none }
def fnExactCellsInAreaRow : OpenClaim := { program := "ytcndocopecnohaa", sum := "feec3d647ba2c77b71991d09469863c7d4578fdbd21cfd53cf958adc41364c46", func := "loop.example/g00509/laws.FnExactCellsInArea", spec := "fnExactCellsInArea", apart := false }
def FnExactCellsInAreaSaid : Prop := fnExactCellsInAreaRow.holds Try.pinned (OpenSpec.ofChange fnExactCellsInAreaSpec)

/-- ITS FALSE NEIGHBOUR: 'it returns false'. Refute it at one input. -/
def fnExactCellsInAreaWrong : ChangeSpec := { name := "fnExactCellsInArea", fn := fun _ => fun
  | [d1, d2] => { results := [.lit (.bool false)], args := [d1, d2] }
  | _ => none }
def FnExactCellsInAreaWrongFalsely : Prop := fnExactCellsInAreaRow.holds Try.pinned (OpenSpec.ofChange fnExactCellsInAreaWrong)

/-- 'laws.FnExactEqualMaps': WHATEVER THE INPUT: true; the input reads as it did. -/
def fnExactEqualMapsSpec : ChangeSpec := { name := "fnExactEqualMaps", fn := fun _ => fun
  | [d1, d2] => { results := [.lit (.bool true)], args := [d1, d2] }
  | _ => none }
def fnExactEqualMapsRow : OpenClaim := { program := "ytcndocopecnohaa", sum := "feec3d647ba2c77b71991d09469863c7d4578fdbd21cfd53cf958adc41364c46", func := "loop.example/g00509/laws.FnExactEqualMaps", spec := "fnExactEqualMaps", unfollowed := true, recurses := true, apart := false }
def FnExactEqualMapsSaid : Prop := fnExactEqualMapsRow.holds Try.pinned (OpenSpec.ofChange fnExactEqualMapsSpec)

/-- ITS FALSE NEIGHBOUR: 'it returns false'. Refute it at one input. -/
def fnExactEqualMapsWrong : ChangeSpec := { name := "fnExactEqualMaps", fn := fun _ => fun
  | [d1, d2] => { results := [.lit (.bool false)], args := [d1, d2] }
  | _ => none }
def FnExactEqualMapsWrongFalsely : Prop := fnExactEqualMapsRow.holds Try.pinned (OpenSpec.ofChange fnExactEqualMapsWrong)

/-- 'laws.FnExactHopDistance': WHATEVER THE INPUT: true; the input reads as it did. -/
def fnExactHopDistanceSpec : ChangeSpec := { name := "fnExactHopDistance", fn := fun _ => fun
  | [d1, d2, d3] => { results := [.lit (.bool true)], args := [d1, d2, d3] }
  | _ => none }
def fnExactHopDistanceRow : OpenClaim := { program := "ytcndocopecnohaa", sum := "feec3d647ba2c77b71991d09469863c7d4578fdbd21cfd53cf958adc41364c46", func := "loop.example/g00509/laws.FnExactHopDistance", spec := "fnExactHopDistance", apart := false }
def FnExactHopDistanceSaid : Prop := fnExactHopDistanceRow.holds Try.pinned (OpenSpec.ofChange fnExactHopDistanceSpec)

/-- ITS FALSE NEIGHBOUR: 'it returns false'. Refute it at one input. -/
def fnExactHopDistanceWrong : ChangeSpec := { name := "fnExactHopDistance", fn := fun _ => fun
  | [d1, d2, d3] => { results := [.lit (.bool false)], args := [d1, d2, d3] }
  | _ => none }
def FnExactHopDistanceWrongFalsely : Prop := fnExactHopDistanceRow.holds Try.pinned (OpenSpec.ofChange fnExactHopDistanceWrong)

/-- 'laws.FnExactIsValidMap': WHATEVER THE INPUT: true; the input reads as it did. -/
def fnExactIsValidMapSpec : ChangeSpec := { name := "fnExactIsValidMap", fn := fun _ => fun
  | [d] => { results := [.lit (.bool true)], args := [d] }
  | _ => none }
def fnExactIsValidMapRow : OpenClaim := { program := "ytcndocopecnohaa", sum := "feec3d647ba2c77b71991d09469863c7d4578fdbd21cfd53cf958adc41364c46", func := "loop.example/g00509/laws.FnExactIsValidMap", spec := "fnExactIsValidMap", apart := false }
def FnExactIsValidMapSaid : Prop := fnExactIsValidMapRow.holds Try.pinned (OpenSpec.ofChange fnExactIsValidMapSpec)

/-- ITS FALSE NEIGHBOUR: 'it returns false'. Refute it at one input. -/
def fnExactIsValidMapWrong : ChangeSpec := { name := "fnExactIsValidMap", fn := fun _ => fun
  | [d] => { results := [.lit (.bool false)], args := [d] }
  | _ => none }
def FnExactIsValidMapWrongFalsely : Prop := fnExactIsValidMapRow.holds Try.pinned (OpenSpec.ofChange fnExactIsValidMapWrong)

/-- 'laws.FnCellMaps': WHATEVER THE INPUT: true; the input reads as it did. -/
def fnCellMapsSpec : ChangeSpec := { name := "fnCellMaps", fn := fun _ => fun
  | [d] => { results := [.lit (.bool true)], args := [d] }
  | _ => none }
def fnCellMapsRow : OpenClaim := { program := "ytcndocopecnohaa", sum := "feec3d647ba2c77b71991d09469863c7d4578fdbd21cfd53cf958adc41364c46", func := "loop.example/g00509/laws.FnCellMaps", spec := "fnCellMaps", apart := false }
def FnCellMapsSaid : Prop := fnCellMapsRow.holds Try.pinned (OpenSpec.ofChange fnCellMapsSpec)

/-- ITS FALSE NEIGHBOUR: 'it returns false'. Refute it at one input. -/
def fnCellMapsWrong : ChangeSpec := { name := "fnCellMaps", fn := fun _ => fun
  | [d] => { results := [.lit (.bool false)], args := [d] }
  | _ => none }
def FnCellMapsWrongFalsely : Prop := fnCellMapsRow.holds Try.pinned (OpenSpec.ofChange fnCellMapsWrong)

/- THE SECOND FORM. 'bulk': how many values and letters a reading holds, each counted each time it is reached (what is shared counts as often as it is met; a slice's spare places count too). A statement '..UptoSaid' is the law's where the arguments, and the package variables that the reading takes, are together of bulk at most 1048576: NARROWER than '..Said'. Prove '..Said' where nothing that the law and all that it calls make is longer than what came in: it says more and counts as full. Else prove '..UptoSaid'. A law counts once. -/
mutual
def uptoBulk {H : Type} : DataW H → Nat
  | .lit (.string bytes) => bytes.length + 1
  | .lit _ => 1
  | .nil => 1
  | .ptr d => uptoBulk d + 1
  | .slice elems spare => uptoBulkAll elems + uptoBulkAll spare + 1
  | .agg parts => uptoBulkAll parts + 1
  | .iface _ d => uptoBulk d + 1
  | .map entries => uptoBulkEntries entries + 1
  | .held _ => 1
def uptoBulkAll {H : Type} : List (DataW H) → Nat
  | [] => 0
  | d :: r => uptoBulk d + uptoBulkAll r
def uptoBulkEntries {H : Type} : List (Lit × DataW H) → Nat
  | [] => 0
  | x :: r => uptoBulkEntry x + uptoBulkEntries r
def uptoBulkEntry {H : Type} : Lit × DataW H → Nat
  | (.string bytes, d) => bytes.length + uptoBulk d + 1
  | (_, d) => uptoBulk d + 1
 end
def uptoSmall : (H : Type) → List (DataW H) → Bool := fun _ ds => decide (uptoBulkAll ds ≤ 1048576)
def OpenSpec.upto (s : _root_.Go.ChangeSpec) : _root_.Go.OpenSpec := { _root_.Go.OpenSpec.ofChange s with cond := some uptoSmall }

/-- 'laws.FnExactAreaOf', WHERE WHAT IT READS IS OF BULK AT MOST 1048576: true; the input reads as it did. -/
def fnExactAreaOfUptoRow : OpenClaim := { program := "ytcndocopecnohaa", sum := "feec3d647ba2c77b71991d09469863c7d4578fdbd21cfd53cf958adc41364c46", func := "loop.example/g00509/laws.FnExactAreaOf", spec := "fnExactAreaOf", apart := false, narrowed := true }
def FnExactAreaOfUptoSaid : Prop := fnExactAreaOfUptoRow.holds Try.pinned (OpenSpec.upto fnExactAreaOfSpec)

/-- 'laws.FnExactAreNeighbors', WHERE WHAT IT READS IS OF BULK AT MOST 1048576: true; the input reads as it did. -/
def fnExactAreNeighborsUptoRow : OpenClaim := { program := "ytcndocopecnohaa", sum := "feec3d647ba2c77b71991d09469863c7d4578fdbd21cfd53cf958adc41364c46", func := "loop.example/g00509/laws.FnExactAreNeighbors", spec := "fnExactAreNeighbors", apart := false, narrowed := true }
def FnExactAreNeighborsUptoSaid : Prop := fnExactAreNeighborsUptoRow.holds Try.pinned (OpenSpec.upto fnExactAreNeighborsSpec)

/-- 'laws.FnExactCellsInArea', WHERE WHAT IT READS IS OF BULK AT MOST 1048576: true; the input reads as it did. -/
def fnExactCellsInAreaUptoRow : OpenClaim := { program := "ytcndocopecnohaa", sum := "feec3d647ba2c77b71991d09469863c7d4578fdbd21cfd53cf958adc41364c46", func := "loop.example/g00509/laws.FnExactCellsInArea", spec := "fnExactCellsInArea", apart := false, narrowed := true }
def FnExactCellsInAreaUptoSaid : Prop := fnExactCellsInAreaUptoRow.holds Try.pinned (OpenSpec.upto fnExactCellsInAreaSpec)

/-- 'laws.FnExactEqualMaps', WHERE WHAT IT READS IS OF BULK AT MOST 1048576: true; the input reads as it did. -/
def fnExactEqualMapsUptoRow : OpenClaim := { program := "ytcndocopecnohaa", sum := "feec3d647ba2c77b71991d09469863c7d4578fdbd21cfd53cf958adc41364c46", func := "loop.example/g00509/laws.FnExactEqualMaps", spec := "fnExactEqualMaps", unfollowed := true, recurses := true, apart := false, narrowed := true }
def FnExactEqualMapsUptoSaid : Prop := fnExactEqualMapsUptoRow.holds Try.pinned (OpenSpec.upto fnExactEqualMapsSpec)

/-- 'laws.FnExactHopDistance', WHERE WHAT IT READS IS OF BULK AT MOST 1048576: true; the input reads as it did. -/
def fnExactHopDistanceUptoRow : OpenClaim := { program := "ytcndocopecnohaa", sum := "feec3d647ba2c77b71991d09469863c7d4578fdbd21cfd53cf958adc41364c46", func := "loop.example/g00509/laws.FnExactHopDistance", spec := "fnExactHopDistance", apart := false, narrowed := true }
def FnExactHopDistanceUptoSaid : Prop := fnExactHopDistanceUptoRow.holds Try.pinned (OpenSpec.upto fnExactHopDistanceSpec)

/-- 'laws.FnExactIsValidMap', WHERE WHAT IT READS IS OF BULK AT MOST 1048576: true; the input reads as it did. -/
def fnExactIsValidMapUptoRow : OpenClaim := { program := "ytcndocopecnohaa", sum := "feec3d647ba2c77b71991d09469863c7d4578fdbd21cfd53cf958adc41364c46", func := "loop.example/g00509/laws.FnExactIsValidMap", spec := "fnExactIsValidMap", apart := false, narrowed := true }
def FnExactIsValidMapUptoSaid : Prop := fnExactIsValidMapUptoRow.holds Try.pinned (OpenSpec.upto fnExactIsValidMapSpec)

/-- 'laws.FnCellMaps', WHERE WHAT IT READS IS OF BULK AT MOST 1048576: true; the input reads as it did. -/
def fnCellMapsUptoRow : OpenClaim := { program := "ytcndocopecnohaa", sum := "feec3d647ba2c77b71991d09469863c7d4578fdbd21cfd53cf958adc41364c46", func := "loop.example/g00509/laws.FnCellMaps", spec := "fnCellMaps", apart := false, narrowed := true }
def FnCellMapsUptoSaid : Prop := fnCellMapsUptoRow.holds Try.pinned (OpenSpec.upto fnCellMapsSpec)

end Rows
end Go.Proofs.Ytcndocopecnohaa
