/-
  No cell of these rows narrows 'for every input' (looked for: loops, veiled, ifaces, maps, wideKeys, modest, calm, conditions, laid).
  DERIVED. THE GIVEN ROWS OF THIS SEAT. 13 by the template 'for every input the law returns true; each argument reads behind the call as it read before'; 0 by the template 'total and deterministic' (their statements: YticfmkfiibhafaaTotals.lean).
  GIVEN WITH THE SEED: the statements are not yours to turn. If you find one false, say at which input.
  Laid BY PROGRAM, IN A SANDBOX (cutbox-rows.mjs): the forced cells as the released guide's own fill.sh prints them over the translation 5174deedbf72d99e… (all of the seat's roots in one cut). By AI agents, Wed Nov 11 2026. No macro, syntax, notation, axiom, sorry.
-/
import Derived.Test.YticfmkfiibhafaaChecked
import GoSem.Claim
import GoSem.ClaimJoined
import GoSem.ClaimMapViews
import Derived.JoinedTies
import Derived.KernelRfl
namespace Go.Proofs.Yticfmkfiibhafaa
/- THE CELL 'sum', in the pinned program and in every row, IS THE sha256 OF THE DUMP (.gsa) THAT YticfmkfiibhafaaProg.lean LOADS. Nothing in Lean hashes anything: it is a label: what it is worth is what the hold of that sum in a sandbox is worth. -/
noncomputable def Try.pinned : Pinned := { name := "yticfmkfiibhafaa", sum := "5174deedbf72d99e3f61bd33342defc0677d833cec221559dd60428b6d908000", checked := Try.checked }
namespace Rows
def none {H : Type} : Left H := { results := [], args := [] }

/-- 'laws.FnExactTotalRate': WHATEVER THE INPUT: true; the input reads as it did. -/
def fnExactTotalRateSpec : ChangeSpec := { name := "fnExactTotalRate", fn := fun _ => fun
  | [d] => { results := [.lit (.bool true)], args := [d] }
  | _ => none }
def fnExactTotalRateRow : OpenClaim := { program := "yticfmkfiibhafaa", sum := "5174deedbf72d99e3f61bd33342defc0677d833cec221559dd60428b6d908000", func := "loop.example/g00509/laws.FnExactTotalRate", spec := "fnExactTotalRate", apart := false }
def FnExactTotalRateSaid : Prop := fnExactTotalRateRow.holds Try.pinned (OpenSpec.ofChange fnExactTotalRateSpec)

/-- ITS FALSE NEIGHBOUR: 'it returns false'. Refute it at one input. -/
def fnExactTotalRateWrong : ChangeSpec := { name := "fnExactTotalRate", fn := fun _ => fun
  | [d] => { results := [.lit (.bool false)], args := [d] }
  | _ => none }
def FnExactTotalRateWrongFalsely : Prop := fnExactTotalRateRow.holds Try.pinned (OpenSpec.ofChange fnExactTotalRateWrong)

/-- 'laws.FnExactFindBearer': WHATEVER THE INPUT: true; the input reads as it did. -/
def fnExactFindBearerSpec : ChangeSpec := { name := "fnExactFindBearer", fn := fun _ => fun
  | [d1, d2] => { results := [.lit (.bool true)], args := [d1, d2] }
  | _ => none }
def fnExactFindBearerRow : OpenClaim := { program := "yticfmkfiibhafaa", sum := "5174deedbf72d99e3f61bd33342defc0677d833cec221559dd60428b6d908000", func := "loop.example/g00509/laws.FnExactFindBearer", spec := "fnExactFindBearer", apart := false }
def FnExactFindBearerSaid : Prop := fnExactFindBearerRow.holds Try.pinned (OpenSpec.ofChange fnExactFindBearerSpec)

/-- ITS FALSE NEIGHBOUR: 'it returns false'. Refute it at one input. -/
def fnExactFindBearerWrong : ChangeSpec := { name := "fnExactFindBearer", fn := fun _ => fun
  | [d1, d2] => { results := [.lit (.bool false)], args := [d1, d2] }
  | _ => none }
def FnExactFindBearerWrongFalsely : Prop := fnExactFindBearerRow.holds Try.pinned (OpenSpec.ofChange fnExactFindBearerWrong)

/-- 'laws.FnExactMatchFilter': WHATEVER THE INPUT: true; the input reads as it did. -/
def fnExactMatchFilterSpec : ChangeSpec := { name := "fnExactMatchFilter", fn := fun _ => fun
  | [d1, d2] => { results := [.lit (.bool true)], args := [d1, d2] }
  | _ => none }
def fnExactMatchFilterRow : OpenClaim := { program := "yticfmkfiibhafaa", sum := "5174deedbf72d99e3f61bd33342defc0677d833cec221559dd60428b6d908000", func := "loop.example/g00509/laws.FnExactMatchFilter", spec := "fnExactMatchFilter", apart := false }
def FnExactMatchFilterSaid : Prop := fnExactMatchFilterRow.holds Try.pinned (OpenSpec.ofChange fnExactMatchFilterSpec)

/-- ITS FALSE NEIGHBOUR: 'it returns false'. Refute it at one input. -/
def fnExactMatchFilterWrong : ChangeSpec := { name := "fnExactMatchFilter", fn := fun _ => fun
  | [d1, d2] => { results := [.lit (.bool false)], args := [d1, d2] }
  | _ => none }
def FnExactMatchFilterWrongFalsely : Prop := fnExactMatchFilterRow.holds Try.pinned (OpenSpec.ofChange fnExactMatchFilterWrong)

/-- 'laws.FnExactAreValidFilters': WHATEVER THE INPUT: true; the input reads as it did. -/
def fnExactAreValidFiltersSpec : ChangeSpec := { name := "fnExactAreValidFilters", fn := fun _ => fun
  | [d] => { results := [.lit (.bool true)], args := [d] }
  | _ => none }
def fnExactAreValidFiltersRow : OpenClaim := { program := "yticfmkfiibhafaa", sum := "5174deedbf72d99e3f61bd33342defc0677d833cec221559dd60428b6d908000", func := "loop.example/g00509/laws.FnExactAreValidFilters", spec := "fnExactAreValidFilters", apart := false }
def FnExactAreValidFiltersSaid : Prop := fnExactAreValidFiltersRow.holds Try.pinned (OpenSpec.ofChange fnExactAreValidFiltersSpec)

/-- ITS FALSE NEIGHBOUR: 'it returns false'. Refute it at one input. -/
def fnExactAreValidFiltersWrong : ChangeSpec := { name := "fnExactAreValidFilters", fn := fun _ => fun
  | [d] => { results := [.lit (.bool false)], args := [d] }
  | _ => none }
def FnExactAreValidFiltersWrongFalsely : Prop := fnExactAreValidFiltersRow.holds Try.pinned (OpenSpec.ofChange fnExactAreValidFiltersWrong)

/-- 'laws.FnExactAreValidBearers': WHATEVER THE INPUT: true; the input reads as it did. -/
def fnExactAreValidBearersSpec : ChangeSpec := { name := "fnExactAreValidBearers", fn := fun _ => fun
  | [d] => { results := [.lit (.bool true)], args := [d] }
  | _ => none }
def fnExactAreValidBearersRow : OpenClaim := { program := "yticfmkfiibhafaa", sum := "5174deedbf72d99e3f61bd33342defc0677d833cec221559dd60428b6d908000", func := "loop.example/g00509/laws.FnExactAreValidBearers", spec := "fnExactAreValidBearers", apart := false }
def FnExactAreValidBearersSaid : Prop := fnExactAreValidBearersRow.holds Try.pinned (OpenSpec.ofChange fnExactAreValidBearersSpec)

/-- ITS FALSE NEIGHBOUR: 'it returns false'. Refute it at one input. -/
def fnExactAreValidBearersWrong : ChangeSpec := { name := "fnExactAreValidBearers", fn := fun _ => fun
  | [d] => { results := [.lit (.bool false)], args := [d] }
  | _ => none }
def FnExactAreValidBearersWrongFalsely : Prop := fnExactAreValidBearersRow.holds Try.pinned (OpenSpec.ofChange fnExactAreValidBearersWrong)

/-- 'laws.FnExactPreemptionCandidate': WHATEVER THE INPUT: true; the input reads as it did. -/
def fnExactPreemptionCandidateSpec : ChangeSpec := { name := "fnExactPreemptionCandidate", fn := fun _ => fun
  | [d] => { results := [.lit (.bool true)], args := [d] }
  | _ => none }
def fnExactPreemptionCandidateRow : OpenClaim := { program := "yticfmkfiibhafaa", sum := "5174deedbf72d99e3f61bd33342defc0677d833cec221559dd60428b6d908000", func := "loop.example/g00509/laws.FnExactPreemptionCandidate", spec := "fnExactPreemptionCandidate", apart := false }
def FnExactPreemptionCandidateSaid : Prop := fnExactPreemptionCandidateRow.holds Try.pinned (OpenSpec.ofChange fnExactPreemptionCandidateSpec)

/-- ITS FALSE NEIGHBOUR: 'it returns false'. Refute it at one input. -/
def fnExactPreemptionCandidateWrong : ChangeSpec := { name := "fnExactPreemptionCandidate", fn := fun _ => fun
  | [d] => { results := [.lit (.bool false)], args := [d] }
  | _ => none }
def FnExactPreemptionCandidateWrongFalsely : Prop := fnExactPreemptionCandidateRow.holds Try.pinned (OpenSpec.ofChange fnExactPreemptionCandidateWrong)

/-- 'laws.FnExactRemoveBearer': WHATEVER THE INPUT: true; the input reads as it did. -/
def fnExactRemoveBearerSpec : ChangeSpec := { name := "fnExactRemoveBearer", fn := fun _ => fun
  | [d1, d2] => { results := [.lit (.bool true)], args := [d1, d2] }
  | _ => none }
def fnExactRemoveBearerRow : OpenClaim := { program := "yticfmkfiibhafaa", sum := "5174deedbf72d99e3f61bd33342defc0677d833cec221559dd60428b6d908000", func := "loop.example/g00509/laws.FnExactRemoveBearer", spec := "fnExactRemoveBearer", apart := false }
def FnExactRemoveBearerSaid : Prop := fnExactRemoveBearerRow.holds Try.pinned (OpenSpec.ofChange fnExactRemoveBearerSpec)

/-- ITS FALSE NEIGHBOUR: 'it returns false'. Refute it at one input. -/
def fnExactRemoveBearerWrong : ChangeSpec := { name := "fnExactRemoveBearer", fn := fun _ => fun
  | [d1, d2] => { results := [.lit (.bool false)], args := [d1, d2] }
  | _ => none }
def FnExactRemoveBearerWrongFalsely : Prop := fnExactRemoveBearerRow.holds Try.pinned (OpenSpec.ofChange fnExactRemoveBearerWrong)

/-- 'laws.FnExactSetBearer': WHATEVER THE INPUT: true; the input reads as it did. -/
def fnExactSetBearerSpec : ChangeSpec := { name := "fnExactSetBearer", fn := fun _ => fun
  | [d1, d2] => { results := [.lit (.bool true)], args := [d1, d2] }
  | _ => none }
def fnExactSetBearerRow : OpenClaim := { program := "yticfmkfiibhafaa", sum := "5174deedbf72d99e3f61bd33342defc0677d833cec221559dd60428b6d908000", func := "loop.example/g00509/laws.FnExactSetBearer", spec := "fnExactSetBearer", apart := false }
def FnExactSetBearerSaid : Prop := fnExactSetBearerRow.holds Try.pinned (OpenSpec.ofChange fnExactSetBearerSpec)

/-- ITS FALSE NEIGHBOUR: 'it returns false'. Refute it at one input. -/
def fnExactSetBearerWrong : ChangeSpec := { name := "fnExactSetBearer", fn := fun _ => fun
  | [d1, d2] => { results := [.lit (.bool false)], args := [d1, d2] }
  | _ => none }
def FnExactSetBearerWrongFalsely : Prop := fnExactSetBearerRow.holds Try.pinned (OpenSpec.ofChange fnExactSetBearerWrong)

/-- 'laws.FnExactAdmitBearer': WHATEVER THE INPUT: true; the input reads as it did. -/
def fnExactAdmitBearerSpec : ChangeSpec := { name := "fnExactAdmitBearer", fn := fun _ => fun
  | [d1, d2, d3] => { results := [.lit (.bool true)], args := [d1, d2, d3] }
  | _ => none }
def fnExactAdmitBearerRow : OpenClaim := { program := "yticfmkfiibhafaa", sum := "5174deedbf72d99e3f61bd33342defc0677d833cec221559dd60428b6d908000", func := "loop.example/g00509/laws.FnExactAdmitBearer", spec := "fnExactAdmitBearer", apart := false }
def FnExactAdmitBearerSaid : Prop := fnExactAdmitBearerRow.holds Try.pinned (OpenSpec.ofChange fnExactAdmitBearerSpec)

/-- ITS FALSE NEIGHBOUR: 'it returns false'. Refute it at one input. -/
def fnExactAdmitBearerWrong : ChangeSpec := { name := "fnExactAdmitBearer", fn := fun _ => fun
  | [d1, d2, d3] => { results := [.lit (.bool false)], args := [d1, d2, d3] }
  | _ => none }
def FnExactAdmitBearerWrongFalsely : Prop := fnExactAdmitBearerRow.holds Try.pinned (OpenSpec.ofChange fnExactAdmitBearerWrong)

/-- 'laws.FnBearerAdmission': WHATEVER THE INPUT: true; the input reads as it did. -/
def fnBearerAdmissionSpec : ChangeSpec := { name := "fnBearerAdmission", fn := fun _ => fun
  | [d] => { results := [.lit (.bool true)], args := [d] }
  | _ => none }
def fnBearerAdmissionRow : OpenClaim := { program := "yticfmkfiibhafaa", sum := "5174deedbf72d99e3f61bd33342defc0677d833cec221559dd60428b6d908000", func := "loop.example/g00509/laws.FnBearerAdmission", spec := "fnBearerAdmission", apart := false }
def FnBearerAdmissionSaid : Prop := fnBearerAdmissionRow.holds Try.pinned (OpenSpec.ofChange fnBearerAdmissionSpec)

/-- ITS FALSE NEIGHBOUR: 'it returns false'. Refute it at one input. -/
def fnBearerAdmissionWrong : ChangeSpec := { name := "fnBearerAdmission", fn := fun _ => fun
  | [d] => { results := [.lit (.bool false)], args := [d] }
  | _ => none }
def FnBearerAdmissionWrongFalsely : Prop := fnBearerAdmissionRow.holds Try.pinned (OpenSpec.ofChange fnBearerAdmissionWrong)

/-- 'laws.FnExactClassifyPort': WHATEVER THE INPUT: true; the input reads as it did. -/
def fnExactClassifyPortSpec : ChangeSpec := { name := "fnExactClassifyPort", fn := fun _ => fun
  | [d1, d2, d3] => { results := [.lit (.bool true)], args := [d1, d2, d3] }
  | _ => none }
def fnExactClassifyPortRow : OpenClaim := { program := "yticfmkfiibhafaa", sum := "5174deedbf72d99e3f61bd33342defc0677d833cec221559dd60428b6d908000", func := "loop.example/g00509/laws.FnExactClassifyPort", spec := "fnExactClassifyPort", apart := false }
def FnExactClassifyPortSaid : Prop := fnExactClassifyPortRow.holds Try.pinned (OpenSpec.ofChange fnExactClassifyPortSpec)

/-- ITS FALSE NEIGHBOUR: 'it returns false'. Refute it at one input. -/
def fnExactClassifyPortWrong : ChangeSpec := { name := "fnExactClassifyPort", fn := fun _ => fun
  | [d1, d2, d3] => { results := [.lit (.bool false)], args := [d1, d2, d3] }
  | _ => none }
def FnExactClassifyPortWrongFalsely : Prop := fnExactClassifyPortRow.holds Try.pinned (OpenSpec.ofChange fnExactClassifyPortWrong)

/-- 'laws.FnExactPacketsForBearer': WHATEVER THE INPUT: true; the input reads as it did. -/
def fnExactPacketsForBearerSpec : ChangeSpec := { name := "fnExactPacketsForBearer", fn := fun _ => fun
  | [d1, d2, d3, d4] => { results := [.lit (.bool true)], args := [d1, d2, d3, d4] }
  | _ => none }
def fnExactPacketsForBearerRow : OpenClaim := { program := "yticfmkfiibhafaa", sum := "5174deedbf72d99e3f61bd33342defc0677d833cec221559dd60428b6d908000", func := "loop.example/g00509/laws.FnExactPacketsForBearer", spec := "fnExactPacketsForBearer", apart := false }
def FnExactPacketsForBearerSaid : Prop := fnExactPacketsForBearerRow.holds Try.pinned (OpenSpec.ofChange fnExactPacketsForBearerSpec)

/-- ITS FALSE NEIGHBOUR: 'it returns false'. Refute it at one input. -/
def fnExactPacketsForBearerWrong : ChangeSpec := { name := "fnExactPacketsForBearer", fn := fun _ => fun
  | [d1, d2, d3, d4] => { results := [.lit (.bool false)], args := [d1, d2, d3, d4] }
  | _ => none }
def FnExactPacketsForBearerWrongFalsely : Prop := fnExactPacketsForBearerRow.holds Try.pinned (OpenSpec.ofChange fnExactPacketsForBearerWrong)

/-- 'laws.FnClassification': WHATEVER THE INPUT: true; the input reads as it did. -/
def fnClassificationSpec : ChangeSpec := { name := "fnClassification", fn := fun _ => fun
  | [d] => { results := [.lit (.bool true)], args := [d] }
  | _ => none }
def fnClassificationRow : OpenClaim := { program := "yticfmkfiibhafaa", sum := "5174deedbf72d99e3f61bd33342defc0677d833cec221559dd60428b6d908000", func := "loop.example/g00509/laws.FnClassification", spec := "fnClassification", apart := false }
def FnClassificationSaid : Prop := fnClassificationRow.holds Try.pinned (OpenSpec.ofChange fnClassificationSpec)

/-- ITS FALSE NEIGHBOUR: 'it returns false'. Refute it at one input. -/
def fnClassificationWrong : ChangeSpec := { name := "fnClassification", fn := fun _ => fun
  | [d] => { results := [.lit (.bool false)], args := [d] }
  | _ => none }
def FnClassificationWrongFalsely : Prop := fnClassificationRow.holds Try.pinned (OpenSpec.ofChange fnClassificationWrong)

/- THE SECOND FORM. 'bulk': how many values and letters a reading holds, each counted each time it is reached (what is shared counts as often as it is met; a slice's spare places count too). A statement '..UptoSaid' is the law's where the arguments, and the package variables that the reading takes, are together of bulk at most 1048576: NARROWER than '..Said'. Prove '..Said' where nothing that the law and all that it calls make is longer than what came in: it says more and counts as full. Else prove '..UptoSaid'. A law counts once. -/
mutual
def uptoBulk {H : Type} : DataW H → Nat
  | .lit (.string bytes) => bytes.length + 1
  | .lit _ => 1
  | .nil => 1
  | .ptr d => uptoBulk d + 1
  | .slice elems spare => uptoBulkAll elems + uptoBulkAll spare + 1
  | .agg parts => uptoBulkAll parts + 1
  | .iface _ d => uptoBulk d + 1
  | .map entries => uptoBulkEntries entries + 1
  | .held _ => 1
def uptoBulkAll {H : Type} : List (DataW H) → Nat
  | [] => 0
  | d :: r => uptoBulk d + uptoBulkAll r
def uptoBulkEntries {H : Type} : List (Lit × DataW H) → Nat
  | [] => 0
  | x :: r => uptoBulkEntry x + uptoBulkEntries r
def uptoBulkEntry {H : Type} : Lit × DataW H → Nat
  | (.string bytes, d) => bytes.length + uptoBulk d + 1
  | (_, d) => uptoBulk d + 1
 end
def uptoSmall : (H : Type) → List (DataW H) → Bool := fun _ ds => decide (uptoBulkAll ds ≤ 1048576)
def OpenSpec.upto (s : _root_.Go.ChangeSpec) : _root_.Go.OpenSpec := { _root_.Go.OpenSpec.ofChange s with cond := some uptoSmall }

/-- 'laws.FnExactTotalRate', WHERE WHAT IT READS IS OF BULK AT MOST 1048576: true; the input reads as it did. -/
def fnExactTotalRateUptoRow : OpenClaim := { program := "yticfmkfiibhafaa", sum := "5174deedbf72d99e3f61bd33342defc0677d833cec221559dd60428b6d908000", func := "loop.example/g00509/laws.FnExactTotalRate", spec := "fnExactTotalRate", apart := false, narrowed := true }
def FnExactTotalRateUptoSaid : Prop := fnExactTotalRateUptoRow.holds Try.pinned (OpenSpec.upto fnExactTotalRateSpec)

/-- 'laws.FnExactFindBearer', WHERE WHAT IT READS IS OF BULK AT MOST 1048576: true; the input reads as it did. -/
def fnExactFindBearerUptoRow : OpenClaim := { program := "yticfmkfiibhafaa", sum := "5174deedbf72d99e3f61bd33342defc0677d833cec221559dd60428b6d908000", func := "loop.example/g00509/laws.FnExactFindBearer", spec := "fnExactFindBearer", apart := false, narrowed := true }
def FnExactFindBearerUptoSaid : Prop := fnExactFindBearerUptoRow.holds Try.pinned (OpenSpec.upto fnExactFindBearerSpec)

/-- 'laws.FnExactMatchFilter', WHERE WHAT IT READS IS OF BULK AT MOST 1048576: true; the input reads as it did. -/
def fnExactMatchFilterUptoRow : OpenClaim := { program := "yticfmkfiibhafaa", sum := "5174deedbf72d99e3f61bd33342defc0677d833cec221559dd60428b6d908000", func := "loop.example/g00509/laws.FnExactMatchFilter", spec := "fnExactMatchFilter", apart := false, narrowed := true }
def FnExactMatchFilterUptoSaid : Prop := fnExactMatchFilterUptoRow.holds Try.pinned (OpenSpec.upto fnExactMatchFilterSpec)

/-- 'laws.FnExactAreValidFilters', WHERE WHAT IT READS IS OF BULK AT MOST 1048576: true; the input reads as it did. -/
def fnExactAreValidFiltersUptoRow : OpenClaim := { program := "yticfmkfiibhafaa", sum := "5174deedbf72d99e3f61bd33342defc0677d833cec221559dd60428b6d908000", func := "loop.example/g00509/laws.FnExactAreValidFilters", spec := "fnExactAreValidFilters", apart := false, narrowed := true }
def FnExactAreValidFiltersUptoSaid : Prop := fnExactAreValidFiltersUptoRow.holds Try.pinned (OpenSpec.upto fnExactAreValidFiltersSpec)

/-- 'laws.FnExactAreValidBearers', WHERE WHAT IT READS IS OF BULK AT MOST 1048576: true; the input reads as it did. -/
def fnExactAreValidBearersUptoRow : OpenClaim := { program := "yticfmkfiibhafaa", sum := "5174deedbf72d99e3f61bd33342defc0677d833cec221559dd60428b6d908000", func := "loop.example/g00509/laws.FnExactAreValidBearers", spec := "fnExactAreValidBearers", apart := false, narrowed := true }
def FnExactAreValidBearersUptoSaid : Prop := fnExactAreValidBearersUptoRow.holds Try.pinned (OpenSpec.upto fnExactAreValidBearersSpec)

/-- 'laws.FnExactPreemptionCandidate', WHERE WHAT IT READS IS OF BULK AT MOST 1048576: true; the input reads as it did. -/
def fnExactPreemptionCandidateUptoRow : OpenClaim := { program := "yticfmkfiibhafaa", sum := "5174deedbf72d99e3f61bd33342defc0677d833cec221559dd60428b6d908000", func := "loop.example/g00509/laws.FnExactPreemptionCandidate", spec := "fnExactPreemptionCandidate", apart := false, narrowed := true }
def FnExactPreemptionCandidateUptoSaid : Prop := fnExactPreemptionCandidateUptoRow.holds Try.pinned (OpenSpec.upto fnExactPreemptionCandidateSpec)

/-- 'laws.FnExactRemoveBearer', WHERE WHAT IT READS IS OF BULK AT MOST 1048576: true; the input reads as it did. -/
def fnExactRemoveBearerUptoRow : OpenClaim := { program := "yticfmkfiibhafaa", sum := "5174deedbf72d99e3f61bd33342defc0677d833cec221559dd60428b6d908000", func := "loop.example/g00509/laws.FnExactRemoveBearer", spec := "fnExactRemoveBearer", apart := false, narrowed := true }
def FnExactRemoveBearerUptoSaid : Prop := fnExactRemoveBearerUptoRow.holds Try.pinned (OpenSpec.upto fnExactRemoveBearerSpec)

/-- 'laws.FnExactSetBearer', WHERE WHAT IT READS IS OF BULK AT MOST 1048576: true; the input reads as it did. -/
def fnExactSetBearerUptoRow : OpenClaim := { program := "yticfmkfiibhafaa", sum := "5174deedbf72d99e3f61bd33342defc0677d833cec221559dd60428b6d908000", func := "loop.example/g00509/laws.FnExactSetBearer", spec := "fnExactSetBearer", apart := false, narrowed := true }
def FnExactSetBearerUptoSaid : Prop := fnExactSetBearerUptoRow.holds Try.pinned (OpenSpec.upto fnExactSetBearerSpec)

/-- 'laws.FnExactAdmitBearer', WHERE WHAT IT READS IS OF BULK AT MOST 1048576: true; the input reads as it did. -/
def fnExactAdmitBearerUptoRow : OpenClaim := { program := "yticfmkfiibhafaa", sum := "5174deedbf72d99e3f61bd33342defc0677d833cec221559dd60428b6d908000", func := "loop.example/g00509/laws.FnExactAdmitBearer", spec := "fnExactAdmitBearer", apart := false, narrowed := true }
def FnExactAdmitBearerUptoSaid : Prop := fnExactAdmitBearerUptoRow.holds Try.pinned (OpenSpec.upto fnExactAdmitBearerSpec)

/-- 'laws.FnBearerAdmission', WHERE WHAT IT READS IS OF BULK AT MOST 1048576: true; the input reads as it did. -/
def fnBearerAdmissionUptoRow : OpenClaim := { program := "yticfmkfiibhafaa", sum := "5174deedbf72d99e3f61bd33342defc0677d833cec221559dd60428b6d908000", func := "loop.example/g00509/laws.FnBearerAdmission", spec := "fnBearerAdmission", apart := false, narrowed := true }
def FnBearerAdmissionUptoSaid : Prop := fnBearerAdmissionUptoRow.holds Try.pinned (OpenSpec.upto fnBearerAdmissionSpec)

/-- 'laws.FnExactClassifyPort', WHERE WHAT IT READS IS OF BULK AT MOST 1048576: true; the input reads as it did. -/
def fnExactClassifyPortUptoRow : OpenClaim := { program := "yticfmkfiibhafaa", sum := "5174deedbf72d99e3f61bd33342defc0677d833cec221559dd60428b6d908000", func := "loop.example/g00509/laws.FnExactClassifyPort", spec := "fnExactClassifyPort", apart := false, narrowed := true }
def FnExactClassifyPortUptoSaid : Prop := fnExactClassifyPortUptoRow.holds Try.pinned (OpenSpec.upto fnExactClassifyPortSpec)

/-- 'laws.FnExactPacketsForBearer', WHERE WHAT IT READS IS OF BULK AT MOST 1048576: true; the input reads as it did. -/
def fnExactPacketsForBearerUptoRow : OpenClaim := { program := "yticfmkfiibhafaa", sum := "5174deedbf72d99e3f61bd33342defc0677d833cec221559dd60428b6d908000", func := "loop.example/g00509/laws.FnExactPacketsForBearer", spec := "fnExactPacketsForBearer", apart := false, narrowed := true }
def FnExactPacketsForBearerUptoSaid : Prop := fnExactPacketsForBearerUptoRow.holds Try.pinned (OpenSpec.upto fnExactPacketsForBearerSpec)

/-- 'laws.FnClassification', WHERE WHAT IT READS IS OF BULK AT MOST 1048576: true; the input reads as it did. -/
def fnClassificationUptoRow : OpenClaim := { program := "yticfmkfiibhafaa", sum := "5174deedbf72d99e3f61bd33342defc0677d833cec221559dd60428b6d908000", func := "loop.example/g00509/laws.FnClassification", spec := "fnClassification", apart := false, narrowed := true }
def FnClassificationUptoSaid : Prop := fnClassificationUptoRow.holds Try.pinned (OpenSpec.upto fnClassificationSpec)

end Rows
end Go.Proofs.Yticfmkfiibhafaa
