/-
  No cell of these rows narrows 'for every input' (looked for: loops, veiled, ifaces, maps, wideKeys, modest, calm, conditions, laid).
  DERIVED. THE GIVEN ROWS OF THIS SEAT. 12 by the template 'for every input the law returns true; each argument reads behind the call as it read before'; 0 by the template 'total and deterministic' (their statements: YtidfpmkhgogilaaTotals.lean).
  GIVEN WITH THE SEED: the statements are not yours to turn. If you find one false, say at which input.
  Laid BY PROGRAM, IN A SANDBOX (cutbox-rows.mjs): the forced cells as the released guide's own fill.sh prints them over the translation 23b6801f4d48c8b2… (all of the seat's roots in one cut). By AI agents, Wed Nov 11 2026. No macro, syntax, notation, axiom, sorry.
-/
import Derived.Test.YtidfpmkhgogilaaChecked
import GoSem.Claim
import GoSem.ClaimJoined
import GoSem.ClaimMapViews
import Derived.JoinedTies
import Derived.KernelRfl
namespace Go.Proofs.Ytidfpmkhgogilaa
/- THE CELL 'sum', in the pinned program and in every row, IS THE sha256 OF THE DUMP (.gsa) THAT YtidfpmkhgogilaaProg.lean LOADS. Nothing in Lean hashes anything: it is a label: what it is worth is what the hold of that sum in a sandbox is worth. -/
noncomputable def Try.pinned : Pinned := { name := "ytidfpmkhgogilaa", sum := "23b6801f4d48c8b2a79d3c1fadab599366b9c73b08abbebfd1c31d963c1054a3", checked := Try.checked }
namespace Rows
def none {H : Type} : Left H := { results := [], args := [] }

/-- 'laws.FnExactIsValidSecured': WHATEVER THE INPUT: true; the input reads as it did. -/
def fnExactIsValidSecuredSpec : ChangeSpec := { name := "fnExactIsValidSecured", fn := fun _ => fun
  | [d] => { results := [.lit (.bool true)], args := [d] }
  | _ => none }
def fnExactIsValidSecuredRow : OpenClaim := { program := "ytidfpmkhgogilaa", sum := "23b6801f4d48c8b2a79d3c1fadab599366b9c73b08abbebfd1c31d963c1054a3", func := "loop.example/g00509/laws.FnExactIsValidSecured", spec := "fnExactIsValidSecured", apart := false }
def FnExactIsValidSecuredSaid : Prop := fnExactIsValidSecuredRow.holds Try.pinned (OpenSpec.ofChange fnExactIsValidSecuredSpec)

/-- ITS FALSE NEIGHBOUR: 'it returns false'. Refute it at one input. -/
def fnExactIsValidSecuredWrong : ChangeSpec := { name := "fnExactIsValidSecured", fn := fun _ => fun
  | [d] => { results := [.lit (.bool false)], args := [d] }
  | _ => none }
def FnExactIsValidSecuredWrongFalsely : Prop := fnExactIsValidSecuredRow.holds Try.pinned (OpenSpec.ofChange fnExactIsValidSecuredWrong)

/-- 'laws.FnExactEqualSecured': WHATEVER THE INPUT: true; the input reads as it did. -/
def fnExactEqualSecuredSpec : ChangeSpec := { name := "fnExactEqualSecured", fn := fun _ => fun
  | [d1, d2] => { results := [.lit (.bool true)], args := [d1, d2] }
  | _ => none }
def fnExactEqualSecuredRow : OpenClaim := { program := "ytidfpmkhgogilaa", sum := "23b6801f4d48c8b2a79d3c1fadab599366b9c73b08abbebfd1c31d963c1054a3", func := "loop.example/g00509/laws.FnExactEqualSecured", spec := "fnExactEqualSecured", apart := false }
def FnExactEqualSecuredSaid : Prop := fnExactEqualSecuredRow.holds Try.pinned (OpenSpec.ofChange fnExactEqualSecuredSpec)

/-- ITS FALSE NEIGHBOUR: 'it returns false'. Refute it at one input. -/
def fnExactEqualSecuredWrong : ChangeSpec := { name := "fnExactEqualSecured", fn := fun _ => fun
  | [d1, d2] => { results := [.lit (.bool false)], args := [d1, d2] }
  | _ => none }
def FnExactEqualSecuredWrongFalsely : Prop := fnExactEqualSecuredRow.holds Try.pinned (OpenSpec.ofChange fnExactEqualSecuredWrong)

/-- 'laws.FnExactEncodeSecured': WHATEVER THE INPUT: true; the input reads as it did. -/
def fnExactEncodeSecuredSpec : ChangeSpec := { name := "fnExactEncodeSecured", fn := fun _ => fun
  | [d] => { results := [.lit (.bool true)], args := [d] }
  | _ => none }
def fnExactEncodeSecuredRow : OpenClaim := { program := "ytidfpmkhgogilaa", sum := "23b6801f4d48c8b2a79d3c1fadab599366b9c73b08abbebfd1c31d963c1054a3", func := "loop.example/g00509/laws.FnExactEncodeSecured", spec := "fnExactEncodeSecured", apart := false }
def FnExactEncodeSecuredSaid : Prop := fnExactEncodeSecuredRow.holds Try.pinned (OpenSpec.ofChange fnExactEncodeSecuredSpec)

/-- ITS FALSE NEIGHBOUR: 'it returns false'. Refute it at one input. -/
def fnExactEncodeSecuredWrong : ChangeSpec := { name := "fnExactEncodeSecured", fn := fun _ => fun
  | [d] => { results := [.lit (.bool false)], args := [d] }
  | _ => none }
def FnExactEncodeSecuredWrongFalsely : Prop := fnExactEncodeSecuredRow.holds Try.pinned (OpenSpec.ofChange fnExactEncodeSecuredWrong)

/-- 'laws.FnExactDecodeSecured': WHATEVER THE INPUT: true; the input reads as it did. -/
def fnExactDecodeSecuredSpec : ChangeSpec := { name := "fnExactDecodeSecured", fn := fun _ => fun
  | [d] => { results := [.lit (.bool true)], args := [d] }
  | _ => none }
def fnExactDecodeSecuredRow : OpenClaim := { program := "ytidfpmkhgogilaa", sum := "23b6801f4d48c8b2a79d3c1fadab599366b9c73b08abbebfd1c31d963c1054a3", func := "loop.example/g00509/laws.FnExactDecodeSecured", spec := "fnExactDecodeSecured", apart := false }
def FnExactDecodeSecuredSaid : Prop := fnExactDecodeSecuredRow.holds Try.pinned (OpenSpec.ofChange fnExactDecodeSecuredSpec)

/-- ITS FALSE NEIGHBOUR: 'it returns false'. Refute it at one input. -/
def fnExactDecodeSecuredWrong : ChangeSpec := { name := "fnExactDecodeSecured", fn := fun _ => fun
  | [d] => { results := [.lit (.bool false)], args := [d] }
  | _ => none }
def FnExactDecodeSecuredWrongFalsely : Prop := fnExactDecodeSecuredRow.holds Try.pinned (OpenSpec.ofChange fnExactDecodeSecuredWrong)

/-- 'laws.FnSecuredEncoding': WHATEVER THE INPUT: true; the input reads as it did. -/
def fnSecuredEncodingSpec : ChangeSpec := { name := "fnSecuredEncoding", fn := fun _ => fun
  | [d] => { results := [.lit (.bool true)], args := [d] }
  | _ => none }
def fnSecuredEncodingRow : OpenClaim := { program := "ytidfpmkhgogilaa", sum := "23b6801f4d48c8b2a79d3c1fadab599366b9c73b08abbebfd1c31d963c1054a3", func := "loop.example/g00509/laws.FnSecuredEncoding", spec := "fnSecuredEncoding", apart := false }
def FnSecuredEncodingSaid : Prop := fnSecuredEncodingRow.holds Try.pinned (OpenSpec.ofChange fnSecuredEncodingSpec)

/-- ITS FALSE NEIGHBOUR: 'it returns false'. Refute it at one input. -/
def fnSecuredEncodingWrong : ChangeSpec := { name := "fnSecuredEncoding", fn := fun _ => fun
  | [d] => { results := [.lit (.bool false)], args := [d] }
  | _ => none }
def FnSecuredEncodingWrongFalsely : Prop := fnSecuredEncodingRow.holds Try.pinned (OpenSpec.ofChange fnSecuredEncodingWrong)

/-- 'laws.FnExactIsValidPacket': WHATEVER THE INPUT: true; the input reads as it did. -/
def fnExactIsValidPacketSpec : ChangeSpec := { name := "fnExactIsValidPacket", fn := fun _ => fun
  | [d] => { results := [.lit (.bool true)], args := [d] }
  | _ => none }
def fnExactIsValidPacketRow : OpenClaim := { program := "ytidfpmkhgogilaa", sum := "23b6801f4d48c8b2a79d3c1fadab599366b9c73b08abbebfd1c31d963c1054a3", func := "loop.example/g00509/laws.FnExactIsValidPacket", spec := "fnExactIsValidPacket", apart := false }
def FnExactIsValidPacketSaid : Prop := fnExactIsValidPacketRow.holds Try.pinned (OpenSpec.ofChange fnExactIsValidPacketSpec)

/-- ITS FALSE NEIGHBOUR: 'it returns false'. Refute it at one input. -/
def fnExactIsValidPacketWrong : ChangeSpec := { name := "fnExactIsValidPacket", fn := fun _ => fun
  | [d] => { results := [.lit (.bool false)], args := [d] }
  | _ => none }
def FnExactIsValidPacketWrongFalsely : Prop := fnExactIsValidPacketRow.holds Try.pinned (OpenSpec.ofChange fnExactIsValidPacketWrong)

/-- 'laws.FnExactEncodePacket': WHATEVER THE INPUT: true; the input reads as it did. -/
def fnExactEncodePacketSpec : ChangeSpec := { name := "fnExactEncodePacket", fn := fun _ => fun
  | [d] => { results := [.lit (.bool true)], args := [d] }
  | _ => none }
def fnExactEncodePacketRow : OpenClaim := { program := "ytidfpmkhgogilaa", sum := "23b6801f4d48c8b2a79d3c1fadab599366b9c73b08abbebfd1c31d963c1054a3", func := "loop.example/g00509/laws.FnExactEncodePacket", spec := "fnExactEncodePacket", apart := false }
def FnExactEncodePacketSaid : Prop := fnExactEncodePacketRow.holds Try.pinned (OpenSpec.ofChange fnExactEncodePacketSpec)

/-- ITS FALSE NEIGHBOUR: 'it returns false'. Refute it at one input. -/
def fnExactEncodePacketWrong : ChangeSpec := { name := "fnExactEncodePacket", fn := fun _ => fun
  | [d] => { results := [.lit (.bool false)], args := [d] }
  | _ => none }
def FnExactEncodePacketWrongFalsely : Prop := fnExactEncodePacketRow.holds Try.pinned (OpenSpec.ofChange fnExactEncodePacketWrong)

/-- 'laws.FnExactDecodePacket': WHATEVER THE INPUT: true; the input reads as it did. -/
def fnExactDecodePacketSpec : ChangeSpec := { name := "fnExactDecodePacket", fn := fun _ => fun
  | [d] => { results := [.lit (.bool true)], args := [d] }
  | _ => none }
def fnExactDecodePacketRow : OpenClaim := { program := "ytidfpmkhgogilaa", sum := "23b6801f4d48c8b2a79d3c1fadab599366b9c73b08abbebfd1c31d963c1054a3", func := "loop.example/g00509/laws.FnExactDecodePacket", spec := "fnExactDecodePacket", apart := false }
def FnExactDecodePacketSaid : Prop := fnExactDecodePacketRow.holds Try.pinned (OpenSpec.ofChange fnExactDecodePacketSpec)

/-- ITS FALSE NEIGHBOUR: 'it returns false'. Refute it at one input. -/
def fnExactDecodePacketWrong : ChangeSpec := { name := "fnExactDecodePacket", fn := fun _ => fun
  | [d] => { results := [.lit (.bool false)], args := [d] }
  | _ => none }
def FnExactDecodePacketWrongFalsely : Prop := fnExactDecodePacketRow.holds Try.pinned (OpenSpec.ofChange fnExactDecodePacketWrong)

/-- 'laws.FnPacketEncoding': WHATEVER THE INPUT: true; the input reads as it did. -/
def fnPacketEncodingSpec : ChangeSpec := { name := "fnPacketEncoding", fn := fun _ => fun
  | [d] => { results := [.lit (.bool true)], args := [d] }
  | _ => none }
def fnPacketEncodingRow : OpenClaim := { program := "ytidfpmkhgogilaa", sum := "23b6801f4d48c8b2a79d3c1fadab599366b9c73b08abbebfd1c31d963c1054a3", func := "loop.example/g00509/laws.FnPacketEncoding", spec := "fnPacketEncoding", apart := false }
def FnPacketEncodingSaid : Prop := fnPacketEncodingRow.holds Try.pinned (OpenSpec.ofChange fnPacketEncodingSpec)

/-- ITS FALSE NEIGHBOUR: 'it returns false'. Refute it at one input. -/
def fnPacketEncodingWrong : ChangeSpec := { name := "fnPacketEncoding", fn := fun _ => fun
  | [d] => { results := [.lit (.bool false)], args := [d] }
  | _ => none }
def FnPacketEncodingWrongFalsely : Prop := fnPacketEncodingRow.holds Try.pinned (OpenSpec.ofChange fnPacketEncodingWrong)

/-- 'laws.FnExactEncapsulate': WHATEVER THE INPUT: true; the input reads as it did. -/
def fnExactEncapsulateSpec : ChangeSpec := { name := "fnExactEncapsulate", fn := fun _ => fun
  | [d1, d2] => { results := [.lit (.bool true)], args := [d1, d2] }
  | _ => none }
def fnExactEncapsulateRow : OpenClaim := { program := "ytidfpmkhgogilaa", sum := "23b6801f4d48c8b2a79d3c1fadab599366b9c73b08abbebfd1c31d963c1054a3", func := "loop.example/g00509/laws.FnExactEncapsulate", spec := "fnExactEncapsulate", apart := false }
def FnExactEncapsulateSaid : Prop := fnExactEncapsulateRow.holds Try.pinned (OpenSpec.ofChange fnExactEncapsulateSpec)

/-- ITS FALSE NEIGHBOUR: 'it returns false'. Refute it at one input. -/
def fnExactEncapsulateWrong : ChangeSpec := { name := "fnExactEncapsulate", fn := fun _ => fun
  | [d1, d2] => { results := [.lit (.bool false)], args := [d1, d2] }
  | _ => none }
def FnExactEncapsulateWrongFalsely : Prop := fnExactEncapsulateRow.holds Try.pinned (OpenSpec.ofChange fnExactEncapsulateWrong)

/-- 'laws.FnExactDecapsulate': WHATEVER THE INPUT: true; the input reads as it did. -/
def fnExactDecapsulateSpec : ChangeSpec := { name := "fnExactDecapsulate", fn := fun _ => fun
  | [d] => { results := [.lit (.bool true)], args := [d] }
  | _ => none }
def fnExactDecapsulateRow : OpenClaim := { program := "ytidfpmkhgogilaa", sum := "23b6801f4d48c8b2a79d3c1fadab599366b9c73b08abbebfd1c31d963c1054a3", func := "loop.example/g00509/laws.FnExactDecapsulate", spec := "fnExactDecapsulate", apart := false }
def FnExactDecapsulateSaid : Prop := fnExactDecapsulateRow.holds Try.pinned (OpenSpec.ofChange fnExactDecapsulateSpec)

/-- ITS FALSE NEIGHBOUR: 'it returns false'. Refute it at one input. -/
def fnExactDecapsulateWrong : ChangeSpec := { name := "fnExactDecapsulate", fn := fun _ => fun
  | [d] => { results := [.lit (.bool false)], args := [d] }
  | _ => none }
def FnExactDecapsulateWrongFalsely : Prop := fnExactDecapsulateRow.holds Try.pinned (OpenSpec.ofChange fnExactDecapsulateWrong)

/-- 'laws.FnEncapsulation': WHATEVER THE INPUT: true; the input reads as it did. -/
def fnEncapsulationSpec : ChangeSpec := { name := "fnEncapsulation", fn := fun _ => fun
  | [d] => { results := [.lit (.bool true)], args := [d] }
  | _ => none }
def fnEncapsulationRow : OpenClaim := { program := "ytidfpmkhgogilaa", sum := "23b6801f4d48c8b2a79d3c1fadab599366b9c73b08abbebfd1c31d963c1054a3", func := "loop.example/g00509/laws.FnEncapsulation", spec := "fnEncapsulation", apart := false }
def FnEncapsulationSaid : Prop := fnEncapsulationRow.holds Try.pinned (OpenSpec.ofChange fnEncapsulationSpec)

/-- ITS FALSE NEIGHBOUR: 'it returns false'. Refute it at one input. -/
def fnEncapsulationWrong : ChangeSpec := { name := "fnEncapsulation", fn := fun _ => fun
  | [d] => { results := [.lit (.bool false)], args := [d] }
  | _ => none }
def FnEncapsulationWrongFalsely : Prop := fnEncapsulationRow.holds Try.pinned (OpenSpec.ofChange fnEncapsulationWrong)

/- THE SECOND FORM. 'bulk': how many values and letters a reading holds, each counted each time it is reached (what is shared counts as often as it is met; a slice's spare places count too). A statement '..UptoSaid' is the law's where the arguments, and the package variables that the reading takes, are together of bulk at most 1048576: NARROWER than '..Said'. Prove '..Said' where nothing that the law and all that it calls make is longer than what came in: it says more and counts as full. Else prove '..UptoSaid'. A law counts once. -/
mutual
def uptoBulk {H : Type} : DataW H → Nat
  | .lit (.string bytes) => bytes.length + 1
  | .lit _ => 1
  | .nil => 1
  | .ptr d => uptoBulk d + 1
  | .slice elems spare => uptoBulkAll elems + uptoBulkAll spare + 1
  | .agg parts => uptoBulkAll parts + 1
  | .iface _ d => uptoBulk d + 1
  | .map entries => uptoBulkEntries entries + 1
  | .held _ => 1
def uptoBulkAll {H : Type} : List (DataW H) → Nat
  | [] => 0
  | d :: r => uptoBulk d + uptoBulkAll r
def uptoBulkEntries {H : Type} : List (Lit × DataW H) → Nat
  | [] => 0
  | x :: r => uptoBulkEntry x + uptoBulkEntries r
def uptoBulkEntry {H : Type} : Lit × DataW H → Nat
  | (.string bytes, d) => bytes.length + uptoBulk d + 1
  | (_, d) => uptoBulk d + 1
 end
def uptoSmall : (H : Type) → List (DataW H) → Bool := fun _ ds => decide (uptoBulkAll ds ≤ 1048576)
def OpenSpec.upto (s : _root_.Go.ChangeSpec) : _root_.Go.OpenSpec := { _root_.Go.OpenSpec.ofChange s with cond := some uptoSmall }

/-- 'laws.FnExactIsValidSecured', WHERE WHAT IT READS IS OF BULK AT MOST 1048576: true; the input reads as it did. -/
def fnExactIsValidSecuredUptoRow : OpenClaim := { program := "ytidfpmkhgogilaa", sum := "23b6801f4d48c8b2a79d3c1fadab599366b9c73b08abbebfd1c31d963c1054a3", func := "loop.example/g00509/laws.FnExactIsValidSecured", spec := "fnExactIsValidSecured", apart := false, narrowed := true }
def FnExactIsValidSecuredUptoSaid : Prop := fnExactIsValidSecuredUptoRow.holds Try.pinned (OpenSpec.upto fnExactIsValidSecuredSpec)

/-- 'laws.FnExactEqualSecured', WHERE WHAT IT READS IS OF BULK AT MOST 1048576: true; the input reads as it did. -/
def fnExactEqualSecuredUptoRow : OpenClaim := { program := "ytidfpmkhgogilaa", sum := "23b6801f4d48c8b2a79d3c1fadab599366b9c73b08abbebfd1c31d963c1054a3", func := "loop.example/g00509/laws.FnExactEqualSecured", spec := "fnExactEqualSecured", apart := false, narrowed := true }
def FnExactEqualSecuredUptoSaid : Prop := fnExactEqualSecuredUptoRow.holds Try.pinned (OpenSpec.upto fnExactEqualSecuredSpec)

/-- 'laws.FnExactEncodeSecured', WHERE WHAT IT READS IS OF BULK AT MOST 1048576: true; the input reads as it did. -/
def fnExactEncodeSecuredUptoRow : OpenClaim := { program := "ytidfpmkhgogilaa", sum := "23b6801f4d48c8b2a79d3c1fadab599366b9c73b08abbebfd1c31d963c1054a3", func := "loop.example/g00509/laws.FnExactEncodeSecured", spec := "fnExactEncodeSecured", apart := false, narrowed := true }
def FnExactEncodeSecuredUptoSaid : Prop := fnExactEncodeSecuredUptoRow.holds Try.pinned (OpenSpec.upto fnExactEncodeSecuredSpec)

/-- 'laws.FnExactDecodeSecured', WHERE WHAT IT READS IS OF BULK AT MOST 1048576: true; the input reads as it did. -/
def fnExactDecodeSecuredUptoRow : OpenClaim := { program := "ytidfpmkhgogilaa", sum := "23b6801f4d48c8b2a79d3c1fadab599366b9c73b08abbebfd1c31d963c1054a3", func := "loop.example/g00509/laws.FnExactDecodeSecured", spec := "fnExactDecodeSecured", apart := false, narrowed := true }
def FnExactDecodeSecuredUptoSaid : Prop := fnExactDecodeSecuredUptoRow.holds Try.pinned (OpenSpec.upto fnExactDecodeSecuredSpec)

/-- 'laws.FnSecuredEncoding', WHERE WHAT IT READS IS OF BULK AT MOST 1048576: true; the input reads as it did. -/
def fnSecuredEncodingUptoRow : OpenClaim := { program := "ytidfpmkhgogilaa", sum := "23b6801f4d48c8b2a79d3c1fadab599366b9c73b08abbebfd1c31d963c1054a3", func := "loop.example/g00509/laws.FnSecuredEncoding", spec := "fnSecuredEncoding", apart := false, narrowed := true }
def FnSecuredEncodingUptoSaid : Prop := fnSecuredEncodingUptoRow.holds Try.pinned (OpenSpec.upto fnSecuredEncodingSpec)

/-- 'laws.FnExactIsValidPacket', WHERE WHAT IT READS IS OF BULK AT MOST 1048576: true; the input reads as it did. -/
def fnExactIsValidPacketUptoRow : OpenClaim := { program := "ytidfpmkhgogilaa", sum := "23b6801f4d48c8b2a79d3c1fadab599366b9c73b08abbebfd1c31d963c1054a3", func := "loop.example/g00509/laws.FnExactIsValidPacket", spec := "fnExactIsValidPacket", apart := false, narrowed := true }
def FnExactIsValidPacketUptoSaid : Prop := fnExactIsValidPacketUptoRow.holds Try.pinned (OpenSpec.upto fnExactIsValidPacketSpec)

/-- 'laws.FnExactEncodePacket', WHERE WHAT IT READS IS OF BULK AT MOST 1048576: true; the input reads as it did. -/
def fnExactEncodePacketUptoRow : OpenClaim := { program := "ytidfpmkhgogilaa", sum := "23b6801f4d48c8b2a79d3c1fadab599366b9c73b08abbebfd1c31d963c1054a3", func := "loop.example/g00509/laws.FnExactEncodePacket", spec := "fnExactEncodePacket", apart := false, narrowed := true }
def FnExactEncodePacketUptoSaid : Prop := fnExactEncodePacketUptoRow.holds Try.pinned (OpenSpec.upto fnExactEncodePacketSpec)

/-- 'laws.FnExactDecodePacket', WHERE WHAT IT READS IS OF BULK AT MOST 1048576: true; the input reads as it did. -/
def fnExactDecodePacketUptoRow : OpenClaim := { program := "ytidfpmkhgogilaa", sum := "23b6801f4d48c8b2a79d3c1fadab599366b9c73b08abbebfd1c31d963c1054a3", func := "loop.example/g00509/laws.FnExactDecodePacket", spec := "fnExactDecodePacket", apart := false, narrowed := true }
def FnExactDecodePacketUptoSaid : Prop := fnExactDecodePacketUptoRow.holds Try.pinned (OpenSpec.upto fnExactDecodePacketSpec)

/-- 'laws.FnPacketEncoding', WHERE WHAT IT READS IS OF BULK AT MOST 1048576: true; the input reads as it did. -/
def fnPacketEncodingUptoRow : OpenClaim := { program := "ytidfpmkhgogilaa", sum := "23b6801f4d48c8b2a79d3c1fadab599366b9c73b08abbebfd1c31d963c1054a3", func := "loop.example/g00509/laws.FnPacketEncoding", spec := "fnPacketEncoding", apart := false, narrowed := true }
def FnPacketEncodingUptoSaid : Prop := fnPacketEncodingUptoRow.holds Try.pinned (OpenSpec.upto fnPacketEncodingSpec)

/-- 'laws.FnExactEncapsulate', WHERE WHAT IT READS IS OF BULK AT MOST 1048576: true; the input reads as it did. -/
def fnExactEncapsulateUptoRow : OpenClaim := { program := "ytidfpmkhgogilaa", sum := "23b6801f4d48c8b2a79d3c1fadab599366b9c73b08abbebfd1c31d963c1054a3", func := "loop.example/g00509/laws.FnExactEncapsulate", spec := "fnExactEncapsulate", apart := false, narrowed := true }
def FnExactEncapsulateUptoSaid : Prop := fnExactEncapsulateUptoRow.holds Try.pinned (OpenSpec.upto fnExactEncapsulateSpec)

/-- 'laws.FnExactDecapsulate', WHERE WHAT IT READS IS OF BULK AT MOST 1048576: true; the input reads as it did. -/
def fnExactDecapsulateUptoRow : OpenClaim := { program := "ytidfpmkhgogilaa", sum := "23b6801f4d48c8b2a79d3c1fadab599366b9c73b08abbebfd1c31d963c1054a3", func := "loop.example/g00509/laws.FnExactDecapsulate", spec := "fnExactDecapsulate", apart := false, narrowed := true }
def FnExactDecapsulateUptoSaid : Prop := fnExactDecapsulateUptoRow.holds Try.pinned (OpenSpec.upto fnExactDecapsulateSpec)

/-- 'laws.FnEncapsulation', WHERE WHAT IT READS IS OF BULK AT MOST 1048576: true; the input reads as it did. -/
def fnEncapsulationUptoRow : OpenClaim := { program := "ytidfpmkhgogilaa", sum := "23b6801f4d48c8b2a79d3c1fadab599366b9c73b08abbebfd1c31d963c1054a3", func := "loop.example/g00509/laws.FnEncapsulation", spec := "fnEncapsulation", apart := false, narrowed := true }
def FnEncapsulationUptoSaid : Prop := fnEncapsulationUptoRow.holds Try.pinned (OpenSpec.upto fnEncapsulationSpec)

end Rows
end Go.Proofs.Ytidfpmkhgogilaa
