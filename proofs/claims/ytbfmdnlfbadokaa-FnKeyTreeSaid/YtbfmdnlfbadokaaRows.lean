/-
  No cell of these rows narrows 'for every input' (looked for: loops, veiled, ifaces, maps, wideKeys, modest, calm, conditions, laid).
  DERIVED. THE GIVEN ROWS OF THIS SEAT. 12 by the template 'for every input the law returns true; each argument reads behind the call as it read before'; 0 by the template 'total and deterministic' (their statements: YtbfmdnlfbadokaaTotals.lean).
  GIVEN WITH THE SEED: the statements are not yours to turn. If you find one false, say at which input.
  Laid BY PROGRAM, IN A SANDBOX (cutbox-rows.mjs): the forced cells as the released guide's own fill.sh prints them over the translation 6ca1f086b7bd5950… (all of the seat's roots in one cut). By AI agents, Wed Nov 11 2026. No macro, syntax, notation, axiom, sorry.
-/
import Derived.Test.YtbfmdnlfbadokaaChecked
import GoSem.Claim
import GoSem.ClaimJoined
import GoSem.ClaimMapViews
import Derived.JoinedTies
import Derived.KernelRfl
namespace Go.Proofs.Ytbfmdnlfbadokaa
/- THE CELL 'sum', in the pinned program and in every row, IS THE sha256 OF THE DUMP (.gsa) THAT YtbfmdnlfbadokaaProg.lean LOADS. Nothing in Lean hashes anything: it is a label: what it is worth is what the hold of that sum in a sandbox is worth. -/
noncomputable def Try.pinned : Pinned := { name := "ytbfmdnlfbadokaa", sum := "6ca1f086b7bd5950979f2ec72ae292ca8ee88a700cbd0744c5d2e7759f51cabe", checked := Try.checked }
namespace Rows
def none {H : Type} : Left H := { results := [], args := [] }

/-- 'laws.FnExactVerifySecurityMode': WHATEVER THE INPUT: true; the input reads as it did. -/
def fnExactVerifySecurityModeSpec : ChangeSpec := { name := "fnExactVerifySecurityMode", fn := fun _ => fun
  | [d1, d2, d3] => { results := [.lit (.bool true)], args := [d1, d2, d3] }
  | _ => none }
def fnExactVerifySecurityModeRow : OpenClaim := { program := "ytbfmdnlfbadokaa", sum := "6ca1f086b7bd5950979f2ec72ae292ca8ee88a700cbd0744c5d2e7759f51cabe", func := "loop.example/g00509/laws.FnExactVerifySecurityMode", spec := "fnExactVerifySecurityMode", apart := false }
def FnExactVerifySecurityModeSaid : Prop := fnExactVerifySecurityModeRow.holds Try.pinned (OpenSpec.ofChange fnExactVerifySecurityModeSpec)

/-- ITS FALSE NEIGHBOUR: 'it returns false'. Refute it at one input. -/
def fnExactVerifySecurityModeWrong : ChangeSpec := { name := "fnExactVerifySecurityMode", fn := fun _ => fun
  | [d1, d2, d3] => { results := [.lit (.bool false)], args := [d1, d2, d3] }
  | _ => none }
def FnExactVerifySecurityModeWrongFalsely : Prop := fnExactVerifySecurityModeRow.holds Try.pinned (OpenSpec.ofChange fnExactVerifySecurityModeWrong)

/-- 'laws.FnExactNewSecurityMode': WHATEVER THE INPUT: true; the input reads as it did. -/
def fnExactNewSecurityModeSpec : ChangeSpec := { name := "fnExactNewSecurityMode", fn := fun _ => fun
  | [d1, d2, d3] => { results := [.lit (.bool true)], args := [d1, d2, d3] }
  | _ => none }
def fnExactNewSecurityModeRow : OpenClaim := { program := "ytbfmdnlfbadokaa", sum := "6ca1f086b7bd5950979f2ec72ae292ca8ee88a700cbd0744c5d2e7759f51cabe", func := "loop.example/g00509/laws.FnExactNewSecurityMode", spec := "fnExactNewSecurityMode", apart := false }
def FnExactNewSecurityModeSaid : Prop := fnExactNewSecurityModeRow.holds Try.pinned (OpenSpec.ofChange fnExactNewSecurityModeSpec)

/-- ITS FALSE NEIGHBOUR: 'it returns false'. Refute it at one input. -/
def fnExactNewSecurityModeWrong : ChangeSpec := { name := "fnExactNewSecurityMode", fn := fun _ => fun
  | [d1, d2, d3] => { results := [.lit (.bool false)], args := [d1, d2, d3] }
  | _ => none }
def FnExactNewSecurityModeWrongFalsely : Prop := fnExactNewSecurityModeRow.holds Try.pinned (OpenSpec.ofChange fnExactNewSecurityModeWrong)

/-- 'laws.FnExactNegotiateSecurity': WHATEVER THE INPUT: true; the input reads as it did. -/
def fnExactNegotiateSecuritySpec : ChangeSpec := { name := "fnExactNegotiateSecurity", fn := fun _ => fun
  | [d1, d2, d3, d4] => { results := [.lit (.bool true)], args := [d1, d2, d3, d4] }
  | _ => none }
def fnExactNegotiateSecurityRow : OpenClaim := { program := "ytbfmdnlfbadokaa", sum := "6ca1f086b7bd5950979f2ec72ae292ca8ee88a700cbd0744c5d2e7759f51cabe", func := "loop.example/g00509/laws.FnExactNegotiateSecurity", spec := "fnExactNegotiateSecurity", apart := false }
def FnExactNegotiateSecuritySaid : Prop := fnExactNegotiateSecurityRow.holds Try.pinned (OpenSpec.ofChange fnExactNegotiateSecuritySpec)

/-- ITS FALSE NEIGHBOUR: 'it returns false'. Refute it at one input. -/
def fnExactNegotiateSecurityWrong : ChangeSpec := { name := "fnExactNegotiateSecurity", fn := fun _ => fun
  | [d1, d2, d3, d4] => { results := [.lit (.bool false)], args := [d1, d2, d3, d4] }
  | _ => none }
def FnExactNegotiateSecurityWrongFalsely : Prop := fnExactNegotiateSecurityRow.holds Try.pinned (OpenSpec.ofChange fnExactNegotiateSecurityWrong)

/-- 'laws.FnNegotiation': WHATEVER THE INPUT: true; the input reads as it did. -/
def fnNegotiationSpec : ChangeSpec := { name := "fnNegotiation", fn := fun _ => fun
  | [d] => { results := [.lit (.bool true)], args := [d] }
  | _ => none }
def fnNegotiationRow : OpenClaim := { program := "ytbfmdnlfbadokaa", sum := "6ca1f086b7bd5950979f2ec72ae292ca8ee88a700cbd0744c5d2e7759f51cabe", func := "loop.example/g00509/laws.FnNegotiation", spec := "fnNegotiation", apart := false }
def FnNegotiationSaid : Prop := fnNegotiationRow.holds Try.pinned (OpenSpec.ofChange fnNegotiationSpec)

/-- ITS FALSE NEIGHBOUR: 'it returns false'. Refute it at one input. -/
def fnNegotiationWrong : ChangeSpec := { name := "fnNegotiation", fn := fun _ => fun
  | [d] => { results := [.lit (.bool false)], args := [d] }
  | _ => none }
def FnNegotiationWrongFalsely : Prop := fnNegotiationRow.holds Try.pinned (OpenSpec.ofChange fnNegotiationWrong)

/-- 'laws.FnExactKeyForPath': WHATEVER THE INPUT: true; the input reads as it did. -/
def fnExactKeyForPathSpec : ChangeSpec := { name := "fnExactKeyForPath", fn := fun _ => fun
  | [d1, d2] => { results := [.lit (.bool true)], args := [d1, d2] }
  | _ => none }
def fnExactKeyForPathRow : OpenClaim := { program := "ytbfmdnlfbadokaa", sum := "6ca1f086b7bd5950979f2ec72ae292ca8ee88a700cbd0744c5d2e7759f51cabe", func := "loop.example/g00509/laws.FnExactKeyForPath", spec := "fnExactKeyForPath", apart := false }
def FnExactKeyForPathSaid : Prop := fnExactKeyForPathRow.holds Try.pinned (OpenSpec.ofChange fnExactKeyForPathSpec)

/-- ITS FALSE NEIGHBOUR: 'it returns false'. Refute it at one input. -/
def fnExactKeyForPathWrong : ChangeSpec := { name := "fnExactKeyForPath", fn := fun _ => fun
  | [d1, d2] => { results := [.lit (.bool false)], args := [d1, d2] }
  | _ => none }
def FnExactKeyForPathWrongFalsely : Prop := fnExactKeyForPathRow.holds Try.pinned (OpenSpec.ofChange fnExactKeyForPathWrong)

/-- 'laws.FnExactIsCompromised': WHATEVER THE INPUT: true; the input reads as it did. -/
def fnExactIsCompromisedSpec : ChangeSpec := { name := "fnExactIsCompromised", fn := fun _ => fun
  | [d1, d2] => { results := [.lit (.bool true)], args := [d1, d2] }
  | _ => none }
def fnExactIsCompromisedRow : OpenClaim := { program := "ytbfmdnlfbadokaa", sum := "6ca1f086b7bd5950979f2ec72ae292ca8ee88a700cbd0744c5d2e7759f51cabe", func := "loop.example/g00509/laws.FnExactIsCompromised", spec := "fnExactIsCompromised", apart := false }
def FnExactIsCompromisedSaid : Prop := fnExactIsCompromisedRow.holds Try.pinned (OpenSpec.ofChange fnExactIsCompromisedSpec)

/-- ITS FALSE NEIGHBOUR: 'it returns false'. Refute it at one input. -/
def fnExactIsCompromisedWrong : ChangeSpec := { name := "fnExactIsCompromised", fn := fun _ => fun
  | [d1, d2] => { results := [.lit (.bool false)], args := [d1, d2] }
  | _ => none }
def FnExactIsCompromisedWrongFalsely : Prop := fnExactIsCompromisedRow.holds Try.pinned (OpenSpec.ofChange fnExactIsCompromisedWrong)

/-- 'laws.FnExactDeriveFrom': WHATEVER THE INPUT: true; the input reads as it did. -/
def fnExactDeriveFromSpec : ChangeSpec := { name := "fnExactDeriveFrom", fn := fun _ => fun
  | [d1, d2, d3] => { results := [.lit (.bool true)], args := [d1, d2, d3] }
  | _ => none }
def fnExactDeriveFromRow : OpenClaim := { program := "ytbfmdnlfbadokaa", sum := "6ca1f086b7bd5950979f2ec72ae292ca8ee88a700cbd0744c5d2e7759f51cabe", func := "loop.example/g00509/laws.FnExactDeriveFrom", spec := "fnExactDeriveFrom", apart := false }
def FnExactDeriveFromSaid : Prop := fnExactDeriveFromRow.holds Try.pinned (OpenSpec.ofChange fnExactDeriveFromSpec)

/-- ITS FALSE NEIGHBOUR: 'it returns false'. Refute it at one input. -/
def fnExactDeriveFromWrong : ChangeSpec := { name := "fnExactDeriveFrom", fn := fun _ => fun
  | [d1, d2, d3] => { results := [.lit (.bool false)], args := [d1, d2, d3] }
  | _ => none }
def FnExactDeriveFromWrongFalsely : Prop := fnExactDeriveFromRow.holds Try.pinned (OpenSpec.ofChange fnExactDeriveFromWrong)

/-- 'laws.FnKeyTree': WHATEVER THE INPUT: true; the input reads as it did. -/
def fnKeyTreeSpec : ChangeSpec := { name := "fnKeyTree", fn := fun _ => fun
  | [d] => { results := [.lit (.bool true)], args := [d] }
  | _ => none }
def fnKeyTreeRow : OpenClaim := { program := "ytbfmdnlfbadokaa", sum := "6ca1f086b7bd5950979f2ec72ae292ca8ee88a700cbd0744c5d2e7759f51cabe", func := "loop.example/g00509/laws.FnKeyTree", spec := "fnKeyTree", apart := false }
def FnKeyTreeSaid : Prop := fnKeyTreeRow.holds Try.pinned (OpenSpec.ofChange fnKeyTreeSpec)

/-- ITS FALSE NEIGHBOUR: 'it returns false'. Refute it at one input. -/
def fnKeyTreeWrong : ChangeSpec := { name := "fnKeyTree", fn := fun _ => fun
  | [d] => { results := [.lit (.bool false)], args := [d] }
  | _ => none }
def FnKeyTreeWrongFalsely : Prop := fnKeyTreeRow.holds Try.pinned (OpenSpec.ofChange fnKeyTreeWrong)

/-- 'laws.FnExactVerifyMAC': WHATEVER THE INPUT: true; the input reads as it did. -/
def fnExactVerifyMACSpec : ChangeSpec := { name := "fnExactVerifyMAC", fn := fun _ => fun
  | [d1, d2] => { results := [.lit (.bool true)], args := [d1, d2] }
  | _ => none }
def fnExactVerifyMACRow : OpenClaim := { program := "ytbfmdnlfbadokaa", sum := "6ca1f086b7bd5950979f2ec72ae292ca8ee88a700cbd0744c5d2e7759f51cabe", func := "loop.example/g00509/laws.FnExactVerifyMAC", spec := "fnExactVerifyMAC", apart := false }
def FnExactVerifyMACSaid : Prop := fnExactVerifyMACRow.holds Try.pinned (OpenSpec.ofChange fnExactVerifyMACSpec)

/-- ITS FALSE NEIGHBOUR: 'it returns false'. Refute it at one input. -/
def fnExactVerifyMACWrong : ChangeSpec := { name := "fnExactVerifyMAC", fn := fun _ => fun
  | [d1, d2] => { results := [.lit (.bool false)], args := [d1, d2] }
  | _ => none }
def FnExactVerifyMACWrongFalsely : Prop := fnExactVerifyMACRow.holds Try.pinned (OpenSpec.ofChange fnExactVerifyMACWrong)

/-- 'laws.FnExactProtect': WHATEVER THE INPUT: true; the input reads as it did. -/
def fnExactProtectSpec : ChangeSpec := { name := "fnExactProtect", fn := fun _ => fun
  | [d1, d2, d3, d4] => { results := [.lit (.bool true)], args := [d1, d2, d3, d4] }
  | _ => none }
def fnExactProtectRow : OpenClaim := { program := "ytbfmdnlfbadokaa", sum := "6ca1f086b7bd5950979f2ec72ae292ca8ee88a700cbd0744c5d2e7759f51cabe", func := "loop.example/g00509/laws.FnExactProtect", spec := "fnExactProtect", apart := false }
def FnExactProtectSaid : Prop := fnExactProtectRow.holds Try.pinned (OpenSpec.ofChange fnExactProtectSpec)

/-- ITS FALSE NEIGHBOUR: 'it returns false'. Refute it at one input. -/
def fnExactProtectWrong : ChangeSpec := { name := "fnExactProtect", fn := fun _ => fun
  | [d1, d2, d3, d4] => { results := [.lit (.bool false)], args := [d1, d2, d3, d4] }
  | _ => none }
def FnExactProtectWrongFalsely : Prop := fnExactProtectRow.holds Try.pinned (OpenSpec.ofChange fnExactProtectWrong)

/-- 'laws.FnExactUnprotect': WHATEVER THE INPUT: true; the input reads as it did. -/
def fnExactUnprotectSpec : ChangeSpec := { name := "fnExactUnprotect", fn := fun _ => fun
  | [d1, d2, d3, d4] => { results := [.lit (.bool true)], args := [d1, d2, d3, d4] }
  | _ => none }
def fnExactUnprotectRow : OpenClaim := { program := "ytbfmdnlfbadokaa", sum := "6ca1f086b7bd5950979f2ec72ae292ca8ee88a700cbd0744c5d2e7759f51cabe", func := "loop.example/g00509/laws.FnExactUnprotect", spec := "fnExactUnprotect", apart := false }
def FnExactUnprotectSaid : Prop := fnExactUnprotectRow.holds Try.pinned (OpenSpec.ofChange fnExactUnprotectSpec)

/-- ITS FALSE NEIGHBOUR: 'it returns false'. Refute it at one input. -/
def fnExactUnprotectWrong : ChangeSpec := { name := "fnExactUnprotect", fn := fun _ => fun
  | [d1, d2, d3, d4] => { results := [.lit (.bool false)], args := [d1, d2, d3, d4] }
  | _ => none }
def FnExactUnprotectWrongFalsely : Prop := fnExactUnprotectRow.holds Try.pinned (OpenSpec.ofChange fnExactUnprotectWrong)

/-- 'laws.FnSecuredMessages': WHATEVER THE INPUT: true; the input reads as it did. -/
def fnSecuredMessagesSpec : ChangeSpec := { name := "fnSecuredMessages", fn := fun _ => fun
  | [d] => { results := [.lit (.bool true)], args := [d] }
  | _ => none }
def fnSecuredMessagesRow : OpenClaim := { program := "ytbfmdnlfbadokaa", sum := "6ca1f086b7bd5950979f2ec72ae292ca8ee88a700cbd0744c5d2e7759f51cabe", func := "loop.example/g00509/laws.FnSecuredMessages", spec := "fnSecuredMessages", apart := false }
def FnSecuredMessagesSaid : Prop := fnSecuredMessagesRow.holds Try.pinned (OpenSpec.ofChange fnSecuredMessagesSpec)

/-- ITS FALSE NEIGHBOUR: 'it returns false'. Refute it at one input. -/
def fnSecuredMessagesWrong : ChangeSpec := { name := "fnSecuredMessages", fn := fun _ => fun
  | [d] => { results := [.lit (.bool false)], args := [d] }
  | _ => none }
def FnSecuredMessagesWrongFalsely : Prop := fnSecuredMessagesRow.holds Try.pinned (OpenSpec.ofChange fnSecuredMessagesWrong)

/- THE SECOND FORM. 'bulk': how many values and letters a reading holds, each counted each time it is reached (what is shared counts as often as it is met; a slice's spare places count too). A statement '..UptoSaid' is the law's where the arguments, and the package variables that the reading takes, are together of bulk at most 1048576: NARROWER than '..Said'. Prove '..Said' where nothing that the law and all that it calls make is longer than what came in: it says more and counts as full. Else prove '..UptoSaid'. A law counts once. -/
mutual
def uptoBulk {H : Type} : DataW H → Nat
  | .lit (.string bytes) => bytes.length + 1
  | .lit _ => 1
  | .nil => 1
  | .ptr d => uptoBulk d + 1
  | .slice elems spare => uptoBulkAll elems + uptoBulkAll spare + 1
  | .agg parts => uptoBulkAll parts + 1
  | .iface _ d => uptoBulk d + 1
  | .map entries => uptoBulkEntries entries + 1
  | .held _ => 1
def uptoBulkAll {H : Type} : List (DataW H) → Nat
  | [] => 0
  | d :: r => uptoBulk d + uptoBulkAll r
def uptoBulkEntries {H : Type} : List (Lit × DataW H) → Nat
  | [] => 0
  | x :: r => uptoBulkEntry x + uptoBulkEntries r
def uptoBulkEntry {H : Type} : Lit × DataW H → Nat
  | (.string bytes, d) => bytes.length + uptoBulk d + 1
  | (_, d) => uptoBulk d + 1
 end
def uptoSmall : (H : Type) → List (DataW H) → Bool := fun _ ds => decide (uptoBulkAll ds ≤ 1048576)
def OpenSpec.upto (s : _root_.Go.ChangeSpec) : _root_.Go.OpenSpec := { _root_.Go.OpenSpec.ofChange s with cond := some uptoSmall }

/-- 'laws.FnExactVerifySecurityMode', WHERE WHAT IT READS IS OF BULK AT MOST 1048576: true; the input reads as it did. -/
def fnExactVerifySecurityModeUptoRow : OpenClaim := { program := "ytbfmdnlfbadokaa", sum := "6ca1f086b7bd5950979f2ec72ae292ca8ee88a700cbd0744c5d2e7759f51cabe", func := "loop.example/g00509/laws.FnExactVerifySecurityMode", spec := "fnExactVerifySecurityMode", apart := false, narrowed := true }
def FnExactVerifySecurityModeUptoSaid : Prop := fnExactVerifySecurityModeUptoRow.holds Try.pinned (OpenSpec.upto fnExactVerifySecurityModeSpec)

/-- 'laws.FnExactNewSecurityMode', WHERE WHAT IT READS IS OF BULK AT MOST 1048576: true; the input reads as it did. -/
def fnExactNewSecurityModeUptoRow : OpenClaim := { program := "ytbfmdnlfbadokaa", sum := "6ca1f086b7bd5950979f2ec72ae292ca8ee88a700cbd0744c5d2e7759f51cabe", func := "loop.example/g00509/laws.FnExactNewSecurityMode", spec := "fnExactNewSecurityMode", apart := false, narrowed := true }
def FnExactNewSecurityModeUptoSaid : Prop := fnExactNewSecurityModeUptoRow.holds Try.pinned (OpenSpec.upto fnExactNewSecurityModeSpec)

/-- 'laws.FnExactNegotiateSecurity', WHERE WHAT IT READS IS OF BULK AT MOST 1048576: true; the input reads as it did. -/
def fnExactNegotiateSecurityUptoRow : OpenClaim := { program := "ytbfmdnlfbadokaa", sum := "6ca1f086b7bd5950979f2ec72ae292ca8ee88a700cbd0744c5d2e7759f51cabe", func := "loop.example/g00509/laws.FnExactNegotiateSecurity", spec := "fnExactNegotiateSecurity", apart := false, narrowed := true }
def FnExactNegotiateSecurityUptoSaid : Prop := fnExactNegotiateSecurityUptoRow.holds Try.pinned (OpenSpec.upto fnExactNegotiateSecuritySpec)

/-- 'laws.FnNegotiation', WHERE WHAT IT READS IS OF BULK AT MOST 1048576: true; the input reads as it did. -/
def fnNegotiationUptoRow : OpenClaim := { program := "ytbfmdnlfbadokaa", sum := "6ca1f086b7bd5950979f2ec72ae292ca8ee88a700cbd0744c5d2e7759f51cabe", func := "loop.example/g00509/laws.FnNegotiation", spec := "fnNegotiation", apart := false, narrowed := true }
def FnNegotiationUptoSaid : Prop := fnNegotiationUptoRow.holds Try.pinned (OpenSpec.upto fnNegotiationSpec)

/-- 'laws.FnExactKeyForPath', WHERE WHAT IT READS IS OF BULK AT MOST 1048576: true; the input reads as it did. -/
def fnExactKeyForPathUptoRow : OpenClaim := { program := "ytbfmdnlfbadokaa", sum := "6ca1f086b7bd5950979f2ec72ae292ca8ee88a700cbd0744c5d2e7759f51cabe", func := "loop.example/g00509/laws.FnExactKeyForPath", spec := "fnExactKeyForPath", apart := false, narrowed := true }
def FnExactKeyForPathUptoSaid : Prop := fnExactKeyForPathUptoRow.holds Try.pinned (OpenSpec.upto fnExactKeyForPathSpec)

/-- 'laws.FnExactIsCompromised', WHERE WHAT IT READS IS OF BULK AT MOST 1048576: true; the input reads as it did. -/
def fnExactIsCompromisedUptoRow : OpenClaim := { program := "ytbfmdnlfbadokaa", sum := "6ca1f086b7bd5950979f2ec72ae292ca8ee88a700cbd0744c5d2e7759f51cabe", func := "loop.example/g00509/laws.FnExactIsCompromised", spec := "fnExactIsCompromised", apart := false, narrowed := true }
def FnExactIsCompromisedUptoSaid : Prop := fnExactIsCompromisedUptoRow.holds Try.pinned (OpenSpec.upto fnExactIsCompromisedSpec)

/-- 'laws.FnExactDeriveFrom', WHERE WHAT IT READS IS OF BULK AT MOST 1048576: true; the input reads as it did. -/
def fnExactDeriveFromUptoRow : OpenClaim := { program := "ytbfmdnlfbadokaa", sum := "6ca1f086b7bd5950979f2ec72ae292ca8ee88a700cbd0744c5d2e7759f51cabe", func := "loop.example/g00509/laws.FnExactDeriveFrom", spec := "fnExactDeriveFrom", apart := false, narrowed := true }
def FnExactDeriveFromUptoSaid : Prop := fnExactDeriveFromUptoRow.holds Try.pinned (OpenSpec.upto fnExactDeriveFromSpec)

/-- 'laws.FnKeyTree', WHERE WHAT IT READS IS OF BULK AT MOST 1048576: true; the input reads as it did. -/
def fnKeyTreeUptoRow : OpenClaim := { program := "ytbfmdnlfbadokaa", sum := "6ca1f086b7bd5950979f2ec72ae292ca8ee88a700cbd0744c5d2e7759f51cabe", func := "loop.example/g00509/laws.FnKeyTree", spec := "fnKeyTree", apart := false, narrowed := true }
def FnKeyTreeUptoSaid : Prop := fnKeyTreeUptoRow.holds Try.pinned (OpenSpec.upto fnKeyTreeSpec)

/-- 'laws.FnExactVerifyMAC', WHERE WHAT IT READS IS OF BULK AT MOST 1048576: true; the input reads as it did. -/
def fnExactVerifyMACUptoRow : OpenClaim := { program := "ytbfmdnlfbadokaa", sum := "6ca1f086b7bd5950979f2ec72ae292ca8ee88a700cbd0744c5d2e7759f51cabe", func := "loop.example/g00509/laws.FnExactVerifyMAC", spec := "fnExactVerifyMAC", apart := false, narrowed := true }
def FnExactVerifyMACUptoSaid : Prop := fnExactVerifyMACUptoRow.holds Try.pinned (OpenSpec.upto fnExactVerifyMACSpec)

/-- 'laws.FnExactProtect', WHERE WHAT IT READS IS OF BULK AT MOST 1048576: true; the input reads as it did. -/
def fnExactProtectUptoRow : OpenClaim := { program := "ytbfmdnlfbadokaa", sum := "6ca1f086b7bd5950979f2ec72ae292ca8ee88a700cbd0744c5d2e7759f51cabe", func := "loop.example/g00509/laws.FnExactProtect", spec := "fnExactProtect", apart := false, narrowed := true }
def FnExactProtectUptoSaid : Prop := fnExactProtectUptoRow.holds Try.pinned (OpenSpec.upto fnExactProtectSpec)

/-- 'laws.FnExactUnprotect', WHERE WHAT IT READS IS OF BULK AT MOST 1048576: true; the input reads as it did. -/
def fnExactUnprotectUptoRow : OpenClaim := { program := "ytbfmdnlfbadokaa", sum := "6ca1f086b7bd5950979f2ec72ae292ca8ee88a700cbd0744c5d2e7759f51cabe", func := "loop.example/g00509/laws.FnExactUnprotect", spec := "fnExactUnprotect", apart := false, narrowed := true }
def FnExactUnprotectUptoSaid : Prop := fnExactUnprotectUptoRow.holds Try.pinned (OpenSpec.upto fnExactUnprotectSpec)

/-- 'laws.FnSecuredMessages', WHERE WHAT IT READS IS OF BULK AT MOST 1048576: true; the input reads as it did. -/
def fnSecuredMessagesUptoRow : OpenClaim := { program := "ytbfmdnlfbadokaa", sum := "6ca1f086b7bd5950979f2ec72ae292ca8ee88a700cbd0744c5d2e7759f51cabe", func := "loop.example/g00509/laws.FnSecuredMessages", spec := "fnSecuredMessages", apart := false, narrowed := true }
def FnSecuredMessagesUptoSaid : Prop := fnSecuredMessagesUptoRow.holds Try.pinned (OpenSpec.upto fnSecuredMessagesSpec)

end Rows
end Go.Proofs.Ytbfmdnlfbadokaa
