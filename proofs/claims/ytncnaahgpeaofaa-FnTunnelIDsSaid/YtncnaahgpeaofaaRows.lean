/-
  No cell of these rows narrows 'for every input' (looked for: loops, veiled, ifaces, maps, wideKeys, modest, calm, conditions, laid).
  DERIVED. THE GIVEN ROWS OF THIS SEAT. 7 by the template 'for every input the law returns true; each argument reads behind the call as it read before'; 0 by the template 'total and deterministic' (their statements: YtncnaahgpeaofaaTotals.lean).
  GIVEN WITH THE SEED: the statements are not yours to turn. If you find one false, say at which input.
  Laid BY PROGRAM, IN A SANDBOX (cutbox-rows.mjs): the forced cells as the released guide's own fill.sh prints them over the translation e5d1271bb428d61a… (all of the seat's roots in one cut). By AI agents, Wed Nov 11 2026. No macro, syntax, notation, axiom, sorry.
-/
import Derived.Test.YtncnaahgpeaofaaChecked
import GoSem.Claim
import GoSem.ClaimJoined
import GoSem.ClaimMapViews
import Derived.JoinedTies
import Derived.KernelRfl
namespace Go.Proofs.Ytncnaahgpeaofaa
/- THE CELL 'sum', in the pinned program and in every row, IS THE sha256 OF THE DUMP (.gsa) THAT YtncnaahgpeaofaaProg.lean LOADS. Nothing in Lean hashes anything: it is a label: what it is worth is what the hold of that sum in a sandbox is worth. -/
noncomputable def Try.pinned : Pinned := { name := "ytncnaahgpeaofaa", sum := "e5d1271bb428d61a08579e92d2b2ea9a7323d6975c5b265ffc80b7948a4fc0d9", checked := Try.checked }
namespace Rows
def none {H : Type} : Left H := { results := [], args := [] }

/-- 'laws.FnExactTunnelPeer': WHATEVER THE INPUT: true; the input reads as it did. -/
def fnExactTunnelPeerSpec : ChangeSpec := { name := "fnExactTunnelPeer", fn := fun _ => fun
  | [d1, d2] => { results := [.lit (.bool true)], args := [d1, d2] }
  | _ => none }
def fnExactTunnelPeerRow : OpenClaim := { program := "ytncnaahgpeaofaa", sum := "e5d1271bb428d61a08579e92d2b2ea9a7323d6975c5b265ffc80b7948a4fc0d9", func := "loop.example/g00509/laws.FnExactTunnelPeer", spec := "fnExactTunnelPeer", apart := false }
def FnExactTunnelPeerSaid : Prop := fnExactTunnelPeerRow.holds Try.pinned (OpenSpec.ofChange fnExactTunnelPeerSpec)

/-- ITS FALSE NEIGHBOUR: 'it returns false'. Refute it at one input. -/
def fnExactTunnelPeerWrong : ChangeSpec := { name := "fnExactTunnelPeer", fn := fun _ => fun
  | [d1, d2] => { results := [.lit (.bool false)], args := [d1, d2] }
  | _ => none }
def FnExactTunnelPeerWrongFalsely : Prop := fnExactTunnelPeerRow.holds Try.pinned (OpenSpec.ofChange fnExactTunnelPeerWrong)

/-- 'laws.FnExactAreValidTunnels': WHATEVER THE INPUT: true; the input reads as it did. -/
def fnExactAreValidTunnelsSpec : ChangeSpec := { name := "fnExactAreValidTunnels", fn := fun _ => fun
  | [d] => { results := [.lit (.bool true)], args := [d] }
  | _ => none }
def fnExactAreValidTunnelsRow : OpenClaim := { program := "ytncnaahgpeaofaa", sum := "e5d1271bb428d61a08579e92d2b2ea9a7323d6975c5b265ffc80b7948a4fc0d9", func := "loop.example/g00509/laws.FnExactAreValidTunnels", spec := "fnExactAreValidTunnels", apart := false }
def FnExactAreValidTunnelsSaid : Prop := fnExactAreValidTunnelsRow.holds Try.pinned (OpenSpec.ofChange fnExactAreValidTunnelsSpec)

/-- ITS FALSE NEIGHBOUR: 'it returns false'. Refute it at one input. -/
def fnExactAreValidTunnelsWrong : ChangeSpec := { name := "fnExactAreValidTunnels", fn := fun _ => fun
  | [d] => { results := [.lit (.bool false)], args := [d] }
  | _ => none }
def FnExactAreValidTunnelsWrongFalsely : Prop := fnExactAreValidTunnelsRow.holds Try.pinned (OpenSpec.ofChange fnExactAreValidTunnelsWrong)

/-- 'laws.FnExactCloseTunnel': WHATEVER THE INPUT: true; the input reads as it did. -/
def fnExactCloseTunnelSpec : ChangeSpec := { name := "fnExactCloseTunnel", fn := fun _ => fun
  | [d1, d2] => { results := [.lit (.bool true)], args := [d1, d2] }
  | _ => none }
def fnExactCloseTunnelRow : OpenClaim := { program := "ytncnaahgpeaofaa", sum := "e5d1271bb428d61a08579e92d2b2ea9a7323d6975c5b265ffc80b7948a4fc0d9", func := "loop.example/g00509/laws.FnExactCloseTunnel", spec := "fnExactCloseTunnel", apart := false }
def FnExactCloseTunnelSaid : Prop := fnExactCloseTunnelRow.holds Try.pinned (OpenSpec.ofChange fnExactCloseTunnelSpec)

/-- ITS FALSE NEIGHBOUR: 'it returns false'. Refute it at one input. -/
def fnExactCloseTunnelWrong : ChangeSpec := { name := "fnExactCloseTunnel", fn := fun _ => fun
  | [d1, d2] => { results := [.lit (.bool false)], args := [d1, d2] }
  | _ => none }
def FnExactCloseTunnelWrongFalsely : Prop := fnExactCloseTunnelRow.holds Try.pinned (OpenSpec.ofChange fnExactCloseTunnelWrong)

/-- 'laws.FnExactTunnelsOfPeer': WHATEVER THE INPUT: true; the input reads as it did. -/
def fnExactTunnelsOfPeerSpec : ChangeSpec := { name := "fnExactTunnelsOfPeer", fn := fun _ => fun
  | [d1, d2] => { results := [.lit (.bool true)], args := [d1, d2] }
  | _ => none }
def fnExactTunnelsOfPeerRow : OpenClaim := { program := "ytncnaahgpeaofaa", sum := "e5d1271bb428d61a08579e92d2b2ea9a7323d6975c5b265ffc80b7948a4fc0d9", func := "loop.example/g00509/laws.FnExactTunnelsOfPeer", spec := "fnExactTunnelsOfPeer", apart := false }
def FnExactTunnelsOfPeerSaid : Prop := fnExactTunnelsOfPeerRow.holds Try.pinned (OpenSpec.ofChange fnExactTunnelsOfPeerSpec)

/-- ITS FALSE NEIGHBOUR: 'it returns false'. Refute it at one input. -/
def fnExactTunnelsOfPeerWrong : ChangeSpec := { name := "fnExactTunnelsOfPeer", fn := fun _ => fun
  | [d1, d2] => { results := [.lit (.bool false)], args := [d1, d2] }
  | _ => none }
def FnExactTunnelsOfPeerWrongFalsely : Prop := fnExactTunnelsOfPeerRow.holds Try.pinned (OpenSpec.ofChange fnExactTunnelsOfPeerWrong)

/-- 'laws.FnExactOpenTunnel': WHATEVER THE INPUT: true; the input reads as it did. -/
def fnExactOpenTunnelSpec : ChangeSpec := { name := "fnExactOpenTunnel", fn := fun _ => fun
  | [d1, d2] => { results := [.lit (.bool true)], args := [d1, d2] }
  | _ => none }
def fnExactOpenTunnelRow : OpenClaim := { program := "ytncnaahgpeaofaa", sum := "e5d1271bb428d61a08579e92d2b2ea9a7323d6975c5b265ffc80b7948a4fc0d9", func := "loop.example/g00509/laws.FnExactOpenTunnel", spec := "fnExactOpenTunnel", apart := false }
def FnExactOpenTunnelSaid : Prop := fnExactOpenTunnelRow.holds Try.pinned (OpenSpec.ofChange fnExactOpenTunnelSpec)

/-- ITS FALSE NEIGHBOUR: 'it returns false'. Refute it at one input. -/
def fnExactOpenTunnelWrong : ChangeSpec := { name := "fnExactOpenTunnel", fn := fun _ => fun
  | [d1, d2] => { results := [.lit (.bool false)], args := [d1, d2] }
  | _ => none }
def FnExactOpenTunnelWrongFalsely : Prop := fnExactOpenTunnelRow.holds Try.pinned (OpenSpec.ofChange fnExactOpenTunnelWrong)

/-- 'laws.FnExactRouteTunnelPacket': WHATEVER THE INPUT: true; the input reads as it did. -/
def fnExactRouteTunnelPacketSpec : ChangeSpec := { name := "fnExactRouteTunnelPacket", fn := fun _ => fun
  | [d1, d2] => { results := [.lit (.bool true)], args := [d1, d2] }
  | _ => none }
def fnExactRouteTunnelPacketRow : OpenClaim := { program := "ytncnaahgpeaofaa", sum := "e5d1271bb428d61a08579e92d2b2ea9a7323d6975c5b265ffc80b7948a4fc0d9", func := "loop.example/g00509/laws.FnExactRouteTunnelPacket", spec := "fnExactRouteTunnelPacket", apart := false }
def FnExactRouteTunnelPacketSaid : Prop := fnExactRouteTunnelPacketRow.holds Try.pinned (OpenSpec.ofChange fnExactRouteTunnelPacketSpec)

/-- ITS FALSE NEIGHBOUR: 'it returns false'. Refute it at one input. -/
def fnExactRouteTunnelPacketWrong : ChangeSpec := { name := "fnExactRouteTunnelPacket", fn := fun _ => fun
  | [d1, d2] => { results := [.lit (.bool false)], args := [d1, d2] }
  | _ => none }
def FnExactRouteTunnelPacketWrongFalsely : Prop := fnExactRouteTunnelPacketRow.holds Try.pinned (OpenSpec.ofChange fnExactRouteTunnelPacketWrong)

/-- 'laws.FnTunnelIDs': WHATEVER THE INPUT: true; the input reads as it did. -/
def fnTunnelIDsSpec : ChangeSpec := { name := "fnTunnelIDs", fn := fun _ => fun
  | [d] => { results := [.lit (.bool true)], args := [d] }
  | _ => none }
def fnTunnelIDsRow : OpenClaim := { program := "ytncnaahgpeaofaa", sum := "e5d1271bb428d61a08579e92d2b2ea9a7323d6975c5b265ffc80b7948a4fc0d9", func := "loop.example/g00509/laws.FnTunnelIDs", spec := "fnTunnelIDs", apart := false }
def FnTunnelIDsSaid : Prop := fnTunnelIDsRow.holds Try.pinned (OpenSpec.ofChange fnTunnelIDsSpec)

/-- ITS FALSE NEIGHBOUR: 'it returns false'. Refute it at one input. -/
def fnTunnelIDsWrong : ChangeSpec := { name := "fnTunnelIDs", fn := fun _ => fun
  | [d] => { results := [.lit (.bool false)], args := [d] }
  | _ => none }
def FnTunnelIDsWrongFalsely : Prop := fnTunnelIDsRow.holds Try.pinned (OpenSpec.ofChange fnTunnelIDsWrong)

/- THE SECOND FORM. 'bulk': how many values and letters a reading holds, each counted each time it is reached (what is shared counts as often as it is met; a slice's spare places count too). A statement '..UptoSaid' is the law's where the arguments, and the package variables that the reading takes, are together of bulk at most 1048576: NARROWER than '..Said'. Prove '..Said' where nothing that the law and all that it calls make is longer than what came in: it says more and counts as full. Else prove '..UptoSaid'. A law counts once. -/
mutual
def uptoBulk {H : Type} : DataW H → Nat
  | .lit (.string bytes) => bytes.length + 1
  | .lit _ => 1
  | .nil => 1
  | .ptr d => uptoBulk d + 1
  | .slice elems spare => uptoBulkAll elems + uptoBulkAll spare + 1
  | .agg parts => uptoBulkAll parts + 1
  | .iface _ d => uptoBulk d + 1
  | .map entries => uptoBulkEntries entries + 1
  | .held _ => 1
def uptoBulkAll {H : Type} : List (DataW H) → Nat
  | [] => 0
  | d :: r => uptoBulk d + uptoBulkAll r
def uptoBulkEntries {H : Type} : List (Lit × DataW H) → Nat
  | [] => 0
  | x :: r => uptoBulkEntry x + uptoBulkEntries r
def uptoBulkEntry {H : Type} : Lit × DataW H → Nat
  | (.string bytes, d) => bytes.length + uptoBulk d + 1
  | (_, d) => uptoBulk d + 1
 end
def uptoSmall : (H : Type) → List (DataW H) → Bool := fun _ ds => decide (uptoBulkAll ds ≤ 1048576)
def OpenSpec.upto (s : _root_.Go.ChangeSpec) : _root_.Go.OpenSpec := { _root_.Go.OpenSpec.ofChange s with cond := some uptoSmall }

/-- 'laws.FnExactTunnelPeer', WHERE WHAT IT READS IS OF BULK AT MOST 1048576: true; the input reads as it did. -/
def fnExactTunnelPeerUptoRow : OpenClaim := { program := "ytncnaahgpeaofaa", sum := "e5d1271bb428d61a08579e92d2b2ea9a7323d6975c5b265ffc80b7948a4fc0d9", func := "loop.example/g00509/laws.FnExactTunnelPeer", spec := "fnExactTunnelPeer", apart := false, narrowed := true }
def FnExactTunnelPeerUptoSaid : Prop := fnExactTunnelPeerUptoRow.holds Try.pinned (OpenSpec.upto fnExactTunnelPeerSpec)

/-- 'laws.FnExactAreValidTunnels', WHERE WHAT IT READS IS OF BULK AT MOST 1048576: true; the input reads as it did. -/
def fnExactAreValidTunnelsUptoRow : OpenClaim := { program := "ytncnaahgpeaofaa", sum := "e5d1271bb428d61a08579e92d2b2ea9a7323d6975c5b265ffc80b7948a4fc0d9", func := "loop.example/g00509/laws.FnExactAreValidTunnels", spec := "fnExactAreValidTunnels", apart := false, narrowed := true }
def FnExactAreValidTunnelsUptoSaid : Prop := fnExactAreValidTunnelsUptoRow.holds Try.pinned (OpenSpec.upto fnExactAreValidTunnelsSpec)

/-- 'laws.FnExactCloseTunnel', WHERE WHAT IT READS IS OF BULK AT MOST 1048576: true; the input reads as it did. -/
def fnExactCloseTunnelUptoRow : OpenClaim := { program := "ytncnaahgpeaofaa", sum := "e5d1271bb428d61a08579e92d2b2ea9a7323d6975c5b265ffc80b7948a4fc0d9", func := "loop.example/g00509/laws.FnExactCloseTunnel", spec := "fnExactCloseTunnel", apart := false, narrowed := true }
def FnExactCloseTunnelUptoSaid : Prop := fnExactCloseTunnelUptoRow.holds Try.pinned (OpenSpec.upto fnExactCloseTunnelSpec)

/-- 'laws.FnExactTunnelsOfPeer', WHERE WHAT IT READS IS OF BULK AT MOST 1048576: true; the input reads as it did. -/
def fnExactTunnelsOfPeerUptoRow : OpenClaim := { program := "ytncnaahgpeaofaa", sum := "e5d1271bb428d61a08579e92d2b2ea9a7323d6975c5b265ffc80b7948a4fc0d9", func := "loop.example/g00509/laws.FnExactTunnelsOfPeer", spec := "fnExactTunnelsOfPeer", apart := false, narrowed := true }
def FnExactTunnelsOfPeerUptoSaid : Prop := fnExactTunnelsOfPeerUptoRow.holds Try.pinned (OpenSpec.upto fnExactTunnelsOfPeerSpec)

/-- 'laws.FnExactOpenTunnel', WHERE WHAT IT READS IS OF BULK AT MOST 1048576: true; the input reads as it did. -/
def fnExactOpenTunnelUptoRow : OpenClaim := { program := "ytncnaahgpeaofaa", sum := "e5d1271bb428d61a08579e92d2b2ea9a7323d6975c5b265ffc80b7948a4fc0d9", func := "loop.example/g00509/laws.FnExactOpenTunnel", spec := "fnExactOpenTunnel", apart := false, narrowed := true }
def FnExactOpenTunnelUptoSaid : Prop := fnExactOpenTunnelUptoRow.holds Try.pinned (OpenSpec.upto fnExactOpenTunnelSpec)

/-- 'laws.FnExactRouteTunnelPacket', WHERE WHAT IT READS IS OF BULK AT MOST 1048576: true; the input reads as it did. -/
def fnExactRouteTunnelPacketUptoRow : OpenClaim := { program := "ytncnaahgpeaofaa", sum := "e5d1271bb428d61a08579e92d2b2ea9a7323d6975c5b265ffc80b7948a4fc0d9", func := "loop.example/g00509/laws.FnExactRouteTunnelPacket", spec := "fnExactRouteTunnelPacket", apart := false, narrowed := true }
def FnExactRouteTunnelPacketUptoSaid : Prop := fnExactRouteTunnelPacketUptoRow.holds Try.pinned (OpenSpec.upto fnExactRouteTunnelPacketSpec)

/-- 'laws.FnTunnelIDs', WHERE WHAT IT READS IS OF BULK AT MOST 1048576: true; the input reads as it did. -/
def fnTunnelIDsUptoRow : OpenClaim := { program := "ytncnaahgpeaofaa", sum := "e5d1271bb428d61a08579e92d2b2ea9a7323d6975c5b265ffc80b7948a4fc0d9", func := "loop.example/g00509/laws.FnTunnelIDs", spec := "fnTunnelIDs", apart := false, narrowed := true }
def FnTunnelIDsUptoSaid : Prop := fnTunnelIDsUptoRow.holds Try.pinned (OpenSpec.upto fnTunnelIDsSpec)

end Rows
end Go.Proofs.Ytncnaahgpeaofaa
