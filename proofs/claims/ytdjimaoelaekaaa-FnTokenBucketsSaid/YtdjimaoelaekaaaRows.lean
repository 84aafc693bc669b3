/-
  No cell of these rows narrows 'for every input' (looked for: loops, veiled, ifaces, maps, wideKeys, modest, calm, conditions, laid).
  DERIVED. THE GIVEN ROWS OF THIS SEAT. 10 by the template 'for every input the law returns true; each argument reads behind the call as it read before'; 0 by the template 'total and deterministic' (their statements: YtdjimaoelaekaaaTotals.lean).
  GIVEN WITH THE SEED: the statements are not yours to turn. If you find one false, say at which input.
  Laid BY PROGRAM, IN A SANDBOX (cutbox-rows.mjs): the forced cells as the released guide's own fill.sh prints them over the translation 993479a336a2f06c… (all of the seat's roots in one cut). By AI agents, Wed Nov 11 2026. No macro, syntax, notation, axiom, sorry.
-/
import Derived.Test.YtdjimaoelaekaaaChecked
import GoSem.Claim
import GoSem.ClaimJoined
import GoSem.ClaimMapViews
import Derived.JoinedTies
import Derived.KernelRfl
namespace Go.Proofs.Ytdjimaoelaekaaa
/- THE CELL 'sum', in the pinned program and in every row, IS THE sha256 OF THE DUMP (.gsa) THAT YtdjimaoelaekaaaProg.lean LOADS. Nothing in Lean hashes anything: it is a label: what it is worth is what the hold of that sum in a sandbox is worth. -/
noncomputable def Try.pinned : Pinned := { name := "ytdjimaoelaekaaa", sum := "993479a336a2f06c92e788caa53ce576870b76e09db1e98ad6b79b874d2b2c00", checked := Try.checked }
namespace Rows
def none {H : Type} : Left H := { results := [], args := [] }

/-- 'laws.FnExactIsValidCaps': WHATEVER THE INPUT: true; the input reads as it did. -/
def fnExactIsValidCapsSpec : ChangeSpec := { name := "fnExactIsValidCaps", fn := fun _ => fun
  | [d] => { results := [.lit (.bool true)], args := [d] }
  | _ => none }
def fnExactIsValidCapsRow : OpenClaim := { program := "ytdjimaoelaekaaa", sum := "993479a336a2f06c92e788caa53ce576870b76e09db1e98ad6b79b874d2b2c00", func := "loop.example/g00509/laws.FnExactIsValidCaps", spec := "fnExactIsValidCaps", apart := false }
def FnExactIsValidCapsSaid : Prop := fnExactIsValidCapsRow.holds Try.pinned (OpenSpec.ofChange fnExactIsValidCapsSpec)

/-- ITS FALSE NEIGHBOUR: 'it returns false'. Refute it at one input. -/
def fnExactIsValidCapsWrong : ChangeSpec := { name := "fnExactIsValidCaps", fn := fun _ => fun
  | [d] => { results := [.lit (.bool false)], args := [d] }
  | _ => none }
def FnExactIsValidCapsWrongFalsely : Prop := fnExactIsValidCapsRow.holds Try.pinned (OpenSpec.ofChange fnExactIsValidCapsWrong)

/-- 'laws.FnExactSupports': WHATEVER THE INPUT: true; the input reads as it did. -/
def fnExactSupportsSpec : ChangeSpec := { name := "fnExactSupports", fn := fun _ => fun
  | [d1, d2] => { results := [.lit (.bool true)], args := [d1, d2] }
  | _ => none }
def fnExactSupportsRow : OpenClaim := { program := "ytdjimaoelaekaaa", sum := "993479a336a2f06c92e788caa53ce576870b76e09db1e98ad6b79b874d2b2c00", func := "loop.example/g00509/laws.FnExactSupports", spec := "fnExactSupports", apart := false }
def FnExactSupportsSaid : Prop := fnExactSupportsRow.holds Try.pinned (OpenSpec.ofChange fnExactSupportsSpec)

/-- ITS FALSE NEIGHBOUR: 'it returns false'. Refute it at one input. -/
def fnExactSupportsWrong : ChangeSpec := { name := "fnExactSupports", fn := fun _ => fun
  | [d1, d2] => { results := [.lit (.bool false)], args := [d1, d2] }
  | _ => none }
def FnExactSupportsWrongFalsely : Prop := fnExactSupportsRow.holds Try.pinned (OpenSpec.ofChange fnExactSupportsWrong)

/-- 'laws.FnExactIsValidBucket': WHATEVER THE INPUT: true; the input reads as it did. -/
def fnExactIsValidBucketSpec : ChangeSpec := { name := "fnExactIsValidBucket", fn := fun _ => fun
  | [d] => { results := [.lit (.bool true)], args := [d] }
  | _ => none }
def fnExactIsValidBucketRow : OpenClaim := { program := "ytdjimaoelaekaaa", sum := "993479a336a2f06c92e788caa53ce576870b76e09db1e98ad6b79b874d2b2c00", func := "loop.example/g00509/laws.FnExactIsValidBucket", spec := "fnExactIsValidBucket", apart := false }
def FnExactIsValidBucketSaid : Prop := fnExactIsValidBucketRow.holds Try.pinned (OpenSpec.ofChange fnExactIsValidBucketSpec)

/-- ITS FALSE NEIGHBOUR: 'it returns false'. Refute it at one input. -/
def fnExactIsValidBucketWrong : ChangeSpec := { name := "fnExactIsValidBucket", fn := fun _ => fun
  | [d] => { results := [.lit (.bool false)], args := [d] }
  | _ => none }
def FnExactIsValidBucketWrongFalsely : Prop := fnExactIsValidBucketRow.holds Try.pinned (OpenSpec.ofChange fnExactIsValidBucketWrong)

/-- 'laws.FnExactMaxTokensIn': WHATEVER THE INPUT: true; the input reads as it did. -/
def fnExactMaxTokensInSpec : ChangeSpec := { name := "fnExactMaxTokensIn", fn := fun _ => fun
  | [d1, d2] => { results := [.lit (.bool true)], args := [d1, d2] }
  | _ => none }
def fnExactMaxTokensInRow : OpenClaim := { program := "ytdjimaoelaekaaa", sum := "993479a336a2f06c92e788caa53ce576870b76e09db1e98ad6b79b874d2b2c00", func := "loop.example/g00509/laws.FnExactMaxTokensIn", spec := "fnExactMaxTokensIn", apart := false }
def FnExactMaxTokensInSaid : Prop := fnExactMaxTokensInRow.holds Try.pinned (OpenSpec.ofChange fnExactMaxTokensInSpec)

/-- ITS FALSE NEIGHBOUR: 'it returns false'. Refute it at one input. -/
def fnExactMaxTokensInWrong : ChangeSpec := { name := "fnExactMaxTokensIn", fn := fun _ => fun
  | [d1, d2] => { results := [.lit (.bool false)], args := [d1, d2] }
  | _ => none }
def FnExactMaxTokensInWrongFalsely : Prop := fnExactMaxTokensInRow.holds Try.pinned (OpenSpec.ofChange fnExactMaxTokensInWrong)

/-- 'laws.FnExactSelectAlgorithm': WHATEVER THE INPUT: true; the input reads as it did. -/
def fnExactSelectAlgorithmSpec : ChangeSpec := { name := "fnExactSelectAlgorithm", fn := fun _ => fun
  | [d1, d2] => { results := [.lit (.bool true)], args := [d1, d2] }
  | _ => none }
def fnExactSelectAlgorithmRow : OpenClaim := { program := "ytdjimaoelaekaaa", sum := "993479a336a2f06c92e788caa53ce576870b76e09db1e98ad6b79b874d2b2c00", func := "loop.example/g00509/laws.FnExactSelectAlgorithm", spec := "fnExactSelectAlgorithm", apart := false }
def FnExactSelectAlgorithmSaid : Prop := fnExactSelectAlgorithmRow.holds Try.pinned (OpenSpec.ofChange fnExactSelectAlgorithmSpec)

/-- ITS FALSE NEIGHBOUR: 'it returns false'. Refute it at one input. -/
def fnExactSelectAlgorithmWrong : ChangeSpec := { name := "fnExactSelectAlgorithm", fn := fun _ => fun
  | [d1, d2] => { results := [.lit (.bool false)], args := [d1, d2] }
  | _ => none }
def FnExactSelectAlgorithmWrongFalsely : Prop := fnExactSelectAlgorithmRow.holds Try.pinned (OpenSpec.ofChange fnExactSelectAlgorithmWrong)

/-- 'laws.FnExactNewTokenBucket': WHATEVER THE INPUT: true; the input reads as it did. -/
def fnExactNewTokenBucketSpec : ChangeSpec := { name := "fnExactNewTokenBucket", fn := fun _ => fun
  | [d1, d2, d3] => { results := [.lit (.bool true)], args := [d1, d2, d3] }
  | _ => none }
def fnExactNewTokenBucketRow : OpenClaim := { program := "ytdjimaoelaekaaa", sum := "993479a336a2f06c92e788caa53ce576870b76e09db1e98ad6b79b874d2b2c00", func := "loop.example/g00509/laws.FnExactNewTokenBucket", spec := "fnExactNewTokenBucket", apart := false }
def FnExactNewTokenBucketSaid : Prop := fnExactNewTokenBucketRow.holds Try.pinned (OpenSpec.ofChange fnExactNewTokenBucketSpec)

/-- ITS FALSE NEIGHBOUR: 'it returns false'. Refute it at one input. -/
def fnExactNewTokenBucketWrong : ChangeSpec := { name := "fnExactNewTokenBucket", fn := fun _ => fun
  | [d1, d2, d3] => { results := [.lit (.bool false)], args := [d1, d2, d3] }
  | _ => none }
def FnExactNewTokenBucketWrongFalsely : Prop := fnExactNewTokenBucketRow.holds Try.pinned (OpenSpec.ofChange fnExactNewTokenBucketWrong)

/-- 'laws.FnExactRefillTo': WHATEVER THE INPUT: true; the input reads as it did. -/
def fnExactRefillToSpec : ChangeSpec := { name := "fnExactRefillTo", fn := fun _ => fun
  | [d1, d2] => { results := [.lit (.bool true)], args := [d1, d2] }
  | _ => none }
def fnExactRefillToRow : OpenClaim := { program := "ytdjimaoelaekaaa", sum := "993479a336a2f06c92e788caa53ce576870b76e09db1e98ad6b79b874d2b2c00", func := "loop.example/g00509/laws.FnExactRefillTo", spec := "fnExactRefillTo", apart := false }
def FnExactRefillToSaid : Prop := fnExactRefillToRow.holds Try.pinned (OpenSpec.ofChange fnExactRefillToSpec)

/-- ITS FALSE NEIGHBOUR: 'it returns false'. Refute it at one input. -/
def fnExactRefillToWrong : ChangeSpec := { name := "fnExactRefillTo", fn := fun _ => fun
  | [d1, d2] => { results := [.lit (.bool false)], args := [d1, d2] }
  | _ => none }
def FnExactRefillToWrongFalsely : Prop := fnExactRefillToRow.holds Try.pinned (OpenSpec.ofChange fnExactRefillToWrong)

/-- 'laws.FnExactTakeTokens': WHATEVER THE INPUT: true; the input reads as it did. -/
def fnExactTakeTokensSpec : ChangeSpec := { name := "fnExactTakeTokens", fn := fun _ => fun
  | [d1, d2, d3] => { results := [.lit (.bool true)], args := [d1, d2, d3] }
  | _ => none }
def fnExactTakeTokensRow : OpenClaim := { program := "ytdjimaoelaekaaa", sum := "993479a336a2f06c92e788caa53ce576870b76e09db1e98ad6b79b874d2b2c00", func := "loop.example/g00509/laws.FnExactTakeTokens", spec := "fnExactTakeTokens", apart := false }
def FnExactTakeTokensSaid : Prop := fnExactTakeTokensRow.holds Try.pinned (OpenSpec.ofChange fnExactTakeTokensSpec)

/-- ITS FALSE NEIGHBOUR: 'it returns false'. Refute it at one input. -/
def fnExactTakeTokensWrong : ChangeSpec := { name := "fnExactTakeTokens", fn := fun _ => fun
  | [d1, d2, d3] => { results := [.lit (.bool false)], args := [d1, d2, d3] }
  | _ => none }
def FnExactTakeTokensWrongFalsely : Prop := fnExactTakeTokensRow.holds Try.pinned (OpenSpec.ofChange fnExactTakeTokensWrong)

/-- 'laws.FnExactTicksUntil': WHATEVER THE INPUT: true; the input reads as it did. -/
def fnExactTicksUntilSpec : ChangeSpec := { name := "fnExactTicksUntil", fn := fun _ => fun
  | [d1, d2, d3] => { results := [.lit (.bool true)], args := [d1, d2, d3] }
  | _ => none }
def fnExactTicksUntilRow : OpenClaim := { program := "ytdjimaoelaekaaa", sum := "993479a336a2f06c92e788caa53ce576870b76e09db1e98ad6b79b874d2b2c00", func := "loop.example/g00509/laws.FnExactTicksUntil", spec := "fnExactTicksUntil", apart := false }
def FnExactTicksUntilSaid : Prop := fnExactTicksUntilRow.holds Try.pinned (OpenSpec.ofChange fnExactTicksUntilSpec)

/-- ITS FALSE NEIGHBOUR: 'it returns false'. Refute it at one input. -/
def fnExactTicksUntilWrong : ChangeSpec := { name := "fnExactTicksUntil", fn := fun _ => fun
  | [d1, d2, d3] => { results := [.lit (.bool false)], args := [d1, d2, d3] }
  | _ => none }
def FnExactTicksUntilWrongFalsely : Prop := fnExactTicksUntilRow.holds Try.pinned (OpenSpec.ofChange fnExactTicksUntilWrong)

/-- 'laws.FnTokenBuckets': WHATEVER THE INPUT: true; the input reads as it did. -/
def fnTokenBucketsSpec : ChangeSpec := { name := "fnTokenBuckets", fn := fun _ => fun
  | [d] => { results := [.lit (.bool true)], args := [d] }
  | _ => none }
def fnTokenBucketsRow : OpenClaim := { program := "ytdjimaoelaekaaa", sum := "993479a336a2f06c92e788caa53ce576870b76e09db1e98ad6b79b874d2b2c00", func := "loop.example/g00509/laws.FnTokenBuckets", spec := "fnTokenBuckets", apart := false }
def FnTokenBucketsSaid : Prop := fnTokenBucketsRow.holds Try.pinned (OpenSpec.ofChange fnTokenBucketsSpec)

/-- ITS FALSE NEIGHBOUR: 'it returns false'. Refute it at one input. -/
def fnTokenBucketsWrong : ChangeSpec := { name := "fnTokenBuckets", fn := fun _ => fun
  | [d] => { results := [.lit (.bool false)], args := [d] }
  | _ => none }
def FnTokenBucketsWrongFalsely : Prop := fnTokenBucketsRow.holds Try.pinned (OpenSpec.ofChange fnTokenBucketsWrong)

/- THE SECOND FORM. 'bulk': how many values and letters a reading holds, each counted each time it is reached (what is shared counts as often as it is met; a slice's spare places count too). A statement '..UptoSaid' is the law's where the arguments, and the package variables that the reading takes, are together of bulk at most 1048576: NARROWER than '..Said'. Prove '..Said' where nothing that the law and all that it calls make is longer than what came in: it says more and counts as full. Else prove '..UptoSaid'. A law counts once. -/
mutual
def uptoBulk {H : Type} : DataW H → Nat
  | .lit (.string bytes) => bytes.length + 1
  | .lit _ => 1
  | .nil => 1
  | .ptr d => uptoBulk d + 1
  | .slice elems spare => uptoBulkAll elems + uptoBulkAll spare + 1
  | .agg parts => uptoBulkAll parts + 1
  | .iface _ d => uptoBulk d + 1
  | .map entries => uptoBulkEntries entries + 1
  | .held _ => 1
def uptoBulkAll {H : Type} : List (DataW H) → Nat
  | [] => 0
  | d :: r => uptoBulk d + uptoBulkAll r
def uptoBulkEntries {H : Type} : List (Lit × DataW H) → Nat
  | [] => 0
  | x :: r => uptoBulkEntry x + uptoBulkEntries r
def uptoBulkEntry {H : Type} : Lit × DataW H → Nat
  | (.string bytes, d) => bytes.length + uptoBulk d + 1
  | (_, d) => uptoBulk d + 1
 end
def uptoSmall : (H : Type) → List (DataW H) → Bool := fun _ ds => decide (uptoBulkAll ds ≤ 1048576)
def OpenSpec.upto (s : _root_.Go.ChangeSpec) : _root_.Go.OpenSpec := { _root_.Go.OpenSpec.ofChange s with cond := some uptoSmall }

/-- 'laws.FnExactIsValidCaps', WHERE WHAT IT READS IS OF BULK AT MOST 1048576: true; the input reads as it did. -/
def fnExactIsValidCapsUptoRow : OpenClaim := { program := "ytdjimaoelaekaaa", sum := "993479a336a2f06c92e788caa53ce576870b76e09db1e98ad6b79b874d2b2c00", func := "loop.example/g00509/laws.FnExactIsValidCaps", spec := "fnExactIsValidCaps", apart := false, narrowed := true }
def FnExactIsValidCapsUptoSaid : Prop := fnExactIsValidCapsUptoRow.holds Try.pinned (OpenSpec.upto fnExactIsValidCapsSpec)

/-- 'laws.FnExactSupports', WHERE WHAT IT READS IS OF BULK AT MOST 1048576: true; the input reads as it did. -/
def fnExactSupportsUptoRow : OpenClaim := { program := "ytdjimaoelaekaaa", sum := "993479a336a2f06c92e788caa53ce576870b76e09db1e98ad6b79b874d2b2c00", func := "loop.example/g00509/laws.FnExactSupports", spec := "fnExactSupports", apart := false, narrowed := true }
def FnExactSupportsUptoSaid : Prop := fnExactSupportsUptoRow.holds Try.pinned (OpenSpec.upto fnExactSupportsSpec)

/-- 'laws.FnExactIsValidBucket', WHERE WHAT IT READS IS OF BULK AT MOST 1048576: true; the input reads as it did. -/
def fnExactIsValidBucketUptoRow : OpenClaim := { program := "ytdjimaoelaekaaa", sum := "993479a336a2f06c92e788caa53ce576870b76e09db1e98ad6b79b874d2b2c00", func := "loop.example/g00509/laws.FnExactIsValidBucket", spec := "fnExactIsValidBucket", apart := false, narrowed := true }
def FnExactIsValidBucketUptoSaid : Prop := fnExactIsValidBucketUptoRow.holds Try.pinned (OpenSpec.upto fnExactIsValidBucketSpec)

/-- 'laws.FnExactMaxTokensIn', WHERE WHAT IT READS IS OF BULK AT MOST 1048576: true; the input reads as it did. -/
def fnExactMaxTokensInUptoRow : OpenClaim := { program := "ytdjimaoelaekaaa", sum := "993479a336a2f06c92e788caa53ce576870b76e09db1e98ad6b79b874d2b2c00", func := "loop.example/g00509/laws.FnExactMaxTokensIn", spec := "fnExactMaxTokensIn", apart := false, narrowed := true }
def FnExactMaxTokensInUptoSaid : Prop := fnExactMaxTokensInUptoRow.holds Try.pinned (OpenSpec.upto fnExactMaxTokensInSpec)

/-- 'laws.FnExactSelectAlgorithm', WHERE WHAT IT READS IS OF BULK AT MOST 1048576: true; the input reads as it did. -/
def fnExactSelectAlgorithmUptoRow : OpenClaim := { program := "ytdjimaoelaekaaa", sum := "993479a336a2f06c92e788caa53ce576870b76e09db1e98ad6b79b874d2b2c00", func := "loop.example/g00509/laws.FnExactSelectAlgorithm", spec := "fnExactSelectAlgorithm", apart := false, narrowed := true }
def FnExactSelectAlgorithmUptoSaid : Prop := fnExactSelectAlgorithmUptoRow.holds Try.pinned (OpenSpec.upto fnExactSelectAlgorithmSpec)

/-- 'laws.FnExactNewTokenBucket', WHERE WHAT IT READS IS OF BULK AT MOST 1048576: true; the input reads as it did. -/
def fnExactNewTokenBucketUptoRow : OpenClaim := { program := "ytdjimaoelaekaaa", sum := "993479a336a2f06c92e788caa53ce576870b76e09db1e98ad6b79b874d2b2c00", func := "loop.example/g00509/laws.FnExactNewTokenBucket", spec := "fnExactNewTokenBucket", apart := false, narrowed := true }
def FnExactNewTokenBucketUptoSaid : Prop := fnExactNewTokenBucketUptoRow.holds Try.pinned (OpenSpec.upto fnExactNewTokenBucketSpec)

/-- 'laws.FnExactRefillTo', WHERE WHAT IT READS IS OF BULK AT MOST 1048576: true; the input reads as it did. -/
def fnExactRefillToUptoRow : OpenClaim := { program := "ytdjimaoelaekaaa", sum := "993479a336a2f06c92e788caa53ce576870b76e09db1e98ad6b79b874d2b2c00", func := "loop.example/g00509/laws.FnExactRefillTo", spec := "fnExactRefillTo", apart := false, narrowed := true }
def FnExactRefillToUptoSaid : Prop := fnExactRefillToUptoRow.holds Try.pinned (OpenSpec.upto fnExactRefillToSpec)

/-- 'laws.FnExactTakeTokens', WHERE WHAT IT READS IS OF BULK AT MOST 1048576: true; the input reads as it did. -/
def fnExactTakeTokensUptoRow : OpenClaim := { program := "ytdjimaoelaekaaa", sum := "993479a336a2f06c92e788caa53ce576870b76e09db1e98ad6b79b874d2b2c00", func := "loop.example/g00509/laws.FnExactTakeTokens", spec := "fnExactTakeTokens", apart := false, narrowed := true }
def FnExactTakeTokensUptoSaid : Prop := fnExactTakeTokensUptoRow.holds Try.pinned (OpenSpec.upto fnExactTakeTokensSpec)

/-- 'laws.FnExactTicksUntil', WHERE WHAT IT READS IS OF BULK AT MOST 1048576: true; the input reads as it did. -/
def fnExactTicksUntilUptoRow : OpenClaim := { program := "ytdjimaoelaekaaa", sum := "993479a336a2f06c92e788caa53ce576870b76e09db1e98ad6b79b874d2b2c00", func := "loop.example/g00509/laws.FnExactTicksUntil", spec := "fnExactTicksUntil", apart := false, narrowed := true }
def FnExactTicksUntilUptoSaid : Prop := fnExactTicksUntilUptoRow.holds Try.pinned (OpenSpec.upto fnExactTicksUntilSpec)

/-- 'laws.FnTokenBuckets', WHERE WHAT IT READS IS OF BULK AT MOST 1048576: true; the input reads as it did. -/
def fnTokenBucketsUptoRow : OpenClaim := { program := "ytdjimaoelaekaaa", sum := "993479a336a2f06c92e788caa53ce576870b76e09db1e98ad6b79b874d2b2c00", func := "loop.example/g00509/laws.FnTokenBuckets", spec := "fnTokenBuckets", apart := false, narrowed := true }
def FnTokenBucketsUptoSaid : Prop := fnTokenBucketsUptoRow.holds Try.pinned (OpenSpec.upto fnTokenBucketsSpec)

end Rows
end Go.Proofs.Ytdjimaoelaekaaa
