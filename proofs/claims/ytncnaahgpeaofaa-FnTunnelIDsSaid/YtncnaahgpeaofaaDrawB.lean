/- Bytes drawn. -/
import Derived.Test.YtncnaahgpeaofaaDraw
import Derived.Test.YtncnaahgpeaofaaByteS
import Derived.IntWalk
namespace Go.Proofs.Ytncnaahgpeaofaa
open Go.RowKit Go.Sep

/-- What a call leaves that draws bytes. -/
def DrewB (g : Nat) (A : Option Addr) (n c : Nat) (m : Int) (w : World) (e : Ending) (w' : World) : Prop :=
  ∃ (A' : Option Addr) (k c' : Nat) (bs : List Int), e = .returned (.slice A' k c') ∧ bs.length = k ∧ ((k : Int) ≤ m ∨ k = 0) ∧ (∀ x ∈ bs, 0 ≤ x ∧ x ≤ 255) ∧ Own w' w.heap.size w'.heap.size 5 1 (.slice A' k c') k (bs.map (.int .u8)) ∧ k ≤ c' ∧ c' ≤ maxLen ∧ Cur w' g A n c ∧ Chg g (g + 1) w w'
end Go.Proofs.Ytncnaahgpeaofaa
