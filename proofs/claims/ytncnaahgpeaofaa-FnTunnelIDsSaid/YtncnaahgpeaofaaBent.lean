/- Bytes bent. -/
import Derived.Test.YtncnaahgpeaofaaDrawB
import Derived.Test.YtncnaahgpeaofaaCpy
import Derived.Test.YtncnaahgpeaofaaRow
namespace Go.Proofs.Ytncnaahgpeaofaa
open Go.RowKit Go.Sep

def Bent (g : Nat) (A : Option Addr) (n c m : Nat) (w : World) (e : Ending) (w' : World) : Prop :=
  ∃ (A' : Option Addr) (k c' : Nat) (bs : List Int), e = .returned (.slice A' k c') ∧ bs.length = k ∧ k ≤ m + 1 ∧ (∀ x ∈ bs, 0 ≤ x ∧ x ≤ 255) ∧ Rd w' w.heap.size w'.heap.size 1 A' k (bs.map (.int .u8)) ∧ k ≤ c' ∧ c' ≤ maxLen ∧ Cur w' g A n c ∧ Chg g (g + 1) w w'
end Go.Proofs.Ytncnaahgpeaofaa
