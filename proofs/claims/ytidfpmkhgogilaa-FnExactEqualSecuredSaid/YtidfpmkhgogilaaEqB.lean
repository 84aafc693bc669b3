/- EqualBytes and EqualSecured: what both functions return. -/
import Derived.Test.YtidfpmkhgogilaaProg
import Derived.Test.YtidfpmkhgogilaaSep
import Derived.Shelf.Bytes.SlEqualAll
namespace Go.Proofs.Ytidfpmkhgogilaa
open Go.RowKit Go.Sep

theorem bytes_of_rd {w : World} {lo hi n : Nat} {A : Option Addr} {l : List Int} (hr : Rd w lo hi 1 A n (l.map (.int .u8))) : Lib.BytesIn w A n l := fun hn => by
  have hlen : l.length = n := by simpa using hr.len
  obtain ⟨b, o, rfl, _, _, hc⟩ := hr.at_ (j := 0) (by omega)
  refine ⟨b, o, rfl, fun i hi => hc i _ ?_⟩
  have h1 : i < l.length := by omega
  simp [List.getD, List.getElem?_eq_getElem h1]
def eqB (l l' : List Int) : Bool := (Go.strOfNums l).toList == (Go.strOfNums l').toList
theorem bytesEq_any (w : World) (A B : Option Addr) (n m c c2 lo hi lo' hi' : Nat) (l l' : List Int) (hr : Rd w lo hi 1 A n (l.map (.int .u8))) (hr' : Rd w lo' hi' 1 B m (l'.map (.int .u8))) :
    Calls Try.prog 81 #[.slice A n c, .slice B m c2] w fun e w' => e = .returned (.bool (eqB l l')) ∧ w = w' := by
  have h1 := (bytes_of_rd hr).convert (P := Try.prog) (by simpa using hr.len) c 22 5 9 Try.underlying22 Try.underlying5 Try.underlying9
  have h2 := (bytes_of_rd hr').convert (P := Try.prog) (by simpa using hr'.len) c2 22 5 9 Try.underlying22 Try.underlying5 Try.underlying9
  unfold eqB
  go_enter Try.func81, Try.ntmps81
  go_wp2_with fail
  go_ret
  exact ⟨rfl, rfl⟩
theorem iEqB_any (w : World) (A B : Option Addr) (n m c c2 lo hi lo' hi' : Nat) (l l' : List Int) (hr : Rd w lo hi 1 A n (l.map (.int .u8))) (hr' : Rd w lo' hi' 1 B m (l'.map (.int .u8))) :
    Calls Try.prog 60 #[.slice A n c, .slice B m c2] w fun e w' => e = .returned (.bool (eqB l l')) ∧ w = w' := by
  go_enter Try.func60, Try.ntmps60
  go_wp2_with (go_at_call 81; refine (bytesEq_any _ A B n m c c2 lo hi lo' hi' l l' hr hr').mono ?_; rintro e w' ⟨rfl, rfl⟩)
  go_ret
  exact ⟨rfl, rfl⟩
theorem sEqB_any (w : World) (A B : Option Addr) (n m c c2 lo hi lo' hi' : Nat) (l l' : List Int) (hr : Rd w lo hi 1 A n (l.map (.int .u8))) (hr' : Rd w lo' hi' 1 B m (l'.map (.int .u8))) :
    Calls Try.prog 59 #[.slice A n c, .slice B m c2] w fun e w' => e = .returned (.bool (eqB l l')) ∧ w = w' := by
  have h1 := (bytes_of_rd hr).convert (P := Try.prog) (by simpa using hr.len) c 22 5 9 Try.underlying22 Try.underlying5 Try.underlying9
  have h2 := (bytes_of_rd hr').convert (P := Try.prog) (by simpa using hr'.len) c2 22 5 9 Try.underlying22 Try.underlying5 Try.underlying9
  unfold eqB
  go_enter Try.func59, Try.ntmps59
  go_wp2_with fail
  go_ret
  exact ⟨rfl, rfl⟩
end Go.Proofs.Ytidfpmkhgogilaa
