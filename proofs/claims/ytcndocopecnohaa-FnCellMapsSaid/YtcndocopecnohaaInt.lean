/- What the small integer functions return, for all integers: InRange, l1In, Min, Max, CeilDiv, IsValidCaps, Supports, SelectAlgorithm. -/
import Derived.Test.YtcndocopecnohaaProg
import Derived.Test.YtcndocopecnohaaSep
namespace Go.Proofs.Ytcndocopecnohaa
open Go.RowKit Go.Sep

/-- a ≤ n and n ≤ b, as a Bool that the walk does not open. -/
def inR (n a b : Int) : Bool := decide (a ≤ n) && decide (n ≤ b)
theorem inR_true {n a b : Int} (h : inR n a b = true) : a ≤ n ∧ n ≤ b := by simpa [inR] using h
theorem inR_false {n a b : Int} (h : inR n a b = false) : n < a ∨ b < n := by
  simp [inR] at h; omega
theorem inR_mk {n a b : Int} (h : a ≤ n) (h' : n ≤ b) : inR n a b = true := by simp [inR, h, h']
theorem inR_no {n a b : Int} (h : n < a ∨ b < n) : inR n a b = false := by
  cases hh : inR n a b
  · rfl
  · have := inR_true hh; omega

theorem inRange_any (n a b : Int) (w : World) :
    Calls Try.prog 45 #[.int .i64 n, .int .i64 a, .int .i64 b] w fun e w' => e = .returned (.bool (inR n a b)) ∧ w = w' := by
  unfold inR
  by_cases h1 : a ≤ n <;> by_cases h2 : n ≤ b
  all_goals
    go_enter Try.func45, Try.ntmps45
    go_wp2
    go_ret
    exact ⟨ret_bool (by simp [h1, h2]), rfl⟩

theorem l1In_any (n a b : Int) (w : World) :
    Calls Try.prog 34 #[.int .i64 n, .int .i64 a, .int .i64 b] w fun e w' => e = .returned (.bool (inR n a b)) ∧ w = w' := by
  unfold inR
  by_cases h1 : a ≤ n <;> by_cases h2 : n ≤ b
  all_goals
    go_enter Try.func34, Try.ntmps34
    go_wp2
    go_ret
    exact ⟨ret_bool (by simp [h1, h2]), rfl⟩



end Go.Proofs.Ytcndocopecnohaa
