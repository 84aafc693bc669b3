/- What the small integer functions return, for all integers: InRange, l1In, Min, Max, CeilDiv, IsValidCaps, Supports, SelectAlgorithm. -/
import Derived.Test.YtbfmdnlfbadokaaProg
import Derived.Test.YtbfmdnlfbadokaaSep
namespace Go.Proofs.Ytbfmdnlfbadokaa
open Go.RowKit Go.Sep

/-- a ≤ n and n ≤ b, as a Bool that the walk does not open. -/
def inR (n a b : Int) : Bool := decide (a ≤ n) && decide (n ≤ b)
theorem inR_true {n a b : Int} (h : inR n a b = true) : a ≤ n ∧ n ≤ b := by simpa [inR] using h
theorem inR_false {n a b : Int} (h : inR n a b = false) : n < a ∨ b < n := by
  simp [inR] at h; omega
theorem inR_mk {n a b : Int} (h : a ≤ n) (h' : n ≤ b) : inR n a b = true := by simp [inR, h, h']
theorem inR_no {n a b : Int} (h : n < a ∨ b < n) : inR n a b = false := by
  cases hh : inR n a b
  · rfl
  · have := inR_true hh; omega

theorem inRange_any (n a b : Int) (w : World) :
    Calls Try.prog 71 #[.int .i64 n, .int .i64 a, .int .i64 b] w fun e w' => e = .returned (.bool (inR n a b)) ∧ w = w' := by
  unfold inR
  by_cases h1 : a ≤ n <;> by_cases h2 : n ≤ b
  all_goals
    go_enter Try.func71, Try.ntmps71
    go_wp2
    go_ret
    exact ⟨ret_bool (by simp [h1, h2]), rfl⟩

theorem l1In_any (n a b : Int) (w : World) :
    Calls Try.prog 69 #[.int .i64 n, .int .i64 a, .int .i64 b] w fun e w' => e = .returned (.bool (inR n a b)) ∧ w = w' := by
  unfold inR
  by_cases h1 : a ≤ n <;> by_cases h2 : n ≤ b
  all_goals
    go_enter Try.func69, Try.ntmps69
    go_wp2
    go_ret
    exact ⟨ret_bool (by simp [h1, h2]), rfl⟩

theorem sMax_any (a b : Int) (w : World) :
    Calls Try.prog 94 #[.int .i64 a, .int .i64 b] w fun e w' => e = .returned (.int .i64 (max a b)) ∧ w = w' := by
  by_cases h : b > a
  all_goals
    go_enter Try.func94, Try.ntmps94
    go_wp2
    go_ret
    exact ⟨ret_int (by omega), rfl⟩


/-! ### capabilities -/
def capsOk (c : Int) : Bool := decide (0 ≤ c ∧ c ≤ 30 ∧ c % 2 = 0)
theorem capsOk_true {c : Int} (h : capsOk c = true) : 0 ≤ c ∧ c ≤ 30 ∧ c % 2 = 0 := by simpa [capsOk] using h
theorem capsOk_no {c : Int} (h : ¬ (0 ≤ c ∧ c ≤ 30 ∧ c % 2 = 0)) : capsOk c = false := by simp only [capsOk, decide_eq_false_iff_not]; exact h
theorem capsOk_mk {c : Int} (h : 0 ≤ c ∧ c ≤ 30 ∧ c % 2 = 0) : capsOk c = true := by simp only [capsOk, decide_eq_true_eq]; exact h
theorem iCaps_any (c : Int) (w : World) :
    Calls Try.prog 70 #[.int .i64 c] w fun e w' => e = .returned (.bool (capsOk c)) ∧ w = w' := by
  cases h1 : inR c 0 30
  · have H := hide (inR_false h1)
    go_enter Try.func70, Try.ntmps70
    go_wp2_with (go_at_call 71; refine (inRange_any _ _ _ _).mono ?_; rintro e w' ⟨rfl, rfl⟩)
    go_ret
    exact ⟨ret_bool (capsOk_no (by have := H.out; omega)).symm, rfl⟩
  · have ⟨h3, h4⟩ := inR_true h1
    by_cases h2 : c % 2 = 0
    all_goals
      have H := hide h2
      clear h2
      go_enter Try.func70, Try.ntmps70
      go_wp2_with (go_at_call 71; refine (inRange_any _ _ _ _).mono ?_; rintro e w' ⟨rfl, rfl⟩)
      go_ret
      exact ⟨ret_bool (by have := H.out; first | (rw [capsOk_mk ⟨h3, h4, this⟩]; simp [this]) | (rw [capsOk_no (by omega)]; simp [this])), rfl⟩
theorem sCaps_any (c : Int) (w : World) :
    Calls Try.prog 68 #[.int .i64 c] w fun e w' => e = .returned (.bool (capsOk c)) ∧ w = w' := by
  cases h1 : inR c 0 30
  · have H := hide (inR_false h1)
    go_enter Try.func68, Try.ntmps68
    go_wp2_with (go_at_call 69; refine (l1In_any _ _ _ _).mono ?_; rintro e w' ⟨rfl, rfl⟩)
    go_ret
    exact ⟨ret_bool (capsOk_no (by have := H.out; omega)).symm, rfl⟩
  · have ⟨h3, h4⟩ := inR_true h1
    by_cases h2 : c % 2 = 0
    all_goals
      have H := hide h2
      clear h2
      go_enter Try.func68, Try.ntmps68
      go_wp2_with (go_at_call 69; refine (l1In_any _ _ _ _).mono ?_; rintro e w' ⟨rfl, rfl⟩)
      go_ret
      exact ⟨ret_bool (by have := H.out; first | (rw [capsOk_mk ⟨h3, h4, this⟩]; simp [this]) | (rw [capsOk_no (by omega)]; simp [this])), rfl⟩
end Go.Proofs.Ytbfmdnlfbadokaa
