/- Is a secured message valid? What both functions return. -/
import Derived.Test.YtidfpmkhgogilaaInt
import Derived.Test.YtidfpmkhgogilaaSep
import Derived.Deep.RegionHeld3
namespace Go.Proofs.Ytidfpmkhgogilaa
open Go.RowKit Go.Sep

/-! ### validity -/
def vS (d c : Int) (n : Nat) (m : Int) : Bool := inR d 0 1 && (inR c 1 100000 && (decide ((n : Int) ≤ 60) && inR m 0 2147483646))
theorem vS_cases (d c : Int) (n : Nat) (m : Int) : (inR d 0 1 = false ∧ vS d c n m = false) ∨ (inR d 0 1 = true ∧ inR c 1 100000 = false ∧ vS d c n m = false) ∨
    (inR d 0 1 = true ∧ inR c 1 100000 = true ∧ decide ((n : Int) ≤ 60) = false ∧ vS d c n m = false) ∨ (inR d 0 1 = true ∧ inR c 1 100000 = true ∧ decide ((n : Int) ≤ 60) = true ∧ vS d c n m = inR m 0 2147483646) := by
  unfold vS
  cases inR d 0 1 <;> cases inR c 1 100000 <;> cases decide ((n : Int) ≤ 60) <;> simp
theorem vS_true {d c : Int} {n : Nat} {m : Int} (h : vS d c n m = true) : (0 ≤ d ∧ d ≤ 1) ∧ (1 ≤ c ∧ c ≤ 100000) ∧ n ≤ 60 ∧ (0 ≤ m ∧ m ≤ 2147483646) := by
  simp only [vS, Bool.and_eq_true, decide_eq_true_eq] at h
  exact ⟨inR_true h.1, inR_true h.2.1, by omega, inR_true h.2.2.2⟩
theorem vS_mk {d c : Int} {n : Nat} {m : Int} (h : (0 ≤ d ∧ d ≤ 1) ∧ (1 ≤ c ∧ c ≤ 100000) ∧ n ≤ 60 ∧ (0 ≤ m ∧ m ≤ 2147483646)) : vS d c n m = true := by
  obtain ⟨⟨h1, h2⟩, ⟨h3, h4⟩, h5, h6, h7⟩ := h
  have h9 : decide ((n : Int) ≤ 60) = true := by simp; omega
  simp only [vS, inR_mk h1 h2, inR_mk h3 h4, inR_mk h6 h7, h9, Bool.and_self]
theorem sVS_any (d c0 : Int) (A : Option Addr) (n c : Nat) (m : Int) (w : World) :
    Calls Try.prog 16 #[.agg #[.int .i64 d, .int .i64 c0, .slice A n c, .int .i64 m]] w fun e w' => e = .returned (.bool (vS d c0 n m)) ∧ Below w.heap.size w w' := by
  rcases vS_cases d c0 n m with ⟨h1, h⟩ | ⟨h1, h2, h⟩ | ⟨h1, h2, h3, h⟩ | ⟨h1, h2, h3, h⟩
  all_goals
    rw [h]
    clear h
    go_enter Try.func16, Try.ntmps16
    go_wp2_with (go_at_call 57; refine (l1In_any _ _ _ _).mono ?_; rintro e w' ⟨rfl, rfl⟩)
    go_ret
    exact ⟨rfl, (by (repeat' (first | (with_reducible exact Below.refl _ _) | (with_reducible assumption) | (with_reducible refine Below.alloc ?_ ?_ _) | (with_reducible refine below_ext ?_ ?_ _ _) | (with_reducible refine Below.setCell ?_ ?_ _) | (with_reducible refine Below.drew ?_) | (with_reducible refine below_drewN ?_ _))); all_goals (first | omega | (simp; done) | (simp; omega)))⟩
theorem iVS_any (d c0 : Int) (A : Option Addr) (n c : Nat) (m : Int) (w : World) :
    Calls Try.prog 18 #[.agg #[.int .i64 d, .int .i64 c0, .slice A n c, .int .i64 m]] w fun e w' => e = .returned (.bool (vS d c0 n m)) ∧ Below w.heap.size w w' := by
  rcases vS_cases d c0 n m with ⟨h1, h⟩ | ⟨h1, h2, h⟩ | ⟨h1, h2, h3, h⟩ | ⟨h1, h2, h3, h⟩
  · rw [h]
    clear h
    have h4 : (d == 0) = false := by have := inR_false h1; simp; omega
    have h5 : (d == 1) = false := by have := inR_false h1; simp; omega
    go_enter Try.func18, Try.ntmps18
    go_wp2_with (go_at_call 58; refine (inRange_any _ _ _ _).mono ?_; rintro e w' ⟨rfl, rfl⟩)
    go_ret
    exact ⟨rfl, (by (repeat' (first | (with_reducible exact Below.refl _ _) | (with_reducible assumption) | (with_reducible refine Below.alloc ?_ ?_ _) | (with_reducible refine below_ext ?_ ?_ _ _) | (with_reducible refine Below.setCell ?_ ?_ _) | (with_reducible refine Below.drew ?_) | (with_reducible refine below_drewN ?_ _))); all_goals (first | omega | (simp; done) | (simp; omega)))⟩
  all_goals
    rw [h]
    clear h
    have h4 := inR_true h1
    have h5 : d = 0 ∨ d = 1 := by omega
    clear h4 h1
    rcases h5 with rfl | rfl
    all_goals
      go_enter Try.func18, Try.ntmps18
      go_wp2_with (go_at_call 58; refine (inRange_any _ _ _ _).mono ?_; rintro e w' ⟨rfl, rfl⟩)
      go_ret
      exact ⟨rfl, (by (repeat' (first | (with_reducible exact Below.refl _ _) | (with_reducible assumption) | (with_reducible refine Below.alloc ?_ ?_ _) | (with_reducible refine below_ext ?_ ?_ _ _) | (with_reducible refine Below.setCell ?_ ?_ _) | (with_reducible refine Below.drew ?_) | (with_reducible refine below_drewN ?_ _))); all_goals (first | omega | (simp; done) | (simp; omega)))⟩
end Go.Proofs.Ytidfpmkhgogilaa
