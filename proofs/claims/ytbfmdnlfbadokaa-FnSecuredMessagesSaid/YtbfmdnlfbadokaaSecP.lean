/- The keyed hash tells another accumulator and another value apart; so a message's MAC is not that of the next counter. -/
import Derived.Test.YtbfmdnlfbadokaaMac
namespace Go.Proofs.Ytbfmdnlfbadokaa
open Go.RowKit Go.Sep

theorem hs_eq (a v : Int) : ∃ q : Int, hs a v = a * 1000003 + v % 2147483647 + 13 - 2147483647 * q := ⟨(a * 1000003 + v % 2147483647 + 13) / 2147483647, by unfold hs; omega⟩
/-- 1000003 has an inverse: a multiple of it is no multiple of the modulus, save 0. -/
theorem mul_inj {e k : Int} (h : 1000003 * e = 2147483647 * k) (h1 : -2147483647 < e) (h2 : e < 2147483647) : e = 0 := by
  have h3 : e = 2147483647 * (1523789695 * k - 709572 * e) := by omega
  generalize 1523789695 * k - 709572 * e = m at h3
  omega
theorem hs_inj {a b v : Int} (ha : 0 ≤ a ∧ a < 2147483647) (hb : 0 ≤ b ∧ b < 2147483647) (h : hs a v = hs b v) : a = b := by
  have b1 : -2147483647 < a - b := by clear h; omega
  have b2 : a - b < 2147483647 := by clear h; omega
  obtain ⟨q1, e1⟩ := hs_eq a v
  obtain ⟨q2, e2⟩ := hs_eq b v
  rw [e1, e2] at h
  clear e1 e2
  generalize v % 2147483647 = r at h
  have h1 : 1000003 * (a - b) = 2147483647 * (q1 - q2) := by omega
  clear h
  have h2 := mul_inj h1 b1 b2
  clear h1
  omega
theorem hs_val {a v u : Int} (hv : 0 ≤ v ∧ v < 2147483647) (hu : 0 ≤ u ∧ u < 2147483647) (h : hs a v = hs a u) : v = u := by
  obtain ⟨q1, e1⟩ := hs_eq a v
  obtain ⟨q2, e2⟩ := hs_eq a u
  rw [e1, e2] at h
  clear e1 e2
  rw [Int.emod_eq_of_lt hv.1 hv.2, Int.emod_eq_of_lt hu.1 hu.2] at h
  omega
theorem fold_inj (l : List Int) {a b : Int} (ha : 0 ≤ a ∧ a < 2147483647) (hb : 0 ≤ b ∧ b < 2147483647) (h : l.foldl hs a = l.foldl hs b) : a = b := by
  induction l generalizing a b with
  | nil => exact h
  | cons x r ih => exact hs_inj ha hb (ih (hs_bd _ _) (hs_bd _ _) h)
theorem smac_ne (key d c : Int) (l : List Int) (h : 0 ≤ c) (h' : c ≤ 200000) : smac key d (c + 1) l ≠ smac key d c l := by
  intro hh
  unfold smac kh at hh
  have h1 := hs_inj (fold_bd _ _ (hs_bd _ _)) (fold_bd _ _ (hs_bd _ _)) hh
  simp only [List.foldl_cons] at h1
  have h2 := fold_inj _ (hs_bd _ _) (hs_bd _ _) h1
  have := hs_val ⟨by omega, by omega⟩ ⟨by omega, by omega⟩ h2
  omega
theorem smac_bd (key d c : Int) (l : List Int) : 0 ≤ smac key d c l ∧ smac key d c l < 2147483647 := kh_bd _ _
end Go.Proofs.Ytbfmdnlfbadokaa
