/- Token buckets: the plain law, and the draw. -/
import Derived.Test.YtdjimaoelaekaaaTake
import Derived.Test.YtdjimaoelaekaaaDraw
namespace Go.Proofs.Ytdjimaoelaekaaa
open Go.RowKit Go.Sep

theorem w64_in {x : Int} (h : -9223372036854775808 ≤ x) (h' : x ≤ 9223372036854775807) : wrap64 x = x := by unfold wrap64; omega
/-- One taking: the bucket stays valid, its time does not go back, and no token comes from nowhere. -/
theorem tk_step {r b t u n now : Int} (hv : vB r b t u = true) (hn : now ≤ 1000000000000) :
    vB r b (tkT (rfT r b t u now) n) (rfU r b t u now) = true ∧ u ≤ rfU r b t u now ∧ (rfU r b t u now = u ∨ rfU r b t u now = now) ∧
      (inR n 0 (rfT r b t u now) = true → 0 ≤ n ∧ tkT (rfT r b t u now) n + n ≤ t + r * (rfU r b t u now - u)) ∧
      (inR n 0 (rfT r b t u now) = false → tkT (rfT r b t u now) n ≤ t + r * (rfU r b t u now - u)) := by
  have ⟨⟨g1, g2⟩, ⟨g3, g4⟩, ⟨g5, g6⟩, g7, g8⟩ := vB_true hv
  have key : vB r b (rfT r b t u now) (rfU r b t u now) = true ∧ u ≤ rfU r b t u now ∧ (rfU r b t u now = u ∨ rfU r b t u now = now) ∧ rfT r b t u now ≤ t + r * (rfU r b t u now - u) := by
    unfold rfT rfU
    cases ho : rfOk r b t u now
    · simp only [Bool.false_eq_true, if_false]
      exact ⟨hv, Int.le_refl _, .inl trivial, by rw [Int.sub_self, Int.mul_zero]; omega⟩
    · simp only [if_true]
      have h2 := ho
      simp only [rfOk, Bool.and_eq_true, decide_eq_true_eq] at h2
      have ⟨m1, m2, _⟩ := mul_bd (d := now - u) g1 g2 (by omega) (by omega)
      refine ⟨vB_mk ⟨⟨g1, g2⟩, ⟨g3, g4⟩, ⟨by omega, Int.min_le_left _ _⟩, by omega, hn⟩, by omega, .inr trivial, Int.min_le_right _ _⟩
  generalize rfT r b t u now = T at key ⊢
  generalize rfU r b t u now = U at key ⊢
  obtain ⟨k1, k2, k3, k4⟩ := key
  have ⟨_, _, ⟨e5, e6⟩, e7⟩ := vB_true k1
  unfold tkT
  cases hi : inR n 0 T
  · simp only [Bool.false_eq_true, if_false]
    exact ⟨k1, k2, k3, fun h => h.elim, fun _ => k4⟩
  · simp only [if_true]
    have hr := inR_true hi
    have e : wrap64 (T - n) = T - n := w64_in (by omega) (by omega)
    rw [e]
    exact ⟨vB_mk ⟨⟨g1, g2⟩, ⟨g3, g4⟩, ⟨by omega, by omega⟩, e7⟩, k2, k3, fun _ => ⟨hr.1, by omega⟩, fun h => by simp at h⟩
/-- What holds between two takings. -/
def bkInv (r b t0 u0 : Int) (i : Nat) (t u now tot : Int) : Prop :=
  vB r b t u = true ∧ u0 ≤ u ∧ u ≤ now ∧ now ≤ u0 + 2 * i ∧ 0 ≤ tot ∧ tot ≤ 8 * i ∧ t + tot ≤ t0 + r * (u - u0)
theorem bk_start {r b t u : Int} (hv : vB r b t u = true) : bkInv r b t u 0 t u u 0 := ⟨hv, by omega, by omega, by omega, by omega, by omega, by rw [Int.sub_self, Int.mul_zero]; omega⟩
theorem bk_next {r b t0 u0 t u now tot n d : Int} {i : Nat} (h : bkInv r b t0 u0 i t u now tot) (hi : i < 6) (hu : u0 ≤ 1000) (hd0 : 0 ≤ d) (hd : d ≤ 2) (hn : n ≤ 8) :
    (inR n 0 (rfT r b t u (now + d)) = true → bkInv r b t0 u0 (i + 1) (tkT (rfT r b t u (now + d)) n) (rfU r b t u (now + d)) (now + d) (tot + n)) ∧
    (inR n 0 (rfT r b t u (now + d)) = false → bkInv r b t0 u0 (i + 1) (tkT (rfT r b t u (now + d)) n) (rfU r b t u (now + d)) (now + d) tot) ∧
    vB r b (tkT (rfT r b t u (now + d)) n) (rfU r b t u (now + d)) = true ∧ u ≤ rfU r b t u (now + d) := by
  obtain ⟨h1, h2, h3, h4, h5, h6, h7⟩ := h
  obtain ⟨k1, k2, k3, k4, k5⟩ := tk_step (n := n) (now := now + d) h1 (by omega)
  generalize rfT r b t u (now + d) = T at k1 k2 k3 k4 k5 ⊢
  generalize rfU r b t u (now + d) = U at k1 k2 k3 k4 k5 ⊢
  have e : r * (u - u0) + r * (U - u) = r * (U - u0) := by rw [← Int.mul_add]; congr 1; omega
  refine ⟨fun hh => ?_, fun hh => ?_, k1, k2⟩
  · have := k4 hh
    exact ⟨k1, by omega, by omega, by omega, by omega, by omega, by omega⟩
  · have := k5 hh
    exact ⟨k1, by omega, by omega, by omega, by omega, by omega, by omega⟩
/-- The bound at the end. -/
theorem bk_end {r b t0 u0 t u now tot : Int} (h0 : vB r b t0 u0 = true) (h : bkInv r b t0 u0 6 t u now tot) :
    tot ≤ maxIn r b (now - u0) ∧ t + tot ≤ t0 + r * (now - u0) ∧ 0 ≤ now - u0 ∧ now - u0 ≤ 12 ∧ 0 ≤ r * (now - u0) ∧ r * (now - u0) ≤ 12000 ∧ 0 ≤ t ∧ t ≤ 1000 ∧ tot ≤ 48 ∧ 0 ≤ tot := by
  have ⟨⟨g1, g2⟩, ⟨g3, g4⟩, ⟨g5, g6⟩, g7, g8⟩ := vB_true h0
  obtain ⟨h1, h2, h3, h4, h5, h6, h7⟩ := h
  have ⟨_, _, ⟨f5, f6⟩, _⟩ := vB_true h1
  have e : r * (u - u0) + r * (now - u) = r * (now - u0) := by rw [← Int.mul_add]; congr 1; omega
  have p1 : 0 ≤ r * (now - u) := Int.mul_nonneg (by omega) (by omega)
  have p2 : 0 ≤ r * (now - u0) := Int.mul_nonneg (by omega) (by omega)
  have p3 : r * (now - u0) ≤ 12000 := by
    have := Int.mul_le_mul g2 (show now - u0 ≤ 12 by omega) (by omega) (by omega : (0 : Int) ≤ 1000)
    omega
  refine ⟨?_, by omega, by omega, by omega, p2, p3, f5, by omega, by omega, by omega⟩
  unfold maxIn
  rw [inR_mk (by omega) (by omega), if_pos rfl, w64_in (x := r * (now - u0)) (by omega) (by omega), w64_in (by omega) (by omega)]
  omega
end Go.Proofs.Ytdjimaoelaekaaa
