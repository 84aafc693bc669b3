/- Cell maps out of a symmetric relation: they are valid, and what follows. No function of the program is walked here. -/
import Derived.Test.YtcndocopecnohaaIvM
import Derived.Test.YtcndocopecnohaaHopM
import Derived.Test.YtcndocopecnohaaCmP
import Derived.Test.YtcndocopecnohaaCia
namespace Go.Proofs.Ytcndocopecnohaa
open Go.RowKit Go.Sep Go.Hop

/-- The neighbors of cell i, ascending. -/
def nbL (n : Nat) (rel : Nat → Nat → Bool) (i : Nat) : List Int := ((List.range n).filter (rel i)).map fun j : Nat => (j : Int)
structure SymM (m : CM) (n : Nat) (rel : Nat → Nat → Bool) : Prop where
  len : m.length = n
  lo : 1 ≤ n
  hi : n ≤ 6
  cell : ∀ i, i < n → ∃ x, m[i]? = some (x, nbL n rel i) ∧ 0 ≤ x ∧ x ≤ 2
  symm : ∀ i j, rel i j = rel j i
  irr : ∀ i, rel i i = false
theorem nbL_mem {n i j : Nat} {rel : Nat → Nat → Bool} : (j : Int) ∈ nbL n rel i ↔ j < n ∧ rel i j = true := by
  unfold nbL
  rw [List.mem_map]
  constructor
  · rintro ⟨k, hk, e⟩
    obtain rfl : k = j := by omega
    simpa using hk
  · intro h
    exact ⟨j, by simpa using h, rfl⟩
theorem nbL_at {n i k : Nat} {rel : Nat → Nat → Bool} {v : Int} (h : (nbL n rel i)[k]? = some v) : ∃ j : Nat, v = j ∧ j < n ∧ rel i j = true := by
  obtain ⟨j, hj, rfl⟩ := List.mem_map.1 (List.mem_of_getElem? h)
  exact ⟨j, rfl, by simpa using hj⟩
theorem nbL_asc (n i : Nat) (rel : Nat → Nat → Bool) : (nbL n rel i).Pairwise (· < ·) := by
  unfold nbL
  rw [List.pairwise_map]
  simp only [Int.ofNat_lt]
  exact List.Pairwise.filter _ List.pairwise_lt_range
section
variable {m : CM} {n : Nat} {rel : Nat → Nat → Bool}
theorem SymM.nbr (h : SymM m n rel) {i j : Nat} (hi : i < n) : nbr m i (j : Int) = true ↔ j < n ∧ rel i j = true := by
  obtain ⟨x, hx, _⟩ := h.cell i hi
  rw [nbr_yes hx, hasI_iff, nbL_mem]
theorem SymM.out (h : SymM m n rel) {i : Nat} (j : Int) (hi : ¬ i < n) : Go.Proofs.Ytcndocopecnohaa.nbr m i j = false := nbr_no h.len (by omega)
theorem SymM.adj (h : SymM m n rel) {i j : Nat} : adjM m i j ↔ i < n ∧ j < n ∧ rel i j = true := by
  unfold adjM
  rw [h.len]
  by_cases hi : i < n
  · rw [h.nbr hi]
    exact ⟨fun ⟨⟨a, b⟩, _⟩ => ⟨hi, a, b⟩, fun ⟨_, a, b⟩ => ⟨⟨a, b⟩, a⟩⟩
  · rw [h.out (j : Int) hi]
    exact ⟨fun ha => (by cases ha.1), fun ha => absurd ha.1 hi⟩
theorem SymM.adj_symm (h : SymM m n rel) : ∀ i j, adjM m i j → adjM m j i := fun i j ha => by
  rw [h.adj] at ha ⊢
  exact ⟨ha.2.1, ha.1, by rw [h.symm]; exact ha.2.2⟩
theorem SymM.adj_irr (h : SymM m n rel) : ∀ i, ¬ adjM m i i := fun i ha => by
  rw [h.adj, h.irr] at ha
  cases ha.2.2
theorem SymM.valid (h : SymM m n rel) : vMap m n = true := by
  unfold vMap
  rw [Bool.and_eq_true]
  refine ⟨allOk_yes fun k hk => ?_, ?_⟩
  · obtain ⟨x, hx, h0, h2⟩ := h.cell k hk
    rw [cellOk_i hx]
    simp only [Bool.and_eq_true]
    refine ⟨?_, allOk_yes fun j hj => ?_, allOk_yes fun j hj => ?_⟩
    · unfold inR; simp; omega
    · rcases j with _ | j
      · rfl
      · rw [ascAt_s (List.getElem?_eq_getElem (by omega)) (List.getElem?_eq_getElem hj)]
        have := List.pairwise_iff_getElem.1 (nbL_asc n k rel) j (j + 1) (by omega) hj (by omega)
        simp
        omega
    · have hv := List.getElem?_eq_getElem hj
      rw [nbI_v hv]
      obtain ⟨t, ht, htn, hr⟩ := nbL_at hv
      rw [ht]
      simp only [Bool.and_eq_true]
      refine ⟨by unfold inR; simp; omega, ?_, ?_⟩
      · have : t ≠ k := by rintro rfl; rw [h.irr] at hr; cases hr
        simp
        omega
      · exact (h.nbr htn).2 ⟨hk, by rw [h.symm]; exact hr⟩
  · have := h.lo; have := h.hi
    unfold inR; simp; omega
end
/-- How many cells the first areas hold. -/
theorem ciL_total (m : CM) (k : Nat) (h : ∀ q ∈ m, 0 ≤ q.1 ∧ q.1 ≤ 2) : (ciL 0 k m).length + (ciL 1 k m).length + (ciL 2 k m).length = m.length := by
  induction m generalizing k with
  | nil => rfl
  | cons a r ih =>
    obtain ⟨x, s⟩ := a
    have h1 := h (x, s) (by simp)
    have h2 := ih (k + 1) (fun q hq => h q (List.mem_cons_of_mem _ hq))
    simp only at h1
    rcases (show x = 0 ∨ x = 1 ∨ x = 2 by omega) with rfl | rfl | rfl <;> simp [ciL] <;> omega
end Go.Proofs.Ytcndocopecnohaa
