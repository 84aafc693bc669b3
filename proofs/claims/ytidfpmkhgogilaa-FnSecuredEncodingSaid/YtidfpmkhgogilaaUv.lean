/- Varints as lists of bytes: what is written, what is read; each is the other's inverse. No program in sight. -/
import Derived.Laws.BitsLemmas
namespace Go.Sep

/-- The bytes of n, at most f + 1 of them. -/
def uvF : Nat → Int → List Int
  | 0, n => [n]
  | f + 1, n => if n < 128 then [n] else (n % 128 + 128) :: uvF f (n / 128)
def uv (n : Int) : List Int := uvF 5 n
theorem uvF_small {f : Nat} {n : Int} (h : n < 128) : uvF f n = [n] := by cases f <;> simp [uvF, h]
theorem uvF_big {f : Nat} {n : Int} (h : 128 ≤ n) : uvF (f + 1) n = (n % 128 + 128) :: uvF f (n / 128) := by rw [uvF, if_neg (by omega)]
theorem uvF_len (f : Nat) (n : Int) : 0 < (uvF f n).length ∧ (uvF f n).length ≤ f + 1 := by
  induction f generalizing n with
  | zero => simp [uvF]
  | succ f ih =>
    rw [uvF]
    split
    · simp
    · have := ih (n / 128)
      simp only [List.length_cons]
      omega
theorem pow_pos128 (k : Nat) : (0 : Int) < 128 ^ k := Int.pow_pos (by decide)
theorem uvF_byte (f : Nat) (n : Int) (h0 : 0 ≤ n) (h1 : n < 128 ^ (f + 1)) : ∀ x ∈ uvF f n, 0 ≤ x ∧ x ≤ 255 := by
  induction f generalizing n with
  | zero =>
    simp [uvF] at h1 ⊢
    omega
  | succ f ih =>
    rw [uvF]
    split
    · simp; omega
    · intro x hx
      rcases List.mem_cons.1 hx with rfl | hx
      · omega
      · refine ih (n / 128) (by omega) ?_ x hx
        rw [Int.pow_succ] at h1
        omega
/-- What a reader makes of the bytes from off + k on, f bytes at most, n read already. -/
def rdF (b : List Int) (off : Nat) : Nat → Nat → Int → Option (Int × Nat)
  | 0, _, _ => none
  | f + 1, k, n => match b[off + k]? with
    | none => none
    | some x => if 128 ≤ x then rdF b off f (k + 1) (n + x % 128 * 128 ^ k)
        else if (0 < k ∧ x % 128 = 0) ∨ 1000000000000 < n + x % 128 * 128 ^ k then none else some (n + x % 128 * 128 ^ k, off + k + 1)
section
variable {b : List Int} {off f k : Nat} {n x : Int}
theorem rdF_none (h : b[off + k]? = none) : rdF b off (f + 1) k n = none := by rw [rdF, h]
theorem rdF_more (h : b[off + k]? = some x) (hx : 128 ≤ x) : rdF b off (f + 1) k n = rdF b off f (k + 1) (n + x % 128 * 128 ^ k) := by rw [rdF, h]; simp only; rw [if_pos hx]
theorem rdF_bad0 (h : b[off + k]? = some x) (hx : ¬ 128 ≤ x) (h0 : 0 < k) (h1 : x % 128 = 0) : rdF b off (f + 1) k n = none := by rw [rdF, h]; simp only; rw [if_neg hx, if_pos (.inl ⟨h0, h1⟩)]
theorem rdF_bad1 (h : b[off + k]? = some x) (hx : ¬ 128 ≤ x) (h1 : 1000000000000 < n + x % 128 * 128 ^ k) : rdF b off (f + 1) k n = none := by rw [rdF, h]; simp only; rw [if_neg hx, if_pos (.inr h1)]
theorem rdF_ok (h : b[off + k]? = some x) (hx : ¬ 128 ≤ x) (h0 : ¬ (0 < k ∧ x % 128 = 0)) (h1 : ¬ 1000000000000 < n + x % 128 * 128 ^ k) : rdF b off (f + 1) k n = some (n + x % 128 * 128 ^ k, off + k + 1) := by
  rw [rdF, h]; simp only; rw [if_neg hx, if_neg (by intro hh; rcases hh with hh | hh; exact h0 hh; exact h1 hh)]
end
theorem step_eq (n m P : Int) : n + m % 128 * P + m / 128 * (P * 128) = n + m * P := by
  have h := Int.emod_add_mul_ediv m 128
  have : m * P = (m % 128 + 128 * (m / 128)) * P := by rw [h]
  rw [this, Int.add_mul, Int.add_assoc]
  congr 2
  rw [Int.mul_comm P 128, ← Int.mul_assoc, Int.mul_comm (m / 128) 128]
/-- What was written is read. -/
theorem rd_uvF (b : List Int) (off f k : Nat) (n m : Int) (hm : 0 ≤ m) (hf : m < 128 ^ (f + 1)) (h0 : k = 0 ∨ 0 < m) (hle : n + m * 128 ^ k ≤ 1000000000000) (hb : ∀ j, j < (uvF f m).length → b[off + k + j]? = (uvF f m)[j]?) :
    rdF b off (f + 1) k n = some (n + m * 128 ^ k, off + k + (uvF f m).length) := by
  induction f generalizing k n m with
  | zero =>
    have hs : m < 128 := by simpa using hf
    have h := hb 0 (uvF_len 0 m).1
    rw [uvF_small hs] at h ⊢
    have hmm : m % 128 = m := by omega
    have := rdF_ok (b := b) (off := off) (f := 0) (k := k) (n := n) (x := m) (by simpa using h) (by omega) (by omega) (by rw [hmm]; omega)
    rw [this, hmm]
    rfl
  | succ f ih =>
    by_cases hs : m < 128
    · have h := hb 0 (uvF_len (f + 1) m).1
      rw [uvF_small hs] at h ⊢
      have hmm : m % 128 = m := by omega
      have := rdF_ok (b := b) (off := off) (f := f + 1) (k := k) (n := n) (x := m) (by simpa using h) (by omega) (by omega) (by rw [hmm]; omega)
      rw [this, hmm]
      rfl
    · have hbig := uvF_big (f := f) (n := m) (by omega)
      have h := hb 0 (uvF_len (f + 1) m).1
      rw [hbig] at h hb ⊢
      have hx : (m % 128 + 128) % 128 = m % 128 := by omega
      rw [rdF_more (x := m % 128 + 128) (by simpa using h) (by omega), hx]
      have e := step_eq n m (128 ^ k)
      rw [← Int.pow_succ] at e
      rw [ih (k + 1) _ (m / 128) (by omega) (by rw [Int.pow_succ] at hf; omega) (.inr (by omega)) (by rw [e]; exact hle) (fun j hj => ?_), e, List.length_cons]
      · congr 2
        omega
      · have := hb (j + 1) (by simpa using hj)
        rw [List.getElem?_cons_succ] at this
        rw [← this]
        congr 1
        omega
/-- What is read is what was written. -/
theorem uvF_rd (b : List Int) (off f k : Nat) (n v : Int) (e : Nat) (h8 : ∀ x ∈ b, 0 ≤ x ∧ x ≤ 255) (h : rdF b off (f + 1) k n = some (v, e)) :
    ∃ m, 0 ≤ m ∧ m < 128 ^ (f + 1) ∧ v = n + m * 128 ^ k ∧ (k = 0 ∨ 0 < m) ∧ v ≤ 1000000000000 ∧ e = off + k + (uvF f m).length ∧ ∀ j, j < (uvF f m).length → b[off + k + j]? = (uvF f m)[j]? := by
  induction f generalizing k n with
  | zero =>
    rw [rdF] at h
    split at h
    · cases h
    · rename_i x hx
      split at h
      · rw [rdF] at h; cases h
      · split at h
        · cases h
        · rename_i h1 h2
          injection h with h
          injection h with e1 e2
          obtain ⟨hlt, hxe⟩ := List.getElem?_eq_some_iff.1 hx
          have := h8 x (by rw [← hxe]; exact List.getElem_mem _)
          have hmm : x % 128 = x := by omega
          rw [hmm] at e1 h2
          have hnn : ¬ (0 < k ∧ x = 0) := fun hh => h2 (.inl hh)
          have hnl : ¬ 1000000000000 < n + x * 128 ^ k := fun hh => h2 (.inr hh)
          refine ⟨x, by omega, by simp; omega, e1.symm, by omega, by omega, ?_, fun j hj => ?_⟩
          · rw [uvF_small (by omega)]; simp; omega
          · rw [uvF_small (by omega)] at hj ⊢
            simp at hj
            subst hj
            simpa using hx
  | succ f ih =>
    rw [rdF] at h
    split at h
    · cases h
    · rename_i x hx
      obtain ⟨hlt, hxe⟩ := List.getElem?_eq_some_iff.1 hx
      have hx8 := h8 x (by rw [← hxe]; exact List.getElem_mem _)
      split at h
      · rename_i hbig
        obtain ⟨m, g1, g2, g3, g4, g5, g6, g7⟩ := ih (k + 1) _ h
        have hm0 : 0 < m := by omega
        have hq : (x % 128 + 128 * m) / 128 = m := by omega
        have hr : (x % 128 + 128 * m) % 128 = x % 128 := by omega
        have e := step_eq n (x % 128 + 128 * m) (128 ^ k)
        rw [hq, hr, ← Int.pow_succ] at e
        have hu : uvF (f + 1) (x % 128 + 128 * m) = x :: uvF f m := by
          rw [uvF_big (by omega), hq, hr]
          congr 1
          omega
        refine ⟨x % 128 + 128 * m, by omega, by rw [Int.pow_succ]; omega, by rw [g3, e], .inr (by omega), g5, by rw [hu, g6, List.length_cons]; omega, fun j hj => ?_⟩
        rw [hu] at hj ⊢
        rcases j with _ | j
        · simpa using hx
        · rw [List.getElem?_cons_succ, ← g7 j (by simpa using hj)]
          congr 1
          omega
      · split at h
        · cases h
        · rename_i h1 h2
          injection h with h
          injection h with e1 e2
          have hmm : x % 128 = x := by omega
          rw [hmm] at e1 h2
          have hnn : ¬ (0 < k ∧ x = 0) := fun hh => h2 (.inl hh)
          have hnl : ¬ 1000000000000 < n + x * 128 ^ k := fun hh => h2 (.inr hh)
          have hp := pow_pos128 (f + 1)
          refine ⟨x, by omega, by rw [Int.pow_succ]; omega, e1.symm, by omega, by omega, ?_, fun j hj => ?_⟩
          · rw [uvF_small (by omega)]; simp; omega
          · rw [uvF_small (by omega)] at hj ⊢
            simp at hj
            subst hj
            simpa using hx
/-- The whole: 0, 0 and false where nothing is to be read. -/
def rdT (b : List Int) (off : Int) : Int × Int × Bool :=
  if off < 0 then (0, 0, false) else match rdF b off.toNat 6 0 0 with
    | none => (0, 0, false)
    | some (v, e) => (v, e, true)
end Go.Sep
