/- FnEncapsulation: the draws and the plain law. -/
import Derived.Test.YtncnaahgpeaofaaCap
import Derived.Test.YtncnaahgpeaofaaBent
namespace Go.Proofs.Ytncnaahgpeaofaa
open Go.RowKit Go.Sep

theorem lt128_6 {x : Int} (h : x ≤ 20) : x < 128 ^ (5 + 1) := by
  have e : (128 : Int) ^ (5 + 1) = 4398046511104 := by decide
  omega
theorem rd_uv (id : Int) (l : List Int) (h : 1 ≤ id ∧ id ≤ 20) : rdF (uv id ++ l) 0 6 0 0 = some (id, (uv id).length) := by
  have := rd_uvF (uv id ++ l) 0 5 0 0 id (by omega) (lt128_6 (by omega)) (.inl rfl) (by simp; omega) (fun j hj => by
    simp only [Nat.zero_add]
    exact List.getElem?_append_left hj)
  simpa [uv] using this
theorem dc_cap {id : Int} {l : List Int} (h : inR id 1 20 = true) : dcL (capL id l) = (id, l, true) := by
  have hi := inR_true h
  rw [capL, if_pos h, dcL_2 (rd_uv id l hi) h]
  simp
theorem cap_dc {b : List Int} (h8 : ∀ x ∈ b, 0 ≤ x ∧ x ≤ 255) (h : (dcL b).2.2 = true) : capL (dcL b).1 (dcL b).2.1 = b := by
  cases hrd : rdF b 0 6 0 0 with
  | none => rw [dcL_0 hrd] at h; cases h
  | some ve =>
    obtain ⟨v, e⟩ := ve
    cases hv : inR v 1 20
    · rw [dcL_1 hrd hv] at h; cases h
    · rw [dcL_2 hrd hv]
      simp only
      rw [capL, if_pos hv]
      obtain ⟨m, hm0, hm1, hvm, _, _, he, hj⟩ := uvF_rd b 0 5 0 0 v e h8 hrd
      obtain rfl : v = m := by rw [hvm]; simp
      simp only [Nat.zero_add] at he hj
      have ht : uv v = b.take e := by
        apply List.ext_getElem?
        intro j
        by_cases hlt : j < (uvF 5 v).length
        · rw [List.getElem?_take, if_pos (by omega), hj j hlt]; rfl
        · rw [List.getElem?_take, if_neg (by omega), List.getElem?_eq_none (by simp only [uv]; omega)]
      rw [ht, List.take_append_drop]
theorem cap_byte {id : Int} {l : List Int} (h8 : ∀ x ∈ l, 0 ≤ x ∧ x ≤ 255) : ∀ x ∈ capL id l, 0 ≤ x ∧ x ≤ 255 := fun x hx => by
  unfold capL at hx
  split at hx
  · rename_i h
    have hi := inR_true h
    rcases List.mem_append.1 hx with h1 | h1
    · exact uvF_byte 5 id (by omega) (lt128_6 (by omega)) x h1
    · exact h8 x h1
  · cases hx
theorem cap_len (id : Int) (l : List Int) : (capL id l).length ≤ l.length + 6 := by
  unfold capL
  split
  · have := (uvF_len 5 id).2; simp only [List.length_append, uv]; omega
  · simp
theorem dc_byte {b : List Int} (h8 : ∀ x ∈ b, 0 ≤ x ∧ x ≤ 255) : ∀ x ∈ (dcL b).2.1, 0 ≤ x ∧ x ≤ 255 := fun x hx => by
  cases hrd : rdF b 0 6 0 0 with
  | none => rw [dcL_0 hrd] at hx; cases hx
  | some ve =>
    obtain ⟨v, e⟩ := ve
    cases hv : inR v 1 20
    · rw [dcL_1 hrd hv] at hx; cases hx
    · rw [dcL_2 hrd hv] at hx; exact h8 x (List.mem_of_mem_drop hx)
theorem dc_len (b : List Int) : (dcL b).2.1.length ≤ b.length := by
  cases hrd : rdF b 0 6 0 0 with
  | none => rw [dcL_0 hrd]; simp
  | some ve =>
    obtain ⟨v, e⟩ := ve
    cases hv : inR v 1 20
    · rw [dcL_1 hrd hv]; simp
    · rw [dcL_2 hrd hv]; simp
end Go.Proofs.Ytncnaahgpeaofaa
