/- The plain law of packets: what is encoded is decoded, and the other way round. -/
import Derived.Test.YtidfpmkhgogilaaDecP
import Derived.Test.YtidfpmkhgogilaaEncL
namespace Go.Proofs.Ytidfpmkhgogilaa
open Go.RowKit Go.Sep

theorem lt128_6' {x : Int} (h : x ≤ 1000000000000) : x < 128 ^ (5 + 1) := by
  have e : (128 : Int) ^ (5 + 1) = 4398046511104 := by decide
  omega
/-- A number's bytes, read where they stand. -/
theorem rd_at (a s : List Int) (v : Int) (h : 0 ≤ v ∧ v ≤ 1000000000000) : rdF (a ++ (uv v ++ s)) a.length 6 0 0 = some (v, a.length + (uv v).length) := by
  have := rd_uvF (a ++ (uv v ++ s)) a.length 5 0 0 v h.1 (lt128_6' h.2) (.inl rfl) (by simp; omega) (fun j hj => by
    rw [Nat.add_zero, List.getElem?_append_right (by omega), Nat.add_sub_cancel_left]
    exact List.getElem?_append_left hj)
  simpa [uv] using this
theorem encP_eq {p : Int} {l : List Int} (h : vP p l.length = true) : encP p l = uv p ++ (uv (l.length : Int) ++ l) := by
  have h' := h
  simp only [vP, Bool.and_eq_true, decide_eq_true_eq] at h'
  have hp := inR_true h'.1
  rw [encP, if_pos h, apB, apU_yes (inR_mk (by omega) (by omega)), apU_yes (inR_mk (by omega) (by omega)), List.nil_append, List.append_assoc]
theorem dp_enc {p : Int} {l : List Int} (h : vP p l.length = true) : dpO (encP p l) = some (p, l) := by
  have h' := h
  simp only [vP, Bool.and_eq_true, decide_eq_true_eq] at h'
  have hp := inR_true h'.1
  rw [encP_eq h]
  have h1 := rd_at [] (uv (l.length : Int) ++ l) p (by omega)
  simp only [List.nil_append, List.length_nil, Nat.zero_add] at h1
  have h2 := rd_at (uv p) l (l.length : Int) (by omega)
  have h3 := rbO_3 h2 (mx := 60) (by omega) (by simp; omega)
  rw [dpO, h1]
  simp only [h3, Int.toNat_natCast]
  rw [if_pos ⟨by simp; omega, h⟩]
  congr 2
  rw [show (uv p).length + (uv (l.length : Int)).length = (uv p ++ uv (l.length : Int)).length by simp, ← List.append_assoc, List.drop_left, List.take_length]
/-- Bytes that are read as a number are that number's bytes. -/
theorem uv_at {b : List Int} {off e : Nat} {v : Int} (h8 : ∀ x ∈ b, 0 ≤ x ∧ x ≤ 255) (h : rdF b off 6 0 0 = some (v, e)) : e = off + (uv v).length ∧ b.drop off = uv v ++ b.drop e := by
  obtain ⟨m, hm0, hm1, hvm, _, _, he, hj⟩ := uvF_rd b off 5 0 0 v e h8 h
  obtain rfl : v = m := by rw [hvm]; simp
  simp only [Nat.add_zero] at he hj
  refine ⟨he, ?_⟩
  have ht : uv v = (b.drop off).take (uv v).length := by
    apply List.ext_getElem?
    intro j
    by_cases hlt : j < (uvF 5 v).length
    · rw [List.getElem?_take, if_pos (by simpa [uv] using hlt), List.getElem?_drop, hj j hlt]; rfl
    · rw [List.getElem?_take, if_neg (by simpa [uv] using hlt), List.getElem?_eq_none (by simp only [uv]; omega)]
  have h2 : b.drop e = (b.drop off).drop (uv v).length := by rw [List.drop_drop, he]; rfl
  rw [h2]
  conv => rhs; lhs; rw [ht]
  rw [List.take_append_drop]
theorem enc_dp {b : List Int} {p : Int} {s : List Int} (h8 : ∀ x ∈ b, 0 ≤ x ∧ x ≤ 255) (h : dpO b = some (p, s)) : encP p s = b := by
  obtain ⟨e, v, e2, h1, h2, h3, h4, h5⟩ := dpO_yes h
  obtain ⟨h6, _, h7, _⟩ := rbO_inv h8 h2
  obtain ⟨he, hb⟩ := uv_at h8 h1
  obtain ⟨he2, hb2⟩ := uv_at h8 h6
  have hs : s = b.drop e2 := by rw [← h5, List.take_of_length_le (by simp; omega)]
  have hv : s.length = v := by rw [hs, List.length_drop]; omega
  rw [encP_eq (by rw [hv]; exact h4), hv, hs, ← hb2, ← hb, List.drop_zero]
end Go.Proofs.Ytidfpmkhgogilaa
