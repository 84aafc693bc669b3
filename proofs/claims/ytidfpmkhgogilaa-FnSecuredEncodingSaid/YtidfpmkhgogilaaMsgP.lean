/- The plain law of secured messages: what is encoded is decoded, and the other way round. -/
import Derived.Test.YtidfpmkhgogilaaDecS
import Derived.Test.YtidfpmkhgogilaaEnc
import Derived.Test.YtidfpmkhgogilaaEncL
namespace Go.Proofs.Ytidfpmkhgogilaa
open Go.RowKit Go.Sep

theorem lt128_6' {x : Int} (h : x ≤ 1000000000000) : x < 128 ^ (5 + 1) := by
  have e : (128 : Int) ^ (5 + 1) = 4398046511104 := by decide
  omega
/-- A number's bytes, read where they stand. -/
theorem rd_at (a s : List Int) (v : Int) (h : 0 ≤ v ∧ v ≤ 1000000000000) : rdF (a ++ (uv v ++ s)) a.length 6 0 0 = some (v, a.length + (uv v).length) := by
  have := rd_uvF (a ++ (uv v ++ s)) a.length 5 0 0 v h.1 (lt128_6' h.2) (.inl rfl) (by simp; omega) (fun j hj => by
    rw [Nat.add_zero, List.getElem?_append_right (by omega), Nat.add_sub_cancel_left]
    exact List.getElem?_append_left hj)
  simpa [uv] using this
/-- Bytes that are read as a number are that number's bytes. -/
theorem uv_at {b : List Int} {off e : Nat} {v : Int} (h8 : ∀ x ∈ b, 0 ≤ x ∧ x ≤ 255) (h : rdF b off 6 0 0 = some (v, e)) : e = off + (uv v).length ∧ b.drop off = uv v ++ b.drop e := by
  obtain ⟨m, hm0, hm1, hvm, _, _, he, hj⟩ := uvF_rd b off 5 0 0 v e h8 h
  obtain rfl : v = m := by rw [hvm]; simp
  simp only [Nat.add_zero] at he hj
  refine ⟨he, ?_⟩
  have ht : uv v = (b.drop off).take (uv v).length := by
    apply List.ext_getElem?
    intro j
    by_cases hlt : j < (uvF 5 v).length
    · rw [List.getElem?_take, if_pos (by simpa [uv] using hlt), List.getElem?_drop, hj j hlt]; rfl
    · rw [List.getElem?_take, if_neg (by simpa [uv] using hlt), List.getElem?_eq_none (by simp only [uv]; omega)]
  have h2 : b.drop e = (b.drop off).drop (uv v).length := by rw [List.drop_drop, he]; rfl
  rw [h2]
  conv => rhs; lhs; rw [ht]
  rw [List.take_append_drop]
theorem encS_eq {d c m : Int} {l : List Int} (h : vS d c l.length m = true) : encS d c m l = uv d ++ (uv c ++ (uv (l.length : Int) ++ (l ++ uv m))) := by
  obtain ⟨h1, h2, h3, h4⟩ := vS_true h
  rw [encS, if_pos h, apU_yes (inR_mk (by omega) (by omega)), apB, apU_yes (inR_mk (by omega) (by omega))]
  have e : eI [d, c] = uv d ++ uv c := by
    rw [eI, List.foldl_cons, List.foldl_cons, List.foldl_nil, apU_yes (inR_mk (by omega) (by omega)), apU_yes (inR_mk (by omega) (by omega)), List.nil_append, List.nil_append, List.nil_append]
  rw [e]
  simp only [List.append_assoc]
theorem encS_byte {d c m : Int} {l : List Int} (h8 : ∀ x ∈ l, 0 ≤ x ∧ x ≤ 255) : ∀ x ∈ encS d c m l, 0 ≤ x ∧ x ≤ 255 := by
  intro x hx
  cases h : vS d c l.length m
  · rw [encS_no rfl h] at hx; cases hx
  · rw [encS_eq h] at hx
    obtain ⟨h1, h2, h3, h4⟩ := vS_true h
    simp only [List.mem_append] at hx
    rcases hx with hx | hx | hx | hx | hx
    · exact uvF_byte 5 d (by omega) (lt128_6' (by omega)) x hx
    · exact uvF_byte 5 c (by omega) (lt128_6' (by omega)) x hx
    · exact uvF_byte 5 _ (by omega) (lt128_6' (by omega)) x hx
    · exact h8 x hx
    · exact uvF_byte 5 m (by omega) (lt128_6' (by omega)) x hx
theorem ds_enc {d c m : Int} {l : List Int} (h : vS d c l.length m = true) : dsO (encS d c m l) = some (d, c, m, l) := by
  obtain ⟨h1, h2, h3, h4⟩ := vS_true h
  rw [encS_eq h]
  have r1 := rd_at [] (uv c ++ (uv (l.length : Int) ++ (l ++ uv m))) d (by omega)
  simp only [List.nil_append, List.length_nil, Nat.zero_add] at r1
  have r2 := rd_at (uv d) (uv (l.length : Int) ++ (l ++ uv m)) c (by omega)
  have r3 := rd_at (uv d ++ uv c) (l ++ uv m) (l.length : Int) (by omega)
  have r4 := rd_at (uv d ++ (uv c ++ (uv (l.length : Int) ++ l))) [] m (by omega)
  simp only [List.append_assoc, List.length_append, List.append_nil] at r1 r2 r3 r4
  have q1 : diO (uv d ++ (uv c ++ (uv (l.length : Int) ++ (l ++ uv m)))) 2 0 [] = some ([d, c], (uv d).length + (uv c).length) := by
    rw [diO_some (f := 1) rfl r1, diO_some (f := 0) rfl r2, diO, List.nil_append, List.singleton_append]
  have q2 := rbO_3 r3 (mx := 60) (by omega) (by simp only [List.length_append]; omega)
  rw [Int.toNat_natCast] at q2
  have r4' : rdF (uv d ++ (uv c ++ (uv (l.length : Int) ++ (l ++ uv m)))) ((uv d).length + (uv c).length + (uv (l.length : Int)).length + l.length) 6 0 0 = some (m, (uv d).length + ((uv c).length + ((uv (l.length : Int)).length + l.length)) + (uv m).length) := by
    rw [show (uv d).length + (uv c).length + (uv (l.length : Int)).length + l.length = (uv d).length + ((uv c).length + ((uv (l.length : Int)).length + l.length)) by omega]; exact r4
  have hdr : (uv d ++ (uv c ++ (uv (l.length : Int) ++ (l ++ uv m)))).drop ((uv d).length + (uv c).length + (uv (l.length : Int)).length) = l ++ uv m := by
    rw [show (uv d).length + (uv c).length + (uv (l.length : Int)).length = (uv d ++ (uv c ++ uv (l.length : Int))).length by simp only [List.length_append]; omega,
      show uv d ++ (uv c ++ (uv (l.length : Int) ++ (l ++ uv m))) = (uv d ++ (uv c ++ uv (l.length : Int))) ++ (l ++ uv m) by simp only [List.append_assoc], List.drop_left]
  have hrs : rsO (uv d ++ (uv c ++ (uv (l.length : Int) ++ (l ++ uv m)))) = some (d, c, m, l, (uv d).length + ((uv c).length + ((uv (l.length : Int)).length + l.length)) + (uv m).length) := by
    rw [rsO, q1]
    simp only [q2, r4']
    rw [if_pos (by simpa using h), hdr, List.take_left]
    rfl
  rw [dsO, hrs]
  simp only
  rw [if_pos (by simp only [List.length_append]; omega)]
theorem diO_split {l : List Int} {d c : Int} {e : Nat} (h : diO l 2 0 [] = some ([d, c], e)) : ∃ e1, rdF l 0 6 0 0 = some (d, e1) ∧ rdF l e1 6 0 0 = some (c, e) := by
  cases h1 : rdF l 0 6 0 0 with
  | none => rw [diO, h1] at h; cases h
  | some ve =>
    obtain ⟨v, e1⟩ := ve
    rw [diO, h1] at h
    simp only at h
    cases h2 : rdF l e1 6 0 0 with
    | none => rw [diO, h2] at h; cases h
    | some ve2 =>
      obtain ⟨v2, e2⟩ := ve2
      rw [diO, h2] at h
      simp only [diO] at h
      injection h with h
      injection h with h3 h4
      simp at h3
      obtain ⟨rfl, rfl⟩ := h3
      subst h4
      exact ⟨e1, rfl, h2⟩
/-- What a decoded message is: its parts' sizes, and the bytes that it was made from. -/
theorem enc_ds {b : List Int} {d c m : Int} {s : List Int} (h8 : ∀ x ∈ b, 0 ≤ x ∧ x ≤ 255) (h : dsO b = some (d, c, m, s)) : encS d c m s = b ∧ s.length ≤ b.length ∧ (∀ x ∈ s, 0 ≤ x ∧ x ≤ 255) := by
  obtain ⟨e3, hr, he3⟩ := dsO_yes h
  obtain ⟨e, v, e2, q1, q2, q3, q4, q5⟩ := rsO_yes h8 hr
  obtain ⟨e1, p1, p2⟩ := diO_split q1
  obtain ⟨p3, _, p4, _⟩ := rbO_inv h8 q2
  obtain ⟨a1, b1⟩ := uv_at h8 p1
  obtain ⟨a2, b2⟩ := uv_at h8 p2
  obtain ⟨a3, b3⟩ := uv_at h8 p3
  obtain ⟨a4, b4⟩ := uv_at h8 q3
  have hs : s.length = v := by rw [← q5, List.length_take, List.length_drop]; omega
  have h4 : b.drop e2 = s ++ uv m := by
    have := List.take_append_drop v (b.drop e2)
    rw [List.drop_drop, q5, b4, he3, List.drop_length, List.append_nil] at this
    exact this.symm
  refine ⟨?_, by omega, fun x hx => h8 x (List.mem_of_mem_drop (List.mem_of_mem_take (by rw [q5]; exact hx)))⟩
  rw [encS_eq (by rw [hs]; exact q4), hs, ← h4, ← b3, ← b2, ← b1, List.drop_zero]
end Go.Proofs.Ytidfpmkhgogilaa
