/- FnEncapsulation: the draws and the plain law. -/
import Derived.Test.YtidfpmkhgogilaaCap
import Derived.Test.YtidfpmkhgogilaaBent
namespace Go.Proofs.Ytidfpmkhgogilaa
open Go.RowKit Go.Sep

theorem lt128_6 {x : Int} (h : x ≤ 20) : x < 128 ^ (5 + 1) := by
  have e : (128 : Int) ^ (5 + 1) = 4398046511104 := by decide
  omega
theorem rd_uv (id : Int) (l : List Int) (h : 1 ≤ id ∧ id ≤ 20) : rdF (uv id ++ l) 0 6 0 0 = some (id, (uv id).length) := by
  have := rd_uvF (uv id ++ l) 0 5 0 0 id (by omega) (lt128_6 (by omega)) (.inl rfl) (by simp; omega) (fun j hj => by
    simp only [Nat.zero_add]
    exact List.getElem?_append_left hj)
  simpa [uv] using this
theorem dc_cap {id : Int} {l : List Int} (h : inR id 1 20 = true) : dcL (capL id l) = (id, l, true) := by
  have hi := inR_true h
  rw [capL, if_pos h, dcL_2 (rd_uv id l hi) h]
  simp
theorem cap_dc {b : List Int} (h8 : ∀ x ∈ b, 0 ≤ x ∧ x ≤ 255) (h : (dcL b).2.2 = true) : capL (dcL b).1 (dcL b).2.1 = b := by
  cases hrd : rdF b 0 6 0 0 with
  | none => rw [dcL_0 hrd] at h; cases h
  | some ve =>
    obtain ⟨v, e⟩ := ve
    cases hv : inR v 1 20
    · rw [dcL_1 hrd hv] at h; cases h
    · rw [dcL_2 hrd hv]
      simp only
      rw [capL, if_pos hv]
      obtain ⟨m, hm0, hm1, hvm, _, _, he, hj⟩ := uvF_rd b 0 5 0 0 v e h8 hrd
      obtain rfl : v = m := by rw [hvm]; simp
      simp only [Nat.zero_add] at he hj
      have ht : uv v = b.take e := by
        apply List.ext_getElem?
        intro j
        by_cases hlt : j < (uvF 5 v).length
        · rw [List.getElem?_take, if_pos (by omega), hj j hlt]; rfl
        · rw [List.getElem?_take, if_neg (by omega), List.getElem?_eq_none (by simp only [uv]; omega)]
      rw [ht, List.take_append_drop]
theorem cap_byte {id : Int} {l : List Int} (h8 : ∀ x ∈ l, 0 ≤ x ∧ x ≤ 255) : ∀ x ∈ capL id l, 0 ≤ x ∧ x ≤ 255 := fun x hx => by
  unfold capL at hx
  split at hx
  · rename_i h
    have hi := inR_true h
    rcases List.mem_append.1 hx with h1 | h1
    · exact uvF_byte 5 id (by omega) (lt128_6 (by omega)) x h1
    · exact h8 x h1
  · cases hx
theorem cap_len (id : Int) (l : List Int) : (capL id l).length ≤ l.length + 6 := by
  unfold capL
  split
  · have := (uvF_len 5 id).2; simp only [List.length_append, uv]; omega
  · simp
theorem dc_byte {b : List Int} (h8 : ∀ x ∈ b, 0 ≤ x ∧ x ≤ 255) : ∀ x ∈ (dcL b).2.1, 0 ≤ x ∧ x ≤ 255 := fun x hx => by
  cases hrd : rdF b 0 6 0 0 with
  | none => rw [dcL_0 hrd] at hx; cases hx
  | some ve =>
    obtain ⟨v, e⟩ := ve
    cases hv : inR v 1 20
    · rw [dcL_1 hrd hv] at hx; cases hx
    · rw [dcL_2 hrd hv] at hx; exact h8 x (List.mem_of_mem_drop hx)
theorem dc_len (b : List Int) : (dcL b).2.1.length ≤ b.length := by
  cases hrd : rdF b 0 6 0 0 with
  | none => rw [dcL_0 hrd]; simp
  | some ve =>
    obtain ⟨v, e⟩ := ve
    cases hv : inR v 1 20
    · rw [dcL_1 hrd hv]; simp
    · rw [dcL_2 hrd hv]; simp
theorem sDrawEn_any (w : World) (A : Option Addr) (n c : Nat) (l : List Int) (hr : Rd w 0 w.heap.size 1 A n (l.map (.int .u8))) (hn : n ≤ 16777216) (h8 : ∀ x ∈ l, 0 ≤ x ∧ x ≤ 255) :
    Calls Try.prog 54 #[.slice A n c] w fun e w' => ∃ (id : Int) (A' : Option Addr) (k c' : Nat) (bs : List Int), e = .returned (.tuple #[.int .i64 id, .slice A' k c']) ∧ bs.length = k ∧ k ≤ 5 ∧ (∀ x ∈ bs, 0 ≤ x ∧ x ≤ 255) ∧ Rd w' w.heap.size w'.heap.size 1 A' k (bs.map (.int .u8)) ∧ k ≤ c' ∧ c' ≤ maxLen ∧ Below w.heap.size w w' := by
  go_enter Try.func54, Try.ntmps54
  go_wp2_with fail
  refine (sNew_any _ A n c _ _ l hr hn h8).mono ?_
  rintro e w1 ⟨g, rfl, hg, hC1, hb1⟩
  have hr1 := hr.below' hb1
  go_wp2_with fail
  refine (sBelow_any _ g A n c _ _ l _ hC1 hr1 hn h8 hg (by omega)).mono ?_
  rintro e w2 ⟨id, rfl, ⟨hi0, hi1⟩, hC2, hch2⟩
  have hi2 := hi1 (by omega)
  clear hi1
  have hr2 := hr1.chg hch2 (.inl hg)
  go_wp2_with fail
  refine (sBelow_any _ g A n c _ _ l _ hC2 hr2 hn h8 hg (by omega)).mono ?_
  rintro e w3 ⟨m, rfl, ⟨hm0, hm1⟩, hC3, hch3⟩
  have hm2 := hm1 (by omega)
  clear hm1
  have hr3 := hr2.chg hch3 (.inl hg)
  go_wp2_with fail
  refine (sBytes_any _ g A n c _ _ l m hC3 hr3 hn h8 hg (by omega)).mono ?_
  rintro e w4 ⟨A', k, c', bs, rfl, hl, hk, hb8, hown, hkc, hcm, hC4, hch4⟩
  have hch := hch2.trans (hch3.trans hch4)
  have hsz := (hch2.trans hch3).size
  have hsz1 := hb1.size
  go_wp2_with fail
  go_ret2
  exact ⟨_, A', k, c', bs, rfl, hl, by omega, hb8, (hown.rd).more (by omega) (Nat.le_refl _), hkc, hcm, below_then hb1 (hch.below (B := w.heap.size) hg hb1.size) (Nat.le_refl _)⟩
theorem sDrawDe_any (w : World) (A : Option Addr) (n c : Nat) (l : List Int) (hr : Rd w 0 w.heap.size 1 A n (l.map (.int .u8))) (hn : n ≤ 16777216) (h8 : ∀ x ∈ l, 0 ≤ x ∧ x ≤ 255) :
    Calls Try.prog 55 #[.slice A n c] w fun e w' => ∃ (A' : Option Addr) (k c' : Nat) (bs : List Int), e = .returned (.slice A' k c') ∧ bs.length = k ∧ k ≤ 12 ∧ (∀ x ∈ bs, 0 ≤ x ∧ x ≤ 255) ∧ Rd w' w.heap.size w'.heap.size 1 A' k (bs.map (.int .u8)) ∧ k ≤ c' ∧ c' ≤ maxLen ∧ Below w.heap.size w w' := by
  go_enter Try.func55, Try.ntmps55
  go_wp2_with fail
  refine (sNew_any _ A n c _ _ l hr hn h8).mono ?_
  rintro e w1 ⟨g, rfl, hg, hC1, hb1⟩
  have hr1 := hr.below' hb1
  go_wp2_with fail
  refine (sBelow_any _ g A n c _ _ l _ hC1 hr1 hn h8 hg (by omega)).mono ?_
  rintro e w2 ⟨id, rfl, ⟨hi0, hi1⟩, hC2, hch2⟩
  have hi2 := hi1 (by omega)
  clear hi1
  have hr2 := hr1.chg hch2 (.inl hg)
  go_wp2_with fail
  refine (sBelow_any _ g A n c _ _ l _ hC2 hr2 hn h8 hg (by omega)).mono ?_
  rintro e w3 ⟨m, rfl, ⟨hm0, hm1⟩, hC3, hch3⟩
  have hm2 := hm1 (by omega)
  clear hm1
  have hr3 := hr2.chg hch3 (.inl hg)
  go_wp2_with fail
  refine (sBytes_any _ g A n c _ _ l m hC3 hr3 hn h8 hg (by omega)).mono ?_
  rintro e w4 ⟨A', k, c', bs, rfl, hl, hk, hb8, hown, hkc, hcm, hC4, hch4⟩
  have hch := hch2.trans (hch3.trans hch4)
  have hsz := hch.size
  have hsz1 := hb1.size
  have hr4 := hr3.chg hch4 (.inl hg)
  go_wp2_with fail
  refine (sEncap_any _ _ _ _ _ _ _ bs hown.rd (by omega)).mono ?_
  rintro e w5 ⟨A5, c5, rfl, hc5, hm5, ho5, hb5⟩
  have hlen := cap_len (1 + id) bs
  have hbel5 : Below w.heap.size w w5 := below_then (below_then hb1 (hch.below (B := w.heap.size) hg hb1.size) (Nat.le_refl _)) hb5 (by omega)
  have hsz5 := hb5.size
  go_wp2_with fail
  refine (sBent_any _ g A n c _ _ l _ _ _ _ _ (capL (1 + id) bs) (hC4.below' hb5) (hr4.below' hb5) hn h8 hg ho5.rd (by omega) (cap_byte hb8)).mono ?_
  rintro e w6 ⟨A6, k6, c6, bs6, rfl, hl6, hk6, hb86, hr6, hkc6, hcm6, hC6, hch6⟩
  go_wp2_with fail
  go_ret
  exact ⟨A6, k6, c6, bs6, rfl, hl6, by omega, hb86, hr6.more (by omega) (Nat.le_refl _), hkc6, hcm6, below_then hbel5 (hch6.below (B := w.heap.size) hg hbel5.size) (Nat.le_refl _)⟩
end Go.Proofs.Ytidfpmkhgogilaa
