/- Bytes bent. -/
import Derived.Test.YtidfpmkhgogilaaDrawB
import Derived.Test.YtidfpmkhgogilaaCpy
import Derived.Test.YtidfpmkhgogilaaRow
namespace Go.Proofs.Ytidfpmkhgogilaa
open Go.RowKit Go.Sep

def Bent (g : Nat) (A : Option Addr) (n c m : Nat) (w : World) (e : Ending) (w' : World) : Prop :=
  ∃ (A' : Option Addr) (k c' : Nat) (bs : List Int), e = .returned (.slice A' k c') ∧ bs.length = k ∧ k ≤ m + 1 ∧ (∀ x ∈ bs, 0 ≤ x ∧ x ≤ 255) ∧ Rd w' w.heap.size w'.heap.size 1 A' k (bs.map (.int .u8)) ∧ k ≤ c' ∧ c' ≤ maxLen ∧ Cur w' g A n c ∧ Chg g (g + 1) w w'
set_option maxHeartbeats 1000000 in
set_option maxRecDepth 100000 in
theorem sBent_any (w : World) (g : Nat) (A : Option Addr) (n c lo hi : Nat) (l : List Int) (B : Option Addr) (m cB lo' hi' : Nat) (bs : List Int) (hC : Cur w g A n c) (hr : Rd w lo hi 1 A n (l.map (.int .u8))) (hn : n ≤ 16777216) (h8 : ∀ x ∈ l, 0 ≤ x ∧ x ≤ 255) (hg : hi ≤ g) (hr' : Rd w lo' hi' 1 B m (bs.map (.int .u8))) (hm : m ≤ 1048576) (h8' : ∀ x ∈ bs, 0 ≤ x ∧ x ≤ 255) :
    Calls Try.prog 74 #[.pointer (some ⟨g, 0, none⟩), .slice B m cB] w (Bent g A n c m w) := by
  obtain ⟨i0, hi0, hz0, hz1, hz2⟩ := info_parts infoByteS
  have hgl := hC.lt
  have hlb : bs.length = m := by simpa using hr'.len
  have hown0 : Own (w.alloc (.cells #[] 5)) w.heap.size (w.heap.size + 1) 5 1 (.slice (some ⟨w.heap.size, 0, none⟩) 0 0) 0 [] := by
    simpa using Own.fresh w #[] 5 1 0 rfl (by unfold maxLen; omega)
  go_enter Try.func74, Try.ntmps74
  go_wp2_with (at_builtin; refine wpList_app _ rfl (.tmp 6) (.tmp 7) 22 rfl 5 i0 (.int .u8 0) 1 1 w.heap.size (w.heap.size + 1) lo' hi' Try.underlying22 hi0 hz0 hz1 hz2 rfl (by omega) _ 0 [] rfl hown0 B m cB (bs.map (.int .u8)) rfl (hr'.alloc _) (ints_one _ _) (by unfold maxLen; omega) (by omega) (by first | omega | (simp <;> omega)) (by first | omega | (simp <;> omega)) ?_; intro A1 c1 w1 hown1 hc1 hm1 hch1)
  rw [Nat.zero_add, List.nil_append] at hown1
  rw [Nat.zero_add] at hc1
  have hC1 : Cur w1 g A n c := (hC.below' (by (repeat' (first | (with_reducible exact Below.refl _ _) | (with_reducible assumption) | (with_reducible refine Below.alloc ?_ ?_ _) | (with_reducible refine below_ext ?_ ?_ _ _) | (with_reducible refine Below.setCell ?_ ?_ _) | (with_reducible refine Below.drew ?_) | (with_reducible refine below_drewN ?_ _))); all_goals (first | omega | (simp; done) | (simp; omega)))).chg hch1 (.inl hgl)
  have hr1 := (hr.alloc (.cells #[] 5)).chg hch1 (.inl (by omega))
  have hchA : Chg g (g + 1) w w1 := (((Chg.refl g (g + 1) w).alloc _)).then_new hch1 (Nat.le_refl _)
  have hsz1 := hchA.size
  clear hown0 hch1
  go_wp2_with fail
  refine (sBelow_any _ g A n c lo hi l _ hC1 hr1 hn h8 hg (by omega)).mono ?_
  rintro e w2 ⟨r, rfl, ⟨hr0, hr6⟩, hC2, hch2⟩
  have hr2 := hr1.chg hch2 (.inl hg)
  have hown2 := hown1.chg hch2 (.inr (by omega))
  have hchB := hchA.trans hch2
  have hsz2 := hch2.size
  clear hr6 hown1 hch2 hchA hr1 hC1
  have done : Bent g A n c m w (.returned (.slice A1 m c1)) w2 := ⟨A1, m, c1, bs, rfl, hlb, by omega, h8', (hown2.rd).more (Nat.le_refl _) hsz2, hc1, hm1, hC2, hchB⟩
  rcases (show r = 0 ∨ r = 1 ∨ r = 2 ∨ 2 < r by omega) with rfl | rfl | rfl | hr3
  · by_cases h0 : m = 0
    · have hm0 : ¬ (0 : Int) < (m : Int) := by omega
      have HD := hide done
      clear done h0
      go_wp2_with fail
      go_ret
      exact HD.out
    · have hm0 : (0 : Int) < (m : Int) := by omega
      obtain ⟨g1, rfl, hg1, hg2, hg3, _⟩ := own_open hown2 (by omega)
      clear done
      go_wp2_with fail
      refine (sBelow_any _ g A n c lo hi l _ hC2 hr2 hn h8 hg (by omega)).mono ?_
      rintro e w3 ⟨q, rfl, ⟨hq0, hqm⟩, hC3, hch3⟩
      have hq1 := hqm hm0
      have hr3 := hr2.chg hch3 (.inl hg)
      have hown3 := hown2.chg hch3 (.inr (by omega))
      have hsz3 := hch3.size
      go_wp2_with fail
      refine (sBelow_any _ g A n c lo hi l _ hC3 hr3 hn h8 hg (by omega)).mono ?_
      rintro e w4 ⟨y, rfl, ⟨hy0, hy2⟩, hC4, hch4⟩
      have hy1 := hy2 (by omega)
      have hown4 := hown3.chg hch4 (.inr (by omega))
      have hsz4 := hch4.size
      have hchC := hchB.trans (hch3.trans hch4)
      obtain ⟨j, rfl⟩ : ∃ j : Nat, q = j := ⟨q.toNat, by omega⟩
      have hw : IntKind.u8.wrap y = y := IntWalk.u8_in y ⟨by omega, by omega⟩
      obtain ⟨old, hdst, hfr⟩ := hown4.olds1 j (by simp; omega)
      have HX := hown4.stored j (.int .u8 y)
      have hown5 : Own (w4.setCell ⟨g1, j, none⟩ (.int .u8 y)) w.heap.size w1.heap.size 5 1 (.slice (some ⟨g1, 0, none⟩) m c1) m ((bs.set j y).map (Value.int .u8)) := by
        have := HX.1
        rw [List.map_set]
        exact this
      have H8 := hide (show ∀ x ∈ bs.set j y, 0 ≤ x ∧ x ≤ 255 from fun x hx => by
        rcases List.mem_or_eq_of_mem_set hx with h | h
        · exact h8' x h
        · subst h; omega)
      have hD : Bent g A n c m w (.returned (.slice (some ⟨g1, 0, none⟩) m c1)) (w4.setCell ⟨g1, j, none⟩ (.int .u8 y)) := ⟨_, m, c1, bs.set j y, rfl, by simp [hlb], by omega, H8.out, (hown5.rd).more (Nat.le_refl _) (by simp; omega), hc1, hm1, hC4.chg HX.2 (.inl hgl), hchC.then_new HX.2 (Nat.le_refl _)⟩
      have HD := hide hD
      clear hD HX hown5 hown2 hown3 hown4
      go_wp2_with fail
      go_ret
      exact HD.out
  · clear done
    go_wp2_with fail
    refine (sBelow_any _ g A n c lo hi l _ hC2 hr2 hn h8 hg (by omega)).mono ?_
    rintro e w3 ⟨q, rfl, ⟨hq0, hqm⟩, hC3, hch3⟩
    have hq1 := hqm (by omega)
    have hown3 := hown2.chg hch3 (.inr (by omega))
    have hsz3 := hch3.size
    obtain ⟨j, rfl⟩ : ∃ j : Nat, q = j := ⟨q.toNat, by omega⟩
    have hD : Bent g A n c m w (.returned (.slice A1 j c1)) w3 := ⟨_, j, c1, bs.take j, rfl, by simp [hlb]; omega, by omega, fun x hx => h8' x (List.mem_of_mem_take hx), (takeL (by omega) hown3.rd).more (Nat.le_refl _) (by omega), by omega, hm1, hC3, hchB.trans hch3⟩
    have HD := hide hD
    have hjc : (j : Int) ≤ (c1 : Int) := by omega
    clear hD hown2 hown3
    go_wp2_with fail
    go_ret
    exact HD.out
  · clear done
    have hgl2 := hC2.lt
    go_wp2_with fail
    refine (sInt_any _ g A n c lo hi l (some ⟨w2.heap.size, 0, none⟩) 4 4 w2.heap.size (w2.heap.size + 1) [0, 1, 128, 255] (hC2.below' (by (repeat' (first | (with_reducible exact Below.refl _ _) | (with_reducible assumption) | (with_reducible refine Below.alloc ?_ ?_ _) | (with_reducible refine below_ext ?_ ?_ _ _) | (with_reducible refine Below.setCell ?_ ?_ _) | (with_reducible refine Below.drew ?_) | (with_reducible refine below_drewN ?_ _))); all_goals (first | omega | (simp; done) | (simp; omega)))) (hr2.below' (by (repeat' (first | (with_reducible exact Below.refl _ _) | (with_reducible assumption) | (with_reducible refine Below.alloc ?_ ?_ _) | (with_reducible refine below_ext ?_ ?_ _ _) | (with_reducible refine Below.setCell ?_ ?_ _) | (with_reducible refine Below.drew ?_) | (with_reducible refine below_drewN ?_ _))); all_goals (first | omega | (simp; done) | (simp; omega)))) hn h8 hg (by simpa using Rd.fresh w2 #[.int .i64 0, .int .i64 1, .int .i64 128, .int .i64 255] 3 1 4 rfl) hgl2 (by omega) (by omega)).mono ?_
    rintro e w3 ⟨y, rfl, hy, hC3, hch3⟩
    have hy1 : 0 ≤ y ∧ y ≤ 255 := by simp at hy; omega
    have hw : IntKind.u8.wrap y = y := IntWalk.u8_in y hy1
    have hown3 := (hown2.alloc (.cells #[.int .i64 0, .int .i64 1, .int .i64 128, .int .i64 255] 3)).chg hch3 (.inr (by omega))
    have hsz3 := hch3.size
    have hsz3' : w2.heap.size ≤ w3.heap.size := by simp at hsz3; omega
    have hchC := (hchB.alloc (.cells #[.int .i64 0, .int .i64 1, .int .i64 128, .int .i64 255] 3)).trans hch3
    have hfr : Rd (w3.alloc (.cells #[.int .u8 y] 5)) w3.heap.size (w3.heap.size + 1) 1 (some ⟨w3.heap.size, 0, none⟩) 1 [.int .u8 y] := by simpa using Rd.fresh w3 #[.int .u8 y] 5 1 1 rfl
    go_wp2_with (at_builtin; refine wpList_app _ rfl (.tmp 36) (.tmp 41) 22 rfl 5 i0 (.int .u8 0) 1 1 w.heap.size w1.heap.size w3.heap.size (w3.heap.size + 1) Try.underlying22 hi0 hz0 hz1 hz2 rfl (by omega) _ m _ rfl (hown3.alloc _) _ 1 1 _ rfl hfr (by simp [Value.oneCell']) (by unfold maxLen; omega) (by omega) (by first | omega | (simp <;> omega)) (by first | omega | (simp <;> omega)) ?_; intro A4 c4 w4 hown4 hc4 hm4 hch4)
    have hown5 : Own w4 w.heap.size w4.heap.size 5 1 (.slice A4 (m + 1) c4) (m + 1) ((bs ++ [y]).map (Value.int .u8)) := by simpa using hown4
    have H8 := hide (show ∀ x ∈ bs ++ [y], 0 ≤ x ∧ x ≤ 255 from fun x hx => by
      rcases List.mem_append.1 hx with h | h
      · exact h8' x h
      · simp only [List.mem_singleton] at h; subst h; exact hy1)
    have hD : Bent g A n c m w (.returned (.slice A4 (m + 1) c4)) w4 := ⟨A4, m + 1, c4, bs ++ [y], rfl, by simp [hlb], Nat.le_refl _, H8.out, hown5.rd, hc4, hm4, (hC3.below' (by (repeat' (first | (with_reducible exact Below.refl _ _) | (with_reducible assumption) | (with_reducible refine Below.alloc ?_ ?_ _) | (with_reducible refine below_ext ?_ ?_ _ _) | (with_reducible refine Below.setCell ?_ ?_ _) | (with_reducible refine Below.drew ?_) | (with_reducible refine below_drewN ?_ _))); all_goals (first | omega | (simp; done) | (simp; omega)))).chg hch4 (.inl hgl), (hchC.alloc _).then_new hch4 (Nat.le_refl _)⟩
    have HD := hide hD
    clear hD hown2 hown3 hown4 hown5 hch4 hfr hy
    go_wp2_with fail
    go_ret
    exact HD.out
  · have HD := hide done
    have e0 : (r == 0) = false := by simp; omega
    have e1 : (r == 1) = false := by simp; omega
    have e2 : (r == 2) = false := by simp; omega
    clear done
    go_wp2_with fail
    go_ret
    exact HD.out
end Go.Proofs.Ytidfpmkhgogilaa
