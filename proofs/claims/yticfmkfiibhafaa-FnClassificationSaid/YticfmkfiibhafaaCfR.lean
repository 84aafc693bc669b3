/- Filters drawn: l13Rules. -/
import Derived.Test.YticfmkfiibhafaaDrawBe
namespace Go.Proofs.Yticfmkfiibhafaa
open Go.RowKit Go.Sep

/-- What a call leaves that draws filters. -/
def DrewPf (g : Nat) (A : Option Addr) (n c m : Nat) (w : World) (e : Ending) (w' : World) : Prop :=
  ∃ (A' : Option Addr) (k c' : Nat) (L : List (Int × Int × Int)), e = .returned (.slice A' k c') ∧ L.length = k ∧ k ≤ m ∧ Own w' w.heap.size w'.heap.size 70 3 (.slice A' k c') k (L.flatMap c3) ∧ k ≤ c' ∧ c' ≤ maxLen ∧ Cur w' g A n c ∧ Chg g (g + 1) w w'
/-- What the loop of the draw keeps. -/
def DpRel (g : Nat) (A : Option Addr) (n c : Nat) (w : World) (b : Nat) (q : Value) (wr : World) : Prop :=
  ∃ (k : Nat) (A' : Option Addr) (c' : Nat) (L : List (Int × Int × Int)), k ≤ b ∧ q = .slice A' k c' ∧ k ≤ c' ∧ c' ≤ maxLen ∧ Hid (L.length = k) ∧ Own wr w.heap.size wr.heap.size 70 3 (.slice A' k c') k (L.flatMap c3) ∧ Cur wr g A n c ∧ Chg g (g + 1) w wr
set_option maxHeartbeats 1000000 in
set_option maxRecDepth 100000 in
theorem sRules_any (w : World) (g : Nat) (A : Option Addr) (n c lo hi : Nat) (l : List Int) (hC : Cur w g A n c) (hr : Rd w lo hi 1 A n (l.map (.int .u8))) (hn : n ≤ 16777216) (h8 : ∀ x ∈ l, 0 ≤ x ∧ x ≤ 255) (hg : hi ≤ g) :
    Calls Try.prog 77 #[.pointer (some ⟨g, 0, none⟩)] w (DrewPf g A n c 6 w) := by
  obtain ⟨ti, hti, hz0, hz1, hz2⟩ := info_parts infoPacketFilter
  have hgl := hC.lt
  have hown0 := own0 w 70 3 w.heap.size rfl
  have hC0 : Cur (w.alloc (.cells #[] 70)) g A n c := hC.below' (by (repeat' (first | (with_reducible exact Below.refl _ _) | (with_reducible assumption) | (with_reducible refine Below.alloc ?_ ?_ _) | (with_reducible refine below_ext ?_ ?_ _ _) | (with_reducible refine Below.setCell ?_ ?_ _) | (with_reducible refine Below.drew ?_) | (with_reducible refine below_drewN ?_ _))); all_goals (first | omega | (simp; done) | (simp; omega)))
  have hr0 := hr.alloc (.cells #[] 70)
  have hch0 : Chg g (g + 1) w (w.alloc (.cells #[] 70)) := (Chg.refl _ _ _).alloc _
  go_enter Try.func77, Try.ntmps77
  go_wp2_with fail
  refine (sBelow_any _ g A n c lo hi l _ hC0 hr0 hn h8 hg (by omega)).mono ?_
  rintro e w1 ⟨i0, rfl, ⟨hi0, hi1⟩, hC1, hch1⟩
  have hi8 := hi1 (by omega)
  have hs1 := hch1.size
  simp at hs1
  have HR0 := hide (show DpRel g A n c w (4 - i0.toNat) (.slice (some ⟨w.heap.size, 0, none⟩) 0 0) w1 from ⟨0, _, 0, [], by omega, rfl, Nat.le_refl _, by unfold maxLen; omega, hide rfl, ((hown0.chg hch1 (.inr (by omega))).more (Nat.le_refl _) (by omega)), hC1, hch0.trans hch1⟩)
  clear hi1 hown0 hC0 hr0 hC1 hch1 hch0
  go_wp2_with fail
  go_loopw [3, 4] (fun q i wr => ∃ j : Nat, j ≤ 4 ∧ i = .int .i64 j ∧ DpRel g A n c w (4 - j) q wr) (fun _ i _ => (intOf i).toNat)
  case atStart => exact ⟨i0.toNat, by omega, by rw [Int.toNat_of_nonneg hi0], HR0.out⟩
  case round =>
    clear HR0
    obtain ⟨j, hj8, rfl, k, A', c', L, hkb, rfl, hkc, hcm, HL, hown, hC1, hch⟩ := hrel
    have hrw := hr.chg hch (.inl hg)
    have hsz := hch.size
    by_cases hlt : 0 < j
    · have hlt' : (0 : Int) < (j : Int) := by omega
      go_wp2_with fail
      refine (sBelow_any _ g A n c lo hi l _ hC1 hrw hn h8 hg (by omega)).mono ?_
      rintro e w2 ⟨a, rfl, ⟨ha0, ha1⟩, hC2, hch2⟩
      have ha2 := ha1 (by omega)
      have hown2 := hown.chg hch2 (.inr (by omega))
      have hr2 := hrw.chg hch2 (.inl hg)
      have hs2 := hch2.size
      clear hown hC1 hrw ha1
      go_wp2_with fail
      refine (sBelow_any _ g A n c lo hi l _ hC2 hr2 hn h8 hg (by omega)).mono ?_
      rintro e w3 ⟨d, rfl, ⟨hd0, hd1⟩, hC3, hch3⟩
      have hd2 := hd1 (by omega)
      have hown3 := hown2.chg hch3 (.inr (by omega))
      have hr3 := hr2.chg hch3 (.inl hg)
      have hs3 := hch3.size
      clear hown2 hC2 hr2 hd1
      go_wp2_with fail
      refine (sBelow_any _ g A n c lo hi l _ hC3 hr3 hn h8 hg (by omega)).mono ?_
      rintro e w4 ⟨f, rfl, ⟨hf0, hf1⟩, hC4, hch4⟩
      have hf2 := hf1 (by omega)
      have hown4 := (hown3.chg hch4 (.inr (by omega))).more (Nat.le_refl _) (show wr.heap.size ≤ w4.heap.size by have := hch4.size; omega)
      have hs4 := hch4.size
      have hchB := hch.trans (hch2.trans (hch3.trans hch4))
      have hfr : Rd (w4.alloc (.cells #[.int .i64 a, .int .i64 (a + d), .int .i64 (1 + f)] 70)) w4.heap.size (w4.heap.size + 1) 3 (some ⟨w4.heap.size, 0, none⟩) 1 [.int .i64 a, .int .i64 (a + d), .int .i64 (1 + f)] := by simpa using Rd.fresh w4 #[.int .i64 a, .int .i64 (a + d), .int .i64 (1 + f)] 70 3 1 rfl
      clear hown3 hC3 hr3 hf1 hch hch2 hch3 hch4
      go_wp2_with (at_builtin; refine wpList_app _ rfl (.tmp 15) (.tmp 25) 34 rfl 70 ti (.agg #[.int .i64 0, .int .i64 0, .int .i64 0]) 3 24 w.heap.size w4.heap.size w4.heap.size (w4.heap.size + 1) Try.underlying34 hti hz0 hz1 hz2 rfl (by omega) _ k _ rfl (hown4.alloc _) _ 1 1 _ rfl hfr (by simp [Value.oneCell']) (by unfold maxLen; omega) (by omega) (by first | omega | (simp <;> omega)) (by first | omega | (simp <;> omega)) ?_; intro A5 c5 w5 hown5 hc5 hm5 hch5)
      have hown6 : Own w5 w.heap.size w5.heap.size 70 3 (.slice A5 (k + 1) c5) (k + 1) ((L ++ [(a, a + d, 1 + f)]).flatMap c3) := by simpa [c3] using hown5
      have HREL := hide (show DpRel g A n c w (4 - (j - 1)) (.slice A5 (k + 1) c5) w5 from ⟨_, A5, c5, L ++ [(a, a + d, 1 + f)], by omega, rfl, hc5, hm5, hide (by simp [HL.out]), hown6, (hC4.below' (by (repeat' (first | (with_reducible exact Below.refl _ _) | (with_reducible assumption) | (with_reducible refine Below.alloc ?_ ?_ _) | (with_reducible refine below_ext ?_ ?_ _ _) | (with_reducible refine Below.setCell ?_ ?_ _) | (with_reducible refine Below.drew ?_) | (with_reducible refine below_drewN ?_ _))); all_goals (first | omega | (simp; done) | (simp; omega)))).chg hch5 (.inl hgl), (hchB.alloc _).then_new hch5 (Nat.le_refl _)⟩)
      clear hown4 hown5 hown6 hC4 hchB hch5 hfr
      go_wp2_with fail
      go_roundw
      case rel => exact ⟨j - 1, by omega, by go_num, HREL.out⟩
      case measure => simp [intOf] <;> omega
    · have hlt' : ¬ (0 : Int) < (j : Int) := by omega
      go_wp2_with fail
      refine (sOnce_any _ g A n c lo hi l _ hC1 hrw hn h8 hg (by omega)).mono ?_
      rintro e w2 ⟨bb, rfl, hC2, hch2⟩
      have hown2 := hown.chg hch2 (.inr (by omega))
      have hr2 := hrw.chg hch2 (.inl hg)
      have hs2 := hch2.size
      have hchA := hch.trans hch2
      clear hown hC1 hrw hch hch2
      cases bb
      · have HF := hide (show DrewPf g A n c 6 w (.returned (.slice A' k c')) w2 from ⟨A', k, c', L, rfl, HL.out, by omega, hown2.more (Nat.le_refl _) hs2, hkc, hcm, hC2, hchA⟩)
        clear hown2 hC2 hchA hr2
        go_wp2_with fail
        go_ret
        exact HF.out
      · go_wp2_with fail
        refine (sInt_any _ g A n c lo hi l (some ⟨w2.heap.size, 0, none⟩) 2 2 w2.heap.size (w2.heap.size + 1) [-1, 5] (hC2.below' (by (repeat' (first | (with_reducible exact Below.refl _ _) | (with_reducible assumption) | (with_reducible refine Below.alloc ?_ ?_ _) | (with_reducible refine below_ext ?_ ?_ _ _) | (with_reducible refine Below.setCell ?_ ?_ _) | (with_reducible refine Below.drew ?_) | (with_reducible refine below_drewN ?_ _))); all_goals (first | omega | (simp; done) | (simp; omega)))) (hr2.below' (by (repeat' (first | (with_reducible exact Below.refl _ _) | (with_reducible assumption) | (with_reducible refine Below.alloc ?_ ?_ _) | (with_reducible refine below_ext ?_ ?_ _ _) | (with_reducible refine Below.setCell ?_ ?_ _) | (with_reducible refine Below.drew ?_) | (with_reducible refine below_drewN ?_ _))); all_goals (first | omega | (simp; done) | (simp; omega)))) hn h8 hg (by simpa using Rd.fresh w2 #[.int .i64 (-1), .int .i64 5] 3 1 2 rfl) hC2.lt (by omega) (by omega)).mono ?_
        rintro e w3 ⟨a, rfl, _, hC3, hch3⟩
        have hch3' : Chg g (g + 1) w2 w3 := ((Chg.refl _ _ _).alloc _).trans hch3
        have hown3 := hown2.chg hch3' (.inr (by omega))
        have hr3 := hr2.chg hch3' (.inl hg)
        have hs3 := hch3'.size
        have hchB := hchA.trans hch3'
        clear hown2 hC2 hr2 hch3 hch3' hchA
        go_wp2_with fail
        refine (sInt_any _ g A n c lo hi l (some ⟨w3.heap.size, 0, none⟩) 3 3 w3.heap.size (w3.heap.size + 1) [4, 65535, 65536] (hC3.below' (by (repeat' (first | (with_reducible exact Below.refl _ _) | (with_reducible assumption) | (with_reducible refine Below.alloc ?_ ?_ _) | (with_reducible refine below_ext ?_ ?_ _ _) | (with_reducible refine Below.setCell ?_ ?_ _) | (with_reducible refine Below.drew ?_) | (with_reducible refine below_drewN ?_ _))); all_goals (first | omega | (simp; done) | (simp; omega)))) (hr3.below' (by (repeat' (first | (with_reducible exact Below.refl _ _) | (with_reducible assumption) | (with_reducible refine Below.alloc ?_ ?_ _) | (with_reducible refine below_ext ?_ ?_ _ _) | (with_reducible refine Below.setCell ?_ ?_ _) | (with_reducible refine Below.drew ?_) | (with_reducible refine below_drewN ?_ _))); all_goals (first | omega | (simp; done) | (simp; omega)))) hn h8 hg (by simpa using Rd.fresh w3 #[.int .i64 4, .int .i64 65535, .int .i64 65536] 3 1 3 rfl) hC3.lt (by omega) (by omega)).mono ?_
        rintro e w4 ⟨d, rfl, _, hC4, hch4⟩
        have hch4' : Chg g (g + 1) w3 w4 := ((Chg.refl _ _ _).alloc _).trans hch4
        have hown4 := hown3.chg hch4' (.inr (by omega))
        have hr4 := hr3.chg hch4' (.inl hg)
        have hs4 := hch4'.size
        have hchC := hchB.trans hch4'
        clear hown3 hC3 hr3 hch4 hch4' hchB
        go_wp2_with fail
        refine (sInt_any _ g A n c lo hi l (some ⟨w4.heap.size, 0, none⟩) 3 3 w4.heap.size (w4.heap.size + 1) [0, 1, 9] (hC4.below' (by (repeat' (first | (with_reducible exact Below.refl _ _) | (with_reducible assumption) | (with_reducible refine Below.alloc ?_ ?_ _) | (with_reducible refine below_ext ?_ ?_ _ _) | (with_reducible refine Below.setCell ?_ ?_ _) | (with_reducible refine Below.drew ?_) | (with_reducible refine below_drewN ?_ _))); all_goals (first | omega | (simp; done) | (simp; omega)))) (hr4.below' (by (repeat' (first | (with_reducible exact Below.refl _ _) | (with_reducible assumption) | (with_reducible refine Below.alloc ?_ ?_ _) | (with_reducible refine below_ext ?_ ?_ _ _) | (with_reducible refine Below.setCell ?_ ?_ _) | (with_reducible refine Below.drew ?_) | (with_reducible refine below_drewN ?_ _))); all_goals (first | omega | (simp; done) | (simp; omega)))) hn h8 hg (by simpa using Rd.fresh w4 #[.int .i64 0, .int .i64 1, .int .i64 9] 3 1 3 rfl) hC4.lt (by omega) (by omega)).mono ?_
        rintro e w5 ⟨f, rfl, _, hC5, hch5⟩
        have hch5' : Chg g (g + 1) w4 w5 := ((Chg.refl _ _ _).alloc _).trans hch5
        have hs5 := hch5'.size
        have hown5 := (hown4.chg hch5' (.inr (by omega))).more (Nat.le_refl _) (show wr.heap.size ≤ w5.heap.size by omega)
        have hchD := hchC.trans hch5'
        have hfr : Rd (w5.alloc (.cells #[.int .i64 a, .int .i64 d, .int .i64 f] 70)) w5.heap.size (w5.heap.size + 1) 3 (some ⟨w5.heap.size, 0, none⟩) 1 [.int .i64 a, .int .i64 d, .int .i64 f] := by simpa using Rd.fresh w5 #[.int .i64 a, .int .i64 d, .int .i64 f] 70 3 1 rfl
        clear hown4 hC4 hr4 hch5 hch5' hchC
        go_wp2_with (at_builtin; refine wpList_app _ rfl (.tmp 29) (.tmp 40) 34 rfl 70 ti (.agg #[.int .i64 0, .int .i64 0, .int .i64 0]) 3 24 w.heap.size w5.heap.size w5.heap.size (w5.heap.size + 1) Try.underlying34 hti hz0 hz1 hz2 rfl (by omega) _ k _ rfl (hown5.alloc _) _ 1 1 _ rfl hfr (by simp [Value.oneCell']) (by unfold maxLen; omega) (by omega) (by first | omega | (simp <;> omega)) (by first | omega | (simp <;> omega)) ?_; intro A6 c6 w6 hown6 hc6 hm6 hch6)
        have hown7 : Own w6 w.heap.size w6.heap.size 70 3 (.slice A6 (k + 1) c6) (k + 1) ((L ++ [(a, d, f)]).flatMap c3) := by simpa [c3] using hown6
        have HF := hide (show DrewPf g A n c 6 w (.returned (.slice A6 (k + 1) c6)) w6 from ⟨A6, k + 1, c6, L ++ [(a, d, f)], rfl, by simp [HL.out], by omega, hown7, hc6, hm6, (hC5.below' (by (repeat' (first | (with_reducible exact Below.refl _ _) | (with_reducible assumption) | (with_reducible refine Below.alloc ?_ ?_ _) | (with_reducible refine below_ext ?_ ?_ _ _) | (with_reducible refine Below.setCell ?_ ?_ _) | (with_reducible refine Below.drew ?_) | (with_reducible refine below_drewN ?_ _))); all_goals (first | omega | (simp; done) | (simp; omega)))).chg hch6 (.inl hgl), (hchD.alloc _).then_new hch6 (Nat.le_refl _)⟩)
        clear hown5 hown6 hown7 hC5 hchD hch6 hfr
        go_wp2_with fail
        go_ret
        exact HF.out
end Go.Proofs.Yticfmkfiibhafaa
