/- The draw of FnClassification: DrawPacketsForBearer. -/
import Derived.Test.YticfmkfiibhafaaCfR
import Derived.Test.YticfmkfiibhafaaPackO
import Derived.Test.YticfmkfiibhafaaPkW
namespace Go.Proofs.Yticfmkfiibhafaa
open Go.RowKit Go.Sep

/-- What DrawPacketsForBearer leaves. -/
def DrewAll (w : World) (e : Ending) (w' : World) : Prop :=
  ∃ (A0 : Option Addr) (k0 d0 : Nat) (L0 : List (Int × Int × Int)) (A1 : Option Addr) (k1 d1 : Nat) (L1 : List (Int × Int × Int)) (A2 : Option Addr) (k2 d2 : Nat) (m : PL) (id : Int),
    e = .returned (.tuple #[.slice A0 k0 d0, .slice A1 k1 d1, .slice A2 k2 d2, .int .i64 id]) ∧ L0.length = k0 ∧ k0 ≤ 6 ∧ L1.length = k1 ∧ k1 ≤ 12 ∧ k2 + ndSum2 m ≤ 1000 ∧
    Rd w' w.heap.size w'.heap.size 3 A0 k0 (L0.flatMap c3) ∧ Rd w' w.heap.size w'.heap.size 3 A1 k1 (L1.flatMap c3) ∧ Nd2 .u8 w' w.heap.size w'.heap.size A2 k2 m ∧ Below w.heap.size w w'
/-- What the loop of the draw keeps. -/
def DkRel (g : Nat) (A : Option Addr) (n c : Nat) (w : World) (b : Nat) (q : Value) (wr : World) : Prop :=
  ∃ (k g' c' : Nat) (m : PL), k ≤ b ∧ q = .slice (some ⟨g', 0, none⟩) k c' ∧ Hid (m.length = k ∧ ndSum2 m ≤ 61 * k) ∧ NI2 wr w.heap.size wr.heap.size 68 .u8 5 (some ⟨g', 0, none⟩) k c' m ∧ Cur wr g A n c ∧ Chg g (g + 1) w wr
theorem ndSum2_snoc (m : PL) (x : Int) (s : List Int) : ndSum2 (m ++ [(x, s)]) = ndSum2 m + s.length := by simp [ndSum2]
set_option maxHeartbeats 1000000 in
set_option maxRecDepth 100000 in
theorem sDrawPk_any (w : World) (A : Option Addr) (n c : Nat) (l : List Int) (hr : Rd w 0 w.heap.size 1 A n (l.map (.int .u8))) (hn : n ≤ 16777216) (h8 : ∀ x ∈ l, 0 ≤ x ∧ x ≤ 255) :
    Calls Try.prog 56 #[.slice A n c] w (DrewAll w) := by
  obtain ⟨ti, hti, hz0, hz1, hz2⟩ := info_parts infoPacket
  go_enter Try.func56, Try.ntmps56
  go_wp2_with fail
  refine (sNew_any _ A n c _ _ l hr hn h8).mono ?_
  rintro e w1 ⟨g, rfl, hg, hC1, hb1⟩
  have hgl := hC1.lt
  have hr1 := hr.below' hb1
  have hs1 := hb1.size
  go_wp2_with fail
  refine (sRules_any _ g A n c _ _ l hC1 hr1 hn h8 hg).mono ?_
  rintro e w2 ⟨A0, k0, d0, L0, rfl, hL0, hk0, ho0, _, _, hC2, hch2⟩
  have hr2 := hr1.chg hch2 (.inl hg)
  have hs2 := hch2.size
  clear hC1 hr1
  go_wp2_with fail
  refine (sAny11_any _ g A n c _ _ l hC2 hr2 hn h8 hg).mono ?_
  rintro e w3 ⟨A1, k1, d1, L1, rfl, hL1, hk1, ho1, _, _, hC3, hch3⟩
  have hr3 := hr2.chg hch3 (.inl hg)
  have hs3 := hch3.size
  have hf0 := ho0.rd.chg hch3 (.inr (by omega))
  have hbw3 : Below w.heap.size w w3 := below_then hb1 ((hch2.trans hch3).below (B := w.heap.size) (by omega) (by omega)) (Nat.le_refl _)
  clear hC2 hr2 hch2 hch3 hb1 ho0
  have hN0 := NI2.fresh w3 68 .u8 5
  have hch30 : Chg g (g + 1) w3 (w3.alloc (.cells #[] 68)) := (Chg.refl _ _ _).alloc _
  go_wp2_with fail
  refine (sBelow_any _ g A n c _ _ l _ (hC3.below' (by (repeat' (first | (with_reducible exact Below.refl _ _) | (with_reducible assumption) | (with_reducible refine Below.alloc ?_ ?_ _) | (with_reducible refine below_ext ?_ ?_ _ _) | (with_reducible refine Below.setCell ?_ ?_ _) | (with_reducible refine Below.drew ?_) | (with_reducible refine below_drewN ?_ _))); all_goals (first | omega | (simp; done) | (simp; omega)))) (hr3.below' (by (repeat' (first | (with_reducible exact Below.refl _ _) | (with_reducible assumption) | (with_reducible refine Below.alloc ?_ ?_ _) | (with_reducible refine below_ext ?_ ?_ _ _) | (with_reducible refine Below.setCell ?_ ?_ _) | (with_reducible refine Below.drew ?_) | (with_reducible refine below_drewN ?_ _))); all_goals (first | omega | (simp; done) | (simp; omega)))) hn h8 hg (by omega)).mono ?_
  rintro e w4 ⟨i0, rfl, ⟨hi0, hi1⟩, hC4, hch4⟩
  have hi8 := hi1 (by omega)
  have hs4 := hch4.size
  simp at hs4
  have HR0 := hide (show DkRel g A n c w3 (6 - i0.toNat) (.slice (some ⟨w3.heap.size, 0, none⟩) 0 0) w4 from ⟨0, _, 0, [], by omega, rfl, hide ⟨rfl, by simp [ndSum2]⟩, (hN0.chg hch4 (.inr (by omega))).more (Nat.le_refl _) (by omega), hC4, hch30.trans hch4⟩)
  clear hi1 hN0 hch30 hC4 hch4 hC3
  have HF0 := hide hf0
  have HF1 := hide ho1.rd
  have HB3 := hide hbw3
  have HR3 := hide hr3
  clear hf0 ho1 hbw3 hr3
  go_wp2_with fail
  go_loopw [9, 10] (fun q i wr => ∃ j : Nat, j ≤ 6 ∧ i = .int .i64 j ∧ DkRel g A n c w3 (6 - j) q wr) (fun _ i _ => (intOf i).toNat)
  case atStart => exact ⟨i0.toNat, by omega, by rw [Int.toNat_of_nonneg hi0], HR0.out⟩
  case round =>
    clear HR0
    obtain ⟨j, hj8, rfl, k, g', c', m, hkb, rfl, HL, hni, hCr, hch⟩ := hrel
    have hrw := HR3.out.chg hch (.inl hg)
    have hsz := hch.size
    by_cases hlt : 0 < j
    · have hlt' : (0 : Int) < (j : Int) := by omega
      go_wp2_with fail
      refine (sPack_any _ g A n c _ _ l hCr hrw hn h8 hg).mono ?_
      rintro e w5 ⟨p, A5, k5, c5, bs, rfl, hl5, hk5, _, ho5, hkc5, hcm5, hC5, hch5⟩
      have hs5 := hch5.size
      have hni5 := hni.chg hch5 (.inr (by omega))
      have hchA := hch.trans hch5
      subst hl5
      clear hni hCr hrw hch hch5
      go_wp2_with (at_builtin; refine wpList_ni2 _ rfl (.tmp 27) (.tmp 29) 59 rfl 68 .u8 5 ti (.agg #[.int .i64 0, .slice none 0 0]) 32 w3.heap.size wr.heap.size w5.heap.size Try.underlying59 hti hz0 hz1 hz2 rfl g' k c' m rfl (hni5.below' (by (repeat' (first | (with_reducible exact Below.refl _ _) | (with_reducible assumption) | (with_reducible refine Below.alloc ?_ ?_ _) | (with_reducible refine below_ext ?_ ?_ _ _) | (with_reducible refine Below.setCell ?_ ?_ _) | (with_reducible refine Below.drew ?_) | (with_reducible refine below_drewN ?_ _))); all_goals (first | omega | (simp; done) | (simp; omega)))) p (Sl.mk A5 bs.length c5 bs) (ho5.below' (by (repeat' (first | (with_reducible exact Below.refl _ _) | (with_reducible assumption) | (with_reducible refine Below.alloc ?_ ?_ _) | (with_reducible refine below_ext ?_ ?_ _ _) | (with_reducible refine Below.setCell ?_ ?_ _) | (with_reducible refine Below.drew ?_) | (with_reducible refine below_drewN ?_ _))); all_goals (first | omega | (simp; done) | (simp; omega)))) hkc5 hcm5 hs5 (by simp; omega) _ 1 rfl (by go_simp) (by go_simp) (by unfold maxLen; omega) (by omega) ?_; intro g6 c6 w6 hn6 hc6 hm6 hch6)
      have hchB : Chg g (g + 1) w3 ((w5.alloc (.cells #[.int .i64 p, .slice A5 bs.length c5] 68)).alloc (.cells #[.int .i64 p, .slice A5 bs.length c5] 68)) := (hchA.alloc _).alloc _
      have HREL := hide (show DkRel g A n c w3 (6 - (j - 1)) (.slice (some ⟨g6, 0, none⟩) (k + 1) c6) w6 from ⟨_, g6, c6, m ++ [(p, bs)], by omega, rfl, hide ⟨by simp [HL.out.1], by rw [ndSum2_snoc]; have := HL.out.2; omega⟩, hn6, (hC5.below' (by (repeat' (first | (with_reducible exact Below.refl _ _) | (with_reducible assumption) | (with_reducible refine Below.alloc ?_ ?_ _) | (with_reducible refine below_ext ?_ ?_ _ _) | (with_reducible refine Below.setCell ?_ ?_ _) | (with_reducible refine Below.drew ?_) | (with_reducible refine below_drewN ?_ _))); all_goals (first | omega | (simp; done) | (simp; omega)))).chg hch6 (.inl (by omega)), hchB.then_new hch6 (Nat.le_refl _)⟩)
      clear hni5 ho5 hC5 hchA hchB hch6 hn6
      go_wp2_with fail
      go_roundw
      case rel => exact ⟨j - 1, by omega, by go_num, HREL.out⟩
      case measure => simp [intOf] <;> omega
    · have hlt' : ¬ (0 : Int) < (j : Int) := by omega
      go_wp2_with fail
      refine (sBelow_any _ g A n c _ _ l _ hCr hrw hn h8 hg (by omega)).mono ?_
      rintro e w5 ⟨id, rfl, _, _, hch5⟩
      have hs5 := hch5.size
      have hchA := hch.trans hch5
      have HF := hide (show DrewAll w (.returned (.tuple #[.slice A0 k0 d0, .slice A1 k1 d1, .slice (some ⟨g', 0, none⟩) k c', .int .i64 id])) w5 from
        ⟨A0, k0, d0, L0, A1, k1, d1, L1, _, k, c', m, id, rfl, hL0, hk0, hL1, hk1, by have := HL.out.2; omega, (HF0.out.chg hchA (.inr (by omega))).more (by omega) (by omega), (HF1.out.chg hchA (.inr (by omega))).more (by omega) (by omega), ((hni.nd).chg hch5 (.inr (by omega))).more (by omega) (by omega), below_then HB3.out (hchA.below (B := w.heap.size) (by omega) (by omega)) (Nat.le_refl _)⟩)
      clear hni hCr hch hch5 hchA hrw
      go_wp2_with fail
      exact bodyPost_ret (v := .tuple #[.slice A0 k0 d0, .slice A1 k1 d1, .slice (some ⟨g', 0, none⟩) k c', .int .i64 id]) (by simp only [results, Try.results56]; go_simp) rfl HF.out
end Go.Proofs.Yticfmkfiibhafaa
