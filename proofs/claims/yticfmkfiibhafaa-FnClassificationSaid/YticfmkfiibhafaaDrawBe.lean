/- Bearers drawn. -/
import Derived.Test.YticfmkfiibhafaaDraw
import Derived.Test.YticfmkfiibhafaaSetS
namespace Go.Proofs.Yticfmkfiibhafaa
open Go.RowKit Go.Sep

/-- What a call leaves that draws bearers. -/
def DrewBe (g : Nat) (A : Option Addr) (n c m : Nat) (w : World) (e : Ending) (w' : World) : Prop :=
  ∃ (A' : Option Addr) (k c' : Nat) (L : List (Int × Int × Int)), e = .returned (.slice A' k c') ∧ L.length = k ∧ k ≤ m ∧ Own w' w.heap.size w'.heap.size 46 3 (.slice A' k c') k (L.flatMap c3) ∧ k ≤ c' ∧ c' ≤ maxLen ∧ Cur w' g A n c ∧ Chg g (g + 1) w w'
/-- What the loop of a draw keeps. -/
def DbRel (g : Nat) (A : Option Addr) (n c : Nat) (w : World) (b : Nat) (q : Value) (wr : World) : Prop :=
  ∃ (k : Nat) (A' : Option Addr) (c' : Nat) (L : List (Int × Int × Int)), k ≤ b ∧ q = .slice A' k c' ∧ k ≤ c' ∧ c' ≤ maxLen ∧ Hid (L.length = k) ∧ Own wr w.heap.size wr.heap.size 46 3 (.slice A' k c') k (L.flatMap c3) ∧ Cur wr g A n c ∧ Chg g (g + 1) w wr
set_option maxRecDepth 100000 in
theorem sOne11_any (w : World) (g : Nat) (A : Option Addr) (n c lo hi : Nat) (l : List Int) (hC : Cur w g A n c) (hr : Rd w lo hi 1 A n (l.map (.int .u8))) (hn : n ≤ 16777216) (h8 : ∀ x ∈ l, 0 ≤ x ∧ x ≤ 255) (hg : hi ≤ g) :
    Calls Try.prog 68 #[.pointer (some ⟨g, 0, none⟩)] w fun e w' => ∃ x y z : Int, e = .returned (.agg #[.int .i64 x, .int .i64 y, .int .i64 z]) ∧ Cur w' g A n c ∧ Chg g (g + 1) w w' := by
  have hgl := hC.lt
  have hC0 : Cur (w.alloc (.cells #[.int .i64 0, .int .i64 0, .int .i64 0] 46)) g A n c := hC.below' (by (repeat' (first | (with_reducible exact Below.refl _ _) | (with_reducible assumption) | (with_reducible refine Below.alloc ?_ ?_ _) | (with_reducible refine below_ext ?_ ?_ _ _) | (with_reducible refine Below.setCell ?_ ?_ _) | (with_reducible refine Below.drew ?_) | (with_reducible refine below_drewN ?_ _))); all_goals (first | omega | (simp; done) | (simp; omega)))
  have hr0 := hr.alloc (.cells #[.int .i64 0, .int .i64 0, .int .i64 0] 46)
  have hch0 : Chg g (g + 1) w (w.alloc (.cells #[.int .i64 0, .int .i64 0, .int .i64 0] 46)) := (Chg.refl _ _ _).alloc _
  go_enter Try.func68, Try.ntmps68
  go_wp2_with fail
  refine (sBelow_any _ g A n c lo hi l _ hC0 hr0 hn h8 hg (by omega)).mono ?_
  rintro e w1 ⟨x, rfl, ⟨hx0, hx1⟩, hC1, hch1⟩
  have hx6 := hx1 (by omega)
  have hr1 := hr0.chg hch1 (.inl hg)
  clear hx1
  go_wp2_with fail
  refine (sBelow_any _ g A n c lo hi l _ hC1 hr1 hn h8 hg (by omega)).mono ?_
  rintro e w2 ⟨y, rfl, ⟨hy0, hy1⟩, hC2, hch2⟩
  have hy4 := hy1 (by omega)
  have hr2 := hr1.chg hch2 (.inl hg)
  clear hy1
  go_wp2_with fail
  refine (sBelow_any _ g A n c lo hi l _ hC2 hr2 hn h8 hg (by omega)).mono ?_
  rintro e w3 ⟨z, rfl, ⟨hz0, hz1⟩, hC3, hch3⟩
  have hz9 := hz1 (by omega)
  clear hz1
  have hchA := hch1.trans (hch2.trans hch3)
  have a0 := (hchA.cell (p := ⟨w.heap.size, 0, none⟩) (by simp) (.inr (by simp; omega))).trans (by go_simp : _ = some (Value.int .i64 0))
  have a1 := (hchA.cell (p := ⟨w.heap.size, 1, none⟩) (by simp) (.inr (by simp; omega))).trans (by go_simp : _ = some (Value.int .i64 0))
  have a2 := (hchA.cell (p := ⟨w.heap.size, 2, none⟩) (by simp) (.inr (by simp; omega))).trans (by go_simp : _ = some (Value.int .i64 0))
  have f0 := (hchA.frozen (p := ⟨w.heap.size, 0, none⟩) (by simp) (.inr (by simp; omega))).trans (by go_simp : _ = false)
  have f1 := (hchA.frozen (p := ⟨w.heap.size, 1, none⟩) (by simp) (.inr (by simp; omega))).trans (by go_simp : _ = false)
  have f2 := (hchA.frozen (p := ⟨w.heap.size, 2, none⟩) (by simp) (.inr (by simp; omega))).trans (by go_simp : _ = false)
  have hch4 : ∀ u v t : Value, Chg g (g + 1) w (((w3.setCell ⟨w.heap.size, 0, none⟩ u).setCell ⟨w.heap.size, 1, none⟩ v).setCell ⟨w.heap.size, 2, none⟩ t) := fun u v t => (((hch0.trans hchA).setCell (.inr (Nat.le_refl _)) _).setCell (.inr (Nat.le_refl _)) _).setCell (.inr (Nat.le_refl _)) _
  have hC4 : ∀ u v t : Value, Cur (((w3.setCell ⟨w.heap.size, 0, none⟩ u).setCell ⟨w.heap.size, 1, none⟩ v).setCell ⟨w.heap.size, 2, none⟩ t) g A n c := fun u v t => hC3.chg (((((Chg.refl w.heap.size (w.heap.size + 1) w3).setCell (.inl ⟨Nat.le_refl _, by simp⟩) u).setCell (.inl ⟨Nat.le_refl _, by simp⟩) v).setCell (.inl ⟨Nat.le_refl _, by simp⟩) t)) (.inl hgl)
  have H4 := hide hch4
  have HC4 := hide hC4
  clear hch4 hC4 hchA hch1 hch2 hch3 hC1 hC2 hC3 hr1 hr2 hC0 hr0 hch0 hC hr
  go_wp2_with fail
  exact bodyPost_ret (v := .agg #[.int .i64 (1 + x), .int .i64 (1 + y), .int .i64 (1 + z)]) (by simp only [results, Try.results68]; go_simp) rfl ⟨_, _, _, rfl, HC4.out _ _ _, H4.out _ _ _⟩
set_option maxHeartbeats 1000000 in
set_option maxRecDepth 100000 in
theorem sDraw11_any (w : World) (g : Nat) (A : Option Addr) (n c lo hi : Nat) (l : List Int) (hC : Cur w g A n c) (hr : Rd w lo hi 1 A n (l.map (.int .u8))) (hn : n ≤ 16777216) (h8 : ∀ x ∈ l, 0 ≤ x ∧ x ≤ 255) (hg : hi ≤ g) :
    Calls Try.prog 80 #[.pointer (some ⟨g, 0, none⟩)] w (DrewBe g A n c 6 w) := by
  have hgl := hC.lt
  have hown0 := own0 w 46 3 w.heap.size rfl
  have hC0 : Cur (w.alloc (.cells #[] 46)) g A n c := hC.below' (by (repeat' (first | (with_reducible exact Below.refl _ _) | (with_reducible assumption) | (with_reducible refine Below.alloc ?_ ?_ _) | (with_reducible refine below_ext ?_ ?_ _ _) | (with_reducible refine Below.setCell ?_ ?_ _) | (with_reducible refine Below.drew ?_) | (with_reducible refine below_drewN ?_ _))); all_goals (first | omega | (simp; done) | (simp; omega)))
  have hr0 := hr.alloc (.cells #[] 46)
  have hch0 : Chg g (g + 1) w (w.alloc (.cells #[] 46)) := (Chg.refl _ _ _).alloc _
  go_enter Try.func80, Try.ntmps80
  go_wp2_with fail
  refine (sBelow_any _ g A n c lo hi l _ hC0 hr0 hn h8 hg (by omega)).mono ?_
  rintro e w1 ⟨i0, rfl, ⟨hi0, hi1⟩, hC1, hch1⟩
  have hi8 := hi1 (by omega)
  have hs1 := hch1.size
  simp at hs1
  have HR0 := hide (show DbRel g A n c w (6 - i0.toNat) (.slice (some ⟨w.heap.size, 0, none⟩) 0 0) w1 from ⟨0, _, 0, [], by omega, rfl, Nat.le_refl _, by unfold maxLen; omega, hide rfl, ((hown0.chg hch1 (.inr (by omega))).more (Nat.le_refl _) (by omega)), hC1, hch0.trans hch1⟩)
  clear hi1 hown0 hC0 hr0 hC1 hch1 hch0
  go_wp2_with fail
  go_loopw [3, 4] (fun q i wr => ∃ j : Nat, j ≤ 6 ∧ i = .int .i64 j ∧ DbRel g A n c w (6 - j) q wr) (fun _ i _ => (intOf i).toNat)
  case atStart => exact ⟨i0.toNat, by omega, by rw [Int.toNat_of_nonneg hi0], HR0.out⟩
  case round =>
    clear HR0
    obtain ⟨j, hj8, rfl, k, A', c', L, hkb, rfl, hkc, hcm, HL, hown, hC1, hch⟩ := hrel
    have hrw := hr.chg hch (.inl hg)
    have hsz := hch.size
    by_cases hlt : 0 < j
    · have hlt' : (0 : Int) < (j : Int) := by omega
      go_wp2_with fail
      refine (sOne11_any _ g A n c lo hi l hC1 hrw hn h8 hg).mono ?_
      rintro e w2 ⟨x, y, z, rfl, hC2, hch2⟩
      have hown2 := hown.chg hch2 (.inr (by omega))
      have hs2 := hch2.size
      have hchB := hch.trans hch2
      clear hown hC1 hch hch2 hrw
      have HO := hide (sSet_any w2 A' k c' _ _ L x y z hown2.rd (by omega))
      have hol := setR_len L x y z
      generalize setR L x y z = O at HO hol
      obtain ⟨L2, bb⟩ := O
      simp only at HO hol
      have hl3 := HL.out
      go_wp2_with fail
      refine (unhide HO).mono ?_
      rintro e w3 ⟨A3, c3', rfl, hc3, hm3, ho3, hb3⟩
      have hs3 := hb3.size
      have HREL := hide (show DbRel g A n c w (6 - (j - 1)) (.slice A3 L2.length c3') w3 from ⟨_, A3, c3', L2, by omega, rfl, hc3, hm3, hide rfl, ho3.more (by omega) (Nat.le_refl _), hC2.below' hb3, hchB.trans (Chg.of_below hb3 g (g + 1))⟩)
      clear hown2 ho3 hC2 hchB hb3 hl3
      go_wp2_with fail
      go_roundw
      case rel => exact ⟨j - 1, by omega, by go_num, HREL.out⟩
      case measure => simp [intOf] <;> omega
    · have hlt' : ¬ (0 : Int) < (j : Int) := by omega
      have HF := hide (show DrewBe g A n c 6 w (.returned (.slice A' k c')) wr from ⟨A', k, c', L, rfl, HL.out, by omega, hown, hkc, hcm, hC1, hch⟩)
      clear hown hC1 hch hrw
      go_wp2_with fail
      go_ret
      exact HF.out
set_option maxHeartbeats 1000000 in
set_option maxRecDepth 100000 in
theorem sAny11_any (w : World) (g : Nat) (A : Option Addr) (n c lo hi : Nat) (l : List Int) (hC : Cur w g A n c) (hr : Rd w lo hi 1 A n (l.map (.int .u8))) (hn : n ≤ 16777216) (h8 : ∀ x ∈ l, 0 ≤ x ∧ x ≤ 255) (hg : hi ≤ g) :
    Calls Try.prog 67 #[.pointer (some ⟨g, 0, none⟩)] w (DrewBe g A n c 12 w) := by
  obtain ⟨i0, hi0, hz0, hz1, hz2⟩ := info_parts infoBearer
  have hgl := hC.lt
  go_enter Try.func67, Try.ntmps67
  go_wp2_with fail
  refine (sDraw11_any _ g A n c lo hi l hC hr hn h8 hg).mono ?_
  rintro e w1 ⟨A1, k1, c1, L1, rfl, hl1, hk1, ho1, hc1, hm1, hC1, hch1⟩
  have hr1 := hr.chg hch1 (.inl hg)
  have hs1 := hch1.size
  clear hC hr
  go_wp2_with fail
  refine (sBelow_any _ g A n c lo hi l _ hC1 hr1 hn h8 hg (by omega)).mono ?_
  rintro e w2 ⟨r, rfl, ⟨hr0, hr9⟩, hC2, hch2⟩
  have hr2 := hr1.chg hch2 (.inl hg)
  have ho2 := ho1.chg hch2 (.inr (by omega))
  have hs2 := hch2.size
  have hchB := hch1.trans hch2
  have hgl2 := hC2.lt
  clear hr9 ho1 hC1 hr1 hch1 hch2
  rcases (show r = 0 ∨ r = 1 ∨ 1 < r by omega) with rfl | rfl | hr3
  · go_wp2_with fail
    refine (sInt_any _ g A n c lo hi l (some ⟨w2.heap.size, 0, none⟩) 3 3 w2.heap.size (w2.heap.size + 1) [0, 8, 9] (hC2.below' (by (repeat' (first | (with_reducible exact Below.refl _ _) | (with_reducible assumption) | (with_reducible refine Below.alloc ?_ ?_ _) | (with_reducible refine below_ext ?_ ?_ _ _) | (with_reducible refine Below.setCell ?_ ?_ _) | (with_reducible refine Below.drew ?_) | (with_reducible refine below_drewN ?_ _))); all_goals (first | omega | (simp; done) | (simp; omega)))) (hr2.below' (by (repeat' (first | (with_reducible exact Below.refl _ _) | (with_reducible assumption) | (with_reducible refine Below.alloc ?_ ?_ _) | (with_reducible refine below_ext ?_ ?_ _ _) | (with_reducible refine Below.setCell ?_ ?_ _) | (with_reducible refine Below.drew ?_) | (with_reducible refine below_drewN ?_ _))); all_goals (first | omega | (simp; done) | (simp; omega)))) hn h8 hg (by simpa using Rd.fresh w2 #[.int .i64 0, .int .i64 8, .int .i64 9] 3 1 3 rfl) hgl2 (by omega) (by omega)).mono ?_
    rintro e w3 ⟨p, rfl, _, hC3, hch3⟩
    have ho3 := (ho2.alloc (.cells #[.int .i64 0, .int .i64 8, .int .i64 9] 3)).chg hch3 (.inr (by omega))
    have hr3 := (hr2.alloc (.cells #[.int .i64 0, .int .i64 8, .int .i64 9] 3)).chg hch3 (.inl hg)
    have hs3 := hch3.size
    simp at hs3
    have hchC := (hchB.alloc (.cells #[.int .i64 0, .int .i64 8, .int .i64 9] 3)).trans hch3
    have hgl3 := hC3.lt
    clear ho2 hC2 hr2 hchB hch3
    go_wp2_with fail
    refine (sInt_any _ g A n c lo hi l (some ⟨w3.heap.size, 0, none⟩) 4 4 w3.heap.size (w3.heap.size + 1) [0, 1, 4, 5] (hC3.below' (by (repeat' (first | (with_reducible exact Below.refl _ _) | (with_reducible assumption) | (with_reducible refine Below.alloc ?_ ?_ _) | (with_reducible refine below_ext ?_ ?_ _ _) | (with_reducible refine Below.setCell ?_ ?_ _) | (with_reducible refine Below.drew ?_) | (with_reducible refine below_drewN ?_ _))); all_goals (first | omega | (simp; done) | (simp; omega)))) (hr3.below' (by (repeat' (first | (with_reducible exact Below.refl _ _) | (with_reducible assumption) | (with_reducible refine Below.alloc ?_ ?_ _) | (with_reducible refine below_ext ?_ ?_ _ _) | (with_reducible refine Below.setCell ?_ ?_ _) | (with_reducible refine Below.drew ?_) | (with_reducible refine below_drewN ?_ _))); all_goals (first | omega | (simp; done) | (simp; omega)))) hn h8 hg (by simpa using Rd.fresh w3 #[.int .i64 0, .int .i64 1, .int .i64 4, .int .i64 5] 3 1 4 rfl) hgl3 (by omega) (by omega)).mono ?_
    rintro e w4 ⟨q, rfl, _, hC4, hch4⟩
    have ho4 := (ho3.alloc (.cells #[.int .i64 0, .int .i64 1, .int .i64 4, .int .i64 5] 3)).chg hch4 (.inr (by omega))
    have hr4 := (hr3.alloc (.cells #[.int .i64 0, .int .i64 1, .int .i64 4, .int .i64 5] 3)).chg hch4 (.inl hg)
    have hs4 := hch4.size
    simp at hs4
    have hchD := (hchC.alloc (.cells #[.int .i64 0, .int .i64 1, .int .i64 4, .int .i64 5] 3)).trans hch4
    have hgl4 := hC4.lt
    clear ho3 hC3 hr3 hchC hch4
    go_wp2_with fail
    refine (sInt_any _ g A n c lo hi l (some ⟨w4.heap.size, 0, none⟩) 4 4 w4.heap.size (w4.heap.size + 1) [0, 1, 1000, 1001] (hC4.below' (by (repeat' (first | (with_reducible exact Below.refl _ _) | (with_reducible assumption) | (with_reducible refine Below.alloc ?_ ?_ _) | (with_reducible refine below_ext ?_ ?_ _ _) | (with_reducible refine Below.setCell ?_ ?_ _) | (with_reducible refine Below.drew ?_) | (with_reducible refine below_drewN ?_ _))); all_goals (first | omega | (simp; done) | (simp; omega)))) (hr4.below' (by (repeat' (first | (with_reducible exact Below.refl _ _) | (with_reducible assumption) | (with_reducible refine Below.alloc ?_ ?_ _) | (with_reducible refine below_ext ?_ ?_ _ _) | (with_reducible refine Below.setCell ?_ ?_ _) | (with_reducible refine Below.drew ?_) | (with_reducible refine below_drewN ?_ _))); all_goals (first | omega | (simp; done) | (simp; omega)))) hn h8 hg (by simpa using Rd.fresh w4 #[.int .i64 0, .int .i64 1, .int .i64 1000, .int .i64 1001] 3 1 4 rfl) hgl4 (by omega) (by omega)).mono ?_
    rintro e w5 ⟨s, rfl, _, hC5, hch5⟩
    have ho5 := (ho4.alloc (.cells #[.int .i64 0, .int .i64 1, .int .i64 1000, .int .i64 1001] 3)).chg hch5 (.inr (by omega))
    have hs5 := hch5.size
    simp at hs5
    have hchE := (hchD.alloc (.cells #[.int .i64 0, .int .i64 1, .int .i64 1000, .int .i64 1001] 3)).trans hch5
    clear ho4 hC4 hr4 hchD hch5
    have hfr := rdBox w5 #[.int .i64 p, .int .i64 q, .int .i64 s] 46 3 w5.heap.size rfl rfl
    go_wp2_with (at_builtin; refine wpList_app _ rfl (.tmp 10) (.tmp 21) 25 rfl 46 i0 (.agg #[.int .i64 0, .int .i64 0, .int .i64 0]) 3 24 w.heap.size w1.heap.size w5.heap.size (w5.heap.size + 1) Try.underlying25 hi0 hz0 hz1 hz2 rfl (by omega) _ k1 _ rfl (ho5.alloc _) _ 1 1 _ rfl hfr (by simp [Value.oneCell']) (by unfold maxLen; omega) (by omega) (by first | omega | (simp <;> omega)) (by first | omega | (simp <;> omega)) ?_; intro A6 c6 w6 hown6 hc6 hm6 hch6)
    have hown7 : Own w6 w.heap.size w6.heap.size 46 3 (.slice A6 (k1 + 1) c6) (k1 + 1) ((L1 ++ [(p, q, s)]).flatMap c3) := by simpa [c3] using hown6
    have HF := hide (show DrewBe g A n c 12 w (.returned (.slice A6 (k1 + 1) c6)) w6 from ⟨A6, _, c6, L1 ++ [(p, q, s)], rfl, by simp [hl1], by omega, hown7, hc6, hm6, (hC5.below' (by (repeat' (first | (with_reducible exact Below.refl _ _) | (with_reducible assumption) | (with_reducible refine Below.alloc ?_ ?_ _) | (with_reducible refine below_ext ?_ ?_ _ _) | (with_reducible refine Below.setCell ?_ ?_ _) | (with_reducible refine Below.drew ?_) | (with_reducible refine below_drewN ?_ _))); all_goals (first | omega | (simp; done) | (simp; omega)))).chg hch6 (.inl hgl), (hchE.alloc _).then_new hch6 (Nat.le_refl _)⟩)
    clear ho5 hC5 hchE hfr hown6 hown7 hch6
    go_wp2_with fail
    go_ret
    exact HF.out
  · have HC := hide (sCopyBe_any w2 A1 k1 c1 _ _ L1 ho2.rd (by omega))
    go_wp2_with fail
    refine (unhide HC).mono ?_
    rintro e w3 ⟨A3, c3', rfl, hc3, hm3, ho3, hb3⟩
    have ho23 := ho2.below' hb3
    have hs3 := hb3.size
    have hC3 := hC2.below' hb3
    have hchC := hchB.trans (Chg.of_below hb3 g (g + 1))
    clear hC2 hchB hr2 ho2 hb3
    go_wp2_with (at_builtin; refine wpList_app _ rfl (.tmp 25) (.tmp 27) 25 rfl 46 i0 (.agg #[.int .i64 0, .int .i64 0, .int .i64 0]) 3 24 w.heap.size w1.heap.size w2.heap.size w3.heap.size Try.underlying25 hi0 hz0 hz1 hz2 rfl (by omega) _ k1 _ rfl ho23 _ k1 _ _ rfl ho3.rd (c3_one _) (by unfold maxLen; omega) (by omega) (by first | omega | (simp <;> omega)) (by first | omega | (simp <;> omega)) ?_; intro A6 c6 w6 hown6 hc6 hm6 hch6)
    have hown7 : Own w6 w.heap.size w6.heap.size 46 3 (.slice A6 (k1 + k1) c6) (k1 + k1) ((L1 ++ L1).flatMap c3) := by simpa using hown6
    have HF := hide (show DrewBe g A n c 12 w (.returned (.slice A6 (k1 + k1) c6)) w6 from ⟨A6, _, c6, L1 ++ L1, rfl, by simp [hl1], by omega, hown7, hc6, hm6, hC3.chg hch6 (.inl hgl), hchC.then_new hch6 (Nat.le_refl _)⟩)
    clear ho23 ho3 hC3 hchC hown6 hown7 hch6
    go_wp2_with fail
    go_ret
    exact HF.out
  · have e0 : (r == 0) = false := by simp; omega
    have e1 : (r == 1) = false := by simp; omega
    have HF := hide (show DrewBe g A n c 12 w (.returned (.slice A1 k1 c1)) w2 from ⟨A1, k1, c1, L1, rfl, hl1, by omega, ho2.more (Nat.le_refl _) hs2, hc1, hm1, hC2, hchB⟩)
    clear ho2 hC2 hchB hr2
    go_wp2_with fail
    go_ret
    exact HF.out
end Go.Proofs.Yticfmkfiibhafaa
