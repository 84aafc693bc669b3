/- Two key paths drawn: l7Two. -/
import Derived.Test.YtbfmdnlfbadokaaKtE
namespace Go.Proofs.Ytbfmdnlfbadokaa
open Go.RowKit Go.Sep

theorem rd_take1 {n lo hi k : Nat} {A : Option Addr} {W : World} {l : List Int} (h : Rd W lo hi 1 A n (l.map (.int .i64))) (hk : k ≤ n) : Rd W lo hi 1 A k ((l.take k).map (.int .i64)) := by
  have := h.take hk
  rw [Nat.mul_one, ← List.map_take] at this
  exact this
/-- What l7Two leaves. -/
def TwoK (w : World) (e : Ending) (w' : World) : Prop :=
  ∃ (A1 A2 : Option Addr) (k1 k2 c1 c2 : Nat) (L1 L2 : List Int), e = .returned (.tuple #[.agg #[.slice A1 k1 c1], .agg #[.slice A2 k2 c2]]) ∧ L1.length = k1 ∧ k1 ≤ 7 ∧ L2.length = k2 ∧ k2 ≤ 7 ∧
    Rd w' w.heap.size w'.heap.size 1 A1 k1 (L1.map (.int .i64)) ∧ Rd w' w.heap.size w'.heap.size 1 A2 k2 (L2.map (.int .i64)) ∧ k1 ≤ c1 ∧ c1 ≤ maxLen ∧ k2 ≤ c2 ∧ c2 ≤ maxLen ∧ Below w.heap.size w w'
set_option maxHeartbeats 1000000 in
set_option maxRecDepth 100000 in
theorem sTwo_any (w : World) (A : Option Addr) (n c : Nat) (l : List Int) (hr : Rd w 0 w.heap.size 1 A n (l.map (.int .u8))) (hn : n ≤ 16777216) (h8 : ∀ x ∈ l, 0 ≤ x ∧ x ≤ 255) :
    Calls Try.prog 78 #[.slice A n c] w (TwoK w) := by
  obtain ⟨i0, hi0, hz0, hz1, hz2⟩ := info_parts infoIntS
  have hx0 := (Bx1.new w 45 (.slice none 0 0)).below' (w' := ((w.alloc (.cells #[.slice none 0 0] 45)).alloc (.cells #[.slice none 0 0] 45))) (by (repeat' (first | (with_reducible exact Below.refl _ _) | (with_reducible assumption) | (with_reducible refine Below.alloc ?_ ?_ _) | (with_reducible refine below_ext ?_ ?_ _ _) | (with_reducible refine Below.setCell ?_ ?_ _) | (with_reducible refine Below.drew ?_) | (with_reducible refine below_drewN ?_ _))); all_goals (first | omega | (simp; done) | (simp; omega)))
  have hy0 := Bx1.new (w.alloc (.cells #[.slice none 0 0] 45)) 45 (.slice none 0 0)
  rw [show (w.alloc (.cells #[.slice none 0 0] 45)).heap.size = w.heap.size + 1 by simp] at hy0
  go_enter Try.func78, Try.ntmps78
  go_wp2_with fail
  refine (sNew_any _ A n c _ _ l ((hr.alloc _).alloc _) hn h8).mono ?_
  rintro e w1 ⟨g, rfl, hg, hC1, hb1⟩
  have hg' : w.heap.size + 2 ≤ g := by simpa using hg
  have hr1 := ((hr.alloc (.cells #[.slice none 0 0] 45)).alloc (.cells #[.slice none 0 0] 45)).below' hb1
  have hx1 := hx0.below' hb1
  have hy1 := hy0.below' hb1
  have hs1 := hb1.size
  simp at hs1
  have hbw1 : Below w.heap.size w w1 := below_then (((Below.refl _ _).alloc (Nat.le_refl _) _).alloc (by simp) _) hb1 (by simp; omega)
  clear hb1 hx0 hy0
  go_wp2_with fail
  refine (sAny7_any _ g A n c _ _ l hC1 hr1 hn h8 (by omega)).mono ?_
  rintro e w2 ⟨A2, k2, c2, L2, rfl, hL2, hk2, hown2, hkc2, hcm2, hC2, hch2⟩
  have hz0' := Bx1.new w2 45 (.slice A2 k2 c2)
  have hCb : Cur (w2.alloc (.cells #[.slice A2 k2 c2] 45)) g A n c := hC2.below' (by (repeat' (first | (with_reducible exact Below.refl _ _) | (with_reducible assumption) | (with_reducible refine Below.alloc ?_ ?_ _) | (with_reducible refine below_ext ?_ ?_ _ _) | (with_reducible refine Below.setCell ?_ ?_ _) | (with_reducible refine Below.drew ?_) | (with_reducible refine below_drewN ?_ _))); all_goals (first | omega | (simp; done) | (simp; omega)))
  have hrb := (hr1.chg hch2 (.inl (by omega))).alloc (.cells #[.slice A2 k2 c2] 45)
  have hownb := hown2.alloc (.cells #[.slice A2 k2 c2] 45)
  have hchb := hch2.alloc (.cells #[.slice A2 k2 c2] 45)
  have hs2 := hch2.size
  clear hC2 hown2 hch2
  go_wp2_with fail
  refine (sOnce_any _ g A n c _ _ l _ hCb hrb hn h8 (by omega) (by omega)).mono ?_
  rintro e w3 ⟨bb, rfl, hC3, hch3⟩
  have hch13 := hchb.trans hch3
  have hx3 := hx1.chg hch13 (.inl (by omega))
  have hy3 := hy1.chg hch13 (.inl (by omega))
  have hz3 := hz0'.chg hch3 (.inr (by have := hC1.lt; omega))
  have hr3 := hrb.chg hch3 (.inl (by omega))
  have hown3 := hownb.chg hch3 (.inr (by have := hC1.lt; omega))
  have hs3 := hch3.size
  simp at hs3
  have hgl := hC1.lt
  clear hchb hch3 hCb hrb hownb hx1 hy1 hz0' hr1
  cases bb
  · have HXYZ := hide (And.intro hx3 (And.intro hy3 hz3))
    obtain ⟨z0, zf0⟩ := hz3
    obtain ⟨x0, xf0⟩ := hx3
    obtain ⟨y0, yf0⟩ := hy3
    go_wp2_with fail
    go_region_law (first
      | (go_simp; go_at_call 95; (with_reducible refine (sAny7_any _ g A n c _ _ l (hC3.below' (by (repeat' (first | (with_reducible exact Below.refl _ _) | (with_reducible assumption) | (with_reducible refine Below.alloc ?_ ?_ _) | (with_reducible refine below_ext ?_ ?_ _ _) | (with_reducible refine Below.setCell ?_ ?_ _) | (with_reducible refine Below.drew ?_) | (with_reducible refine below_drewN ?_ _))); all_goals (first | omega | (simp; done) | (simp; omega)))) (hr3.below' (by (repeat' (first | (with_reducible exact Below.refl _ _) | (with_reducible assumption) | (with_reducible refine Below.alloc ?_ ?_ _) | (with_reducible refine below_ext ?_ ?_ _ _) | (with_reducible refine Below.setCell ?_ ?_ _) | (with_reducible refine Below.drew ?_) | (with_reducible refine below_drewN ?_ _))); all_goals (first | omega | (simp; done) | (simp; omega)))) hn h8 (by omega)).mono ?_); rintro e wa ⟨A5, k5, c5, L5, rfl, hL5, hk5, hown5, hkc5, hcm5, hCa, hcha⟩; have hchA := (Chg.of_below (show Below w3.heap.size w3 _ from (by (repeat' (first | (with_reducible exact Below.refl _ _) | (with_reducible assumption) | (with_reducible refine Below.alloc ?_ ?_ _) | (with_reducible refine below_ext ?_ ?_ _ _) | (with_reducible refine Below.setCell ?_ ?_ _) | (with_reducible refine Below.drew ?_) | (with_reducible refine below_drewN ?_ _))); all_goals (first | omega | (simp; done) | (simp; omega)))) g (g + 1)).trans hcha; have hsa := hchA.size; have HX := hide (HXYZ.out.1.chg hchA (.inl (by omega))); have HY := hide (HXYZ.out.2.1.chg hchA (.inl (by omega))); have HZ := hide (HXYZ.out.2.2.chg hchA (.inr (by omega))); obtain ⟨p0, pf0⟩ := HX.out; obtain ⟨q0, qf0⟩ := HY.out; obtain ⟨t0, tf0⟩ := HZ.out; have hownA := hown3.chg hchA (.inr (by omega)); have ho5 := hown5.more (show w3.heap.size ≤ _ by first | exact Nat.le_refl _ | simp) (Nat.le_refl _))
      | fail)
    all_goals
      have hbwa : Below w.heap.size w wa := below_then hbw1 ((hch13.trans hchA).below (B := w.heap.size) (by omega) (by omega)) (Nat.le_refl _)
      have HF := hide (show TwoK w (.returned (.tuple #[.agg #[.slice A5 k5 c5], .agg #[.slice A2 k2 c2]])) ((wa.setCell ⟨w.heap.size, 0, none⟩ (.slice A5 k5 c5)).setCell ⟨w.heap.size + 1, 0, none⟩ (.slice A2 k2 c2)) from
        ⟨A5, A2, k5, k2, c5, c2, L5, L2, rfl, hL5, hk5, hL2, hk2, ((ho5.rd.chg (chg1 (w := wa) (Nat.le_refl w.heap.size) (Nat.lt_succ_self _) (.slice A5 k5 c5)) (.inr (by omega))).chg (chg1 (w := wa.setCell ⟨w.heap.size, 0, none⟩ (.slice A5 k5 c5)) (Nat.le_refl (w.heap.size + 1)) (Nat.lt_succ_self _) (.slice A2 k2 c2)) (.inr (by omega))).more (by omega) (by simp), ((hownA.rd.chg (chg1 (w := wa) (Nat.le_refl w.heap.size) (Nat.lt_succ_self _) (.slice A5 k5 c5)) (.inr (by omega))).chg (chg1 (w := wa.setCell ⟨w.heap.size, 0, none⟩ (.slice A5 k5 c5)) (Nat.le_refl (w.heap.size + 1)) (Nat.lt_succ_self _) (.slice A2 k2 c2)) (.inr (by omega))).more (by omega) (by simp; omega), hkc5, hcm5, hkc2, hcm2, (hbwa.setCell (by simp) _).setCell (by simp) _⟩)
      clear hown5 hownA ho5 hown3 hchA hcha hCa hC3 hch13 hr3 hbwa hbw1 HXYZ HX HY HZ
      go_wp2_with fail
      exact bodyPost_ret (v := .tuple #[.agg #[.slice A5 k5 c5], .agg #[.slice A2 k2 c2]]) (by simp only [results, Try.results78]; go_simp) rfl HF.out
  · have HXYZ := hide (And.intro hx3 (And.intro hy3 hz3))
    obtain ⟨z0, zf0⟩ := hz3
    clear hx3 hy3
    go_wp2_with fail
    refine (sBelow_any _ g A n c _ _ l _ hC3 hr3 hn h8 (by omega) (by omega)).mono ?_
    rintro e w4 ⟨q, rfl, ⟨hq0, hq1⟩, hC4, hch4⟩
    have hq2 := hq1 (by omega)
    obtain ⟨j, rfl⟩ : ∃ j : Nat, q = j := ⟨q.toNat, by omega⟩
    have hj : j ≤ k2 := by omega
    have hjc : j ≤ c2 := by omega
    have hs4 := hch4.size
    have hown4 := hown3.chg hch4 (.inr (by omega))
    have HX := hide (HXYZ.out.1.chg hch4 (.inl (by omega)))
    have HY := hide (HXYZ.out.2.1.chg hch4 (.inl (by omega)))
    have HZ := hide (HXYZ.out.2.2.chg hch4 (.inr (by omega)))
    have hbw4 : Below w.heap.size w w4 := below_then hbw1 ((hch13.trans hch4).below (B := w.heap.size) (by omega) (by omega)) (Nat.le_refl _)
    have hlw : w2.heap.size < w4.heap.size := by omega
    have hlw1 : w.heap.size + 1 < w4.heap.size := by omega
    have hlw0 : w.heap.size < w4.heap.size := by omega
    clear hq1 hch4 hC3 hC4 hr3 hown3 hch13 HXYZ hbw1 z0 zf0
    obtain ⟨x0, xf0⟩ := HX.out
    obtain ⟨y0, yf0⟩ := HY.out
    obtain ⟨z0, zf0⟩ := HZ.out
    go_wp2_with fail
    go_region_law (first
      | (refine step_app _ rfl (.tmp 19) (.tmp 23) 40 rfl 3 i0 (.int .i64 0) 1 8 w4.heap.size (w4.heap.size + 1) w1.heap.size w2.heap.size Try.underlying40 hi0 hz0 hz1 hz2 rfl (by omega) (.slice (some ⟨w4.heap.size, 0, none⟩) 0 0) 0 [] (by simp [Act.eval, Act.put]) ((Own.fresh w4 #[] 3 1 0 rfl (by unfold maxLen; omega)).drew) A2 j c2 ((L2.take j).map (.int .i64)) (by simp [Act.eval, Act.put]) (rd_take1 (hown4.rd.below' (by (repeat' (first | (with_reducible exact Below.refl _ _) | (with_reducible assumption) | (with_reducible refine Below.alloc ?_ ?_ _) | (with_reducible refine below_ext ?_ ?_ _ _) | (with_reducible refine Below.setCell ?_ ?_ _) | (with_reducible refine Below.drew ?_) | (with_reducible refine below_drewN ?_ _))); all_goals (first | omega | (simp; done) | (simp; omega)))) hj) (fun u hu => by obtain ⟨x, _, rfl⟩ := List.mem_map.1 hu; rfl) (by unfold maxLen; omega) (by omega) (by first | omega | (simp <;> omega)) (by first | omega | (simp <;> omega)) ?_; intro A5 c5 w5 hown5 hc5 hm5 hch5; have hs5 := hch5.size; (try simp at hs5); have HX5 := hide ((HX.out.below' (show Below w4.heap.size w4 _ from (by (repeat' (first | (with_reducible exact Below.refl _ _) | (with_reducible assumption) | (with_reducible refine Below.alloc ?_ ?_ _) | (with_reducible refine below_ext ?_ ?_ _ _) | (with_reducible refine Below.setCell ?_ ?_ _) | (with_reducible refine Below.drew ?_) | (with_reducible refine below_drewN ?_ _))); all_goals (first | omega | (simp; done) | (simp; omega))))).chg hch5 (.inl (by omega))); have HY5 := hide ((HY.out.below' (show Below w4.heap.size w4 _ from (by (repeat' (first | (with_reducible exact Below.refl _ _) | (with_reducible assumption) | (with_reducible refine Below.alloc ?_ ?_ _) | (with_reducible refine below_ext ?_ ?_ _ _) | (with_reducible refine Below.setCell ?_ ?_ _) | (with_reducible refine Below.drew ?_) | (with_reducible refine below_drewN ?_ _))); all_goals (first | omega | (simp; done) | (simp; omega))))).chg hch5 (.inl (by omega))); have HZ5 := hide ((HZ.out.below' (show Below w4.heap.size w4 _ from (by (repeat' (first | (with_reducible exact Below.refl _ _) | (with_reducible assumption) | (with_reducible refine Below.alloc ?_ ?_ _) | (with_reducible refine below_ext ?_ ?_ _ _) | (with_reducible refine Below.setCell ?_ ?_ _) | (with_reducible refine Below.drew ?_) | (with_reducible refine below_drewN ?_ _))); all_goals (first | omega | (simp; done) | (simp; omega))))).chg hch5 (.inl (by omega))); obtain ⟨p0, pf0⟩ := HX5.out; obtain ⟨q0, qf0⟩ := HY5.out; obtain ⟨t0, tf0⟩ := HZ5.out; have hownA := (hown4.below' (show Below w4.heap.size w4 _ from (by (repeat' (first | (with_reducible exact Below.refl _ _) | (with_reducible assumption) | (with_reducible refine Below.alloc ?_ ?_ _) | (with_reducible refine below_ext ?_ ?_ _ _) | (with_reducible refine Below.setCell ?_ ?_ _) | (with_reducible refine Below.drew ?_) | (with_reducible refine below_drewN ?_ _))); all_goals (first | omega | (simp; done) | (simp; omega))))).chg hch5 (.inl (by omega)); have hbw5 : Below w.heap.size w w5 := below_then (below_then hbw4 (show Below w4.heap.size w4 _ from (by (repeat' (first | (with_reducible exact Below.refl _ _) | (with_reducible assumption) | (with_reducible refine Below.alloc ?_ ?_ _) | (with_reducible refine below_ext ?_ ?_ _ _) | (with_reducible refine Below.setCell ?_ ?_ _) | (with_reducible refine Below.drew ?_) | (with_reducible refine below_drewN ?_ _))); all_goals (first | omega | (simp; done) | (simp; omega)))) hbw4.size) (hch5.below (B := w.heap.size) (by omega) (by simp; omega)) (Nat.le_refl _))
      | fail)
    all_goals
      have hc6 : j ≤ c5 := by omega
      have hown6 : Own w5 w4.heap.size w5.heap.size 3 1 (.slice A5 j c5) j ((L2.take j).map (.int .i64)) := by simpa using hown5
      have HF := hide (show TwoK w (.returned (.tuple #[.agg #[.slice A5 j c5], .agg #[.slice A2 k2 c2]])) ((w5.setCell ⟨w.heap.size, 0, none⟩ (.slice A5 j c5)).setCell ⟨w.heap.size + 1, 0, none⟩ (.slice A2 k2 c2)) from
        ⟨A5, A2, j, k2, c5, c2, L2.take j, L2, rfl, by simp; omega, by omega, hL2, hk2, ((hown6.rd.chg (chg1 (w := w5) (Nat.le_refl w.heap.size) (Nat.lt_succ_self _) (.slice A5 j c5)) (.inr (by omega))).chg (chg1 (w := w5.setCell ⟨w.heap.size, 0, none⟩ (.slice A5 j c5)) (Nat.le_refl (w.heap.size + 1)) (Nat.lt_succ_self _) (.slice A2 k2 c2)) (.inr (by omega))).more (by omega) (by simp), ((hownA.rd.chg (chg1 (w := w5) (Nat.le_refl w.heap.size) (Nat.lt_succ_self _) (.slice A5 j c5)) (.inr (by omega))).chg (chg1 (w := w5.setCell ⟨w.heap.size, 0, none⟩ (.slice A5 j c5)) (Nat.le_refl (w.heap.size + 1)) (Nat.lt_succ_self _) (.slice A2 k2 c2)) (.inr (by omega))).more (by omega) (by simp; omega), hc6, hm5, hkc2, hcm2, (hbw5.setCell (by simp) _).setCell (by simp) _⟩)
      clear hown5 hown6 hownA hown4 hch5 hbw5 hbw4 HX HY HZ HX5 HY5 HZ5
      go_wp2_with fail
      exact bodyPost_ret (v := .tuple #[.agg #[.slice A5 j c5], .agg #[.slice A2 k2 c2]]) (by simp only [results, Try.results78]; go_simp) rfl HF.out
end Go.Proofs.Ytbfmdnlfbadokaa
