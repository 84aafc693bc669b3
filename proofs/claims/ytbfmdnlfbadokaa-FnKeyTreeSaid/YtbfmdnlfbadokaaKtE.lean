/- Key paths drawn: l7Any. -/
import Derived.Test.YtbfmdnlfbadokaaKtD
namespace Go.Proofs.Ytbfmdnlfbadokaa
open Go.RowKit Go.Sep

/-- A row of ints does not lie in a block whose first cell is a slice: it lies before it or behind it. -/
theorem own_splitI {w : World} {lo hi n c P : Nat} {e : TypeId} {A : Option Addr} {bs : List Int} {B : Option Addr} {m q : Nat} (h : Own w lo hi e 1 (.slice A n c) n (bs.map (.int .i64))) (hn : 0 < n) (hP : w.cell? ⟨P, 0, none⟩ = some (.slice B m q)) :
    Own w lo P e 1 (.slice A n c) n (bs.map (.int .i64)) ∨ Own w (P + 1) hi e 1 (.slice A n c) n (bs.map (.int .i64)) := by
  have hlen := h.len
  obtain ⟨b, o, hA, _, _, hcell⟩ := h.rd.2 hn
  obtain ⟨A', c', hv, _, _, hA'⟩ := h.form
  injection hv with e1 _ e3
  subst e1 e3
  rcases hA' with ⟨_, h0, _⟩ | ⟨g, rfl, hg1, hg2, hg3⟩
  · omega
  · injection hA with hA
    injection hA with e1 e2 _
    subst e1 e2
    have hne : g ≠ P := by
      rintro rfl
      obtain ⟨x, hx⟩ : ∃ x, (bs.map (Value.int .i64))[0]? = some (.int .i64 x) := by
        rcases bs with _ | ⟨x, r⟩
        · simp at hlen; omega
        · exact ⟨x, rfl⟩
      have := hcell 0 _ hx
      rw [Nat.add_zero, hP] at this
      injection this with this
      cases this
    rcases Nat.lt_or_ge g P with hlt | hge
    · exact .inl ⟨h.row, fun k hk => by simp [Value.ownBlock] at hk; omega⟩
    · refine .inr ⟨⟨h.row.1, ?_⟩, h.lt⟩
      rcases h.row.2 with ⟨h0, _⟩ | ⟨g', cap, cur, hv, hg, r⟩
      · simp at h0
      · refine .inr ⟨g', cap, cur, hv, ?_, r⟩
        simp only [Value.slice.injEq, Option.some.injEq, Addr.mk.injEq, and_true, true_and] at hv
        omega
/-- What holds between two rounds of the growing loop. -/
def K7 (g : Nat) (A : Option Addr) (n c : Nat) (w w1 wr : World) : Prop := ∃ (k : Nat) (A' : Option Addr) (c' : Nat) (L : List Int) (lo2 hi2 : Nat), L.length = k ∧ k ≤ 7 ∧ k ≤ c' ∧ c' ≤ maxLen ∧ w.heap.size + 1 ≤ lo2 ∧ (w1.heap.size < lo2 ∨ hi2 ≤ w1.heap.size) ∧ hi2 ≤ wr.heap.size ∧ lo2 ≤ wr.heap.size ∧ Own wr lo2 hi2 3 1 (.slice A' k c') k (L.map (.int .i64)) ∧ Bx1 wr w1.heap.size (.slice A' k c') ∧ Bx1 wr w.heap.size (.slice none 0 0) ∧ Cur wr g A n c ∧ Chg g (g + 1) w wr
set_option maxHeartbeats 1000000 in
set_option maxRecDepth 100000 in
theorem sAny7_any (w : World) (g : Nat) (A : Option Addr) (n c lo hi : Nat) (l : List Int) (hC : Cur w g A n c) (hr : Rd w lo hi 1 A n (l.map (.int .u8))) (hn : n ≤ 16777216) (h8 : ∀ x ∈ l, 0 ≤ x ∧ x ≤ 255) (hg : hi ≤ g) :
    Calls Try.prog 95 #[.pointer (some ⟨g, 0, none⟩)] w (DrewK 7 g A n c w) := by
  have hgl := hC.lt
  obtain ⟨i0, hi0, hz0, hz1, hz2⟩ := info_parts infoIntS
  have hx0 := Bx1.new w 45 (.slice none 0 0)
  have hC0 : Cur (w.alloc (.cells #[.slice none 0 0] 45)) g A n c := hC.below' (by (repeat' (first | (with_reducible exact Below.refl _ _) | (with_reducible assumption) | (with_reducible refine Below.alloc ?_ ?_ _) | (with_reducible refine below_ext ?_ ?_ _ _) | (with_reducible refine Below.setCell ?_ ?_ _) | (with_reducible refine Below.drew ?_) | (with_reducible refine below_drewN ?_ _))); all_goals (first | omega | (simp; done) | (simp; omega)))
  have hr0 := hr.alloc (.cells #[.slice none 0 0] 45)
  have hch0 : Chg g (g + 1) w (w.alloc (.cells #[.slice none 0 0] 45)) := (Chg.refl _ _ _).alloc _
  go_enter Try.func95, Try.ntmps95
  go_wp2_with fail
  refine (sNode_any _ g A n c lo hi l hC0 hr0 hn h8 hg).mono ?_
  rintro e w1 ⟨A1, k1, c1, L1, rfl, hL1, hk1, hown1, hkc1, hcm1, hC1, hch1⟩
  have hr1 := hr0.chg hch1 (.inl hg)
  have hs1 := hch1.size
  simp at hs1
  rw [show (w.alloc (.cells #[.slice none 0 0] 45)).heap.size = w.heap.size + 1 by simp] at hown1
  have hx1 := (hx0.chg hch1 (.inr (by omega))).below' (w' := w1.alloc (.cells #[.slice A1 k1 c1] 45)) (by (repeat' (first | (with_reducible exact Below.refl _ _) | (with_reducible assumption) | (with_reducible refine Below.alloc ?_ ?_ _) | (with_reducible refine below_ext ?_ ?_ _ _) | (with_reducible refine Below.setCell ?_ ?_ _) | (with_reducible refine Below.drew ?_) | (with_reducible refine below_drewN ?_ _))); all_goals (first | omega | (simp; done) | (simp; omega)))
  have hy1 := Bx1.new w1 45 (.slice A1 k1 c1)
  have hC2 : Cur (w1.alloc (.cells #[.slice A1 k1 c1] 45)) g A n c := hC1.below' (by (repeat' (first | (with_reducible exact Below.refl _ _) | (with_reducible assumption) | (with_reducible refine Below.alloc ?_ ?_ _) | (with_reducible refine below_ext ?_ ?_ _ _) | (with_reducible refine Below.setCell ?_ ?_ _) | (with_reducible refine Below.drew ?_) | (with_reducible refine below_drewN ?_ _))); all_goals (first | omega | (simp; done) | (simp; omega)))
  have hr2 := hr1.alloc (.cells #[.slice A1 k1 c1] 45)
  have hch2 : Chg g (g + 1) w (w1.alloc (.cells #[.slice A1 k1 c1] 45)) := (hch0.trans hch1).alloc _
  have hown2 := hown1.alloc (.cells #[.slice A1 k1 c1] 45)
  clear hC0 hr0 hch0 hx0 hC1 hr1 hch1 hown1
  go_wp2_with fail
  refine (sBelow_any _ g A n c lo hi l _ hC2 hr2 hn h8 hg (by omega)).mono ?_
  rintro e w2 ⟨z, rfl, ⟨hz00, hz01⟩, hC3, hch3⟩
  have hx3 := hx1.chg hch3 (.inr (by omega))
  have hy3 := hy1.chg hch3 (.inr (by omega))
  have hown3 := hown2.chg hch3 (.inr (by omega))
  have hr3 := hr2.chg hch3 (.inl hg)
  have hchB := hch2.trans hch3
  have hs3 := hch3.size
  simp at hs3
  have hzz : z = 0 ∨ z = 1 ∨ (z ≠ 0 ∧ z ≠ 1) := by omega
  clear hz01 hC2 hr2 hch2 hch3 hx1 hy1 hown2
  rcases hzz with rfl | rfl | ⟨hne0, hne1⟩
  · have hlw2 : w1.heap.size < w2.heap.size := by omega
    have HXY := hide hy3
    obtain ⟨y0, yf0⟩ := hy3
    go_wp2_with fail
    go_region_law (first
      | (go_simp; go_at_call 93; (refine (sInt_any _ g A n c lo hi l (some ⟨w2.heap.size, 0, none⟩) 2 2 w2.heap.size (w2.heap.size + 1) [-1, 1000000000001] (hC3.below' (by (repeat' (first | (with_reducible exact Below.refl _ _) | (with_reducible assumption) | (with_reducible refine Below.alloc ?_ ?_ _) | (with_reducible refine below_ext ?_ ?_ _ _) | (with_reducible refine Below.setCell ?_ ?_ _) | (with_reducible refine Below.drew ?_) | (with_reducible refine below_drewN ?_ _))); all_goals (first | omega | (simp; done) | (simp; omega)))) (hr3.below' (by (repeat' (first | (with_reducible exact Below.refl _ _) | (with_reducible assumption) | (with_reducible refine Below.alloc ?_ ?_ _) | (with_reducible refine below_ext ?_ ?_ _ _) | (with_reducible refine Below.setCell ?_ ?_ _) | (with_reducible refine Below.drew ?_) | (with_reducible refine below_drewN ?_ _))); all_goals (first | omega | (simp; done) | (simp; omega)))) hn h8 hg ((Rd.fresh w2 #[.int .i64 (-1), .int .i64 1000000000001] 3 1 2 rfl).drew) hC3.lt (by omega) (by omega)).mono ?_); rintro e wa ⟨q, rfl, _, hCa, hcha⟩; have hchA := (Chg.of_below (show Below w2.heap.size w2 _ from (by (repeat' (first | (with_reducible exact Below.refl _ _) | (with_reducible assumption) | (with_reducible refine Below.alloc ?_ ?_ _) | (with_reducible refine below_ext ?_ ?_ _ _) | (with_reducible refine Below.setCell ?_ ?_ _) | (with_reducible refine Below.drew ?_) | (with_reducible refine below_drewN ?_ _))); all_goals (first | omega | (simp; done) | (simp; omega)))) g (g + 1)).trans hcha; have hsa := hchA.size; have hlw : w1.heap.size < wa.heap.size := (by omega); have HYA := hide (HXY.out.chg hchA (.inr (by omega))); obtain ⟨p0, pf0⟩ := HYA.out; have hownA := hown3.chg hchA (.inr (by omega)))
      | (refine step_app _ rfl (.tmp 11) (.tmp 15) 40 rfl 3 i0 (.int .i64 0) 1 8 (w.heap.size + 1) w1.heap.size wa.heap.size (wa.heap.size + 1) Try.underlying40 hi0 hz0 hz1 hz2 rfl (by omega) (.slice A1 k1 c1) k1 (L1.map (.int .i64)) (by simp [Act.eval, Act.put]) (hownA.alloc _) (some ⟨wa.heap.size, 0, none⟩) 1 1 [.int .i64 q] (by simp [Act.eval, Act.put]) (Rd.fresh wa #[.int .i64 q] 3 1 1 rfl) (by simp [Value.oneCell']) (by unfold maxLen; omega) (by omega) (by first | omega | (simp <;> omega)) (by first | omega | (simp <;> omega)) ?_; intro A5 c5 w5 hown5 hc5 hm5 hch5; have hs5 := hch5.size; (try simp at hs5); have HYB := hide ((HYA.out.below' (show Below wa.heap.size wa _ from (by (repeat' (first | (with_reducible exact Below.refl _ _) | (with_reducible assumption) | (with_reducible refine Below.alloc ?_ ?_ _) | (with_reducible refine below_ext ?_ ?_ _ _) | (with_reducible refine Below.setCell ?_ ?_ _) | (with_reducible refine Below.drew ?_) | (with_reducible refine below_drewN ?_ _))); all_goals (first | omega | (simp; done) | (simp; omega))))).chg hch5 (.inr (by omega))); obtain ⟨s0, sf0⟩ := HYB.out)
      | fail)
    all_goals
      have hL5 : (L1 ++ [q]).length = k1 + 1 := by simp [hL1]
      have hown6 : Own w5 (w.heap.size + 1) w5.heap.size 3 1 (.slice A5 (k1 + 1) c5) (k1 + 1) ((L1 ++ [q]).map (.int .i64)) := hown5.cast rfl (by simp)
      have hsp := own_splitI hown6 (by omega) s0
      have hxw := ((hx3.chg hchA (.inr (by omega))).below' (show Below wa.heap.size wa (wa.alloc (.cells #[.int .i64 q] 3)) from (by (repeat' (first | (with_reducible exact Below.refl _ _) | (with_reducible assumption) | (with_reducible refine Below.alloc ?_ ?_ _) | (with_reducible refine below_ext ?_ ?_ _ _) | (with_reducible refine Below.setCell ?_ ?_ _) | (with_reducible refine Below.drew ?_) | (with_reducible refine below_drewN ?_ _))); all_goals (first | omega | (simp; done) | (simp; omega))))).chg hch5 (.inl (by omega))
      have hCw := ((hCa.below' (show Below wa.heap.size wa (wa.alloc (.cells #[.int .i64 q] 3)) from (by (repeat' (first | (with_reducible exact Below.refl _ _) | (with_reducible assumption) | (with_reducible refine Below.alloc ?_ ?_ _) | (with_reducible refine below_ext ?_ ?_ _ _) | (with_reducible refine Below.setCell ?_ ?_ _) | (with_reducible refine Below.drew ?_) | (with_reducible refine below_drewN ?_ _))); all_goals (first | omega | (simp; done) | (simp; omega))))).chg hch5 (.inl (by omega)))
      have hchw := (((hchB.trans hchA).alloc (.cells #[.int .i64 q] 3)).then_new hch5 (by omega))
      have HCC := hide (And.intro ((hCw.chg (chg1 (w := w5) (Nat.le_refl w1.heap.size) (Nat.lt_succ_self _) (.slice A5 (k1 + 1) c5)) (.inl (by omega))).chg (chg1 (w := w5.setCell ⟨w1.heap.size, 0, none⟩ (.slice A5 (k1 + 1) c5)) (Nat.le_refl w.heap.size) (Nat.lt_succ_self _) (.slice A5 (k1 + 1) c5)) (.inl hgl)) ((hchw.then_new (chg1 (w := w5) (Nat.le_refl w1.heap.size) (Nat.lt_succ_self _) (.slice A5 (k1 + 1) c5)) (by omega)).then_new (chg1 (w := w5.setCell ⟨w1.heap.size, 0, none⟩ (.slice A5 (k1 + 1) c5)) (Nat.le_refl w.heap.size) (Nat.lt_succ_self _) (.slice A5 (k1 + 1) c5)) (Nat.le_refl _)))
      obtain ⟨x0, xf0⟩ := hxw
      rcases hsp with hs | hs
      · have HF := hide (DrewK.mk' (M := 7) (w := w) (g := g) (A := A) (n := n) (c := c) (hi := w1.heap.size) hL5 (by omega) ((hs.chg (chg1 (w := w5) (Nat.le_refl w1.heap.size) (Nat.lt_succ_self _) (.slice A5 (k1 + 1) c5)) (.inl (Nat.le_refl _))).chg (chg1 (w := w5.setCell ⟨w1.heap.size, 0, none⟩ (.slice A5 (k1 + 1) c5)) (Nat.le_refl w.heap.size) (Nat.lt_succ_self _) (.slice A5 (k1 + 1) c5)) (.inr (by omega))) (by omega) (show w1.heap.size ≤ ((w5.setCell ⟨w1.heap.size, 0, none⟩ (.slice A5 (k1 + 1) c5)).setCell ⟨w.heap.size, 0, none⟩ (.slice A5 (k1 + 1) c5)).heap.size by first | (simp; done) | (simp; omega)) hc5 hm5 HCC.out.1 HCC.out.2)
        clear hown3 hownA hown5 hown6 hs hCw hchw hchA hcha hch5 hCa hC3 hchB hr3 hx3 HXY HYA HYB HCC
        go_wp2_with fail
        exact bodyPost_ret (v := .agg #[.slice A5 (k1 + 1) c5]) (by simp only [results, Try.results95]; go_simp) rfl HF.out
      · have HF := hide (DrewK.mk' (M := 7) (w := w) (g := g) (A := A) (n := n) (c := c) (hi := w5.heap.size) hL5 (by omega) ((hs.chg (chg1 (w := w5) (Nat.le_refl w1.heap.size) (Nat.lt_succ_self _) (.slice A5 (k1 + 1) c5)) (.inr (Nat.le_refl _))).chg (chg1 (w := w5.setCell ⟨w1.heap.size, 0, none⟩ (.slice A5 (k1 + 1) c5)) (Nat.le_refl w.heap.size) (Nat.lt_succ_self _) (.slice A5 (k1 + 1) c5)) (.inr (by omega))) (by omega) (show w5.heap.size ≤ ((w5.setCell ⟨w1.heap.size, 0, none⟩ (.slice A5 (k1 + 1) c5)).setCell ⟨w.heap.size, 0, none⟩ (.slice A5 (k1 + 1) c5)).heap.size by first | (simp; done) | (simp; omega)) hc5 hm5 HCC.out.1 HCC.out.2)
        clear hown3 hownA hown5 hown6 hs hCw hchw hchA hcha hch5 hCa hC3 hchB hr3 hx3 HXY HYA HYB HCC
        go_wp2_with fail
        exact bodyPost_ret (v := .agg #[.slice A5 (k1 + 1) c5]) (by simp only [results, Try.results95]; go_simp) rfl HF.out
  · have HR0 := hide (show K7 g A n c w w1 w2 from
      ⟨k1, A1, c1, L1, w.heap.size + 1, w1.heap.size, hL1, by omega, hkc1, hcm1, Nat.le_refl _, .inr (Nat.le_refl _), by omega, by omega, hown3, hy3, hx3, hC3, hchB⟩)
    clear hown3 hy3 hx3 hC3 hchB hr3
    go_wp2_with fail
    go_loopw [] (fun wr => K7 g A n c w w1 wr) (fun wr => 8 - (match wr.cell? ⟨w1.heap.size, 0, none⟩ with | some (.slice _ m _) => m | _ => 0))
    case atStart => exact HR0.out
    case round =>
      clear HR0
      obtain ⟨k, A', c', L, lo2, hi2, hL, hk7, hkc, hcm, hlo2, hd2, hhi2, hlr, hown, hy, hx, hC1, hch⟩ := hrel
      have hrw := hr.chg hch (.inl hg)
      have hsz := hch.size
      have HXY := hide hy
      have hyl := hy.lt
      obtain ⟨y0, yf0⟩ := hy
      go_wp2_with fail
      go_region_law (first
        | (go_simp; go_at_call 90; (with_reducible refine (sBelow_any _ g A n c lo hi l (3 : Int) (hC1.below' (by (repeat' (first | (with_reducible exact Below.refl _ _) | (with_reducible assumption) | (with_reducible refine Below.alloc ?_ ?_ _) | (with_reducible refine below_ext ?_ ?_ _ _) | (with_reducible refine Below.setCell ?_ ?_ _) | (with_reducible refine Below.drew ?_) | (with_reducible refine below_drewN ?_ _))); all_goals (first | omega | (simp; done) | (simp; omega)))) (hrw.below' (by (repeat' (first | (with_reducible exact Below.refl _ _) | (with_reducible assumption) | (with_reducible refine Below.alloc ?_ ?_ _) | (with_reducible refine below_ext ?_ ?_ _ _) | (with_reducible refine Below.setCell ?_ ?_ _) | (with_reducible refine Below.drew ?_) | (with_reducible refine below_drewN ?_ _))); all_goals (first | omega | (simp; done) | (simp; omega)))) hn h8 hg (by omega)).mono ?_); rintro e wa ⟨q, rfl, ⟨hqa, hqb⟩, hCa, hcha⟩; have hqc := hqb (by omega); have hchA := (Chg.of_below (show Below wr.heap.size wr _ from (by (repeat' (first | (with_reducible exact Below.refl _ _) | (with_reducible assumption) | (with_reducible refine Below.alloc ?_ ?_ _) | (with_reducible refine below_ext ?_ ?_ _ _) | (with_reducible refine Below.setCell ?_ ?_ _) | (with_reducible refine Below.drew ?_) | (with_reducible refine below_drewN ?_ _))); all_goals (first | omega | (simp; done) | (simp; omega)))) g (g + 1)).trans hcha; have hsa := hchA.size; have hlw : w1.heap.size < wa.heap.size := (by omega); have HYA := hide (HXY.out.chg hchA (.inr (by omega))); obtain ⟨p0, pf0⟩ := HYA.out; have hownA := hown.chg hchA (.inr (by omega)))
        | fail)
      all_goals
        have hxA := hx.chg hchA (.inr (by omega))
        have hchT := hch.trans hchA
        have hwr : IntKind.i64.wrap (5 + q) = 5 + q := by rw [IntKind.wrap_i64]; omega
        by_cases hkq : (k : Int) < 5 + q
        · have hfr := Rd.fresh wa #[.int .i64 1] 3 1 1 rfl
          go_wp2_with (at_builtin; refine wpList_app _ rfl (.tmp 28) (.tmp 29) 40 rfl 3 i0 (.int .i64 0) 1 8 lo2 hi2 wa.heap.size (wa.heap.size + 1) Try.underlying40 hi0 hz0 hz1 hz2 rfl (by omega) _ k _ rfl (hownA.alloc _) _ 1 1 _ rfl hfr (by simp [Value.oneCell']) (by unfold maxLen; omega) (by omega) (by first | omega | (simp <;> omega)) (by first | omega | (simp <;> omega)) ?_; intro A5 c5 w5 hown5 hc5 hm5 hch5; have HYB := hide ((HYA.out.below' (show Below wa.heap.size wa (wa.alloc (.cells #[.int .i64 1] 3)) from (by (repeat' (first | (with_reducible exact Below.refl _ _) | (with_reducible assumption) | (with_reducible refine Below.alloc ?_ ?_ _) | (with_reducible refine below_ext ?_ ?_ _ _) | (with_reducible refine Below.setCell ?_ ?_ _) | (with_reducible refine Below.drew ?_) | (with_reducible refine below_drewN ?_ _))); all_goals (first | omega | (simp; done) | (simp; omega))))).chg hch5 hd2); obtain ⟨s0, sf0⟩ := HYB.out)
          all_goals first | (exfalso; omega) | skip
          have hs5 := hch5.size
          simp at hs5
          have hL5 : (L ++ [1]).length = k + 1 := by simp [hL]
          have hown6 : Own w5 lo2 w5.heap.size 3 1 (.slice A5 (k + 1) c5) (k + 1) ((L ++ [1]).map (.int .i64)) := hown5.cast rfl (by simp)
          have hsp := own_splitI hown6 (by omega) s0
          have HREL := hide (And.intro (HYB.out.set (.slice A5 (k + 1) c5)) (And.intro (((hxA.below' (show Below wa.heap.size wa (wa.alloc (.cells #[.int .i64 1] 3)) from (by (repeat' (first | (with_reducible exact Below.refl _ _) | (with_reducible assumption) | (with_reducible refine Below.alloc ?_ ?_ _) | (with_reducible refine below_ext ?_ ?_ _ _) | (with_reducible refine Below.setCell ?_ ?_ _) | (with_reducible refine Below.drew ?_) | (with_reducible refine below_drewN ?_ _))); all_goals (first | omega | (simp; done) | (simp; omega))))).chg hch5 (.inl (by omega))).chg (chg1 (w := w5) (Nat.le_refl w1.heap.size) (Nat.lt_succ_self _) (.slice A5 (k + 1) c5)) (.inl (by omega))) (And.intro (((hCa.below' (show Below wa.heap.size wa (wa.alloc (.cells #[.int .i64 1] 3)) from (by (repeat' (first | (with_reducible exact Below.refl _ _) | (with_reducible assumption) | (with_reducible refine Below.alloc ?_ ?_ _) | (with_reducible refine below_ext ?_ ?_ _ _) | (with_reducible refine Below.setCell ?_ ?_ _) | (with_reducible refine Below.drew ?_) | (with_reducible refine below_drewN ?_ _))); all_goals (first | omega | (simp; done) | (simp; omega))))).chg hch5 (.inl (by omega))).chg (chg1 (w := w5) (Nat.le_refl w1.heap.size) (Nat.lt_succ_self _) (.slice A5 (k + 1) c5)) (.inl (by omega))) (((hchT.alloc (.cells #[.int .i64 1] 3)).then_new hch5 (by omega)).then_new (chg1 (w := w5) (Nat.le_refl w1.heap.size) (Nat.lt_succ_self _) (.slice A5 (k + 1) c5)) (by omega)))))
          have hWs : (w5.setCell ⟨w1.heap.size, 0, none⟩ (.slice A5 (k + 1) c5)).heap.size = w5.heap.size := by simp
          rcases hsp with hs | hs
          · have HO := hide (hs.chg (chg1 (w := w5) (Nat.le_refl w1.heap.size) (Nat.lt_succ_self _) (.slice A5 (k + 1) c5)) (.inl (Nat.le_refl _)))
            clear hown hownA hown5 hown6 hs hchA hcha hch5 hCa hC1 hch hchT hrw hx hxA HXY HYA HYB
            go_wp2_with fail
            go_roundw
            case rel => exact ⟨k + 1, A5, c5, L ++ [1], lo2, w1.heap.size, hL5, by omega, hc5, hm5, hlo2, .inr (Nat.le_refl _), by omega, by omega, HO.out, HREL.out⟩
            case measure => omega
          · have HO := hide (hs.chg (chg1 (w := w5) (Nat.le_refl w1.heap.size) (Nat.lt_succ_self _) (.slice A5 (k + 1) c5)) (.inr (Nat.le_refl _)))
            clear hown hownA hown5 hown6 hs hchA hcha hch5 hCa hC1 hch hchT hrw hx hxA HXY HYA HYB
            go_wp2_with fail
            go_roundw
            case rel => exact ⟨k + 1, A5, c5, L ++ [1], w1.heap.size + 1, w5.heap.size, hL5, by omega, hc5, hm5, by omega, .inl (Nat.lt_succ_self _), by omega, by omega, HO.out, HREL.out⟩
            case measure => omega
        · have HF := hide (DrewK.mk' (M := 7) (w := w) (g := g) (A := A) (n := n) (c := c) (hi := hi2) hL hk7 (hownA.chg (chg1 (w := wa) (Nat.le_refl w.heap.size) (Nat.lt_succ_self _) (.slice A' k c')) (.inr hlo2)) (by omega) (show hi2 ≤ (wa.setCell ⟨w.heap.size, 0, none⟩ (.slice A' k c')).heap.size by simp; omega) hkc hcm (hCa.chg (chg1 (w := wa) (Nat.le_refl w.heap.size) (Nat.lt_succ_self _) (.slice A' k c')) (.inl hgl)) (hchT.then_new (chg1 (w := wa) (Nat.le_refl w.heap.size) (Nat.lt_succ_self _) (.slice A' k c')) (Nat.le_refl _)))
          obtain ⟨x0, xf0⟩ := hxA
          clear hown hownA hchA hcha hCa hC1 hch hchT hrw hx HXY HYA
          go_wp2_with fail
          exact bodyPost_ret (v := .agg #[.slice A' k c']) (by simp only [results, Try.results95]; go_simp) rfl HF.out
  · have e0 : (z == 0) = false := by simp; omega
    have e1 : (z == 1) = false := by simp; omega
    have HF := hide (DrewK.mk' (M := 7) (w := w) (g := g) (A := A) (n := n) (c := c) hL1 (by omega) (hown3.chg (chg1 (w := w2) (Nat.le_refl w.heap.size) (Nat.lt_succ_self _) (.slice A1 k1 c1)) (.inr (Nat.le_refl _))) (Nat.le_succ _) (show w1.heap.size ≤ (w2.setCell ⟨w.heap.size, 0, none⟩ (.slice A1 k1 c1)).heap.size by simp; omega) hkc1 hcm1 (hC3.chg (chg1 (w := w2) (Nat.le_refl w.heap.size) (Nat.lt_succ_self _) (.slice A1 k1 c1)) (.inl hgl)) (hchB.then_new (chg1 (w := w2) (Nat.le_refl w.heap.size) (Nat.lt_succ_self _) (.slice A1 k1 c1)) (Nat.le_refl _)))
    obtain ⟨x0, xf0⟩ := hx3
    obtain ⟨y0, yf0⟩ := hy3
    clear hown3 hC3 hchB hr3
    go_wp2_with fail
    exact bodyPost_ret (v := .agg #[.slice A1 k1 c1]) (by simp only [results, Try.results95]; go_simp) rfl HF.out
end Go.Proofs.Ytbfmdnlfbadokaa
