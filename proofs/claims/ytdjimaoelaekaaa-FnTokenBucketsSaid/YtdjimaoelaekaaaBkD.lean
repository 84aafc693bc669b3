/- Token buckets drawn. -/
import Derived.Test.YtdjimaoelaekaaaBkP
import Derived.Deep.RegionLaw
namespace Go.Proofs.Ytdjimaoelaekaaa
open Go.RowKit Go.Sep

/-- A box of four cells that may be written. -/
structure Bx4 (w : World) (P : Nat) (u0 u1 u2 u3 : Value) : Prop where
  c0 : w.cell? ⟨P, 0, none⟩ = some u0
  c1 : w.cell? ⟨P, 1, none⟩ = some u1
  c2 : w.cell? ⟨P, 2, none⟩ = some u2
  c3 : w.cell? ⟨P, 3, none⟩ = some u3
  f0 : w.frozen? ⟨P, 0, none⟩ = false
  f1 : w.frozen? ⟨P, 1, none⟩ = false
  f2 : w.frozen? ⟨P, 2, none⟩ = false
  f3 : w.frozen? ⟨P, 3, none⟩ = false
theorem Bx4.lt {w : World} {P : Nat} {u0 u1 u2 u3 : Value} (h : Bx4 w P u0 u1 u2 u3) : P < w.heap.size := World.block_lt_of_cell? w _ h.c0
theorem Bx4.chg {w w' : World} {P lo hi : Nat} {u0 u1 u2 u3 : Value} (h : Bx4 w P u0 u1 u2 u3) (hc : Chg lo hi w w') (hx : P < lo ∨ hi ≤ P) : Bx4 w' P u0 u1 u2 u3 := by
  have e := h.lt
  exact ⟨(hc.cell (p := ⟨P, 0, none⟩) e hx).trans h.c0, (hc.cell (p := ⟨P, 1, none⟩) e hx).trans h.c1, (hc.cell (p := ⟨P, 2, none⟩) e hx).trans h.c2, (hc.cell (p := ⟨P, 3, none⟩) e hx).trans h.c3,
    (hc.frozen (p := ⟨P, 0, none⟩) e hx).trans h.f0, (hc.frozen (p := ⟨P, 1, none⟩) e hx).trans h.f1, (hc.frozen (p := ⟨P, 2, none⟩) e hx).trans h.f2, (hc.frozen (p := ⟨P, 3, none⟩) e hx).trans h.f3⟩
theorem Bx4.below' {w w' : World} {P : Nat} {u0 u1 u2 u3 : Value} (h : Bx4 w P u0 u1 u2 u3) (hb : Below w.heap.size w w') : Bx4 w' P u0 u1 u2 u3 := h.chg (Chg.of_below hb 0 0) (.inr (Nat.zero_le _))
theorem Bx4.new (w : World) (E : TypeId) (u0 u1 u2 u3 : Value) : Bx4 (w.alloc (.cells #[u0, u1, u2, u3] E)) w.heap.size u0 u1 u2 u3 := ⟨by go_simp, by go_simp, by go_simp, by go_simp, by go_simp, by go_simp, by go_simp, by go_simp⟩
theorem Bx4.set {w : World} {P : Nat} {u0 u1 u2 u3 : Value} (h : Bx4 w P u0 u1 u2 u3) (v0 v1 v2 v3 : Value) : Bx4 ((((w.setCell ⟨P, 0, none⟩ v0).setCell ⟨P, 1, none⟩ v1).setCell ⟨P, 2, none⟩ v2).setCell ⟨P, 3, none⟩ v3) P v0 v1 v2 v3 := by
  obtain ⟨x0, x1, x2, x3, y0, y1, y2, y3⟩ := h
  exact ⟨by go_simp, by go_simp, by go_simp, by go_simp, by go_simp, by go_simp, by go_simp, by go_simp⟩
theorem chg4 {w : World} {P lo hi : Nat} (h1 : lo ≤ P) (h2 : P < hi) (v0 v1 v2 v3 : Value) : Chg lo hi w ((((w.setCell ⟨P, 0, none⟩ v0).setCell ⟨P, 1, none⟩ v1).setCell ⟨P, 2, none⟩ v2).setCell ⟨P, 3, none⟩ v3) := (by (repeat' (first | (with_reducible exact Chg.refl _ _ _) | (with_reducible assumption) | (with_reducible refine Chg.alloc ?_ _) | (with_reducible refine Chg.setCell ?_ ?_ _) | (with_reducible refine Chg.drew ?_) | (with_reducible refine Chg.drewN ?_ _) | (with_reducible refine Chg.ext ?_ _ _))); all_goals (first | omega | (simp; done) | (simp; omega)))
theorem wrI {x : Int} (h : -9223372036854775808 ≤ x) (h' : x ≤ 9223372036854775807) : IntKind.i64.wrap x = x := by rw [IntKind.wrap_i64]; omega
theorem bk_new {r b n : Int} (h0 : 0 ≤ r) (h1 : r < 5) (h2 : 0 ≤ b) (h3 : b < 20) (h4 : 0 ≤ n) (h5 : n < 50) : newB (1 + r) (1 + b) n = .agg #[.int .i64 (1 + r), .int .i64 (1 + b), .int .i64 (1 + b), .int .i64 n] ∧ vB (1 + r) (1 + b) (1 + b) n = true := by
  have hv : vB (1 + r) (1 + b) (1 + b) n = true := vB_mk ⟨⟨by omega, by omega⟩, ⟨by omega, by omega⟩, ⟨by omega, by omega⟩, by omega, by omega⟩
  rw [newB, if_pos hv]
  exact ⟨rfl, hv⟩
theorem bk_dnext {r b t u d : Int} {m : Nat} (n : Int) (h : vB r b t u = true) (hm : u + 3 * ((m : Int) + 1) ≤ 62) (h0 : 0 ≤ d) (h1 : d < 4) : vB r b (tkT (rfT r b t u (u + d)) n) (rfU r b t u (u + d)) = true ∧ rfU r b t u (u + d) + 3 * (m : Int) ≤ 62 := by
  have ⟨_, _, _, g7, g8⟩ := vB_true h
  obtain ⟨k1, k2, k3, _⟩ := tk_step (n := n) (now := u + d) h (by omega)
  exact ⟨k1, by rcases k3 with k3 | k3 <;> rw [k3] <;> omega⟩
set_option maxHeartbeats 1000000 in
set_option maxRecDepth 100000 in
theorem sDraw14_any (w : World) (g : Nat) (A : Option Addr) (n c lo hi : Nat) (l : List Int) (hC : Cur w g A n c) (hr : Rd w lo hi 1 A n (l.map (.int .u8))) (hn : n ≤ 16777216) (h8 : ∀ x ∈ l, 0 ≤ x ∧ x ≤ 255) (hg : hi ≤ g) :
    Calls Try.prog 43 #[.pointer (some ⟨g, 0, none⟩)] w fun e w' => ∃ r b t u : Int, e = .returned (.agg #[.int .i64 r, .int .i64 b, .int .i64 t, .int .i64 u]) ∧ vB r b t u = true ∧ u ≤ 62 ∧ Cur w' g A n c ∧ Chg g (g + 1) w w' := by
  have hgl := hC.lt
  have hx0 := Bx4.new w 27 (.int .i64 0) (.int .i64 0) (.int .i64 0) (.int .i64 0)
  have hC0 : Cur (w.alloc (.cells #[.int .i64 0, .int .i64 0, .int .i64 0, .int .i64 0] 27)) g A n c := hC.below' (by (repeat' (first | (with_reducible exact Below.refl _ _) | (with_reducible assumption) | (with_reducible refine Below.alloc ?_ ?_ _) | (with_reducible refine below_ext ?_ ?_ _ _) | (with_reducible refine Below.setCell ?_ ?_ _) | (with_reducible refine Below.drew ?_) | (with_reducible refine below_drewN ?_ _))); all_goals (first | omega | (simp; done) | (simp; omega)))
  have hr0 := hr.alloc (.cells #[.int .i64 0, .int .i64 0, .int .i64 0, .int .i64 0] 27)
  have hch0 : Chg g (g + 1) w (w.alloc (.cells #[.int .i64 0, .int .i64 0, .int .i64 0, .int .i64 0] 27)) := (Chg.refl _ _ _).alloc _
  go_enter Try.func43, Try.ntmps43
  go_wp2_with fail
  refine (sBelow_any _ g A n c lo hi l _ hC0 hr0 hn h8 hg (by omega)).mono ?_
  rintro e w1 ⟨r, rfl, ⟨ha0, ha1⟩, hC1, hch1⟩
  have hr1 := hr0.chg hch1 (.inl hg)
  have ha := ha1 (by omega)
  go_wp2_with fail
  refine (sBelow_any _ g A n c lo hi l _ hC1 hr1 hn h8 hg (by omega)).mono ?_
  rintro e w2 ⟨b, rfl, ⟨hb0, hb1⟩, hC2, hch2⟩
  have hr2 := hr1.chg hch2 (.inl hg)
  have hb := hb1 (by omega)
  go_wp2_with fail
  refine (sBelow_any _ g A n c lo hi l _ hC2 hr2 hn h8 hg (by omega)).mono ?_
  rintro e w3 ⟨u, rfl, ⟨hu0, hu1⟩, hC3, hch3⟩
  have hr3 := hr2.chg hch3 (.inl hg)
  have hu := hu1 (by omega)
  have hch13 := (hch1.trans hch2).trans hch3
  have hx3 := hx0.chg hch13 (.inr (by omega))
  have hch03 := hch0.trans hch13
  have hs3 := hch13.size
  simp at hs3
  obtain ⟨hnew, hv⟩ := bk_new ha0 ha hb0 hb hu0 hu
  clear ha1 hb1 hu1 hC0 hC1 hC2 hr0 hr1 hr2 hch1 hch2 hch3 hch0 hx0 hch13
  go_wp2_with fail
  refine (sNewB_any _ _ _ _).mono ?_
  rintro e w4 ⟨he, hb4⟩
  rw [hnew] at he
  subst he
  have hx4 := hx3.below' hb4
  have hC4 := hC3.below' hb4
  have hr4 := hr3.below' hb4
  have hs4 := hb4.size
  have hch4 := hch03.trans (Chg.of_below hb4 g (g + 1))
  generalize 1 + r = r1 at hv
  generalize 1 + b = b1 at hv
  clear hnew hb4 hch03 hC3 hr3 hx3
  have hC5 : Cur (w4.alloc (.cells #[.int .i64 r1, .int .i64 b1, .int .i64 b1, .int .i64 u] 27)) g A n c := hC4.below' (by (repeat' (first | (with_reducible exact Below.refl _ _) | (with_reducible assumption) | (with_reducible refine Below.alloc ?_ ?_ _) | (with_reducible refine below_ext ?_ ?_ _ _) | (with_reducible refine Below.setCell ?_ ?_ _) | (with_reducible refine Below.drew ?_) | (with_reducible refine below_drewN ?_ _))); all_goals (first | omega | (simp; done) | (simp; omega)))
  have hr5 := hr4.alloc (.cells #[.int .i64 r1, .int .i64 b1, .int .i64 b1, .int .i64 u] 27)
  have hy5 := Bx4.new w4 27 (.int .i64 r1) (.int .i64 b1) (.int .i64 b1) (.int .i64 u)
  have hx5 := hx4.below' (w' := w4.alloc (.cells #[.int .i64 r1, .int .i64 b1, .int .i64 b1, .int .i64 u] 27)) (by (repeat' (first | (with_reducible exact Below.refl _ _) | (with_reducible assumption) | (with_reducible refine Below.alloc ?_ ?_ _) | (with_reducible refine below_ext ?_ ?_ _ _) | (with_reducible refine Below.setCell ?_ ?_ _) | (with_reducible refine Below.drew ?_) | (with_reducible refine below_drewN ?_ _))); all_goals (first | omega | (simp; done) | (simp; omega)))
  have hch5 : Chg g (g + 1) w (w4.alloc (.cells #[.int .i64 r1, .int .i64 b1, .int .i64 b1, .int .i64 u] 27)) := hch4.alloc _
  clear hC4 hr4 hx4 hch4
  go_wp2_with fail
  refine (sBelow_any _ g A n c lo hi l _ hC5 hr5 hn h8 hg (by omega)).mono ?_
  rintro e w6 ⟨i0, rfl, ⟨hi0, hi1⟩, hC6, hch6⟩
  have hi5 := hi1 (by omega)
  have hx6 := hx5.chg hch6 (.inr (by omega))
  have hy6 := hy5.chg hch6 (.inr (by omega))
  have HR0 := hide (show ∃ (r b t x : Int), vB r b t x = true ∧ x + 3 * ((i0.toNat : Nat) : Int) ≤ 62 ∧ Bx4 w6 w4.heap.size (.int .i64 r) (.int .i64 b) (.int .i64 t) (.int .i64 x) ∧ Bx4 w6 w.heap.size (.int .i64 0) (.int .i64 0) (.int .i64 0) (.int .i64 0) ∧ Cur w6 g A n c ∧ Chg g (g + 1) w w6 from
    ⟨r1, b1, b1, u, hv, by omega, hy6, hx6, hC6, hch5.trans hch6⟩)
  have hgP : g < w4.heap.size := by omega
  have hwP : w.heap.size < w4.heap.size := by omega
  clear hi1 hv hx6 hy6 hC6 hch6 hch5 hx5 hy5 hr5 hC5
  go_wp2_with fail
  go_loopw [4] (fun i wr => ∃ j : Nat, j ≤ 4 ∧ i = .int .i64 j ∧ ∃ (r b t x : Int), vB r b t x = true ∧ x + 3 * (j : Int) ≤ 62 ∧ Bx4 wr w4.heap.size (.int .i64 r) (.int .i64 b) (.int .i64 t) (.int .i64 x) ∧ Bx4 wr w.heap.size (.int .i64 0) (.int .i64 0) (.int .i64 0) (.int .i64 0) ∧ Cur wr g A n c ∧ Chg g (g + 1) w wr) (fun i _ => (intOf i).toNat)
  case atStart => exact ⟨i0.toNat, by omega, by rw [Int.toNat_of_nonneg hi0], HR0.out⟩
  case round =>
    clear HR0
    obtain ⟨j, hj4, rfl, r, b, t, x, hv, hxj, hy, hx, hC1, hch⟩ := hrel
    have hrw := hr.chg hch (.inl hg)
    have hsz := hch.size
    have hP' := hy.lt
    by_cases hlt : 0 < j
    · have hlt' : (0 : Int) < (j : Int) := by omega
      obtain ⟨j', rfl⟩ : ∃ j', j = j' + 1 := ⟨j - 1, by omega⟩
      have hxb := (vB_true hv).2.2.2
      have HN := hide (fun (n d : Int) (h0 : 0 ≤ d) (h1 : d < 4) => bk_dnext n hv (m := j') (by omega) h0 h1)
      have HXY := hide hy
      obtain ⟨y0, y1, y2, y3, yf0, yf1, yf2, yf3⟩ := hy
      go_wp2_with fail
      go_region_law (first
        | (go_simp; go_at_call 44; (with_reducible refine (sBelow_any _ g A n c lo hi l (8 : Int) (hC1.below' (by (repeat' (first | (with_reducible exact Below.refl _ _) | (with_reducible assumption) | (with_reducible refine Below.alloc ?_ ?_ _) | (with_reducible refine below_ext ?_ ?_ _ _) | (with_reducible refine Below.setCell ?_ ?_ _) | (with_reducible refine Below.drew ?_) | (with_reducible refine below_drewN ?_ _))); all_goals (first | omega | (simp; done) | (simp; omega)))) (hrw.below' (by (repeat' (first | (with_reducible exact Below.refl _ _) | (with_reducible assumption) | (with_reducible refine Below.alloc ?_ ?_ _) | (with_reducible refine below_ext ?_ ?_ _ _) | (with_reducible refine Below.setCell ?_ ?_ _) | (with_reducible refine Below.drew ?_) | (with_reducible refine below_drewN ?_ _))); all_goals (first | omega | (simp; done) | (simp; omega)))) hn h8 hg (by omega)).mono ?_); rintro e wa ⟨q1, rfl, ⟨hq0, hq1⟩, hCa, hcha⟩; have hra := (hrw.below' (show Below wr.heap.size wr _ from (by (repeat' (first | (with_reducible exact Below.refl _ _) | (with_reducible assumption) | (with_reducible refine Below.alloc ?_ ?_ _) | (with_reducible refine below_ext ?_ ?_ _ _) | (with_reducible refine Below.setCell ?_ ?_ _) | (with_reducible refine Below.drew ?_) | (with_reducible refine below_drewN ?_ _))); all_goals (first | omega | (simp; done) | (simp; omega))))).chg hcha (.inl hg); have hsa := hcha.size; (try simp at hsa); have HYA := hide ((HXY.out.below' (show Below wr.heap.size wr _ from (by (repeat' (first | (with_reducible exact Below.refl _ _) | (with_reducible assumption) | (with_reducible refine Below.alloc ?_ ?_ _) | (with_reducible refine below_ext ?_ ?_ _ _) | (with_reducible refine Below.setCell ?_ ?_ _) | (with_reducible refine Below.drew ?_) | (with_reducible refine below_drewN ?_ _))); all_goals (first | omega | (simp; done) | (simp; omega))))).chg hcha (.inr (by omega))); obtain ⟨p0, p1, p2, p3, pf0, pf1, pf2, pf3⟩ := HYA.out; have hchA := (Chg.of_below (show Below wr.heap.size wr _ from (by (repeat' (first | (with_reducible exact Below.refl _ _) | (with_reducible assumption) | (with_reducible refine Below.alloc ?_ ?_ _) | (with_reducible refine below_ext ?_ ?_ _ _) | (with_reducible refine Below.setCell ?_ ?_ _) | (with_reducible refine Below.drew ?_) | (with_reducible refine below_drewN ?_ _))); all_goals (first | omega | (simp; done) | (simp; omega)))) g (g + 1)).trans hcha)
        | (go_simp; go_at_call 44; (with_reducible refine (sBelow_any _ g A n c lo hi l (4 : Int) (hCa.below' (by (repeat' (first | (with_reducible exact Below.refl _ _) | (with_reducible assumption) | (with_reducible refine Below.alloc ?_ ?_ _) | (with_reducible refine below_ext ?_ ?_ _ _) | (with_reducible refine Below.setCell ?_ ?_ _) | (with_reducible refine Below.drew ?_) | (with_reducible refine below_drewN ?_ _))); all_goals (first | omega | (simp; done) | (simp; omega)))) (hra.below' (by (repeat' (first | (with_reducible exact Below.refl _ _) | (with_reducible assumption) | (with_reducible refine Below.alloc ?_ ?_ _) | (with_reducible refine below_ext ?_ ?_ _ _) | (with_reducible refine Below.setCell ?_ ?_ _) | (with_reducible refine Below.drew ?_) | (with_reducible refine below_drewN ?_ _))); all_goals (first | omega | (simp; done) | (simp; omega)))) hn h8 hg (by omega)).mono ?_); rintro e wb ⟨q2, rfl, ⟨hq2, hq3⟩, hCb, hchb⟩; have hq4 := hq3 (by omega); have HYB := hide ((HYA.out.below' (show Below wa.heap.size wa _ from (by (repeat' (first | (with_reducible exact Below.refl _ _) | (with_reducible assumption) | (with_reducible refine Below.alloc ?_ ?_ _) | (with_reducible refine below_ext ?_ ?_ _ _) | (with_reducible refine Below.setCell ?_ ?_ _) | (with_reducible refine Below.drew ?_) | (with_reducible refine below_drewN ?_ _))); all_goals (first | omega | (simp; done) | (simp; omega))))).chg hchb (.inr (by omega))); obtain ⟨s0, s1, s2, s3, sf0, sf1, sf2, sf3⟩ := HYB.out; have hchB := (hchA.trans (Chg.of_below (show Below wa.heap.size wa _ from (by (repeat' (first | (with_reducible exact Below.refl _ _) | (with_reducible assumption) | (with_reducible refine Below.alloc ?_ ?_ _) | (with_reducible refine below_ext ?_ ?_ _ _) | (with_reducible refine Below.setCell ?_ ?_ _) | (with_reducible refine Below.drew ?_) | (with_reducible refine below_drewN ?_ _))); all_goals (first | omega | (simp; done) | (simp; omega)))) g (g + 1))).trans hchb; have hsb := hchb.size; (try simp at hsb))
        | (go_simp; go_at_call 29; (with_reducible refine (sTake_any _ _ _ _ _ _ _).mono ?_); rintro e wd ⟨he, hbd⟩; rw [wrI (by omega) (by omega)] at he; subst he; have HYD := hide (HYB.out.below' hbd); obtain ⟨d0, d1, d2, d3, df0, df1, df2, df3⟩ := HYD.out; have hCd := hCb.below' hbd; have hchD := hchB.trans (Chg.of_below hbd g (g + 1)); have hsd := hbd.size)
        | fail)
      all_goals
        obtain ⟨hv2, hx2⟩ := HN.out q1 q2 hq2 hq4
        generalize tkT (rfT r b t x (x + q2)) q1 = T2 at hv2 ⊢
        generalize rfU r b t x (x + q2) = U2 at hv2 hx2 ⊢
        have HREL := hide (And.intro (HYD.out.set (.int .i64 r) (.int .i64 b) (.int .i64 T2) (.int .i64 U2)) (And.intro (hCd.chg (chg4 (w := wd) (Nat.le_refl w4.heap.size) (Nat.lt_succ_self _) (.int .i64 r) (.int .i64 b) (.int .i64 T2) (.int .i64 U2)) (.inl hgP)) (And.intro ((hx.chg hchD (.inr hgl)).chg (chg4 (w := wd) (Nat.le_refl w4.heap.size) (Nat.lt_succ_self _) (.int .i64 r) (.int .i64 b) (.int .i64 T2) (.int .i64 U2)) (.inl hwP)) ((hch.trans hchD).then_new (chg4 (w := wd) (Nat.le_refl w4.heap.size) (Nat.lt_succ_self _) (.int .i64 r) (.int .i64 b) (.int .i64 T2) (.int .i64 U2)) (by omega)))))
        clear HXY HYA HYB hCa hCb hchA hchB hcha hchb hbd HYD hCd hchD hC1 hch hrw hx
        go_wp2_with fail
        go_roundw
        case rel => exact ⟨j', by omega, by go_num, r, b, T2, U2, hv2, hx2, HREL.out.1, HREL.out.2.2.1, HREL.out.2.1, HREL.out.2.2.2⟩
        case measure => simp [intOf] <;> omega
    · have hlt' : ¬ (0 : Int) < (j : Int) := by omega
      have HF := hide (fun v0 v1 v2 v3 : Value => And.intro (hC1.chg (chg4 (w := wr) (Nat.le_refl w.heap.size) (Nat.lt_succ_self _) v0 v1 v2 v3) (.inl hgl)) (hch.then_new (chg4 (w := wr) (Nat.le_refl w.heap.size) (Nat.lt_succ_self _) v0 v1 v2 v3) (Nat.le_refl _)))
      obtain ⟨x0, x1, x2, x3, xf0, xf1, xf2, xf3⟩ := hx
      obtain ⟨y0, y1, y2, y3, yf0, yf1, yf2, yf3⟩ := hy
      clear hC1 hch hrw
      go_wp2_with fail
      exact bodyPost_ret (v := .agg #[.int .i64 r, .int .i64 b, .int .i64 t, .int .i64 x]) (by simp only [results, Try.results43]; go_simp) rfl ⟨r, b, t, x, rfl, hv, by omega, (HF.out _ _ _ _).1, (HF.out _ _ _ _).2⟩
theorem sDrawBk_any (w : World) (A : Option Addr) (n c : Nat) (l : List Int) (hr : Rd w 0 w.heap.size 1 A n (l.map (.int .u8))) (hn : n ≤ 16777216) (h8 : ∀ x ∈ l, 0 ≤ x ∧ x ≤ 255) :
    Calls Try.prog 34 #[.slice A n c] w fun e w' => ∃ r b t u : Int, e = .returned (.agg #[.int .i64 r, .int .i64 b, .int .i64 t, .int .i64 u]) ∧ vB r b t u = true ∧ u ≤ 62 ∧ Below w.heap.size w w' := by
  have hx0 := Bx4.new w 27 (.int .i64 0) (.int .i64 0) (.int .i64 0) (.int .i64 0)
  go_enter Try.func34, Try.ntmps34
  go_wp2_with fail
  refine (sNew_any _ A n c _ _ l (hr.alloc _) hn h8).mono ?_
  rintro e w1 ⟨g, rfl, hg, hC1, hb1⟩
  have hr1 := (hr.alloc (.cells #[.int .i64 0, .int .i64 0, .int .i64 0, .int .i64 0] 27)).below' hb1
  have hg' : w.heap.size + 1 ≤ g := by simpa using hg
  have hs1 := hb1.size
  simp at hs1
  have hx1 := hx0.below' hb1
  have hbw1 : Below w.heap.size w w1 := below_then ((Below.refl _ _).alloc (Nat.le_refl _) _) hb1 (by simp)
  clear hb1 hx0
  go_wp2_with fail
  refine (sDraw14_any _ g A n c _ _ l hC1 hr1 hn h8 (by omega)).mono ?_
  rintro e w2 ⟨r, b, t, u, rfl, hv, hu, hC2, hch2⟩
  have hx2 := hx1.chg hch2 (.inl (by omega))
  have hbw2 : Below w.heap.size w w2 := below_then hbw1 (hch2.below (B := w.heap.size) (by omega) (by omega)) (Nat.le_refl _)
  obtain ⟨x0, x1, x2, x3, xf0, xf1, xf2, xf3⟩ := hx2
  clear hch2 hC2 hbw1 hx1 hr1 hC1 hr
  go_wp2_with fail
  exact bodyPost_ret (v := .agg #[.int .i64 r, .int .i64 b, .int .i64 t, .int .i64 u]) (by simp only [results, Try.results34]; go_simp) rfl ⟨r, b, t, u, rfl, hv, hu, (by (repeat' (first | (with_reducible exact Below.refl _ _) | (with_reducible assumption) | (with_reducible refine Below.alloc ?_ ?_ _) | (with_reducible refine below_ext ?_ ?_ _ _) | (with_reducible refine Below.setCell ?_ ?_ _) | (with_reducible refine Below.drew ?_) | (with_reducible refine below_drewN ?_ _))); all_goals (first | omega | (simp; done) | (simp; omega)))⟩
end Go.Proofs.Ytdjimaoelaekaaa
