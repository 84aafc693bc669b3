/- Packets drawn, their bytes the draw's own. -/
import Derived.Test.YticfmkfiibhafaaDrawB
import Derived.Test.YticfmkfiibhafaaNPacket
import Derived.Laws.OwnMore
namespace Go.Sep
open Go.RowKit
theorem Own.setCell {w : World} {lo hi sz n : Nat} {E : TypeId} {v : Value} {xs : List Value} (h : Own w lo hi E sz v n xs) {p : Addr} (hp : hi ≤ p.block ∨ p.block < lo) (u : Value) : Own (w.setCell p u) lo hi E sz v n xs :=
  h.chg (show Chg p.block (p.block + 1) w (w.setCell p u) from (Chg.refl _ _ _).setCell (.inl ⟨Nat.le_refl _, Nat.lt_succ_self _⟩) u) (by omega)
end Go.Sep
namespace Go.Proofs.Yticfmkfiibhafaa
open Go.RowKit Go.Sep

def Pack (g : Nat) (A : Option Addr) (n c : Nat) (w : World) (e : Ending) (w' : World) : Prop :=
  ∃ (p : Int) (A' : Option Addr) (k c' : Nat) (bs : List Int), e = .returned (.agg #[.int .i64 p, .slice A' k c']) ∧ bs.length = k ∧ k ≤ 61 ∧ (∀ x ∈ bs, 0 ≤ x ∧ x ≤ 255) ∧ Own w' w.heap.size w'.heap.size 5 1 (.slice A' k c') k (bs.map (.int .u8)) ∧ k ≤ c' ∧ c' ≤ maxLen ∧ Cur w' g A n c ∧ Chg g (g + 1) w w'
theorem zeros8 (N : Nat) : (madeCells (Value.int .u8 0).cells (N * 1)).toList = (List.replicate N (0 : Int)).map (.int .u8) := by
  rw [Nat.mul_one]
  show (madeCells #[Value.int .u8 0] N).toList = _
  rw [toList_madeCells_one]
  simp
/-- What is known of the two boxes of a packet that is drawn. -/
structure PkS (w : World) (P2 P3 : Nat) (u v : Value) : Prop where
  b0 : w.cell? ⟨P3, 0, none⟩ = some u
  b1 : w.cell? ⟨P3, 1, none⟩ = some v
  g0 : w.frozen? ⟨P3, 0, none⟩ = false
  g1 : w.frozen? ⟨P3, 1, none⟩ = false
  c0 : w.cell? ⟨P2, 0, none⟩ = some (.int .i64 0)
  c1 : w.cell? ⟨P2, 1, none⟩ = some (.slice none 0 0)
  d0 : w.frozen? ⟨P2, 0, none⟩ = false
  d1 : w.frozen? ⟨P2, 1, none⟩ = false
theorem PkS.chg {w w' : World} {P2 P3 g : Nat} {u v : Value} (h : PkS w P2 P3 u v) (hc : Chg g (g + 1) w w') (h2 : g < P2) (h3 : g < P3) : PkS w' P2 P3 u v := by
  have e3 := World.block_lt_of_cell? w _ h.b0
  have e2 := World.block_lt_of_cell? w _ h.c0
  exact ⟨(hc.cell (p := ⟨P3, 0, none⟩) e3 (.inr h3)).trans h.b0, (hc.cell (p := ⟨P3, 1, none⟩) e3 (.inr h3)).trans h.b1, (hc.frozen (p := ⟨P3, 0, none⟩) e3 (.inr h3)).trans h.g0, (hc.frozen (p := ⟨P3, 1, none⟩) e3 (.inr h3)).trans h.g1,
    (hc.cell (p := ⟨P2, 0, none⟩) e2 (.inr h2)).trans h.c0, (hc.cell (p := ⟨P2, 1, none⟩) e2 (.inr h2)).trans h.c1, (hc.frozen (p := ⟨P2, 0, none⟩) e2 (.inr h2)).trans h.d0, (hc.frozen (p := ⟨P2, 1, none⟩) e2 (.inr h2)).trans h.d1⟩
set_option maxHeartbeats 1000000 in
set_option maxRecDepth 100000 in
theorem sPack_any (w : World) (g : Nat) (A : Option Addr) (n c lo hi : Nat) (l : List Int) (hC : Cur w g A n c) (hr : Rd w lo hi 1 A n (l.map (.int .u8))) (hn : n ≤ 16777216) (h8 : ∀ x ∈ l, 0 ≤ x ∧ x ≤ 255) (hg : hi ≤ g) :
    Calls Try.prog 79 #[.pointer (some ⟨g, 0, none⟩)] w (Pack g A n c w) := by
  have hgl := hC.lt
  have hC0 : Cur (w.alloc (.cells #[.int .i64 0, .slice none 0 0] 68)) g A n c := hC.below' (by (repeat' (first | (with_reducible exact Below.refl _ _) | (with_reducible assumption) | (with_reducible refine Below.alloc ?_ ?_ _) | (with_reducible refine below_ext ?_ ?_ _ _) | (with_reducible refine Below.setCell ?_ ?_ _) | (with_reducible refine Below.drew ?_) | (with_reducible refine below_drewN ?_ _))); all_goals (first | omega | (simp; done) | (simp; omega)))
  have hr0 := hr.alloc (.cells #[.int .i64 0, .slice none 0 0] 68)
  have hch0 : Chg g (g + 1) w (w.alloc (.cells #[.int .i64 0, .slice none 0 0] 68)) := (Chg.refl _ _ _).alloc _
  go_enter Try.func79, Try.ntmps79
  go_wp2_with fail
  refine (sBelow_any _ g A n c lo hi l _ hC0 hr0 hn h8 hg (by omega)).mono ?_
  rintro e w1 ⟨p, rfl, ⟨hp0, hp1⟩, hC1, hch1⟩
  have hr1 := hr0.chg hch1 (.inl hg)
  go_wp2_with fail
  refine (sBelow_any _ g A n c lo hi l _ hC1 hr1 hn h8 hg (by omega)).mono ?_
  rintro e w2 ⟨m, rfl, ⟨hm0, hm1⟩, hC2, hch2⟩
  have hm2 := hm1 (by omega)
  have hr2 := hr1.chg hch2 (.inl hg)
  go_wp2_with fail
  refine (sBytes_any _ g A n c lo hi l m hC2 hr2 hn h8 hg (by omega)).mono ?_
  rintro e w3 ⟨A3, k3, c3, bs, rfl, hl3, hk3, hb83, hown, hkc, hcm, hC3, hch3⟩
  have hsz1 := hch1.size
  have hsz2 := hch2.size
  have hsz3 := hch3.size
  have hszA : w.heap.size + 1 ≤ w3.heap.size := by simp at hsz1; omega
  have hr3 := hr2.chg hch3 (.inl hg)
  have hchA := hch0.trans (hch1.trans (hch2.trans hch3))
  have hp2 := hp1 (by omega)
  clear hp1 hm1
  have hrd3 : Own w3 (w.heap.size + 1) w3.heap.size 5 1 (.slice A3 k3 c3) k3 (bs.map (.int .u8)) := hown.more (by simp at hsz1; omega) (Nat.le_refl _)
  have hP2 : w.heap.size < w3.heap.size := by omega
  have hchX : Chg g (g + 1) (w.alloc (.cells #[.int .i64 0, .slice none 0 0] 68)) w3 := hch1.trans (hch2.trans hch3)
  have a0 := (hchX.cell (p := ⟨w.heap.size, 0, none⟩) (by simp) (.inr (by simp; omega))).trans (by go_simp : _ = some (Value.int .i64 0))
  have a1 := (hchX.cell (p := ⟨w.heap.size, 1, none⟩) (by simp) (.inr (by simp; omega))).trans (by go_simp : _ = some (Value.slice none 0 0))
  have f0 := (hchX.frozen (p := ⟨w.heap.size, 0, none⟩) (by simp) (.inr (by simp; omega))).trans (by go_simp : _ = false)
  have f1 := (hchX.frozen (p := ⟨w.heap.size, 1, none⟩) (by simp) (.inr (by simp; omega))).trans (by go_simp : _ = false)
  have hgl3 := hC3.lt
  clear hown hchX hch0 hch1 hch2 hch3 hC0 hC1 hC2 hr0 hr1 hr2
  go_wp2_with fail
  refine (sBelow_any _ g A n c lo hi l _ (hC3.below' (by (repeat' (first | (with_reducible exact Below.refl _ _) | (with_reducible assumption) | (with_reducible refine Below.alloc ?_ ?_ _) | (with_reducible refine below_ext ?_ ?_ _ _) | (with_reducible refine Below.setCell ?_ ?_ _) | (with_reducible refine Below.drew ?_) | (with_reducible refine below_drewN ?_ _))); all_goals (first | omega | (simp; done) | (simp; omega)))) (hr3.below' (by (repeat' (first | (with_reducible exact Below.refl _ _) | (with_reducible assumption) | (with_reducible refine Below.alloc ?_ ?_ _) | (with_reducible refine below_ext ?_ ?_ _ _) | (with_reducible refine Below.setCell ?_ ?_ _) | (with_reducible refine Below.drew ?_) | (with_reducible refine below_drewN ?_ _))); all_goals (first | omega | (simp; done) | (simp; omega)))) hn h8 hg (by omega)).mono ?_
  rintro e w4 ⟨q, rfl, ⟨hq0, hq1⟩, hC4, hch4⟩
  have hsz4 := hch4.size
  simp at hsz4
  have b0 := (hch4.cell (p := ⟨w3.heap.size, 0, none⟩) (by simp) (.inr (by simp; omega))).trans (by go_simp : _ = some (Value.int .i64 p))
  have b1 := (hch4.cell (p := ⟨w3.heap.size, 1, none⟩) (by simp) (.inr (by simp; omega))).trans (by go_simp : _ = some (Value.slice A3 k3 c3))
  have g0 := (hch4.frozen (p := ⟨w3.heap.size, 0, none⟩) (by simp) (.inr (by simp; omega))).trans (by go_simp : _ = false)
  have g1 := (hch4.frozen (p := ⟨w3.heap.size, 1, none⟩) (by simp) (.inr (by simp; omega))).trans (by go_simp : _ = false)
  have c0 := (hch4.cell (p := ⟨w.heap.size, 0, none⟩) (by simp; omega) (.inr (by simp; omega))).trans (((bcell (show Below w3.heap.size w3 (w3.alloc (.cells #[.int .i64 p, .slice A3 k3 c3] 68)) from (Below.refl _ _).alloc (Nat.le_refl _) _)).1 w.heap.size 0 hP2).trans a0)
  have c1 := (hch4.cell (p := ⟨w.heap.size, 1, none⟩) (by simp; omega) (.inr (by simp; omega))).trans (((bcell (show Below w3.heap.size w3 (w3.alloc (.cells #[.int .i64 p, .slice A3 k3 c3] 68)) from (Below.refl _ _).alloc (Nat.le_refl _) _)).1 w.heap.size 1 hP2).trans a1)
  have d0 := (hch4.frozen (p := ⟨w.heap.size, 0, none⟩) (by simp; omega) (.inr (by simp; omega))).trans (((bcell (show Below w3.heap.size w3 (w3.alloc (.cells #[.int .i64 p, .slice A3 k3 c3] 68)) from (Below.refl _ _).alloc (Nat.le_refl _) _)).2 w.heap.size 0 hP2).trans f0)
  have d1 := (hch4.frozen (p := ⟨w.heap.size, 1, none⟩) (by simp; omega) (.inr (by simp; omega))).trans (((bcell (show Below w3.heap.size w3 (w3.alloc (.cells #[.int .i64 p, .slice A3 k3 c3] 68)) from (Below.refl _ _).alloc (Nat.le_refl _) _)).2 w.heap.size 1 hP2).trans f1)
  have hne : w.heap.size ≠ w3.heap.size := by omega
  have hne' : w3.heap.size ≠ w.heap.size := by omega
  have hrd4 := (hrd3.alloc (.cells #[.int .i64 p, .slice A3 k3 c3] 68)).chg hch4 (.inr (by omega))
  have hr4 := (hr3.alloc (.cells #[.int .i64 p, .slice A3 k3 c3] 68)).chg hch4 (.inl hg)
  have hchB := (hchA.alloc (.cells #[.int .i64 p, .slice A3 k3 c3] 68)).trans hch4
  have HPK := hide (PkS.mk b0 b1 g0 g1 c0 c1 d0 d1)
  have hgP : g < w3.heap.size := hgl3
  clear a0 a1 f0 f1 hrd3 hr3 hC3 hchA hch4
  rcases (show q = 0 ∨ q = 1 ∨ 1 < q by omega) with rfl | rfl | hq3
  · go_wp2_with fail
    refine (sInt_any _ g A n c lo hi l (some ⟨w4.heap.size, 0, none⟩) 3 3 w4.heap.size (w4.heap.size + 1) [-1, 65535, 65536] (hC4.below' (by (repeat' (first | (with_reducible exact Below.refl _ _) | (with_reducible assumption) | (with_reducible refine Below.alloc ?_ ?_ _) | (with_reducible refine below_ext ?_ ?_ _ _) | (with_reducible refine Below.setCell ?_ ?_ _) | (with_reducible refine Below.drew ?_) | (with_reducible refine below_drewN ?_ _))); all_goals (first | omega | (simp; done) | (simp; omega)))) (hr4.below' (by (repeat' (first | (with_reducible exact Below.refl _ _) | (with_reducible assumption) | (with_reducible refine Below.alloc ?_ ?_ _) | (with_reducible refine below_ext ?_ ?_ _ _) | (with_reducible refine Below.setCell ?_ ?_ _) | (with_reducible refine Below.drew ?_) | (with_reducible refine below_drewN ?_ _))); all_goals (first | omega | (simp; done) | (simp; omega)))) hn h8 hg (by simpa using Rd.fresh w4 #[.int .i64 (-1), .int .i64 65535, .int .i64 65536] 3 1 3 rfl) hC4.lt (by omega) (by omega)).mono ?_
    rintro e w5 ⟨r, rfl, _, hC5, hch5⟩
    have hch45 : Chg g (g + 1) w4 w5 := ((Chg.refl _ _ _).alloc _).trans hch5
    obtain ⟨m0, m1, n0, n1, x0, x1, y0, y1⟩ := HPK.out.chg hch45 hgl hgP
    have hrd5 := hrd4.chg hch45 (.inr (by omega))
    have hchC := hchB.trans hch45
    have hs5 := hch45.size
    have HF := hide (show Pack g A n c w (.returned (.agg #[.int .i64 r, .slice A3 k3 c3])) (((w5.setCell ⟨w3.heap.size, 0, none⟩ (.int .i64 r)).setCell ⟨w.heap.size, 0, none⟩ (.int .i64 r)).setCell ⟨w.heap.size, 1, none⟩ (.slice A3 k3 c3)) from
      ⟨r, A3, k3, c3, bs, rfl, hl3, by omega, hb83, (((hrd5.setCell (.inl (Nat.le_refl _)) _).setCell (.inr (by simp)) _).setCell (.inr (by simp)) _).more (by omega) (by simp; omega), hkc, hcm, hC5.chg ((((Chg.refl w.heap.size (w3.heap.size + 1) w5).setCell (.inl ⟨by simp; omega, by simp⟩) _).setCell (.inl ⟨Nat.le_refl _, by simp; omega⟩) _).setCell (.inl ⟨Nat.le_refl _, by simp; omega⟩) _) (.inl hgl), ((hchC.setCell (.inr (by simp; omega)) _).setCell (.inr (Nat.le_refl _)) _).setCell (.inr (Nat.le_refl _)) _⟩)
    clear hrd4 hr4 hC4 hchB hrd5 hC5 hchC hch5 hch45 b0 b1 g0 g1 c0 c1 d0 d1 HPK
    go_wp2_with fail
    exact bodyPost_ret (v := .agg #[.int .i64 r, .slice A3 k3 c3]) (by simp only [results, Try.results79]; go_simp) rfl HF.out
  · go_wp2_with fail
    refine (sBelow_any _ g A n c lo hi l _ hC4 hr4 hn h8 hg (by omega)).mono ?_
    rintro e w5 ⟨t, rfl, ⟨ht0, ht1⟩, hC5, hch5⟩
    have ht3 := ht1 (by omega)
    obtain ⟨j, rfl⟩ : ∃ j : Nat, t = j := ⟨t.toNat, by omega⟩
    have HPK5 := hide (HPK.out.chg hch5 hgl hgP)
    have hchC := hchB.trans hch5
    have hs5 := hch5.size
    clear ht1 hrd4 hr4 hC4 hchB hch5 b0 b1 g0 g1 c0 c1 d0 d1 HPK
    obtain ⟨i0, hi0, hz0, hz1, hz2⟩ := info_parts infoByteS
    have ej : (59 : Int) + (j : Int) = ((59 + j : Nat) : Int) := by omega
    have HEJ := hide ej
    clear ej
    go_wp2_with (at_make; refine wpList_make_full _ rfl _ _ 51 rfl w5.heap.size 5 i0 (.int .u8 0) 1 Try.underlying51 hi0 hz0 hz1 _ _ _ _ (59 + j) rfl rfl HEJ.out HEJ.out (by rw [hz2]; omega) (by unfold maxLen; omega) (Nat.le_refl _) ?_; intro w6 hown6 hgrow6; have hb6 : Below w5.heap.size w5 w6 := (Below.refl _ _).grown hgrow6 (Nat.le_refl _) (by simp); obtain ⟨m0, m1, n0, n1, x0, x1, y0, y1⟩ := HPK5.out.chg (Chg.of_below hb6 g (g + 1)) hgl hgP)
    have ho6 := Own.of_row hown6
    rw [zeros8] at ho6
    have hs6 := hb6.size
    have hC6 := hC5.below' hb6
    have hchD := hchC.trans (Chg.of_below hb6 g (g + 1))
    have HF := hide (show Pack g A n c w (.returned (.agg #[.int .i64 p, .slice (some ⟨w5.heap.size, 0, none⟩) (59 + j) (59 + j)])) (((w6.setCell ⟨w3.heap.size, 1, none⟩ (.slice (some ⟨w5.heap.size, 0, none⟩) (59 + j) (59 + j))).setCell ⟨w.heap.size, 0, none⟩ (.int .i64 p)).setCell ⟨w.heap.size, 1, none⟩ (.slice (some ⟨w5.heap.size, 0, none⟩) (59 + j) (59 + j))) from
      ⟨p, some ⟨w5.heap.size, 0, none⟩, 59 + j, 59 + j, List.replicate (59 + j) 0, rfl, by simp, by omega, fun x hx => by rw [List.eq_of_mem_replicate hx]; omega, (((ho6.setCell (.inr (by simp; omega)) _).setCell (.inr (by simp; omega)) _).setCell (.inr (by simp; omega)) _).more (by omega) (by simp), Nat.le_refl _, by unfold maxLen; omega, hC6.chg ((((Chg.refl w.heap.size (w3.heap.size + 1) w6).setCell (.inl ⟨by simp; omega, by simp⟩) _).setCell (.inl ⟨Nat.le_refl _, by simp; omega⟩) _).setCell (.inl ⟨Nat.le_refl _, by simp; omega⟩) _) (.inl hgl), ((hchD.setCell (.inr (by simp; omega)) _).setCell (.inr (Nat.le_refl _)) _).setCell (.inr (Nat.le_refl _)) _⟩)
    clear hb6 hown6 hgrow6 ho6 hC5 hC6 hchC hchD HPK5
    exact bodyPost_ret (v := .agg #[.int .i64 p, .slice (some ⟨w5.heap.size, 0, none⟩) (59 + j) (59 + j)]) (by simp only [results, Try.results79]; go_simp) rfl HF.out
  · have e0 : (q == 0) = false := by simp; omega
    have e1 : (q == 1) = false := by simp; omega
    have HF := hide (show Pack g A n c w (.returned (.agg #[.int .i64 p, .slice A3 k3 c3])) ((w4.setCell ⟨w.heap.size, 0, none⟩ (.int .i64 p)).setCell ⟨w.heap.size, 1, none⟩ (.slice A3 k3 c3)) from
      ⟨p, A3, k3, c3, bs, rfl, hl3, by omega, hb83, ((hrd4.setCell (.inr (by simp)) _).setCell (.inr (by simp)) _).more (by omega) (by simp; omega), hkc, hcm, hC4.chg (((Chg.refl w.heap.size (w.heap.size + 1) w4).setCell (.inl ⟨Nat.le_refl _, by simp⟩) _).setCell (.inl ⟨Nat.le_refl _, by simp⟩) _) (.inl hgl), (hchB.setCell (.inr (Nat.le_refl _)) _).setCell (.inr (Nat.le_refl _)) _⟩)
    clear hrd4 hr4 hC4 hchB
    go_wp2_with fail
    exact bodyPost_ret (v := .agg #[.int .i64 p, .slice A3 k3 c3]) (by simp only [results, Try.results79]; go_simp) rfl HF.out
end Go.Proofs.Yticfmkfiibhafaa
