/- Key paths drawn. -/
import Derived.Test.YtbfmdnlfbadokaaDrawB
import Derived.Test.YtbfmdnlfbadokaaCpy
import Derived.Test.YtbfmdnlfbadokaaIntS
import Derived.Deep.RegionLaw
import Derived.Laws.OwnMore
namespace Go.Proofs.Ytbfmdnlfbadokaa
open Go.RowKit Go.Sep

/-- A box of one cell that may be written. -/
structure Bx1 (w : World) (P : Nat) (u0 : Value) : Prop where
  c0 : w.cell? ⟨P, 0, none⟩ = some u0
  f0 : w.frozen? ⟨P, 0, none⟩ = false
theorem Bx1.lt {w : World} {P : Nat} {u0 : Value} (h : Bx1 w P u0) : P < w.heap.size := World.block_lt_of_cell? w _ h.c0
theorem Bx1.chg {w w' : World} {P lo hi : Nat} {u0 : Value} (h : Bx1 w P u0) (hc : Chg lo hi w w') (hx : P < lo ∨ hi ≤ P) : Bx1 w' P u0 :=
  ⟨(hc.cell (p := ⟨P, 0, none⟩) h.lt hx).trans h.c0, (hc.frozen (p := ⟨P, 0, none⟩) h.lt hx).trans h.f0⟩
theorem Bx1.below' {w w' : World} {P : Nat} {u0 : Value} (h : Bx1 w P u0) (hb : Below w.heap.size w w') : Bx1 w' P u0 := h.chg (Chg.of_below hb 0 0) (.inr (Nat.zero_le _))
theorem Bx1.new (w : World) (E : TypeId) (u0 : Value) : Bx1 (w.alloc (.cells #[u0] E)) w.heap.size u0 := ⟨by go_simp, by go_simp⟩
theorem Bx1.set {w : World} {P : Nat} {u0 : Value} (h : Bx1 w P u0) (v0 : Value) : Bx1 (w.setCell ⟨P, 0, none⟩ v0) P v0 := by
  obtain ⟨x0, y0⟩ := h
  exact ⟨by go_simp, by go_simp⟩
theorem chg1 {w : World} {P lo hi : Nat} (h1 : lo ≤ P) (h2 : P < hi) (v0 : Value) : Chg lo hi w (w.setCell ⟨P, 0, none⟩ v0) := (by (repeat' (first | (with_reducible exact Chg.refl _ _ _) | (with_reducible assumption) | (with_reducible refine Chg.alloc ?_ _) | (with_reducible refine Chg.setCell ?_ ?_ _) | (with_reducible refine Chg.drew ?_) | (with_reducible refine Chg.drewN ?_ _) | (with_reducible refine Chg.ext ?_ _ _))); all_goals (first | omega | (simp; done) | (simp; omega)))
/-- What a call leaves that draws a key path. -/
def DrewK (M : Nat) (g : Nat) (A : Option Addr) (n c : Nat) (w : World) (e : Ending) (w' : World) : Prop :=
  ∃ (A' : Option Addr) (k c' : Nat) (L : List Int), e = .returned (.agg #[.slice A' k c']) ∧ L.length = k ∧ k ≤ M ∧ Own w' w.heap.size w'.heap.size 3 1 (.slice A' k c') k (L.map (.int .i64)) ∧ k ≤ c' ∧ c' ≤ maxLen ∧ Cur w' g A n c ∧ Chg g (g + 1) w w'
theorem DrewK.mk' {M g n c : Nat} {A : Option Addr} {w w' : World} {A' : Option Addr} {k c' lo hi : Nat} {L : List Int} (hl : L.length = k) (hk : k ≤ M) (ho : Own w' lo hi 3 1 (.slice A' k c') k (L.map (.int .i64))) (hlo : w.heap.size ≤ lo) (hhi : hi ≤ w'.heap.size) (h1 : k ≤ c') (h2 : c' ≤ maxLen) (hC : Cur w' g A n c) (hch : Chg g (g + 1) w w') : DrewK M g A n c w (.returned (.agg #[.slice A' k c'])) w' :=
  ⟨A', k, c', L, rfl, hl, hk, ho.more hlo hhi, h1, h2, hC, hch⟩
set_option maxHeartbeats 1000000 in
set_option maxRecDepth 100000 in
theorem sNode_any (w : World) (g : Nat) (A : Option Addr) (n c lo hi : Nat) (l : List Int) (hC : Cur w g A n c) (hr : Rd w lo hi 1 A n (l.map (.int .u8))) (hn : n ≤ 16777216) (h8 : ∀ x ∈ l, 0 ≤ x ∧ x ≤ 255) (hg : hi ≤ g) :
    Calls Try.prog 105 #[.pointer (some ⟨g, 0, none⟩)] w (DrewK 4 g A n c w) := by
  have hgl := hC.lt
  obtain ⟨i0, hi0, hz0, hz1, hz2⟩ := info_parts infoIntS
  have hx0 := (Bx1.new w 45 (.slice none 0 0)).below' (w' := ((w.alloc (.cells #[.slice none 0 0] 45)).alloc (.cells #[.slice none 0 0] 45))) (by (repeat' (first | (with_reducible exact Below.refl _ _) | (with_reducible assumption) | (with_reducible refine Below.alloc ?_ ?_ _) | (with_reducible refine below_ext ?_ ?_ _ _) | (with_reducible refine Below.setCell ?_ ?_ _) | (with_reducible refine Below.drew ?_) | (with_reducible refine below_drewN ?_ _))); all_goals (first | omega | (simp; done) | (simp; omega)))
  have hy0 := Bx1.new (w.alloc (.cells #[.slice none 0 0] 45)) 45 (.slice none 0 0)
  rw [show (w.alloc (.cells #[.slice none 0 0] 45)).heap.size = w.heap.size + 1 by simp] at hy0
  have hC0 : Cur ((w.alloc (.cells #[.slice none 0 0] 45)).alloc (.cells #[.slice none 0 0] 45)) g A n c := hC.below' (by (repeat' (first | (with_reducible exact Below.refl _ _) | (with_reducible assumption) | (with_reducible refine Below.alloc ?_ ?_ _) | (with_reducible refine below_ext ?_ ?_ _ _) | (with_reducible refine Below.setCell ?_ ?_ _) | (with_reducible refine Below.drew ?_) | (with_reducible refine below_drewN ?_ _))); all_goals (first | omega | (simp; done) | (simp; omega)))
  have hr0 := (hr.alloc (.cells #[.slice none 0 0] 45)).alloc (.cells #[.slice none 0 0] 45)
  have hch0 : Chg g (g + 1) w ((w.alloc (.cells #[.slice none 0 0] 45)).alloc (.cells #[.slice none 0 0] 45)) := ((Chg.refl _ _ _).alloc _).alloc _
  go_enter Try.func105, Try.ntmps105
  go_wp2_with fail
  refine (sBelow_any _ g A n c lo hi l _ hC0 hr0 hn h8 hg (by omega)).mono ?_
  rintro e w1 ⟨r0, rfl, ⟨hq0, hq1⟩, hC1, hch1⟩
  have hr5 := hq1 (by omega)
  have hs1 := hch1.size
  simp at hs1
  have HR0 := hide (show ∃ (k : Nat) (A' : Option Addr) (c' : Nat) (L : List Int), L.length = k ∧ k + r0.toNat ≤ 4 ∧ k ≤ c' ∧ c' ≤ maxLen ∧ Own w1 (w.heap.size + 2) w1.heap.size 3 1 (.slice A' k c') k (L.map (.int .i64)) ∧ Bx1 w1 (w.heap.size + 1) (.slice A' k c') ∧ Bx1 w1 w.heap.size (.slice none 0 0) ∧ Cur w1 g A n c ∧ Chg g (g + 1) w w1 from
    ⟨0, none, 0, [], rfl, by omega, Nat.le_refl _, by unfold maxLen; omega, Own.nil_ _ _ _ _ _, hy0.chg hch1 (.inr (by omega)), hx0.chg hch1 (.inr (by omega)), hC1, hch0.trans hch1⟩)
  clear hq1 hC0 hr0 hch0 hx0 hy0 hC1 hch1
  go_wp2_with fail
  go_loopw [4] (fun i wr => ∃ j : Nat, j ≤ 4 ∧ i = .int .i64 j ∧ ∃ (k : Nat) (A' : Option Addr) (c' : Nat) (L : List Int), L.length = k ∧ k + j ≤ 4 ∧ k ≤ c' ∧ c' ≤ maxLen ∧ Own wr (w.heap.size + 2) wr.heap.size 3 1 (.slice A' k c') k (L.map (.int .i64)) ∧ Bx1 wr (w.heap.size + 1) (.slice A' k c') ∧ Bx1 wr w.heap.size (.slice none 0 0) ∧ Cur wr g A n c ∧ Chg g (g + 1) w wr) (fun i _ => (intOf i).toNat)
  case atStart => exact ⟨r0.toNat, by omega, by rw [Int.toNat_of_nonneg hq0], HR0.out⟩
  case round =>
    clear HR0
    obtain ⟨j, hj, rfl, k, A', c', L, hL, hkj, hkc, hcm, hown, hy, hx, hC1, hch⟩ := hrel
    have hrw := hr.chg hch (.inl hg)
    have hsz := hch.size
    have hyl := hy.lt
    by_cases hlt : 0 < j
    · have hlt' : (0 : Int) < (j : Int) := by omega
      obtain ⟨j', rfl⟩ : ∃ j', j = j' + 1 := ⟨j - 1, by omega⟩
      have HXY := hide hy
      obtain ⟨y0, yf0⟩ := hy
      go_wp2_with fail
      go_region_law (first
        | (go_simp; go_at_call 90; (with_reducible refine (sBelow_any _ g A n c lo hi l (3 : Int) (hC1.below' (by (repeat' (first | (with_reducible exact Below.refl _ _) | (with_reducible assumption) | (with_reducible refine Below.alloc ?_ ?_ _) | (with_reducible refine below_ext ?_ ?_ _ _) | (with_reducible refine Below.setCell ?_ ?_ _) | (with_reducible refine Below.drew ?_) | (with_reducible refine below_drewN ?_ _))); all_goals (first | omega | (simp; done) | (simp; omega)))) (hrw.below' (by (repeat' (first | (with_reducible exact Below.refl _ _) | (with_reducible assumption) | (with_reducible refine Below.alloc ?_ ?_ _) | (with_reducible refine below_ext ?_ ?_ _ _) | (with_reducible refine Below.setCell ?_ ?_ _) | (with_reducible refine Below.drew ?_) | (with_reducible refine below_drewN ?_ _))); all_goals (first | omega | (simp; done) | (simp; omega)))) hn h8 hg (by omega)).mono ?_); rintro e wa ⟨q, rfl, _, hCa, hcha⟩; have hchA := (Chg.of_below (show Below wr.heap.size wr _ from (by (repeat' (first | (with_reducible exact Below.refl _ _) | (with_reducible assumption) | (with_reducible refine Below.alloc ?_ ?_ _) | (with_reducible refine below_ext ?_ ?_ _ _) | (with_reducible refine Below.setCell ?_ ?_ _) | (with_reducible refine Below.drew ?_) | (with_reducible refine below_drewN ?_ _))); all_goals (first | omega | (simp; done) | (simp; omega)))) g (g + 1)).trans hcha; have hsa := hchA.size; have hlw : w.heap.size + 1 < wa.heap.size := (by omega); have HYA := hide (HXY.out.chg hchA (.inr (by omega))); obtain ⟨p0, pf0⟩ := HYA.out; have hownA := hown.chg hchA (.inr (by omega)))
        | (refine step_app _ rfl (.tmp 13) (.tmp 16) 40 rfl 3 i0 (.int .i64 0) 1 8 (w.heap.size + 2) wr.heap.size wa.heap.size (wa.heap.size + 1) Try.underlying40 hi0 hz0 hz1 hz2 rfl (by omega) (.slice A' k c') k (L.map (.int .i64)) (by simp [Act.eval, Act.put]) (hownA.alloc _) (some ⟨wa.heap.size, 0, none⟩) 1 1 [.int .i64 q] (by simp [Act.eval, Act.put]) (Rd.fresh wa #[.int .i64 q] 3 1 1 rfl) (by simp [Value.oneCell']) (by unfold maxLen; omega) (by omega) (by first | omega | (simp <;> omega)) (by first | omega | (simp <;> omega)) ?_; intro A5 c5 w5 hown5 hc5 hm5 hch5; have hs5 := hch5.size; (try simp at hs5); have HYB := hide ((HYA.out.below' (show Below wa.heap.size wa _ from (by (repeat' (first | (with_reducible exact Below.refl _ _) | (with_reducible assumption) | (with_reducible refine Below.alloc ?_ ?_ _) | (with_reducible refine below_ext ?_ ?_ _ _) | (with_reducible refine Below.setCell ?_ ?_ _) | (with_reducible refine Below.drew ?_) | (with_reducible refine below_drewN ?_ _))); all_goals (first | omega | (simp; done) | (simp; omega))))).chg hch5 (.inl (by omega))); obtain ⟨s0, sf0⟩ := HYB.out)
        | fail)
      all_goals
        have hL5 : (L ++ [q]).length = k + 1 := by simp [hL]
        have hown6 : Own w5 (w.heap.size + 2) w5.heap.size 3 1 (.slice A5 (k + 1) c5) (k + 1) ((L ++ [q]).map (.int .i64)) := hown5.cast rfl (by simp)
        have HREL := hide (And.intro ((hown6.chg (chg1 (w := w5) (Nat.le_refl (w.heap.size + 1)) (Nat.lt_succ_self _) (.slice A5 (k + 1) c5)) (.inr (Nat.le_refl _))).more (Nat.le_refl _) (show w5.heap.size ≤ (w5.setCell ⟨w.heap.size + 1, 0, none⟩ (.slice A5 (k + 1) c5)).heap.size by simp)) (And.intro (HYB.out.set (.slice A5 (k + 1) c5)) (And.intro ((((hx.chg hchA (.inr (by omega))).below' (show Below wa.heap.size wa (wa.alloc (.cells #[.int .i64 q] 3)) from (by (repeat' (first | (with_reducible exact Below.refl _ _) | (with_reducible assumption) | (with_reducible refine Below.alloc ?_ ?_ _) | (with_reducible refine below_ext ?_ ?_ _ _) | (with_reducible refine Below.setCell ?_ ?_ _) | (with_reducible refine Below.drew ?_) | (with_reducible refine below_drewN ?_ _))); all_goals (first | omega | (simp; done) | (simp; omega))))).chg hch5 (.inl (by omega))).chg (chg1 (w := w5) (Nat.le_refl (w.heap.size + 1)) (Nat.lt_succ_self _) (.slice A5 (k + 1) c5)) (.inl (Nat.lt_succ_self _))) (And.intro (((hCa.below' (show Below wa.heap.size wa (wa.alloc (.cells #[.int .i64 q] 3)) from (by (repeat' (first | (with_reducible exact Below.refl _ _) | (with_reducible assumption) | (with_reducible refine Below.alloc ?_ ?_ _) | (with_reducible refine below_ext ?_ ?_ _ _) | (with_reducible refine Below.setCell ?_ ?_ _) | (with_reducible refine Below.drew ?_) | (with_reducible refine below_drewN ?_ _))); all_goals (first | omega | (simp; done) | (simp; omega))))).chg hch5 (.inl (by omega))).chg (chg1 (w := w5) (Nat.le_refl (w.heap.size + 1)) (Nat.lt_succ_self _) (.slice A5 (k + 1) c5)) (.inl (by omega))) ((((hch.trans hchA).alloc (.cells #[.int .i64 q] 3)).then_new hch5 (by omega)).then_new (chg1 (w := w5) (Nat.le_refl (w.heap.size + 1)) (Nat.lt_succ_self _) (.slice A5 (k + 1) c5)) (by omega))))))
        clear HXY HYA HYB hown hownA hown5 hown6 hchA hcha hch5 hCa hC1 hch hrw hx
        go_wp2_with fail
        go_roundw
        case rel => exact ⟨j', by omega, by go_num, k + 1, A5, c5, L ++ [q], hL5, by omega, hc5, hm5, HREL.out⟩
        case measure => simp [intOf] <;> omega
    · have hlt' : ¬ (0 : Int) < (j : Int) := by omega
      have HF := hide (DrewK.mk' (M := 4) (w := w) (g := g) (A := A) (n := n) (c := c) hL (by omega) (hown.chg (chg1 (w := wr) (Nat.le_refl w.heap.size) (Nat.lt_succ_self _) (.slice A' k c')) (.inr (by omega))) (by omega) (show wr.heap.size ≤ (wr.setCell ⟨w.heap.size, 0, none⟩ (.slice A' k c')).heap.size by simp) hkc hcm (hC1.chg (chg1 (w := wr) (Nat.le_refl w.heap.size) (Nat.lt_succ_self _) (.slice A' k c')) (.inl hgl)) (hch.then_new (chg1 (w := wr) (Nat.le_refl w.heap.size) (Nat.lt_succ_self _) (.slice A' k c')) (Nat.le_refl _)))
      obtain ⟨x0, xf0⟩ := hx
      obtain ⟨y0, yf0⟩ := hy
      clear hown hC1 hch hrw
      go_wp2_with fail
      exact bodyPost_ret (v := .agg #[.slice A' k c']) (by simp only [results, Try.results105]; go_simp) rfl HF.out
end Go.Proofs.Ytbfmdnlfbadokaa
