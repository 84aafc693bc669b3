/- PacketsForBearer: what it makes. -/
import Derived.Test.YticfmkfiibhafaaNi2
import Derived.Test.YticfmkfiibhafaaNPacket
import Derived.Test.YticfmkfiibhafaaBea2
import Derived.Test.YticfmkfiibhafaaCpy
namespace Go.Proofs.Yticfmkfiibhafaa
open Go.RowKit Go.Sep

theorem own_new0 (X : World) (E : TypeId) (sz k : Nat) (hk : X.heap.size = k) : Own (X.alloc (.cells #[] E)) k (k + 1) E sz (.slice (some ⟨k, 0, none⟩) 0 0) 0 [] := by
  subst hk
  simpa using Own.fresh X #[] E sz 0 (by simp) (by unfold maxLen; omega)
theorem own_set1 {w : World} {lo hi sz n P j : Nat} {E : TypeId} {v u : Value} {xs : List Value} (h : Own w lo hi E sz v n xs) (hp : P < lo) : Own (w.setCell ⟨P, j, none⟩ u) lo hi E sz v n xs :=
  h.chg (show Chg P (P + 1) w (w.setCell ⟨P, j, none⟩ u) from (by (repeat' (first | (with_reducible exact Chg.refl _ _ _) | (with_reducible assumption) | (with_reducible refine Chg.alloc ?_ _) | (with_reducible refine Chg.setCell ?_ ?_ _) | (with_reducible refine Chg.drew ?_) | (with_reducible refine Chg.drewN ?_ _) | (with_reducible refine Chg.ext ?_ _ _))); all_goals (first | omega | (simp; done) | (simp; omega)))) (.inr (by omega))
set_option maxRecDepth 100000 in
theorem sCopyP_any (w : World) (x : Int) (A : Option Addr) (n c lo hi : Nat) (l : List Int) (hr : Rd w lo hi 1 A n (l.map (.int .u8))) (hn : n ≤ 16777216) :
    Calls Try.prog 71 #[.agg #[.int .i64 x, .slice A n c]] w (MkV (fun v => .agg #[.int .i64 x, v]) w 5 1 n (l.map (.int .u8))) := by
  obtain ⟨i0, hi0, hz0, hz1, hz2⟩ := info_parts infoByteS
  go_enter Try.func71, Try.ntmps71
  go_wp2_with fail
  have h0 : w.heap.size < w.heap.size + 1 + 1 := by omega
  have h1 : w.heap.size + 1 < w.heap.size + 1 + 1 := by omega
  go_region_law (first
    | (refine step_app _ rfl (.tmp 5) (.tmp 7) 51 rfl 5 i0 (.int .u8 0) 1 1 (w.heap.size + 1 + 1) (w.heap.size + 1 + 1 + 1) lo hi Try.underlying51 hi0 hz0 hz1 hz2 rfl (by omega) (.slice (some ⟨w.heap.size + 1 + 1, 0, none⟩) 0 0) 0 [] (by simp [Act.eval, Act.put]) (by first | exact own_new0 _ _ _ _ (by simp) | exact (own_new0 _ _ _ _ (by simp)).drew) A n c (l.map (.int .u8)) (by simp [Act.eval, Act.put]) (hr.below' (by (repeat' (first | (with_reducible exact Below.refl _ _) | (with_reducible assumption) | (with_reducible refine Below.alloc ?_ ?_ _) | (with_reducible refine below_ext ?_ ?_ _ _) | (with_reducible refine Below.setCell ?_ ?_ _) | (with_reducible refine Below.drew ?_) | (with_reducible refine below_drewN ?_ _))); all_goals (first | omega | (simp; done) | (simp; omega)))) (ints_one _ _) (by unfold maxLen; omega) (by omega) (by first | omega | (simp <;> omega)) (by first | omega | (simp <;> omega)) ?_; intro A1 c1 w1 hown1 hc1 hm1 hch1; have hs1 := hch1.size; simp at hs1; have hb1 : Below w.heap.size w w1 := below_then (show Below w.heap.size w _ from (by (repeat' (first | (with_reducible exact Below.refl _ _) | (with_reducible assumption) | (with_reducible refine Below.alloc ?_ ?_ _) | (with_reducible refine below_ext ?_ ?_ _ _) | (with_reducible refine Below.setCell ?_ ?_ _) | (with_reducible refine Below.drew ?_) | (with_reducible refine below_drewN ?_ _))); all_goals (first | omega | (simp; done) | (simp; omega)))) (hch1.below (B := w.heap.size) (by omega) (by simp <;> omega)) (Nat.le_refl _); have hy0 : w1.cell? ⟨w.heap.size, 0, none⟩ = some (.int .i64 x) := (hch1.cell (p := ⟨w.heap.size, 0, none⟩) (by simp <;> omega) (.inl (by show w.heap.size < _; omega))).trans (by go_simp); have hy1 : w1.cell? ⟨w.heap.size, 1, none⟩ = some (.slice A n c) := (hch1.cell (p := ⟨w.heap.size, 1, none⟩) (by simp <;> omega) (.inl (by show w.heap.size < _; omega))).trans (by go_simp); have hx0 : w1.cell? ⟨w.heap.size + 1, 0, none⟩ = some (.int .i64 0) := (hch1.cell (p := ⟨w.heap.size + 1, 0, none⟩) (by simp <;> omega) (.inl (by simp))).trans (by go_simp); have hx1 : w1.cell? ⟨w.heap.size + 1, 1, none⟩ = some (.slice none 0 0) := (hch1.cell (p := ⟨w.heap.size + 1, 1, none⟩) (by simp <;> omega) (.inl (by simp))).trans (by go_simp); have hf0 : w1.frozen? ⟨w.heap.size + 1, 0, none⟩ = false := (hch1.frozen (p := ⟨w.heap.size + 1, 0, none⟩) (by simp <;> omega) (.inl (by simp))).trans (by go_simp); have hf1 : w1.frozen? ⟨w.heap.size + 1, 1, none⟩ = false := (hch1.frozen (p := ⟨w.heap.size + 1, 1, none⟩) (by simp <;> omega) (.inl (by simp))).trans (by go_simp))
    | fail)
  all_goals
    have hown2 : Own w1 (w.heap.size + 1 + 1) w1.heap.size 5 1 (.slice A1 n c1) n (l.map (.int .u8)) := by simpa using hown1
    have hc2 : n ≤ c1 := by omega
    have HF := hide (And.intro hown2 hb1)
    clear hown1 hown2 hch1 hb1
    go_wp2_with fail
    refine bodyPost_ret (v := .agg #[.int .i64 x, .slice A1 n c1]) (by simp only [results, Try.results71]; go_simp) rfl ?_
    obtain ⟨hown2, hb1⟩ := HF.out
    refine ⟨A1, c1, rfl, hc2, hm1, ?_, (by (repeat' (first | (with_reducible exact Below.refl _ _) | (with_reducible assumption) | (with_reducible refine Below.alloc ?_ ?_ _) | (with_reducible refine below_ext ?_ ?_ _ _) | (with_reducible refine Below.setCell ?_ ?_ _) | (with_reducible refine Below.drew ?_) | (with_reducible refine below_drewN ?_ _))); all_goals (first | omega | (simp; done) | (simp; omega)))⟩
    refine Own.more (lo := w.heap.size + 1 + 1) (hi := w1.heap.size) ?_ (by omega) (by simp)
    (repeat' (first | (with_reducible exact hown2) | (with_reducible refine Own.drew ?_) | (with_reducible refine own_set1 ?_ ?_))) <;> omega
end Go.Proofs.Yticfmkfiibhafaa
