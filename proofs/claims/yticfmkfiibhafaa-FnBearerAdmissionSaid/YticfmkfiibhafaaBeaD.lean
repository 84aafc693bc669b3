/- DrawAdmitBearer: what it draws. -/
import Derived.Test.YticfmkfiibhafaaDrawBe
import Derived.Deep.RegionLaw
namespace Go.Proofs.Yticfmkfiibhafaa
open Go.RowKit Go.Sep

theorem rdNew (X : World) (cs : Array Value) (E : TypeId) (n k : Nat) (hk : X.heap.size = k) (h : cs.size = n * 1) : Rd (X.alloc (.cells cs E)) k (k + 1) 1 (some ⟨k, 0, none⟩) n cs.toList := by
  subst hk
  exact Rd.fresh X cs E 1 n h
set_option maxHeartbeats 1000000 in
set_option maxRecDepth 100000 in
theorem sDrawAB_any (w : World) (A : Option Addr) (n c : Nat) (l : List Int) (hr : Rd w 0 w.heap.size 1 A n (l.map (.int .u8))) (hn : n ≤ 16777216) (h8 : ∀ x ∈ l, 0 ≤ x ∧ x ≤ 255) :
    Calls Try.prog 44 #[.slice A n c] w fun e w' => ∃ (x y z cap : Int) (A' : Option Addr) (k c' : Nat) (L : List (Int × Int × Int)), e = .returned (.tuple #[.slice A' k c', .agg #[.int .i64 x, .int .i64 y, .int .i64 z], .int .i64 cap]) ∧ L.length = k ∧ k ≤ 12 ∧ Rd w' w.heap.size w'.heap.size 3 A' k (L.flatMap c3) ∧ k ≤ c' ∧ c' ≤ maxLen ∧ Below w.heap.size w w' := by
  go_enter Try.func44, Try.ntmps44
  go_wp2_with fail
  refine (sNew_any _ A n c _ _ l (hr.alloc _) hn h8).mono ?_
  rintro e w1 ⟨g, rfl, hg, hC1, hb1⟩
  have hr1 := (hr.alloc _).below' hb1
  obtain ⟨hx0, hx1, hx2, hbw1, hsz1⟩ := box3 hb1
  have hf0 := (hb1.frozen (p := ⟨w.heap.size, 0, none⟩) (by simp)).trans (by go_simp : _ = false)
  have hf1 := (hb1.frozen (p := ⟨w.heap.size, 1, none⟩) (by simp)).trans (by go_simp : _ = false)
  have hf2 := (hb1.frozen (p := ⟨w.heap.size, 2, none⟩) (by simp)).trans (by go_simp : _ = false)
  have hg' : w.heap.size + 1 ≤ g := by simpa using hg
  clear hb1
  go_wp2_with fail
  refine (sAny11_any _ g A n c _ _ l hC1 hr1 hn h8 (by omega)).mono ?_
  rintro e w2 ⟨A', k, c', L, rfl, hl, hk, hown, hkc, hcm, hC2, hch2⟩
  have hr2 := hr1.chg hch2 (.inl (by omega))
  have hs2 := hch2.size
  have hrd := hown.rd
  have hgl := hC1.lt
  go_wp2_with fail
  refine (sOne11_any _ g A n c _ _ l hC2 hr2 hn h8 (by omega)).mono ?_
  rintro e w3 ⟨x, y, z, rfl, hC3, hch3⟩
  have hr3 := hr2.chg hch3 (.inl (by omega))
  have hs3 := hch3.size
  have hrd3 := hrd.chg hch3 (.inr (by omega))
  have hchA := hch2.trans hch3
  have p0 := (hchA.cell (p := ⟨w.heap.size, 0, none⟩) (by simp; omega) (.inl (by simp; omega))).trans hx0
  have p1 := (hchA.cell (p := ⟨w.heap.size, 1, none⟩) (by simp; omega) (.inl (by simp; omega))).trans hx1
  have p2 := (hchA.cell (p := ⟨w.heap.size, 2, none⟩) (by simp; omega) (.inl (by simp; omega))).trans hx2
  have f0 := (hchA.frozen (p := ⟨w.heap.size, 0, none⟩) (by simp; omega) (.inl (by simp; omega))).trans hf0
  have f1 := (hchA.frozen (p := ⟨w.heap.size, 1, none⟩) (by simp; omega) (.inl (by simp; omega))).trans hf1
  have f2 := (hchA.frozen (p := ⟨w.heap.size, 2, none⟩) (by simp; omega) (.inl (by simp; omega))).trans hf2
  have hbw3 : Below w.heap.size w w3 := below_then hbw1 (hchA.below (B := w.heap.size) (by omega) (by omega)) (Nat.le_refl _)
  have hlt3 : w.heap.size < w3.heap.size := by omega
  clear hown hrd hC1 hC2 hch2 hch3 hchA hr1 hr2 hr hx0 hx1 hx2 hf0 hf1 hf2 hbw1
  go_wp2_with fail
  go_region_law (go_simp; go_at_call 69; refine (sInt_any _ g A n c 0 w.heap.size l (some ⟨w3.heap.size + 1, 0, none⟩) 5 5 (w3.heap.size + 1) (w3.heap.size + 1 + 1) [5, 10, 20, 0, -1] (hC3.below' (by (repeat' (first | (with_reducible exact Below.refl _ _) | (with_reducible assumption) | (with_reducible refine Below.alloc ?_ ?_ _) | (with_reducible refine below_ext ?_ ?_ _ _) | (with_reducible refine Below.setCell ?_ ?_ _) | (with_reducible refine Below.drew ?_) | (with_reducible refine below_drewN ?_ _))); all_goals (first | omega | (simp; done) | (simp; omega)))) (hr3.below' (by (repeat' (first | (with_reducible exact Below.refl _ _) | (with_reducible assumption) | (with_reducible refine Below.alloc ?_ ?_ _) | (with_reducible refine below_ext ?_ ?_ _ _) | (with_reducible refine Below.setCell ?_ ?_ _) | (with_reducible refine Below.drew ?_) | (with_reducible refine below_drewN ?_ _))); all_goals (first | omega | (simp; done) | (simp; omega)))) hn h8 (by omega) ((rdNew _ #[.int .i64 5, .int .i64 10, .int .i64 20, .int .i64 0, .int .i64 (-1)] 3 5 _ (by simp) rfl).drew) (by omega) (by omega) (by omega)).mono ?_; rintro e w4 ⟨cap, rfl, _, hC4, hch4⟩; have b0 := (hch4.cell (p := ⟨w3.heap.size, 0, none⟩) (by simp <;> omega) (.inr (by simp; omega))).trans (by go_simp : _ = some (Value.int .i64 x)); have b1 := (hch4.cell (p := ⟨w3.heap.size, 1, none⟩) (by simp <;> omega) (.inr (by simp; omega))).trans (by go_simp : _ = some (Value.int .i64 y)); have b2 := (hch4.cell (p := ⟨w3.heap.size, 2, none⟩) (by simp <;> omega) (.inr (by simp; omega))).trans (by go_simp : _ = some (Value.int .i64 z)); have c0 := (hch4.cell (p := ⟨w.heap.size, 0, none⟩) (by simp <;> omega) (.inl (by simp; omega))).trans (by go_simp : _ = some (Value.int .i64 0)); have d0 := (hch4.frozen (p := ⟨w.heap.size, 0, none⟩) (by simp <;> omega) (.inl (by simp; omega))).trans (by go_simp : _ = false); have c1 := (hch4.cell (p := ⟨w.heap.size, 1, none⟩) (by simp <;> omega) (.inl (by simp; omega))).trans (by go_simp : _ = some (Value.int .i64 0)); have d1 := (hch4.frozen (p := ⟨w.heap.size, 1, none⟩) (by simp <;> omega) (.inl (by simp; omega))).trans (by go_simp : _ = false); have c2 := (hch4.cell (p := ⟨w.heap.size, 2, none⟩) (by simp <;> omega) (.inl (by simp; omega))).trans (by go_simp : _ = some (Value.int .i64 0)); have d2 := (hch4.frozen (p := ⟨w.heap.size, 2, none⟩) (by simp <;> omega) (.inl (by simp; omega))).trans (by go_simp : _ = false); have hbw4 : Below w.heap.size w w4 := below_then (below_then hbw3 (show Below w3.heap.size w3 _ from (by (repeat' (first | (with_reducible exact Below.refl _ _) | (with_reducible assumption) | (with_reducible refine Below.alloc ?_ ?_ _) | (with_reducible refine below_ext ?_ ?_ _ _) | (with_reducible refine Below.setCell ?_ ?_ _) | (with_reducible refine Below.drew ?_) | (with_reducible refine below_drewN ?_ _))); all_goals (first | omega | (simp; done) | (simp; omega)))) hbw3.size) (hch4.below (B := w.heap.size) (by omega) (by simp <;> omega)) (Nat.le_refl _); have hrd4 := (hrd3.below' (show Below w3.heap.size w3 _ from (by (repeat' (first | (with_reducible exact Below.refl _ _) | (with_reducible assumption) | (with_reducible refine Below.alloc ?_ ?_ _) | (with_reducible refine below_ext ?_ ?_ _ _) | (with_reducible refine Below.setCell ?_ ?_ _) | (with_reducible refine Below.drew ?_) | (with_reducible refine below_drewN ?_ _))); all_goals (first | omega | (simp; done) | (simp; omega))))).chg hch4 (.inr (by omega)); have hsz4 := hch4.size; (try simp at hsz4))
  all_goals
    have HFIN := hide (show ∀ u v t : Value, Rd (((w4.setCell ⟨w.heap.size, 0, none⟩ u).setCell ⟨w.heap.size, 1, none⟩ v).setCell ⟨w.heap.size, 2, none⟩ t) w.heap.size (((w4.setCell ⟨w.heap.size, 0, none⟩ u).setCell ⟨w.heap.size, 1, none⟩ v).setCell ⟨w.heap.size, 2, none⟩ t).heap.size 3 A' k (L.flatMap c3) ∧ Below w.heap.size w (((w4.setCell ⟨w.heap.size, 0, none⟩ u).setCell ⟨w.heap.size, 1, none⟩ v).setCell ⟨w.heap.size, 2, none⟩ t) from fun u v t =>
      ⟨((((hrd4.setCell (.inr (by simp; omega)) u).setCell (.inr (by simp; omega)) v).setCell (.inr (by simp; omega)) t).more (by omega) (by simp; omega)), ((hbw4.setCell (by simp) u).setCell (by simp) v).setCell (by simp) t⟩)
    clear hrd4 hbw4 hch4 hC4 hC3 hr3 hrd3 hbw3
    go_wp2_with fail
    exact bodyPost_ret (v := .tuple #[.slice A' k c', .agg #[.int .i64 x, .int .i64 y, .int .i64 z], .int .i64 cap]) (by simp only [results, Try.results44]; go_simp) rfl ⟨_, _, _, _, A', k, c', L, rfl, hl, hk, (HFIN.out _ _ _).1, hkc, hcm, (HFIN.out _ _ _).2⟩
end Go.Proofs.Yticfmkfiibhafaa
