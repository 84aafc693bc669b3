/- The draw of FnKeyTree: DrawDeriveFrom. -/
import Derived.Test.YtbfmdnlfbadokaaKtF
namespace Go.Proofs.Ytbfmdnlfbadokaa
open Go.RowKit Go.Sep

/-- What DrawDeriveFrom leaves. -/
def ThreeK (w : World) (e : Ending) (w' : World) : Prop :=
  ∃ (r : Int) (A1 A2 : Option Addr) (k1 k2 c1 c2 : Nat) (L1 L2 : List Int), e = .returned (.tuple #[.int .i64 r, .agg #[.slice A1 k1 c1], .agg #[.slice A2 k2 c2]]) ∧ L1.length = k1 ∧ k1 ≤ 7 ∧ L2.length = k2 ∧ k2 ≤ 7 ∧
    Rd w' w.heap.size w'.heap.size 1 A1 k1 (L1.map (.int .i64)) ∧ Rd w' w.heap.size w'.heap.size 1 A2 k2 (L2.map (.int .i64)) ∧ k1 ≤ c1 ∧ c1 ≤ maxLen ∧ k2 ≤ c2 ∧ c2 ≤ maxLen ∧ Below w.heap.size w w'
set_option maxHeartbeats 1000000 in
set_option maxRecDepth 100000 in
theorem sDrawDF_any (w : World) (A : Option Addr) (n c : Nat) (l : List Int) (hr : Rd w 0 w.heap.size 1 A n (l.map (.int .u8))) (hn : n ≤ 16777216) (h8 : ∀ x ∈ l, 0 ≤ x ∧ x ≤ 255) :
    Calls Try.prog 41 #[.slice A n c] w (ThreeK w) := by
  have hx0 := (Bx1.new w 45 (.slice none 0 0)).below' (w' := ((w.alloc (.cells #[.slice none 0 0] 45)).alloc (.cells #[.slice none 0 0] 45))) (by (repeat' (first | (with_reducible exact Below.refl _ _) | (with_reducible assumption) | (with_reducible refine Below.alloc ?_ ?_ _) | (with_reducible refine below_ext ?_ ?_ _ _) | (with_reducible refine Below.setCell ?_ ?_ _) | (with_reducible refine Below.drew ?_) | (with_reducible refine below_drewN ?_ _))); all_goals (first | omega | (simp; done) | (simp; omega)))
  have hy0 := Bx1.new (w.alloc (.cells #[.slice none 0 0] 45)) 45 (.slice none 0 0)
  rw [show (w.alloc (.cells #[.slice none 0 0] 45)).heap.size = w.heap.size + 1 by simp] at hy0
  go_enter Try.func41, Try.ntmps41
  go_wp2_with fail
  refine (sTwo_any _ A n c l (((hr.alloc (.cells #[.slice none 0 0] 45)).alloc (.cells #[.slice none 0 0] 45)).more (Nat.le_refl _) (by simp; omega)) hn h8).mono ?_
  rintro e w1 ⟨A1, A2, k1, k2, c1, c2, L1, L2, rfl, hL1, hk1, hL2, hk2, hr1, hr2, hkc1, hcm1, hkc2, hcm2, hb1⟩
  have hs1 := hb1.size
  simp at hs1
  have hlw0 : w.heap.size < w1.heap.size := by omega
  have hlw1 : w.heap.size + 1 < w1.heap.size := by omega
  have HX := hide (hx0.below' hb1)
  have HY := hide (hy0.below' hb1)
  obtain ⟨p0, pf0⟩ := HX.out
  obtain ⟨q0, qf0⟩ := HY.out
  have hbw1 : Below w.heap.size w w1 := below_then (((Below.refl _ _).alloc (Nat.le_refl _) _).alloc (by simp) _) hb1 (by simp; omega)
  have HF := hide (And.intro hr1 (And.intro hr2 hbw1))
  clear hb1 hx0 hy0 hr1 hr2 hr hbw1
  go_wp2_with fail
  go_region_law fail
  all_goals
    go_wp2_with fail
    refine bodyPost_ret (v := .tuple #[.int .i64 (IntKind.i64.wrap (100 + (n : Int).tmod 7)), .agg #[.slice A1 k1 c1], .agg #[.slice A2 k2 c2]]) (by simp only [results, Try.results41]; go_simp) rfl ?_
    obtain ⟨hr1, hr2, hbw1⟩ := HF.out
    refine ⟨_, A1, A2, k1, k2, c1, c2, L1, L2, rfl, hL1, hk1, hL2, hk2, ?_, ?_, hkc1, hcm1, hkc2, hcm2, (by (repeat' (first | (with_reducible exact Below.refl _ _) | (with_reducible assumption) | (with_reducible refine Below.alloc ?_ ?_ _) | (with_reducible refine below_ext ?_ ?_ _ _) | (with_reducible refine Below.setCell ?_ ?_ _) | (with_reducible refine Below.drew ?_) | (with_reducible refine below_drewN ?_ _))); all_goals (first | omega | (simp; done) | (simp; omega)))⟩
    · refine Rd.more (lo := w.heap.size + 1 + 1) (hi := w1.heap.size) ?_ (by omega) (by simp; omega)
      have hr1 := hr1.more (lo' := w.heap.size + 1 + 1) (by simp) (Nat.le_refl _)
      ((repeat' (first | (with_reducible exact hr1) | (with_reducible refine Rd.setCell ?_ (.inr ?_) _) | (with_reducible refine Rd.alloc ?_ _) | (with_reducible refine Rd.drew ?_))); all_goals (first | omega | (simp; done) | (simp; omega)))
    · refine Rd.more (lo := w.heap.size + 1 + 1) (hi := w1.heap.size) ?_ (by omega) (by simp; omega)
      have hr2 := hr2.more (lo' := w.heap.size + 1 + 1) (by simp) (Nat.le_refl _)
      ((repeat' (first | (with_reducible exact hr2) | (with_reducible refine Rd.setCell ?_ (.inr ?_) _) | (with_reducible refine Rd.alloc ?_ _) | (with_reducible refine Rd.drew ?_))); all_goals (first | omega | (simp; done) | (simp; omega)))
end Go.Proofs.Ytbfmdnlfbadokaa
