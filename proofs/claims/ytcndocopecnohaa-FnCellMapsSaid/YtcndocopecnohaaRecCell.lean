/- The laws' helpers on Cell: a copy, a comparison, the size, marks written and read. -/
import Derived.Test.YtcndocopecnohaaIntS
import Derived.Test.YtcndocopecnohaaSep
namespace Go.Proofs.Ytcndocopecnohaa
open Go.RowKit Go.Sep

theorem szCell_any (w : World) (x0 : Int) (A : Option Addr) (n c : Nat) (left : Int) (hn : n ≤ 9223372036854775807) (h0 : 0 ≤ left) (h1 : left ≤ 1048576) :
    Calls Try.prog 49 #[.agg #[.int .i64 x0, .slice A n c], .int .i64 left] w fun e w' => e = .returned (.int .i64 (if left < n then -1 else left - n)) ∧ Below w.heap.size w w' := by
  have HZ := hide (fun W => szIntS_any W A n c left hn h0 h1)
  by_cases h : left < n
  · rw [show (if left < (n : Int) then (-1 : Int) else left - n) = -1 from if_pos h] at HZ ⊢
    go_enter Try.func49, Try.ntmps49
    go_wp2_with (go_at_call 57; refine (unhide HZ _).mono ?_; rintro e w' ⟨rfl, rfl⟩)
    go_ret
    exact ⟨rfl, (by (repeat' (first | (with_reducible exact Below.refl _ _) | (with_reducible assumption) | (with_reducible refine Below.alloc ?_ ?_ _) | (with_reducible refine below_ext ?_ ?_ _ _) | (with_reducible refine Below.setCell ?_ ?_ _) | (with_reducible refine Below.drew ?_) | (with_reducible refine below_drewN ?_ _))); all_goals (first | omega | (simp; done) | (simp; omega)))⟩
  · rw [show (if left < (n : Int) then (-1 : Int) else left - n) = left - n from if_neg h] at HZ ⊢
    go_enter Try.func49, Try.ntmps49
    go_wp2_with (go_at_call 57; refine (unhide HZ _).mono ?_; rintro e w' ⟨rfl, rfl⟩)
    go_ret
    exact ⟨rfl, (by (repeat' (first | (with_reducible exact Below.refl _ _) | (with_reducible assumption) | (with_reducible refine Below.alloc ?_ ?_ _) | (with_reducible refine below_ext ?_ ?_ _ _) | (with_reducible refine Below.setCell ?_ ?_ _) | (with_reducible refine Below.drew ?_) | (with_reducible refine below_drewN ?_ _))); all_goals (first | omega | (simp; done) | (simp; omega)))⟩
theorem toCell_any (w : World) (x0 : Int) (A : Option Addr) (n c lo hi : Nat) (l : List Int) (hr : Rd w lo hi 1 A n (l.map (.int .i64))) (hn : n ≤ 16777216) :
    Calls Try.prog 50 #[.agg #[.int .i64 x0, .slice A n c]] w (MkV (fun v => .agg #[.int .i64 x0, v]) w 3 1 n (l.map (.int .i64))) := by
  go_enter Try.func50, Try.ntmps50
  go_wp2_with (go_at_call 58; refine (toIntS_any _ _ _ _ _ _ l (hr.below' (by (repeat' (first | (with_reducible exact Below.refl _ _) | (with_reducible assumption) | (with_reducible refine Below.alloc ?_ ?_ _) | (with_reducible refine below_ext ?_ ?_ _ _) | (with_reducible refine Below.setCell ?_ ?_ _) | (with_reducible refine Below.drew ?_) | (with_reducible refine below_drewN ?_ _))); all_goals (first | omega | (simp; done) | (simp; omega)))) hn).mono ?_; rintro e w1 ⟨A1, c1, rfl, hc1, hm1, ho1, hb1⟩; obtain ⟨os1, d1, rfl⟩ := ext_of_below hb1; clear hb1; try simp only [ext_drew] at ho1; try simp only [ext_drewN] at ho1)
  exact bodyPost_ret (v := .agg #[.int .i64 x0, .slice A1 n c1]) (by simp only [results, Try.results50]; go_simp) rfl ⟨A1, c1, rfl, hc1, hm1, (ho1.swap (by simp) (by simp)).more (by simp <;> omega) (by simp), (by (repeat' (first | (with_reducible exact Below.refl _ _) | (with_reducible assumption) | (with_reducible refine Below.alloc ?_ ?_ _) | (with_reducible refine below_ext ?_ ?_ _ _) | (with_reducible refine Below.setCell ?_ ?_ _) | (with_reducible refine Below.drew ?_) | (with_reducible refine below_drewN ?_ _))); all_goals (first | omega | (simp; done) | (simp; omega)))⟩
theorem eqCell_yes (w : World) (x0 : Int) (A B : Option Addr) (n c c2 lo hi lo' hi' : Nat) (l : List Int) (hr : Rd w lo hi 1 A n (l.map (.int .i64))) (hr' : Rd w lo' hi' 1 B n (l.map (.int .i64))) (hn : n ≤ 9223372036854775807) :
    Calls Try.prog 51 #[.agg #[.int .i64 x0, .slice A n c], .agg #[.int .i64 x0, .slice B n c2]] w fun e w' => e = .returned (.bool true) ∧ Below w.heap.size w w' := by
  go_enter Try.func51, Try.ntmps51
  go_wp2_with (go_at_call 19; refine (eqIntS_yes _ _ _ _ _ _ _ _ _ _ l (hr.below' (by (repeat' (first | (with_reducible exact Below.refl _ _) | (with_reducible assumption) | (with_reducible refine Below.alloc ?_ ?_ _) | (with_reducible refine below_ext ?_ ?_ _ _) | (with_reducible refine Below.setCell ?_ ?_ _) | (with_reducible refine Below.drew ?_) | (with_reducible refine below_drewN ?_ _))); all_goals (first | omega | (simp; done) | (simp; omega)))) (hr'.below' (by (repeat' (first | (with_reducible exact Below.refl _ _) | (with_reducible assumption) | (with_reducible refine Below.alloc ?_ ?_ _) | (with_reducible refine below_ext ?_ ?_ _ _) | (with_reducible refine Below.setCell ?_ ?_ _) | (with_reducible refine Below.drew ?_) | (with_reducible refine below_drewN ?_ _))); all_goals (first | omega | (simp; done) | (simp; omega)))) hn).mono ?_; rintro e w1 ⟨rfl, hb1⟩; obtain ⟨os1, d1, rfl⟩ := ext_of_below hb1; clear hb1)
  go_ret
  exact ⟨rfl, (by (repeat' (first | (with_reducible exact Below.refl _ _) | (with_reducible assumption) | (with_reducible refine Below.alloc ?_ ?_ _) | (with_reducible refine below_ext ?_ ?_ _ _) | (with_reducible refine Below.setCell ?_ ?_ _) | (with_reducible refine Below.drew ?_) | (with_reducible refine below_drewN ?_ _))); all_goals (first | omega | (simp; done) | (simp; omega)))⟩
end Go.Proofs.Ytcndocopecnohaa
