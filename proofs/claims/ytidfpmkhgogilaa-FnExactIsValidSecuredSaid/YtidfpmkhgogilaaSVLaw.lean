/- The laws on IsValidSecured and EqualSecured, walked. -/
import Derived.Test.YtidfpmkhgogilaaSVal
import Derived.Test.YtidfpmkhgogilaaRecSec
namespace Go.Proofs.Ytidfpmkhgogilaa
open Go.RowKit Go.Sep

theorem fnExactIsValidSecured.walk (d c0 : Int) (A : Option Addr) (n c : Nat) (l : List Int) (m0 : Int) (w : World) (hl : l.length = n) (hr : Rd w 0 w.heap.size 1 A n (l.map (.int .u8))) (hw : ∀ x ∈ l, (Lit.int .u8 x).wf = true) (hc : n ≤ c ∧ c ≤ maxLen) :
    Calls Try.prog 3 #[.agg #[.int .i64 d, .int .i64 c0, .slice A n c, .int .i64 m0]] w fun e w' => e = .returned (.bool true) ∧ Below w.heap.size w w' := by
  have hn : n ≤ 9223372036854775807 := by have := hc.1; have := hc.2; unfold maxLen at this; omega
  have HS := hide (fun W => szSecuredMessage_any W d c0 m0 A n c 1048576 hn (by omega) (by omega))
  by_cases hbig : (1048576 : Int) < n
  · rw [if_pos hbig] at HS
    go_enter Try.func3, Try.ntmps3
    go_wp2_with (go_at_call 15; refine (unhide HS _).mono ?_; rintro e w1 ⟨rfl, hb1⟩; obtain ⟨os1, d1, rfl⟩ := ext_of_below hb1; clear hb1)
    go_ret
    exact ⟨rfl, (by (repeat' (first | (with_reducible exact Below.refl _ _) | (with_reducible assumption) | (with_reducible refine Below.alloc ?_ ?_ _) | (with_reducible refine below_ext ?_ ?_ _ _) | (with_reducible refine Below.setCell ?_ ?_ _) | (with_reducible refine Below.drew ?_) | (with_reducible refine below_drewN ?_ _))); all_goals (first | omega | (simp; done) | (simp; omega)))⟩
  · rw [if_neg hbig] at HS
    have hn3 : n ≤ 16777216 := by omega
    have HR := hide (fun W A c => sVS_any d c0 A n c m0 W)
    have HI := hide (fun W A c => iVS_any d c0 A n c m0 W)
    generalize vS d c0 n m0 = r at HR HI
    go_enter Try.func3, Try.ntmps3
    go_wp2_with fail; refine (unhide HS _).mono ?_; rintro e w1 ⟨rfl, hb1⟩; obtain ⟨os1, d1, rfl⟩ := ext_of_below hb1; clear hb1
    go_wp2_with fail; refine (toSecuredMessage_any _ _ _ _ _ _ _ _ _ l (hr.below' (by (repeat' (first | (with_reducible exact Below.refl _ _) | (with_reducible assumption) | (with_reducible refine Below.alloc ?_ ?_ _) | (with_reducible refine below_ext ?_ ?_ _ _) | (with_reducible refine Below.setCell ?_ ?_ _) | (with_reducible refine Below.drew ?_) | (with_reducible refine below_drewN ?_ _))); all_goals (first | omega | (simp; done) | (simp; omega)))) hn3).mono ?_; rintro e w2 ⟨A2, c2, rfl, hc2, hm2, ho2, hb2⟩; obtain ⟨os2, d2, rfl⟩ := ext_of_below hb2; clear hb2; try simp only [ext_drew, ext_drewN] at ho2
    go_wp2_with fail; refine (unhide HR _ _ _).mono ?_; rintro e w3 ⟨rfl, hb3⟩; obtain ⟨os3, d3, rfl⟩ := ext_of_below hb3; clear hb3
    go_wp2_with fail; refine (toSecuredMessage_any _ _ _ _ _ _ _ _ _ l (hr.below' (by (repeat' (first | (with_reducible exact Below.refl _ _) | (with_reducible assumption) | (with_reducible refine Below.alloc ?_ ?_ _) | (with_reducible refine below_ext ?_ ?_ _ _) | (with_reducible refine Below.setCell ?_ ?_ _) | (with_reducible refine Below.drew ?_) | (with_reducible refine below_drewN ?_ _))); all_goals (first | omega | (simp; done) | (simp; omega)))) hn3).mono ?_; rintro e w4 ⟨A4, c4, rfl, hc4, hm4, ho4, hb4⟩; obtain ⟨os4, d4, rfl⟩ := ext_of_below hb4; clear hb4; try simp only [ext_drew, ext_drewN] at ho4
    go_wp2_with fail; refine (unhide HI _ _ _).mono ?_; rintro e w5 ⟨rfl, hb5⟩; obtain ⟨os5, d5, rfl⟩ := ext_of_below hb5; clear hb5
    go_wp2_with fail
    go_region_held3 (fun w' => (w'.cell? ⟨w.heap.size, 0, none⟩ = some (.int .i64 d) ∧ w'.cell? ⟨w.heap.size, 1, none⟩ = some (.int .i64 c0) ∧ w'.cell? ⟨w.heap.size, 2, none⟩ = some (.slice A n c) ∧ w'.cell? ⟨w.heap.size, 3, none⟩ = some (.int .i64 m0)) ∧ w'.cell? ⟨w.heap.size + 1 + os1.size + os2.size + os3.size + os4.size, 0, none⟩ = some (.int .i64 d) ∧ w'.cell? ⟨w.heap.size + 1 + os1.size + os2.size + os3.size + os4.size, 1, none⟩ = some (.int .i64 c0) ∧ w'.cell? ⟨w.heap.size + 1 + os1.size + os2.size + os3.size + os4.size, 2, none⟩ = some (.slice A4 n c4) ∧ w'.cell? ⟨w.heap.size + 1 + os1.size + os2.size + os3.size + os4.size, 3, none⟩ = some (.int .i64 m0)) (first | (go_simp; done) | go_keep)
      (first | (go_at_call 17; refine (toSecuredMessage_any _ _ _ _ _ _ _ _ _ l (hr.below' (by (repeat' (first | (with_reducible exact Below.refl _ _) | (with_reducible assumption) | (with_reducible refine Below.alloc ?_ ?_ _) | (with_reducible refine below_ext ?_ ?_ _ _) | (with_reducible refine Below.setCell ?_ ?_ _) | (with_reducible refine Below.drew ?_) | (with_reducible refine below_drewN ?_ _))); all_goals (first | omega | (simp; done) | (simp; omega)))) hn3).mono ?_; rintro e w6 ⟨A6, c6, rfl, hc6, hm6, ho6, hb6⟩; obtain ⟨os6, d6, rfl⟩ := ext_of_below hb6; clear hb6; try simp only [ext_drew, ext_drewN] at ho6) | (go_at_call 19; refine (eqSecuredMessage_yes _ _ _ _ _ _ _ _ _ _ _ _ _ l (ho4.rd.below' (by (repeat' (first | (with_reducible exact Below.refl _ _) | (with_reducible assumption) | (with_reducible refine Below.alloc ?_ ?_ _) | (with_reducible refine below_ext ?_ ?_ _ _) | (with_reducible refine Below.setCell ?_ ?_ _) | (with_reducible refine Below.drew ?_) | (with_reducible refine below_drewN ?_ _))); all_goals (first | omega | (simp; done) | (simp; omega)))) (ho6.rd.below' (by (repeat' (first | (with_reducible exact Below.refl _ _) | (with_reducible assumption) | (with_reducible refine Below.alloc ?_ ?_ _) | (with_reducible refine below_ext ?_ ?_ _ _) | (with_reducible refine Below.setCell ?_ ?_ _) | (with_reducible refine Below.drew ?_) | (with_reducible refine below_drewN ?_ _))); all_goals (first | omega | (simp; done) | (simp; omega)))) hn).mono ?_; rintro e w7 ⟨rfl, hb7⟩; obtain ⟨os7, d7, rfl⟩ := ext_of_below hb7; clear hb7))
    all_goals
      go_wp2_with fail
      go_ret
      exact ⟨rfl, (by (repeat' (first | (with_reducible exact Below.refl _ _) | (with_reducible assumption) | (with_reducible refine Below.alloc ?_ ?_ _) | (with_reducible refine below_ext ?_ ?_ _ _) | (with_reducible refine Below.setCell ?_ ?_ _) | (with_reducible refine Below.drew ?_) | (with_reducible refine below_drewN ?_ _))); all_goals (first | omega | (simp; done) | (simp; omega)))⟩
end Go.Proofs.Ytidfpmkhgogilaa
