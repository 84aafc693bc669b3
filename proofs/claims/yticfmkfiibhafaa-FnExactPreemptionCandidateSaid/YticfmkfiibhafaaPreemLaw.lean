/- The law on PreemptionCandidate, walked. -/
import Derived.Test.YticfmkfiibhafaaPreem
namespace Go.Proofs.Yticfmkfiibhafaa
open Go.RowKit Go.Sep

set_option maxRecDepth 100000 in
theorem fnExactPreemptionCandidate.walk (A0 : Option Addr) (n0 c0 : Nat) (l0 : List (Int × Int × Int)) (w : World) (hl0 : l0.length = n0) (hr0 : Rd w 0 w.heap.size 3 A0 n0 (l0.flatMap c3)) (hc0 : n0 ≤ c0 ∧ c0 ≤ maxLen) :
    Calls Try.prog 8 #[.slice A0 n0 c0] w fun e w' => e = .returned (.bool true) ∧ Below w.heap.size w w' := by
  have hn0 : n0 ≤ 9223372036854775807 := by have := hc0.1; have := hc0.2; unfold maxLen at this; omega
  have HS0 := hide (fun W => szBearerS_any W A0 n0 c0 (1048576) hn0 (by omega) (by omega))
  by_cases hbig0 : (1048576 : Int) < n0
  · rw [if_pos hbig0] at HS0
    clear hbig0
    go_enter Try.func8, Try.ntmps8
    go_wp2_with fail; refine (unhide HS0 _).mono ?_; rintro e w' ⟨rfl, rfl⟩
    go_wp2_with fail
    go_ret
    exact ⟨rfl, (by (repeat' (first | (with_reducible exact Below.refl _ _) | (with_reducible assumption) | (with_reducible refine Below.alloc ?_ ?_ _) | (with_reducible refine below_ext ?_ ?_ _ _) | (with_reducible refine Below.setCell ?_ ?_ _) | (with_reducible refine Below.drew ?_) | (with_reducible refine below_drewN ?_ _))); all_goals (first | omega | (simp; done) | (simp; omega)))⟩
  rw [if_neg hbig0] at HS0
  have hm0 : n0 ≤ 1048576 := by omega
  have hleft0 : decide ((1048576 - n0 : Int) < 0) = false := by simp; omega
  have hle0 : (0 : Int) ≤ 1048576 - n0 := by omega
  clear hbig0
  have hk0 : n0 ≤ 16777216 := by omega
  have HR := hide (fun W A0 c0 lo0 hi0 h0 => sPreC_any W A0 n0 c0 lo0 hi0 l0 h0 hm0)
  have HI := hide (fun W A0 c0 lo0 hi0 h0 => iPreC_any W A0 n0 c0 lo0 hi0 l0 h0 hm0)
  generalize preC l0 n0 = r at HR HI
  go_enter Try.func8, Try.ntmps8
  go_wp2_with fail; refine (unhide HS0 _).mono ?_; rintro e w' ⟨rfl, rfl⟩
  go_wp2_with fail; refine (toBearerS_any _ _ _ _ _ _ l0 (hr0.below' (by (repeat' (first | (with_reducible exact Below.refl _ _) | (with_reducible assumption) | (with_reducible refine Below.alloc ?_ ?_ _) | (with_reducible refine below_ext ?_ ?_ _ _) | (with_reducible refine Below.setCell ?_ ?_ _) | (with_reducible refine Below.drew ?_) | (with_reducible refine below_drewN ?_ _))); all_goals (first | omega | (simp; done) | (simp; omega)))) hk0).mono ?_; rintro e w1 ⟨A1, c1, rfl, hc1, hm1, ho1, hb1⟩; obtain ⟨os1, d1, rfl⟩ := ext_of_below hb1; clear hb1; try simp only [ext_drew] at ho1; try simp only [ext_drewN] at ho1
  go_wp2_with fail; refine (unhide HR _ _ _ _ _ (ho1.rd.below' (by (repeat' (first | (with_reducible exact Below.refl _ _) | (with_reducible assumption) | (with_reducible refine Below.alloc ?_ ?_ _) | (with_reducible refine below_ext ?_ ?_ _ _) | (with_reducible refine Below.setCell ?_ ?_ _) | (with_reducible refine Below.drew ?_) | (with_reducible refine below_drewN ?_ _))); all_goals (first | omega | (simp; done) | (simp; omega))))).mono ?_; rintro e w2 ⟨rfl, hb2⟩; obtain ⟨os2, d2, rfl⟩ := ext_of_below hb2; clear hb2
  go_wp2_with fail; refine (toBearerS_any _ _ _ _ _ _ l0 (hr0.below' (by (repeat' (first | (with_reducible exact Below.refl _ _) | (with_reducible assumption) | (with_reducible refine Below.alloc ?_ ?_ _) | (with_reducible refine below_ext ?_ ?_ _ _) | (with_reducible refine Below.setCell ?_ ?_ _) | (with_reducible refine Below.drew ?_) | (with_reducible refine below_drewN ?_ _))); all_goals (first | omega | (simp; done) | (simp; omega)))) hk0).mono ?_; rintro e w3 ⟨A3, c3, rfl, hc3, hm3, ho3, hb3⟩; obtain ⟨os3, d3, rfl⟩ := ext_of_below hb3; clear hb3; try simp only [ext_drew] at ho3; try simp only [ext_drewN] at ho3
  go_wp2_with fail; refine (unhide HI _ _ _ _ _ (ho3.rd.below' (by (repeat' (first | (with_reducible exact Below.refl _ _) | (with_reducible assumption) | (with_reducible refine Below.alloc ?_ ?_ _) | (with_reducible refine below_ext ?_ ?_ _ _) | (with_reducible refine Below.setCell ?_ ?_ _) | (with_reducible refine Below.drew ?_) | (with_reducible refine below_drewN ?_ _))); all_goals (first | omega | (simp; done) | (simp; omega))))).mono ?_; rintro e w4 ⟨rfl, hb4⟩; obtain ⟨os4, d4, rfl⟩ := ext_of_below hb4; clear hb4
  go_wp2_with fail; refine (toBearerS_any _ _ _ _ _ _ l0 (hr0.below' (by (repeat' (first | (with_reducible exact Below.refl _ _) | (with_reducible assumption) | (with_reducible refine Below.alloc ?_ ?_ _) | (with_reducible refine below_ext ?_ ?_ _ _) | (with_reducible refine Below.setCell ?_ ?_ _) | (with_reducible refine Below.drew ?_) | (with_reducible refine below_drewN ?_ _))); all_goals (first | omega | (simp; done) | (simp; omega)))) hk0).mono ?_; rintro e w5 ⟨A5, c5, rfl, hc5, hm5, ho5, hb5⟩; obtain ⟨os5, d5, rfl⟩ := ext_of_below hb5; clear hb5; try simp only [ext_drew] at ho5; try simp only [ext_drewN] at ho5
  go_wp2_with fail; refine (eqBearerS_yes _ _ _ _ _ _ _ _ _ _ l0 (ho3.rd.below' (by (repeat' (first | (with_reducible exact Below.refl _ _) | (with_reducible assumption) | (with_reducible refine Below.alloc ?_ ?_ _) | (with_reducible refine below_ext ?_ ?_ _ _) | (with_reducible refine Below.setCell ?_ ?_ _) | (with_reducible refine Below.drew ?_) | (with_reducible refine below_drewN ?_ _))); all_goals (first | omega | (simp; done) | (simp; omega)))) (ho5.rd.below' (by (repeat' (first | (with_reducible exact Below.refl _ _) | (with_reducible assumption) | (with_reducible refine Below.alloc ?_ ?_ _) | (with_reducible refine below_ext ?_ ?_ _ _) | (with_reducible refine Below.setCell ?_ ?_ _) | (with_reducible refine Below.drew ?_) | (with_reducible refine below_drewN ?_ _))); all_goals (first | omega | (simp; done) | (simp; omega)))) hn0).mono ?_; rintro e w6 ⟨rfl, hb6⟩; obtain ⟨os6, d6, rfl⟩ := ext_of_below hb6; clear hb6
  go_wp2_with fail
  go_ret
  exact ⟨rfl, (by (repeat' (first | (with_reducible exact Below.refl _ _) | (with_reducible assumption) | (with_reducible refine Below.alloc ?_ ?_ _) | (with_reducible refine below_ext ?_ ?_ _ _) | (with_reducible refine Below.setCell ?_ ?_ _) | (with_reducible refine Below.drew ?_) | (with_reducible refine below_drewN ?_ _))); all_goals (first | omega | (simp; done) | (simp; omega)))⟩
end Go.Proofs.Yticfmkfiibhafaa
