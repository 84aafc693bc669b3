/- The walks through the laws on integers, capabilities and token buckets: each returns true and writes nothing that was there. -/
import Derived.Test.YtdjimaoelaekaaaSel
import Derived.Test.YtdjimaoelaekaaaTake
namespace Go.Proofs.Ytdjimaoelaekaaa
open Go.RowKit Go.Sep

theorem fnExactIsValidCaps.walk (a0 : Int) (w : World) :
    Calls Try.prog 3 #[.int .i64 a0] w fun e w' => e = .returned (.bool true) ∧ Below w.heap.size w w' := by
  go_enter Try.func3, Try.ntmps3
  go_wp2_with (first | (go_at_call 13; refine (sCaps_any _ _).mono ?_; rintro e w' ⟨rfl, rfl⟩) | (go_at_call 14; refine (iCaps_any _ _).mono ?_; rintro e w' ⟨rfl, rfl⟩))
  go_ret
  exact ⟨rfl, (by (repeat' (first | (with_reducible exact Below.refl _ _) | (with_reducible assumption) | (with_reducible refine Below.alloc ?_ ?_ _) | (with_reducible refine below_ext ?_ ?_ _ _) | (with_reducible refine Below.setCell ?_ ?_ _) | (with_reducible refine Below.drew ?_) | (with_reducible refine below_drewN ?_ _))); all_goals (first | omega | (simp; done) | (simp; omega)))⟩
theorem fnExactSupports.walk (a0 a1 : Int) (w : World) :
    Calls Try.prog 4 #[.int .i64 a0, .int .i64 a1] w fun e w' => e = .returned (.bool true) ∧ Below w.heap.size w w' := by
  go_enter Try.func4, Try.ntmps4
  go_wp2_with (first | (go_at_call 15; refine (sSupports_any _ _ _).mono ?_; rintro e w' ⟨rfl, rfl⟩) | (go_at_call 16; refine (iSupports_any _ _ _).mono ?_; rintro e w' ⟨rfl, rfl⟩))
  go_ret
  exact ⟨rfl, (by (repeat' (first | (with_reducible exact Below.refl _ _) | (with_reducible assumption) | (with_reducible refine Below.alloc ?_ ?_ _) | (with_reducible refine below_ext ?_ ?_ _ _) | (with_reducible refine Below.setCell ?_ ?_ _) | (with_reducible refine Below.drew ?_) | (with_reducible refine below_drewN ?_ _))); all_goals (first | omega | (simp; done) | (simp; omega)))⟩
theorem fnExactSelectAlgorithm.walk (a0 a1 : Int) (w : World) :
    Calls Try.prog 7 #[.int .i64 a0, .int .i64 a1] w fun e w' => e = .returned (.bool true) ∧ Below w.heap.size w w' := by
  go_enter Try.func7, Try.ntmps7
  go_wp2_with (first | (go_at_call 22; refine (sSel_any _ _ _).mono ?_; rintro e w' ⟨rfl, rfl⟩) | (go_at_call 23; refine (iSel_any _ _ _).mono ?_; rintro e w' ⟨rfl, rfl⟩))
  go_ret
  exact ⟨rfl, (by (repeat' (first | (with_reducible exact Below.refl _ _) | (with_reducible assumption) | (with_reducible refine Below.alloc ?_ ?_ _) | (with_reducible refine below_ext ?_ ?_ _ _) | (with_reducible refine Below.setCell ?_ ?_ _) | (with_reducible refine Below.drew ?_) | (with_reducible refine below_drewN ?_ _))); all_goals (first | omega | (simp; done) | (simp; omega)))⟩
theorem fnExactIsValidBucket.walk (r b t u : Int) (w : World) :
    Calls Try.prog 5 #[.agg #[.int .i64 r, .int .i64 b, .int .i64 t, .int .i64 u]] w fun e w' => e = .returned (.bool true) ∧ Below w.heap.size w w' := by
  have z1a : w.heap.size < w.heap.size + 1 := (by omega)
  go_enter Try.func5, Try.ntmps5
  go_wp2_with fail; refine (toTB_any _ _ _ _ _).mono ?_; rintro e w1 ⟨rfl, hb1⟩; obtain ⟨os1, d1, rfl⟩ := ext_of_below hb1; clear hb1
  go_wp2_with fail; refine (sVB_any _ _ _ _ _).mono ?_; rintro e w2 ⟨rfl, hb2⟩; obtain ⟨os2, d2, rfl⟩ := ext_of_below hb2; clear hb2
  have y1 : w.heap.size < w.heap.size + 1 + os1.size := (by omega)
  go_wp2_with fail; refine (toTB_any _ _ _ _ _).mono ?_; rintro e w3 ⟨rfl, hb3⟩; obtain ⟨os3, d3, rfl⟩ := ext_of_below hb3; clear hb3
  go_wp2_with fail; refine (iVB_any _ _ _ _ _).mono ?_; rintro e w4 ⟨rfl, hb4⟩; obtain ⟨os4, d4, rfl⟩ := ext_of_below hb4; clear hb4
  go_wp2_with fail
  go_ret
  exact ⟨rfl, (by (repeat' (first | (with_reducible exact Below.refl _ _) | (with_reducible assumption) | (with_reducible refine Below.alloc ?_ ?_ _) | (with_reducible refine below_ext ?_ ?_ _ _) | (with_reducible refine Below.setCell ?_ ?_ _) | (with_reducible refine Below.drew ?_) | (with_reducible refine below_drewN ?_ _))); all_goals (first | omega | (simp; done) | (simp; omega)))⟩
theorem fnExactMaxTokensIn.walk (r b t u k : Int) (w : World) :
    Calls Try.prog 6 #[.agg #[.int .i64 r, .int .i64 b, .int .i64 t, .int .i64 u], .int .i64 k] w fun e w' => e = .returned (.bool true) ∧ Below w.heap.size w w' := by
  have z1a : w.heap.size < w.heap.size + 1 := (by omega)
  go_enter Try.func6, Try.ntmps6
  go_wp2_with fail; refine (toTB_any _ _ _ _ _).mono ?_; rintro e w1 ⟨rfl, hb1⟩; obtain ⟨os1, d1, rfl⟩ := ext_of_below hb1; clear hb1
  go_wp2_with fail; refine (sMaxIn_any _ _ _ _ _ _).mono ?_; rintro e w2 ⟨rfl, hb2⟩; obtain ⟨os2, d2, rfl⟩ := ext_of_below hb2; clear hb2
  have y1 : w.heap.size < w.heap.size + 1 + os1.size := (by omega)
  go_wp2_with fail; refine (toTB_any _ _ _ _ _).mono ?_; rintro e w3 ⟨rfl, hb3⟩; obtain ⟨os3, d3, rfl⟩ := ext_of_below hb3; clear hb3
  go_wp2_with fail; refine (iMaxIn_any _ _ _ _ _ _).mono ?_; rintro e w4 ⟨rfl, hb4⟩; obtain ⟨os4, d4, rfl⟩ := ext_of_below hb4; clear hb4
  go_wp2_with fail
  go_ret
  exact ⟨rfl, (by (repeat' (first | (with_reducible exact Below.refl _ _) | (with_reducible assumption) | (with_reducible refine Below.alloc ?_ ?_ _) | (with_reducible refine below_ext ?_ ?_ _ _) | (with_reducible refine Below.setCell ?_ ?_ _) | (with_reducible refine Below.drew ?_) | (with_reducible refine below_drewN ?_ _))); all_goals (first | omega | (simp; done) | (simp; omega)))⟩
theorem fnExactTicksUntil.walk (r b t u n k : Int) (w : World) :
    Calls Try.prog 11 #[.agg #[.int .i64 r, .int .i64 b, .int .i64 t, .int .i64 u], .int .i64 n, .int .i64 k] w fun e w' => e = .returned (.bool true) ∧ Below w.heap.size w w' := by
  have z1a : w.heap.size < w.heap.size + 1 := (by omega)
  go_enter Try.func11, Try.ntmps11
  go_wp2_with fail; refine (toTB_any _ _ _ _ _).mono ?_; rintro e w1 ⟨rfl, hb1⟩; obtain ⟨os1, d1, rfl⟩ := ext_of_below hb1; clear hb1
  go_wp2_with fail; refine (sTicks_any _ _ _ _ _ _ _).mono ?_; rintro e w2 ⟨rfl, hb2⟩; obtain ⟨os2, d2, rfl⟩ := ext_of_below hb2; clear hb2
  have y1 : w.heap.size < w.heap.size + 1 + os1.size := (by omega)
  go_wp2_with fail; refine (toTB_any _ _ _ _ _).mono ?_; rintro e w3 ⟨rfl, hb3⟩; obtain ⟨os3, d3, rfl⟩ := ext_of_below hb3; clear hb3
  go_wp2_with fail; refine (iTicks_any _ _ _ _ _ _ _).mono ?_; rintro e w4 ⟨rfl, hb4⟩; obtain ⟨os4, d4, rfl⟩ := ext_of_below hb4; clear hb4
  go_wp2_with fail
  go_ret
  exact ⟨rfl, (by (repeat' (first | (with_reducible exact Below.refl _ _) | (with_reducible assumption) | (with_reducible refine Below.alloc ?_ ?_ _) | (with_reducible refine below_ext ?_ ?_ _ _) | (with_reducible refine Below.setCell ?_ ?_ _) | (with_reducible refine Below.drew ?_) | (with_reducible refine below_drewN ?_ _))); all_goals (first | omega | (simp; done) | (simp; omega)))⟩
theorem newB_form (r b n : Int) : ∃ x y z v : Int, newB r b n = .agg #[.int .i64 x, .int .i64 y, .int .i64 z, .int .i64 v] := by
  unfold newB
  split
  · exact ⟨_, _, _, _, rfl⟩
  · exact ⟨_, _, _, _, rfl⟩
theorem fnExactNewTokenBucket.walk (r b n : Int) (w : World) :
    Calls Try.prog 8 #[.int .i64 r, .int .i64 b, .int .i64 n] w fun e w' => e = .returned (.bool true) ∧ Below w.heap.size w w' := by
  have HS := hide (sNewB_any r b n)
  have HI := hide (iNewB_any r b n)
  obtain ⟨x, y, z, v, hv⟩ := newB_form r b n
  rw [hv] at HS HI
  clear hv
  go_enter Try.func8, Try.ntmps8
  go_wp2_with fail; refine (unhide HS _).mono ?_; rintro e w1 ⟨rfl, hb1⟩; obtain ⟨os1, d1, rfl⟩ := ext_of_below hb1; clear hb1
  go_wp2_with fail; refine (unhide HI _).mono ?_; rintro e w2 ⟨rfl, hb2⟩; obtain ⟨os2, d2, rfl⟩ := ext_of_below hb2; clear hb2
  have y1 : w.heap.size + os1.size < w.heap.size + os1.size + 1 := (by omega)
  have y2 : w.heap.size + os1.size < w.heap.size + os1.size + 1 + os2.size := (by omega)
  go_wp2_with fail; refine (eqTB_yes _ _ _ _ _).mono ?_; rintro e w3 ⟨rfl, hb3⟩; obtain ⟨os3, d3, rfl⟩ := ext_of_below hb3; clear hb3
  go_wp2_with fail
  go_ret
  exact ⟨rfl, (by (repeat' (first | (with_reducible exact Below.refl _ _) | (with_reducible assumption) | (with_reducible refine Below.alloc ?_ ?_ _) | (with_reducible refine below_ext ?_ ?_ _ _) | (with_reducible refine Below.setCell ?_ ?_ _) | (with_reducible refine Below.drew ?_) | (with_reducible refine below_drewN ?_ _))); all_goals (first | omega | (simp; done) | (simp; omega)))⟩
theorem fnExactRefillTo.walk (r b t u now : Int) (w : World) :
    Calls Try.prog 9 #[.agg #[.int .i64 r, .int .i64 b, .int .i64 t, .int .i64 u], .int .i64 now] w fun e w' => e = .returned (.bool true) ∧ Below w.heap.size w w' := by
  have HS := hide (sRefill_any r b t u now)
  have HI := hide (iRefill_any r b t u now)
  generalize rfT r b t u now = T at HS HI
  generalize rfU r b t u now = U at HS HI
  have z1a : w.heap.size < w.heap.size + 1 := (by omega)
  go_enter Try.func9, Try.ntmps9
  go_wp2_with fail; refine (toTB_any _ _ _ _ _).mono ?_; rintro e w1 ⟨rfl, hb1⟩; obtain ⟨os1, d1, rfl⟩ := ext_of_below hb1; clear hb1
  go_wp2_with fail; refine (unhide HS _).mono ?_; rintro e w2 ⟨rfl, hb2⟩; obtain ⟨os2, d2, rfl⟩ := ext_of_below hb2; clear hb2
  have y1 : w.heap.size < w.heap.size + 1 + os1.size := (by omega)
  have y2 : w.heap.size < w.heap.size + 1 + os1.size + os2.size := (by omega)
  go_wp2_with fail; refine (toTB_any _ _ _ _ _).mono ?_; rintro e w3 ⟨rfl, hb3⟩; obtain ⟨os3, d3, rfl⟩ := ext_of_below hb3; clear hb3
  go_wp2_with fail; refine (unhide HI _).mono ?_; rintro e w4 ⟨rfl, hb4⟩; obtain ⟨os4, d4, rfl⟩ := ext_of_below hb4; clear hb4
  have y3 : w.heap.size + 1 + os1.size + os2.size < w.heap.size + 1 + os1.size + os2.size + 1 := (by omega)
  have y4 : w.heap.size + 1 + os1.size + os2.size < w.heap.size + 1 + os1.size + os2.size + 1 + os3.size := (by omega)
  have y5 : w.heap.size + 1 + os1.size + os2.size < w.heap.size + 1 + os1.size + os2.size + 1 + os3.size + os4.size := (by omega)
  go_wp2_with fail; refine (eqTB_yes _ _ _ _ _).mono ?_; rintro e w5 ⟨rfl, hb5⟩; obtain ⟨os5, d5, rfl⟩ := ext_of_below hb5; clear hb5
  go_wp2_with fail
  go_ret
  exact ⟨rfl, (by (repeat' (first | (with_reducible exact Below.refl _ _) | (with_reducible assumption) | (with_reducible refine Below.alloc ?_ ?_ _) | (with_reducible refine below_ext ?_ ?_ _ _) | (with_reducible refine Below.setCell ?_ ?_ _) | (with_reducible refine Below.drew ?_) | (with_reducible refine below_drewN ?_ _))); all_goals (first | omega | (simp; done) | (simp; omega)))⟩
theorem fnExactTakeTokens.walk (r b t u n now : Int) (w : World) :
    Calls Try.prog 10 #[.agg #[.int .i64 r, .int .i64 b, .int .i64 t, .int .i64 u], .int .i64 n, .int .i64 now] w fun e w' => e = .returned (.bool true) ∧ Below w.heap.size w w' := by
  have HS := hide (sTake_any r b t u n now)
  have HI := hide (iTake_any r b t u n now)
  generalize tkT (rfT r b t u now) n = T at HS HI
  generalize rfU r b t u now = U at HS HI
  generalize inR n 0 (rfT r b t u now) = ok at HS HI
  have z1a : w.heap.size < w.heap.size + 1 := (by omega)
  go_enter Try.func10, Try.ntmps10
  go_wp2_with fail; refine (toTB_any _ _ _ _ _).mono ?_; rintro e w1 ⟨rfl, hb1⟩; obtain ⟨os1, d1, rfl⟩ := ext_of_below hb1; clear hb1
  go_wp2_with fail; refine (unhide HS _).mono ?_; rintro e w2 ⟨rfl, hb2⟩; obtain ⟨os2, d2, rfl⟩ := ext_of_below hb2; clear hb2
  have y1 : w.heap.size < w.heap.size + 1 + os1.size := (by omega)
  have y2 : w.heap.size < w.heap.size + 1 + os1.size + os2.size := (by omega)
  go_wp2_with fail; refine (toTB_any _ _ _ _ _).mono ?_; rintro e w3 ⟨rfl, hb3⟩; obtain ⟨os3, d3, rfl⟩ := ext_of_below hb3; clear hb3
  go_wp2_with fail; refine (unhide HI _).mono ?_; rintro e w4 ⟨rfl, hb4⟩; obtain ⟨os4, d4, rfl⟩ := ext_of_below hb4; clear hb4
  have y3 : w.heap.size + 1 + os1.size + os2.size < w.heap.size + 1 + os1.size + os2.size + 1 := (by omega)
  have y4 : w.heap.size + 1 + os1.size + os2.size < w.heap.size + 1 + os1.size + os2.size + 1 + os3.size := (by omega)
  have y5 : w.heap.size + 1 + os1.size + os2.size < w.heap.size + 1 + os1.size + os2.size + 1 + os3.size + os4.size := (by omega)
  go_wp2_with fail; refine (eqTB_yes _ _ _ _ _).mono ?_; rintro e w5 ⟨rfl, hb5⟩; obtain ⟨os5, d5, rfl⟩ := ext_of_below hb5; clear hb5
  go_wp2_with fail
  go_ret
  exact ⟨rfl, (by (repeat' (first | (with_reducible exact Below.refl _ _) | (with_reducible assumption) | (with_reducible refine Below.alloc ?_ ?_ _) | (with_reducible refine below_ext ?_ ?_ _ _) | (with_reducible refine Below.setCell ?_ ?_ _) | (with_reducible refine Below.drew ?_) | (with_reducible refine below_drewN ?_ _))); all_goals (first | omega | (simp; done) | (simp; omega)))⟩
end Go.Proofs.Ytdjimaoelaekaaa
