/- What TakeTokens and TicksUntil return, for all integers. -/
import Derived.Test.YtdjimaoelaekaaaBucket
namespace Go.Proofs.Ytdjimaoelaekaaa
open Go.RowKit Go.Sep

set_option maxHeartbeats 800000 in
theorem iTake_any (r b t u n now : Int) (w : World) :
    Calls Try.prog 30 #[.agg #[.int .i64 r, .int .i64 b, .int .i64 t, .int .i64 u], .int .i64 n, .int .i64 now] w fun e w' => e = .returned (.tuple #[.agg #[.int .i64 r, .int .i64 b, .int .i64 (tkT (rfT r b t u now) n), .int .i64 (rfU r b t u now)], .bool (inR n 0 (rfT r b t u now))]) ∧ Below w.heap.size w w' := by
  have HI := hide (iRefill_any r b t u now)
  generalize rfT r b t u now = T at HI ⊢
  generalize rfU r b t u now = U at HI ⊢
  cases h1 : inR n 0 T
  · have HR : Hid (tkT T n = T) := by simp [Hid, tkT, h1]
    have z2a : w.heap.size < w.heap.size + 1 + 1 := (by omega); have z2b : w.heap.size + 1 < w.heap.size + 1 + 1 := (by omega)
    go_enter Try.func30, Try.ntmps30
    go_wp2_with (first | ((go_at_call 28; refine (unhide HI _).mono ?_; rintro e w1 ⟨rfl, hb1⟩; obtain ⟨os1, d1, rfl⟩ := ext_of_below hb1; clear hb1); have zz1a : w.heap.size < w.heap.size + 1 + os1.size := (by omega); have zz2a : w.heap.size < w.heap.size + 1 + 1 + os1.size := (by omega); have zz2b : w.heap.size + 1 < w.heap.size + 1 + 1 + os1.size := (by omega)) | (go_at_call 37; refine (inRange_any _ _ _ _).mono ?_; rintro e w' ⟨rfl, rfl⟩))
    exact bodyPost_ret (v := .tuple #[.agg #[.int .i64 r, .int .i64 b, .int .i64 T, .int .i64 U], .bool false]) (by simp only [results, Try.results30]; go_simp) rfl ⟨by rw [HR.out], (by (repeat' (first | (with_reducible exact Below.refl _ _) | (with_reducible assumption) | (with_reducible refine Below.alloc ?_ ?_ _) | (with_reducible refine below_ext ?_ ?_ _ _) | (with_reducible refine Below.setCell ?_ ?_ _) | (with_reducible refine Below.drew ?_) | (with_reducible refine below_drewN ?_ _))); all_goals (first | omega | (simp; done) | (simp; omega)))⟩
  · have HR : Hid (tkT T n = wrap64 (T - n)) := by simp [Hid, tkT, h1]
    have z2a : w.heap.size < w.heap.size + 1 + 1 := (by omega); have z2b : w.heap.size + 1 < w.heap.size + 1 + 1 := (by omega)
    go_enter Try.func30, Try.ntmps30
    go_wp2_with (first | ((go_at_call 28; refine (unhide HI _).mono ?_; rintro e w1 ⟨rfl, hb1⟩; obtain ⟨os1, d1, rfl⟩ := ext_of_below hb1; clear hb1); have zz1a : w.heap.size < w.heap.size + 1 + os1.size := (by omega); have zz2a : w.heap.size < w.heap.size + 1 + 1 + os1.size := (by omega); have zz2b : w.heap.size + 1 < w.heap.size + 1 + 1 + os1.size := (by omega)) | (go_at_call 37; refine (inRange_any _ _ _ _).mono ?_; rintro e w' ⟨rfl, rfl⟩))
    exact bodyPost_ret (v := .tuple #[.agg #[.int .i64 r, .int .i64 b, .int .i64 (wrap64 (T - n)), .int .i64 U], .bool true]) (by simp only [results, Try.results30]; go_simp) rfl ⟨by rw [HR.out], (by (repeat' (first | (with_reducible exact Below.refl _ _) | (with_reducible assumption) | (with_reducible refine Below.alloc ?_ ?_ _) | (with_reducible refine below_ext ?_ ?_ _ _) | (with_reducible refine Below.setCell ?_ ?_ _) | (with_reducible refine Below.drew ?_) | (with_reducible refine below_drewN ?_ _))); all_goals (first | omega | (simp; done) | (simp; omega)))⟩

set_option maxHeartbeats 800000 in
theorem sTake_any (r b t u n now : Int) (w : World) :
    Calls Try.prog 29 #[.agg #[.int .i64 r, .int .i64 b, .int .i64 t, .int .i64 u], .int .i64 n, .int .i64 now] w fun e w' => e = .returned (.tuple #[.agg #[.int .i64 r, .int .i64 b, .int .i64 (tkT (rfT r b t u now) n), .int .i64 (rfU r b t u now)], .bool (inR n 0 (rfT r b t u now))]) ∧ Below w.heap.size w w' := by
  have HI := hide (sRefill_any r b t u now)
  generalize rfT r b t u now = T at HI ⊢
  generalize rfU r b t u now = U at HI ⊢
  cases h1 : inR n 0 T
  · have HR : Hid (tkT T n = T) := by simp [Hid, tkT, h1]
    have z2a : w.heap.size < w.heap.size + 1 + 1 := (by omega); have z2b : w.heap.size + 1 < w.heap.size + 1 + 1 := (by omega)
    go_enter Try.func29, Try.ntmps29
    go_wp2_with (first | ((go_at_call 27; refine (unhide HI _).mono ?_; rintro e w1 ⟨rfl, hb1⟩; obtain ⟨os1, d1, rfl⟩ := ext_of_below hb1; clear hb1); have zz1a : w.heap.size < w.heap.size + 1 + os1.size := (by omega); have zz2a : w.heap.size < w.heap.size + 1 + 1 + os1.size := (by omega); have zz2b : w.heap.size + 1 < w.heap.size + 1 + 1 + os1.size := (by omega)) | (go_at_call 36; refine (l1In_any _ _ _ _).mono ?_; rintro e w' ⟨rfl, rfl⟩))
    exact bodyPost_ret (v := .tuple #[.agg #[.int .i64 r, .int .i64 b, .int .i64 T, .int .i64 U], .bool false]) (by simp only [results, Try.results29]; go_simp) rfl ⟨by rw [HR.out], (by (repeat' (first | (with_reducible exact Below.refl _ _) | (with_reducible assumption) | (with_reducible refine Below.alloc ?_ ?_ _) | (with_reducible refine below_ext ?_ ?_ _ _) | (with_reducible refine Below.setCell ?_ ?_ _) | (with_reducible refine Below.drew ?_) | (with_reducible refine below_drewN ?_ _))); all_goals (first | omega | (simp; done) | (simp; omega)))⟩
  · have HR : Hid (tkT T n = wrap64 (T - n)) := by simp [Hid, tkT, h1]
    have z2a : w.heap.size < w.heap.size + 1 + 1 := (by omega); have z2b : w.heap.size + 1 < w.heap.size + 1 + 1 := (by omega)
    go_enter Try.func29, Try.ntmps29
    go_wp2_with (first | ((go_at_call 27; refine (unhide HI _).mono ?_; rintro e w1 ⟨rfl, hb1⟩; obtain ⟨os1, d1, rfl⟩ := ext_of_below hb1; clear hb1); have zz1a : w.heap.size < w.heap.size + 1 + os1.size := (by omega); have zz2a : w.heap.size < w.heap.size + 1 + 1 + os1.size := (by omega); have zz2b : w.heap.size + 1 < w.heap.size + 1 + 1 + os1.size := (by omega)) | (go_at_call 36; refine (l1In_any _ _ _ _).mono ?_; rintro e w' ⟨rfl, rfl⟩))
    exact bodyPost_ret (v := .tuple #[.agg #[.int .i64 r, .int .i64 b, .int .i64 (wrap64 (T - n)), .int .i64 U], .bool true]) (by simp only [results, Try.results29]; go_simp) rfl ⟨by rw [HR.out], (by (repeat' (first | (with_reducible exact Below.refl _ _) | (with_reducible assumption) | (with_reducible refine Below.alloc ?_ ?_ _) | (with_reducible refine below_ext ?_ ?_ _ _) | (with_reducible refine Below.setCell ?_ ?_ _) | (with_reducible refine Below.drew ?_) | (with_reducible refine below_drewN ?_ _))); all_goals (first | omega | (simp; done) | (simp; omega)))⟩

/-- How long until n tokens are there, of a bucket that is r, b, T, U after its refill. -/
def tkN (r b T U n : Int) : Int := if vB r b T U then (if n ≤ T then 0 else if b < n then -1 else ceilD (n - T) r) else -1
theorem tkN_1 {r b T U n : Int} (h : vB r b T U = false) : tkN r b T U n = -1 := by simp [tkN, h]
theorem tkN_2 {r b T U n : Int} (h : vB r b T U = true) (h2 : n ≤ T) : tkN r b T U n = 0 := by simp [tkN, h, h2]
theorem tkN_3 {r b T U n : Int} (h : vB r b T U = true) (h2 : b < n) : tkN r b T U n = -1 := by
  have := vB_true h
  have h3 : ¬ n ≤ T := by omega
  simp [tkN, h, h3, h2]
theorem tkN_4 {r b T U n : Int} (h : vB r b T U = true) (h2 : ¬ n ≤ T) (h3 : ¬ b < n) : tkN r b T U n = ceilD (n - T) r := by simp [tkN, h, h2, h3]

set_option maxHeartbeats 800000 in
theorem iTicks_any (r b t u n now : Int) (w : World) :
    Calls Try.prog 32 #[.agg #[.int .i64 r, .int .i64 b, .int .i64 t, .int .i64 u], .int .i64 n, .int .i64 now] w fun e w' => e = .returned (.int .i64 (tkN r b (rfT r b t u now) (rfU r b t u now) n)) ∧ Below w.heap.size w w' := by
  have HI := hide (iRefill_any r b t u now)
  generalize rfT r b t u now = T at HI ⊢
  generalize rfU r b t u now = U at HI ⊢
  cases h1 : vB r b T U
  · have HR := hide (tkN_1 (n := n) h1)
    have z1a : w.heap.size < w.heap.size + 1 := (by omega)
    go_enter Try.func32, Try.ntmps32
    go_wp2_with (first | ((go_at_call 28; refine (unhide HI _).mono ?_; rintro e w1 ⟨rfl, hb1⟩; obtain ⟨os1, d1, rfl⟩ := ext_of_below hb1; clear hb1); have zz1a : w.heap.size < w.heap.size + 1 + os1.size := (by omega); have zz2a : w.heap.size < w.heap.size + 1 + 1 + os1.size := (by omega); have zz2b : w.heap.size + 1 < w.heap.size + 1 + 1 + os1.size := (by omega)) | ((go_at_call 19; refine (iVB_any _ _ _ _ _).mono ?_; rintro e w2 ⟨rfl, hb2⟩; obtain ⟨os2, d2, rfl⟩ := ext_of_below hb2; clear hb2)) | (go_at_call 41; refine (iCeilDiv_any _ _ _).mono ?_; rintro e w' ⟨rfl, rfl⟩))
    go_ret
    exact ⟨ret_int HR.out.symm, (by (repeat' (first | (with_reducible exact Below.refl _ _) | (with_reducible assumption) | (with_reducible refine Below.alloc ?_ ?_ _) | (with_reducible refine below_ext ?_ ?_ _ _) | (with_reducible refine Below.setCell ?_ ?_ _) | (with_reducible refine Below.drew ?_) | (with_reducible refine below_drewN ?_ _))); all_goals (first | omega | (simp; done) | (simp; omega)))⟩
  · have ⟨⟨g1, g2⟩, ⟨g3, g4⟩, ⟨g5, g6⟩, g7, g8⟩ := vB_true h1
    by_cases h2 : b < n
    · have HR := hide (tkN_3 h1 h2)
      have d0 : decide (n ≤ T) = false := by simp; omega
      have z1a : w.heap.size < w.heap.size + 1 := (by omega)
      go_enter Try.func32, Try.ntmps32
      go_wp2_with (first | ((go_at_call 28; refine (unhide HI _).mono ?_; rintro e w1 ⟨rfl, hb1⟩; obtain ⟨os1, d1, rfl⟩ := ext_of_below hb1; clear hb1); have zz1a : w.heap.size < w.heap.size + 1 + os1.size := (by omega); have zz2a : w.heap.size < w.heap.size + 1 + 1 + os1.size := (by omega); have zz2b : w.heap.size + 1 < w.heap.size + 1 + 1 + os1.size := (by omega)) | ((go_at_call 19; refine (iVB_any _ _ _ _ _).mono ?_; rintro e w2 ⟨rfl, hb2⟩; obtain ⟨os2, d2, rfl⟩ := ext_of_below hb2; clear hb2)) | (go_at_call 41; refine (iCeilDiv_any _ _ _).mono ?_; rintro e w' ⟨rfl, rfl⟩))
      go_ret
      exact ⟨ret_int HR.out.symm, (by (repeat' (first | (with_reducible exact Below.refl _ _) | (with_reducible assumption) | (with_reducible refine Below.alloc ?_ ?_ _) | (with_reducible refine below_ext ?_ ?_ _ _) | (with_reducible refine Below.setCell ?_ ?_ _) | (with_reducible refine Below.drew ?_) | (with_reducible refine below_drewN ?_ _))); all_goals (first | omega | (simp; done) | (simp; omega)))⟩
    · have d1 : decide (b < n) = false := by simp; omega
      by_cases h3 : n ≤ T
      · have HR := hide (tkN_2 h1 h3)
        have z1a : w.heap.size < w.heap.size + 1 := (by omega)
        go_enter Try.func32, Try.ntmps32
        go_wp2_with (first | ((go_at_call 28; refine (unhide HI _).mono ?_; rintro e w1 ⟨rfl, hb1⟩; obtain ⟨os1, d1, rfl⟩ := ext_of_below hb1; clear hb1); have zz1a : w.heap.size < w.heap.size + 1 + os1.size := (by omega); have zz2a : w.heap.size < w.heap.size + 1 + 1 + os1.size := (by omega); have zz2b : w.heap.size + 1 < w.heap.size + 1 + 1 + os1.size := (by omega)) | ((go_at_call 19; refine (iVB_any _ _ _ _ _).mono ?_; rintro e w2 ⟨rfl, hb2⟩; obtain ⟨os2, d2, rfl⟩ := ext_of_below hb2; clear hb2)) | (go_at_call 41; refine (iCeilDiv_any _ _ _).mono ?_; rintro e w' ⟨rfl, rfl⟩))
        go_ret
        exact ⟨ret_int HR.out.symm, (by (repeat' (first | (with_reducible exact Below.refl _ _) | (with_reducible assumption) | (with_reducible refine Below.alloc ?_ ?_ _) | (with_reducible refine below_ext ?_ ?_ _ _) | (with_reducible refine Below.setCell ?_ ?_ _) | (with_reducible refine Below.drew ?_) | (with_reducible refine below_drewN ?_ _))); all_goals (first | omega | (simp; done) | (simp; omega)))⟩
      · have HR := hide (tkN_4 h1 h3 h2)
        have z1a : w.heap.size < w.heap.size + 1 := (by omega)
        go_enter Try.func32, Try.ntmps32
        go_wp2_with (first | ((go_at_call 28; refine (unhide HI _).mono ?_; rintro e w1 ⟨rfl, hb1⟩; obtain ⟨os1, d1, rfl⟩ := ext_of_below hb1; clear hb1); have zz1a : w.heap.size < w.heap.size + 1 + os1.size := (by omega); have zz2a : w.heap.size < w.heap.size + 1 + 1 + os1.size := (by omega); have zz2b : w.heap.size + 1 < w.heap.size + 1 + 1 + os1.size := (by omega)) | ((go_at_call 19; refine (iVB_any _ _ _ _ _).mono ?_; rintro e w2 ⟨rfl, hb2⟩; obtain ⟨os2, d2, rfl⟩ := ext_of_below hb2; clear hb2)) | (go_at_call 41; refine (iCeilDiv_any _ _ _).mono ?_; rintro e w' ⟨rfl, rfl⟩))
        go_ret
        exact ⟨ret_int HR.out.symm, (by (repeat' (first | (with_reducible exact Below.refl _ _) | (with_reducible assumption) | (with_reducible refine Below.alloc ?_ ?_ _) | (with_reducible refine below_ext ?_ ?_ _ _) | (with_reducible refine Below.setCell ?_ ?_ _) | (with_reducible refine Below.drew ?_) | (with_reducible refine below_drewN ?_ _))); all_goals (first | omega | (simp; done) | (simp; omega)))⟩

set_option maxHeartbeats 800000 in
theorem sTicks_any (r b t u n now : Int) (w : World) :
    Calls Try.prog 31 #[.agg #[.int .i64 r, .int .i64 b, .int .i64 t, .int .i64 u], .int .i64 n, .int .i64 now] w fun e w' => e = .returned (.int .i64 (tkN r b (rfT r b t u now) (rfU r b t u now) n)) ∧ Below w.heap.size w w' := by
  have HI := hide (sRefill_any r b t u now)
  generalize rfT r b t u now = T at HI ⊢
  generalize rfU r b t u now = U at HI ⊢
  cases h1 : vB r b T U
  · have HR := hide (tkN_1 (n := n) h1)
    have z1a : w.heap.size < w.heap.size + 1 := (by omega)
    go_enter Try.func31, Try.ntmps31
    go_wp2_with (first | ((go_at_call 27; refine (unhide HI _).mono ?_; rintro e w1 ⟨rfl, hb1⟩; obtain ⟨os1, d1, rfl⟩ := ext_of_below hb1; clear hb1); have zz1a : w.heap.size < w.heap.size + 1 + os1.size := (by omega); have zz2a : w.heap.size < w.heap.size + 1 + 1 + os1.size := (by omega); have zz2b : w.heap.size + 1 < w.heap.size + 1 + 1 + os1.size := (by omega)) | ((go_at_call 17; refine (sVB_any _ _ _ _ _).mono ?_; rintro e w2 ⟨rfl, hb2⟩; obtain ⟨os2, d2, rfl⟩ := ext_of_below hb2; clear hb2)) | (go_at_call 40; refine (sCeilDiv_any _ _ _).mono ?_; rintro e w' ⟨rfl, rfl⟩))
    go_ret
    exact ⟨ret_int HR.out.symm, (by (repeat' (first | (with_reducible exact Below.refl _ _) | (with_reducible assumption) | (with_reducible refine Below.alloc ?_ ?_ _) | (with_reducible refine below_ext ?_ ?_ _ _) | (with_reducible refine Below.setCell ?_ ?_ _) | (with_reducible refine Below.drew ?_) | (with_reducible refine below_drewN ?_ _))); all_goals (first | omega | (simp; done) | (simp; omega)))⟩
  · have ⟨⟨g1, g2⟩, ⟨g3, g4⟩, ⟨g5, g6⟩, g7, g8⟩ := vB_true h1
    by_cases h2 : b < n
    · have HR := hide (tkN_3 h1 h2)
      have d0 : decide (n ≤ T) = false := by simp; omega
      have z1a : w.heap.size < w.heap.size + 1 := (by omega)
      go_enter Try.func31, Try.ntmps31
      go_wp2_with (first | ((go_at_call 27; refine (unhide HI _).mono ?_; rintro e w1 ⟨rfl, hb1⟩; obtain ⟨os1, d1, rfl⟩ := ext_of_below hb1; clear hb1); have zz1a : w.heap.size < w.heap.size + 1 + os1.size := (by omega); have zz2a : w.heap.size < w.heap.size + 1 + 1 + os1.size := (by omega); have zz2b : w.heap.size + 1 < w.heap.size + 1 + 1 + os1.size := (by omega)) | ((go_at_call 17; refine (sVB_any _ _ _ _ _).mono ?_; rintro e w2 ⟨rfl, hb2⟩; obtain ⟨os2, d2, rfl⟩ := ext_of_below hb2; clear hb2)) | (go_at_call 40; refine (sCeilDiv_any _ _ _).mono ?_; rintro e w' ⟨rfl, rfl⟩))
      go_ret
      exact ⟨ret_int HR.out.symm, (by (repeat' (first | (with_reducible exact Below.refl _ _) | (with_reducible assumption) | (with_reducible refine Below.alloc ?_ ?_ _) | (with_reducible refine below_ext ?_ ?_ _ _) | (with_reducible refine Below.setCell ?_ ?_ _) | (with_reducible refine Below.drew ?_) | (with_reducible refine below_drewN ?_ _))); all_goals (first | omega | (simp; done) | (simp; omega)))⟩
    · have d1 : decide (b < n) = false := by simp; omega
      by_cases h3 : n ≤ T
      · have HR := hide (tkN_2 h1 h3)
        have z1a : w.heap.size < w.heap.size + 1 := (by omega)
        go_enter Try.func31, Try.ntmps31
        go_wp2_with (first | ((go_at_call 27; refine (unhide HI _).mono ?_; rintro e w1 ⟨rfl, hb1⟩; obtain ⟨os1, d1, rfl⟩ := ext_of_below hb1; clear hb1); have zz1a : w.heap.size < w.heap.size + 1 + os1.size := (by omega); have zz2a : w.heap.size < w.heap.size + 1 + 1 + os1.size := (by omega); have zz2b : w.heap.size + 1 < w.heap.size + 1 + 1 + os1.size := (by omega)) | ((go_at_call 17; refine (sVB_any _ _ _ _ _).mono ?_; rintro e w2 ⟨rfl, hb2⟩; obtain ⟨os2, d2, rfl⟩ := ext_of_below hb2; clear hb2)) | (go_at_call 40; refine (sCeilDiv_any _ _ _).mono ?_; rintro e w' ⟨rfl, rfl⟩))
        go_ret
        exact ⟨ret_int HR.out.symm, (by (repeat' (first | (with_reducible exact Below.refl _ _) | (with_reducible assumption) | (with_reducible refine Below.alloc ?_ ?_ _) | (with_reducible refine below_ext ?_ ?_ _ _) | (with_reducible refine Below.setCell ?_ ?_ _) | (with_reducible refine Below.drew ?_) | (with_reducible refine below_drewN ?_ _))); all_goals (first | omega | (simp; done) | (simp; omega)))⟩
      · have HR := hide (tkN_4 h1 h3 h2)
        have z1a : w.heap.size < w.heap.size + 1 := (by omega)
        go_enter Try.func31, Try.ntmps31
        go_wp2_with (first | ((go_at_call 27; refine (unhide HI _).mono ?_; rintro e w1 ⟨rfl, hb1⟩; obtain ⟨os1, d1, rfl⟩ := ext_of_below hb1; clear hb1); have zz1a : w.heap.size < w.heap.size + 1 + os1.size := (by omega); have zz2a : w.heap.size < w.heap.size + 1 + 1 + os1.size := (by omega); have zz2b : w.heap.size + 1 < w.heap.size + 1 + 1 + os1.size := (by omega)) | ((go_at_call 17; refine (sVB_any _ _ _ _ _).mono ?_; rintro e w2 ⟨rfl, hb2⟩; obtain ⟨os2, d2, rfl⟩ := ext_of_below hb2; clear hb2)) | (go_at_call 40; refine (sCeilDiv_any _ _ _).mono ?_; rintro e w' ⟨rfl, rfl⟩))
        go_ret
        exact ⟨ret_int HR.out.symm, (by (repeat' (first | (with_reducible exact Below.refl _ _) | (with_reducible assumption) | (with_reducible refine Below.alloc ?_ ?_ _) | (with_reducible refine below_ext ?_ ?_ _ _) | (with_reducible refine Below.setCell ?_ ?_ _) | (with_reducible refine Below.drew ?_) | (with_reducible refine below_drewN ?_ _))); all_goals (first | omega | (simp; done) | (simp; omega)))⟩

end Go.Proofs.Ytdjimaoelaekaaa
