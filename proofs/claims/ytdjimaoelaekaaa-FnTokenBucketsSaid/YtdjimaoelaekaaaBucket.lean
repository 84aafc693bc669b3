/- What the functions on token buckets return, for all integers. -/
import Derived.Test.YtdjimaoelaekaaaInt
import Derived.Deep.RegionHeld3
namespace Go.Proofs.Ytdjimaoelaekaaa
open Go.RowKit Go.Sep

/-- The four tests of a valid bucket. -/
def vB (r b t u : Int) : Bool := inR r 1 1000 && (inR b 1 1000 && (inR t 0 b && inR u 0 1000000000000))
theorem vB_true {r b t u : Int} (h : vB r b t u = true) : (1 ≤ r ∧ r ≤ 1000) ∧ (1 ≤ b ∧ b ≤ 1000) ∧ (0 ≤ t ∧ t ≤ b) ∧ (0 ≤ u ∧ u ≤ 1000000000000) := by
  simp only [vB, Bool.and_eq_true] at h
  exact ⟨inR_true h.1, inR_true h.2.1, inR_true h.2.2.1, inR_true h.2.2.2⟩
theorem vB_mk {r b t u : Int} (h : (1 ≤ r ∧ r ≤ 1000) ∧ (1 ≤ b ∧ b ≤ 1000) ∧ (0 ≤ t ∧ t ≤ b) ∧ (0 ≤ u ∧ u ≤ 1000000000000)) : vB r b t u = true := by
  obtain ⟨⟨h1, h2⟩, ⟨h3, h4⟩, ⟨h5, h6⟩, h7, h8⟩ := h
  simp only [vB, inR_mk h1 h2, inR_mk h3 h4, inR_mk h5 h6, inR_mk h7 h8, Bool.and_self]
theorem vB_cases (r b t u : Int) : (inR r 1 1000 = false ∧ vB r b t u = false) ∨ (inR r 1 1000 = true ∧ inR b 1 1000 = false ∧ vB r b t u = false) ∨
    (inR r 1 1000 = true ∧ inR b 1 1000 = true ∧ inR t 0 b = false ∧ vB r b t u = false) ∨
    (inR r 1 1000 = true ∧ inR b 1 1000 = true ∧ inR t 0 b = true ∧ inR u 0 1000000000000 = false ∧ vB r b t u = false) ∨
    (inR r 1 1000 = true ∧ inR b 1 1000 = true ∧ inR t 0 b = true ∧ inR u 0 1000000000000 = true ∧ vB r b t u = true) := by
  unfold vB
  cases inR r 1 1000 <;> cases inR b 1 1000 <;> cases inR t 0 b <;> cases inR u 0 1000000000000 <;> simp

theorem iVB_any (r b t u : Int) (w : World) :
    Calls Try.prog 19 #[.agg #[.int .i64 r, .int .i64 b, .int .i64 t, .int .i64 u]] w fun e w' => e = .returned (.bool (vB r b t u)) ∧ Below w.heap.size w w' := by
  rcases vB_cases r b t u with ⟨h1, h⟩ | ⟨h1, h2, h⟩ | ⟨h1, h2, h3, h⟩ | ⟨h1, h2, h3, h4, h⟩ | ⟨h1, h2, h3, h4, h⟩
  all_goals
    rw [h]
    clear h
    go_enter Try.func19, Try.ntmps19
    go_wp2_with (go_at_call 37; refine (inRange_any _ _ _ _).mono ?_; rintro e w' ⟨rfl, rfl⟩)
    go_ret
    exact ⟨rfl, (Below.refl _ _).alloc (Nat.le_refl _) _⟩
theorem sVB_any (r b t u : Int) (w : World) :
    Calls Try.prog 17 #[.agg #[.int .i64 r, .int .i64 b, .int .i64 t, .int .i64 u]] w fun e w' => e = .returned (.bool (vB r b t u)) ∧ Below w.heap.size w w' := by
  rcases vB_cases r b t u with ⟨h1, h⟩ | ⟨h1, h2, h⟩ | ⟨h1, h2, h3, h⟩ | ⟨h1, h2, h3, h4, h⟩ | ⟨h1, h2, h3, h4, h⟩
  all_goals
    rw [h]
    clear h
    go_enter Try.func17, Try.ntmps17
    go_wp2_with (go_at_call 36; refine (l1In_any _ _ _ _).mono ?_; rintro e w' ⟨rfl, rfl⟩)
    go_ret
    exact ⟨rfl, (Below.refl _ _).alloc (Nat.le_refl _) _⟩

theorem toTB_any (r b t u : Int) (w : World) :
    Calls Try.prog 18 #[.agg #[.int .i64 r, .int .i64 b, .int .i64 t, .int .i64 u]] w fun e w' => e = .returned (.agg #[.int .i64 r, .int .i64 b, .int .i64 t, .int .i64 u]) ∧ Below w.heap.size w w' := by
  go_enter Try.func18, Try.ntmps18
  go_wp2
  exact bodyPost_ret (v := .agg #[.int .i64 r, .int .i64 b, .int .i64 t, .int .i64 u]) (by simp [results, Try.results18, go_sem]) rfl ⟨rfl, (by (repeat' (first | (with_reducible exact Below.refl _ _) | (with_reducible assumption) | (with_reducible refine Below.alloc ?_ ?_ _) | (with_reducible refine below_ext ?_ ?_ _ _) | (with_reducible refine Below.setCell ?_ ?_ _) | (with_reducible refine Below.drew ?_) | (with_reducible refine below_drewN ?_ _))); all_goals (first | omega | (simp; done) | (simp; omega)))⟩

/-- Two buckets are equal. -/
theorem eqTB_yes (r b t u : Int) (w : World) :
    Calls Try.prog 26 #[.agg #[.int .i64 r, .int .i64 b, .int .i64 t, .int .i64 u], .agg #[.int .i64 r, .int .i64 b, .int .i64 t, .int .i64 u]] w fun e w' => e = .returned (.bool true) ∧ Below w.heap.size w w' := by
  go_enter Try.func26, Try.ntmps26
  go_wp2
  go_ret
  exact ⟨rfl, (by (repeat' (first | (with_reducible exact Below.refl _ _) | (with_reducible assumption) | (with_reducible refine Below.alloc ?_ ?_ _) | (with_reducible refine below_ext ?_ ?_ _ _) | (with_reducible refine Below.setCell ?_ ?_ _) | (with_reducible refine Below.drew ?_) | (with_reducible refine below_drewN ?_ _))); all_goals (first | omega | (simp; done) | (simp; omega)))⟩

def maxIn (r b k : Int) : Int := if inR k 0 1000 then wrap64 (b + wrap64 (r * k)) else wrap64 b
theorem iMaxIn_any (r b t u k : Int) (w : World) :
    Calls Try.prog 21 #[.agg #[.int .i64 r, .int .i64 b, .int .i64 t, .int .i64 u], .int .i64 k] w fun e w' => e = .returned (.int .i64 (maxIn r b k)) ∧ Below w.heap.size w w' := by
  unfold maxIn
  cases h1 : inR k 0 1000
  all_goals
    go_enter Try.func21, Try.ntmps21
    go_wp2_with (go_at_call 37; refine (inRange_any _ _ _ _).mono ?_; rintro e w' ⟨rfl, rfl⟩)
    go_ret
    exact ⟨rfl, (by (repeat' (first | (with_reducible exact Below.refl _ _) | (with_reducible assumption) | (with_reducible refine Below.alloc ?_ ?_ _) | (with_reducible refine below_ext ?_ ?_ _ _) | (with_reducible refine Below.setCell ?_ ?_ _) | (with_reducible refine Below.drew ?_) | (with_reducible refine below_drewN ?_ _))); all_goals (first | omega | (simp; done) | (simp; omega)))⟩
theorem sMaxIn_any (r b t u k : Int) (w : World) :
    Calls Try.prog 20 #[.agg #[.int .i64 r, .int .i64 b, .int .i64 t, .int .i64 u], .int .i64 k] w fun e w' => e = .returned (.int .i64 (maxIn r b k)) ∧ Below w.heap.size w w' := by
  unfold maxIn
  cases h1 : inR k 0 1000
  all_goals
    go_enter Try.func20, Try.ntmps20
    go_wp2_with (go_at_call 36; refine (l1In_any _ _ _ _).mono ?_; rintro e w' ⟨rfl, rfl⟩)
    go_ret
    exact ⟨rfl, (by (repeat' (first | (with_reducible exact Below.refl _ _) | (with_reducible assumption) | (with_reducible refine Below.alloc ?_ ?_ _) | (with_reducible refine below_ext ?_ ?_ _ _) | (with_reducible refine Below.setCell ?_ ?_ _) | (with_reducible refine Below.drew ?_) | (with_reducible refine below_drewN ?_ _))); all_goals (first | omega | (simp; done) | (simp; omega)))⟩

/-- A new bucket. -/
def newB (r b n : Int) : Value := if vB r b b n then .agg #[.int .i64 r, .int .i64 b, .int .i64 b, .int .i64 n] else .agg #[.int .i64 0, .int .i64 0, .int .i64 0, .int .i64 0]
theorem iNewB_any (r b n : Int) (w : World) :
    Calls Try.prog 25 #[.int .i64 r, .int .i64 b, .int .i64 n] w fun e w' => e = .returned (newB r b n) ∧ Below w.heap.size w w' := by
  cases h1 : vB r b b n
  · have HR : Hid (newB r b n = .agg #[.int .i64 0, .int .i64 0, .int .i64 0, .int .i64 0]) := by simp [Hid, newB, h1]
    have z2a : w.heap.size < w.heap.size + 1 + 1 := (by omega); have z2b : w.heap.size + 1 < w.heap.size + 1 + 1 := (by omega)
    go_enter Try.func25, Try.ntmps25
    go_wp2_with ((go_at_call 19; refine (iVB_any _ _ _ _ _).mono ?_; rintro e w1 ⟨rfl, hb1⟩; obtain ⟨os1, d1, rfl⟩ := ext_of_below hb1; clear hb1))
    exact bodyPost_ret (v := .agg #[.int .i64 0, .int .i64 0, .int .i64 0, .int .i64 0]) (by simp only [results, Try.results25]; go_simp) rfl ⟨ret_val HR.out.symm, (by (repeat' (first | (with_reducible exact Below.refl _ _) | (with_reducible assumption) | (with_reducible refine Below.alloc ?_ ?_ _) | (with_reducible refine below_ext ?_ ?_ _ _) | (with_reducible refine Below.setCell ?_ ?_ _) | (with_reducible refine Below.drew ?_) | (with_reducible refine below_drewN ?_ _))); all_goals (first | omega | (simp; done) | (simp; omega)))⟩
  · have HR : Hid (newB r b n = .agg #[.int .i64 r, .int .i64 b, .int .i64 b, .int .i64 n]) := by simp [Hid, newB, h1]
    have z2a : w.heap.size < w.heap.size + 1 + 1 := (by omega); have z2b : w.heap.size + 1 < w.heap.size + 1 + 1 := (by omega)
    go_enter Try.func25, Try.ntmps25
    go_wp2_with ((go_at_call 19; refine (iVB_any _ _ _ _ _).mono ?_; rintro e w1 ⟨rfl, hb1⟩; obtain ⟨os1, d1, rfl⟩ := ext_of_below hb1; clear hb1))
    exact bodyPost_ret (v := .agg #[.int .i64 r, .int .i64 b, .int .i64 b, .int .i64 n]) (by simp only [results, Try.results25]; go_simp) rfl ⟨ret_val HR.out.symm, (by (repeat' (first | (with_reducible exact Below.refl _ _) | (with_reducible assumption) | (with_reducible refine Below.alloc ?_ ?_ _) | (with_reducible refine below_ext ?_ ?_ _ _) | (with_reducible refine Below.setCell ?_ ?_ _) | (with_reducible refine Below.drew ?_) | (with_reducible refine below_drewN ?_ _))); all_goals (first | omega | (simp; done) | (simp; omega)))⟩
theorem sNewB_any (r b n : Int) (w : World) :
    Calls Try.prog 24 #[.int .i64 r, .int .i64 b, .int .i64 n] w fun e w' => e = .returned (newB r b n) ∧ Below w.heap.size w w' := by
  cases h1 : vB r b b n
  · have HR : Hid (newB r b n = .agg #[.int .i64 0, .int .i64 0, .int .i64 0, .int .i64 0]) := by simp [Hid, newB, h1]
    have z2a : w.heap.size < w.heap.size + 1 + 1 := (by omega); have z2b : w.heap.size + 1 < w.heap.size + 1 + 1 := (by omega)
    go_enter Try.func24, Try.ntmps24
    go_wp2_with ((go_at_call 17; refine (sVB_any _ _ _ _ _).mono ?_; rintro e w1 ⟨rfl, hb1⟩; obtain ⟨os1, d1, rfl⟩ := ext_of_below hb1; clear hb1))
    exact bodyPost_ret (v := .agg #[.int .i64 0, .int .i64 0, .int .i64 0, .int .i64 0]) (by simp only [results, Try.results24]; go_simp) rfl ⟨ret_val HR.out.symm, (by (repeat' (first | (with_reducible exact Below.refl _ _) | (with_reducible assumption) | (with_reducible refine Below.alloc ?_ ?_ _) | (with_reducible refine below_ext ?_ ?_ _ _) | (with_reducible refine Below.setCell ?_ ?_ _) | (with_reducible refine Below.drew ?_) | (with_reducible refine below_drewN ?_ _))); all_goals (first | omega | (simp; done) | (simp; omega)))⟩
  · have HR : Hid (newB r b n = .agg #[.int .i64 r, .int .i64 b, .int .i64 b, .int .i64 n]) := by simp [Hid, newB, h1]
    have z2a : w.heap.size < w.heap.size + 1 + 1 := (by omega); have z2b : w.heap.size + 1 < w.heap.size + 1 + 1 := (by omega)
    go_enter Try.func24, Try.ntmps24
    go_wp2_with ((go_at_call 17; refine (sVB_any _ _ _ _ _).mono ?_; rintro e w1 ⟨rfl, hb1⟩; obtain ⟨os1, d1, rfl⟩ := ext_of_below hb1; clear hb1))
    exact bodyPost_ret (v := .agg #[.int .i64 r, .int .i64 b, .int .i64 b, .int .i64 n]) (by simp only [results, Try.results24]; go_simp) rfl ⟨ret_val HR.out.symm, (by (repeat' (first | (with_reducible exact Below.refl _ _) | (with_reducible assumption) | (with_reducible refine Below.alloc ?_ ?_ _) | (with_reducible refine below_ext ?_ ?_ _ _) | (with_reducible refine Below.setCell ?_ ?_ _) | (with_reducible refine Below.drew ?_) | (with_reducible refine below_drewN ?_ _))); all_goals (first | omega | (simp; done) | (simp; omega)))⟩

/-- Does a refill change anything? -/
def rfOk (r b t u now : Int) : Bool := vB r b t u && (decide (u < now) && decide (now ≤ 1000000000000))
def rfT (r b t u now : Int) : Int := if rfOk r b t u now then min b (t + r * (now - u)) else t
def rfU (r b t u now : Int) : Int := if rfOk r b t u now then now else u
theorem mul_bd {r d : Int} (h1 : 1 ≤ r) (h2 : r ≤ 1000) (h3 : 0 ≤ d) (h4 : d ≤ 1000000000000) : 0 ≤ r * d ∧ r * d ≤ 1000000000000000 ∧ d ≤ r * d := by
  refine ⟨Int.mul_nonneg (by omega) h3, ?_, ?_⟩
  · have := Int.mul_le_mul h2 h4 h3 (by omega : (0 : Int) ≤ 1000)
    omega
  · have := Int.mul_le_mul_of_nonneg_right h1 h3
    omega
theorem refill_cut {r b t d : Int} (h1 : 1 ≤ r) (h2 : r ≤ 1000) (hb : b ≤ 1000) (ht : 0 ≤ t) (h3 : 0 ≤ d) (h4 : d ≤ 1000000000000) : min b (t + r * min d 1000) = min b (t + r * d) := by
  by_cases h : d ≤ 1000
  · rw [Int.min_eq_left h]
  · have e : min d 1000 = 1000 := Int.min_eq_right (by omega)
    rw [e]
    have k1 := mul_bd h1 h2 h3 h4
    rw [Int.min_eq_left (by omega), Int.min_eq_left (by omega)]
theorem rf_cases (r b t u now : Int) : (vB r b t u = false ∧ rfOk r b t u now = false) ∨ (vB r b t u = true ∧ now ≤ u ∧ rfOk r b t u now = false) ∨
    (vB r b t u = true ∧ u < now ∧ 1000000000000 < now ∧ rfOk r b t u now = false) ∨ (vB r b t u = true ∧ u < now ∧ now ≤ 1000000000000 ∧ rfOk r b t u now = true) := by
  unfold rfOk
  cases h : vB r b t u
  · simp
  · by_cases h1 : u < now <;> by_cases h2 : now ≤ 1000000000000 <;> simp [h1, h2] <;> omega

theorem iRefill_no (r b t u now : Int) (w : World) (h : rfOk r b t u now = false) :
    Calls Try.prog 28 #[.agg #[.int .i64 r, .int .i64 b, .int .i64 t, .int .i64 u], .int .i64 now] w fun e w' => e = .returned (.agg #[.int .i64 r, .int .i64 b, .int .i64 t, .int .i64 u]) ∧ Below w.heap.size w w' := by
  have H := hide h
  rcases rf_cases r b t u now with ⟨h1, _⟩ | ⟨h1, h2, _⟩ | ⟨h1, h2, h3, _⟩ | ⟨_, _, _, h4⟩
  iterate 3
    clear h H
    have z2a : w.heap.size < w.heap.size + 1 + 1 := (by omega); have z2b : w.heap.size + 1 < w.heap.size + 1 + 1 := (by omega)
    go_enter Try.func28, Try.ntmps28
    go_wp2_with ((go_at_call 19; refine (iVB_any _ _ _ _ _).mono ?_; rintro e w1 ⟨rfl, hb1⟩; obtain ⟨os1, d1, rfl⟩ := ext_of_below hb1; clear hb1))
    exact bodyPost_ret (v := .agg #[.int .i64 r, .int .i64 b, .int .i64 t, .int .i64 u]) (by simp only [results, Try.results28]; go_simp) rfl ⟨rfl, (by (repeat' (first | (with_reducible exact Below.refl _ _) | (with_reducible assumption) | (with_reducible refine Below.alloc ?_ ?_ _) | (with_reducible refine below_ext ?_ ?_ _ _) | (with_reducible refine Below.setCell ?_ ?_ _) | (with_reducible refine Below.drew ?_) | (with_reducible refine below_drewN ?_ _))); all_goals (first | omega | (simp; done) | (simp; omega)))⟩
  · rw [h4] at h; cases h
set_option maxHeartbeats 1000000 in
theorem iRefill_yes (r b t u now : Int) (w : World) (h1 : vB r b t u = true) (h2 : u < now) (h3 : now ≤ 1000000000000) :
    Calls Try.prog 28 #[.agg #[.int .i64 r, .int .i64 b, .int .i64 t, .int .i64 u], .int .i64 now] w fun e w' => e = .returned (.agg #[.int .i64 r, .int .i64 b, .int .i64 (min b (t + r * (now - u))), .int .i64 now]) ∧ Below w.heap.size w w' := by
  have ⟨⟨g1, g2⟩, ⟨g3, g4⟩, ⟨g5, g6⟩, g7, g8⟩ := vB_true h1
  have ⟨m1, m2, _⟩ := mul_bd (d := now - u) g1 g2 (by omega) (by omega)
  have d1 : decide (now ≤ u) = false := by simp; omega
  have d2 : decide (1000000000000 < now) = false := by simp; omega
  have z2a : w.heap.size < w.heap.size + 1 + 1 := (by omega); have z2b : w.heap.size + 1 < w.heap.size + 1 + 1 := (by omega)
  go_enter Try.func28, Try.ntmps28
  go_wp2_with (first | ((go_at_call 19; refine (iVB_any _ _ _ _ _).mono ?_; rintro e w1 ⟨rfl, hb1⟩; obtain ⟨os1, d1, rfl⟩ := ext_of_below hb1; clear hb1)) | (go_at_call 39; refine (iMin_any _ _ _).mono ?_; rintro e w' ⟨rfl, rfl⟩))
  exact bodyPost_ret (v := .agg #[.int .i64 r, .int .i64 b, .int .i64 (min b (t + r * (now - u))), .int .i64 now]) (by simp only [results, Try.results28]; go_simp) rfl ⟨rfl, (by (repeat' (first | (with_reducible exact Below.refl _ _) | (with_reducible assumption) | (with_reducible refine Below.alloc ?_ ?_ _) | (with_reducible refine below_ext ?_ ?_ _ _) | (with_reducible refine Below.setCell ?_ ?_ _) | (with_reducible refine Below.drew ?_) | (with_reducible refine below_drewN ?_ _))); all_goals (first | omega | (simp; done) | (simp; omega)))⟩
theorem iRefill_any (r b t u now : Int) (w : World) :
    Calls Try.prog 28 #[.agg #[.int .i64 r, .int .i64 b, .int .i64 t, .int .i64 u], .int .i64 now] w fun e w' => e = .returned (.agg #[.int .i64 r, .int .i64 b, .int .i64 (rfT r b t u now), .int .i64 (rfU r b t u now)]) ∧ Below w.heap.size w w' := by
  cases h : rfOk r b t u now
  · simp only [rfT, rfU, h]
    exact iRefill_no r b t u now w h
  · have h' := h
    simp only [rfOk, Bool.and_eq_true, decide_eq_true_eq] at h'
    simp only [rfT, rfU, h, if_true]
    exact iRefill_yes r b t u now w h'.1 h'.2.1 h'.2.2

theorem sRefill_no (r b t u now : Int) (w : World) (h : rfOk r b t u now = false) :
    Calls Try.prog 27 #[.agg #[.int .i64 r, .int .i64 b, .int .i64 t, .int .i64 u], .int .i64 now] w fun e w' => e = .returned (.agg #[.int .i64 r, .int .i64 b, .int .i64 t, .int .i64 u]) ∧ Below w.heap.size w w' := by
  have H := hide h
  rcases rf_cases r b t u now with ⟨h1, _⟩ | ⟨h1, h2, _⟩ | ⟨h1, h2, h3, _⟩ | ⟨_, _, _, h4⟩
  iterate 3
    clear h H
    have z2a : w.heap.size < w.heap.size + 1 + 1 := (by omega); have z2b : w.heap.size + 1 < w.heap.size + 1 + 1 := (by omega)
    go_enter Try.func27, Try.ntmps27
    go_wp2_with ((go_at_call 17; refine (sVB_any _ _ _ _ _).mono ?_; rintro e w1 ⟨rfl, hb1⟩; obtain ⟨os1, d1, rfl⟩ := ext_of_below hb1; clear hb1))
    exact bodyPost_ret (v := .agg #[.int .i64 r, .int .i64 b, .int .i64 t, .int .i64 u]) (by simp only [results, Try.results27]; go_simp) rfl ⟨rfl, (by (repeat' (first | (with_reducible exact Below.refl _ _) | (with_reducible assumption) | (with_reducible refine Below.alloc ?_ ?_ _) | (with_reducible refine below_ext ?_ ?_ _ _) | (with_reducible refine Below.setCell ?_ ?_ _) | (with_reducible refine Below.drew ?_) | (with_reducible refine below_drewN ?_ _))); all_goals (first | omega | (simp; done) | (simp; omega)))⟩
  · rw [h4] at h; cases h
set_option maxHeartbeats 1000000 in
theorem sRefill_yes (r b t u now : Int) (w : World) (h1 : vB r b t u = true) (h2 : u < now) (h3 : now ≤ 1000000000000) :
    Calls Try.prog 27 #[.agg #[.int .i64 r, .int .i64 b, .int .i64 t, .int .i64 u], .int .i64 now] w fun e w' => e = .returned (.agg #[.int .i64 r, .int .i64 b, .int .i64 (min b (t + r * min (now - u) 1000)), .int .i64 now]) ∧ Below w.heap.size w w' := by
  have ⟨⟨g1, g2⟩, ⟨g3, g4⟩, ⟨g5, g6⟩, g7, g8⟩ := vB_true h1
  have ⟨m1, m2, _⟩ := mul_bd (d := min (now - u) 1000) g1 g2 (by omega) (by omega)
  have d1 : decide (now ≤ u) = false := by simp; omega
  have d2 : decide (1000000000000 < now) = false := by simp; omega
  have z2a : w.heap.size < w.heap.size + 1 + 1 := (by omega); have z2b : w.heap.size + 1 < w.heap.size + 1 + 1 := (by omega)
  go_enter Try.func27, Try.ntmps27
  go_wp2_with ((go_at_call 17; refine (sVB_any _ _ _ _ _).mono ?_; rintro e w1 ⟨rfl, hb1⟩; obtain ⟨os1, d1, rfl⟩ := ext_of_below hb1; clear hb1))
  have e1 : IntKind.i64.wrap (now - u) = now - u := IntWalk.i64_in _ (by omega)
  have e2 : IntKind.i64.wrap (r * min (now - u) 1000) = r * min (now - u) 1000 := IntWalk.i64_in _ (by omega)
  have e3 : IntKind.i64.wrap (t + r * min (now - u) 1000) = t + r * min (now - u) 1000 := IntWalk.i64_in _ (by omega)
  have z3 : w.heap.size < w.heap.size + 1 + 1 + os1.size := (by omega)
  have z4 : w.heap.size + 1 < w.heap.size + 1 + 1 + os1.size := (by omega)
  go_region_held3 (fun w' => w'.cell? ⟨w.heap.size, 0, none⟩ = some (.int .i64 r) ∧ w'.cell? ⟨w.heap.size, 1, none⟩ = some (.int .i64 b) ∧ w'.cell? ⟨w.heap.size, 2, none⟩ = some (.int .i64 t) ∧ w'.cell? ⟨w.heap.size, 3, none⟩ = some (.int .i64 u)) (first | (go_simp; done) | go_keep)
    (first | (go_at_call 38; refine (sMin_any _ _ _).mono ?_; rintro e w' ⟨rfl, rfl⟩) )
  all_goals
    clear e1 e2 e3
    go_wp2
    exact bodyPost_ret (v := .agg #[.int .i64 r, .int .i64 b, .int .i64 (min b (t + r * min (now - u) 1000)), .int .i64 now]) (by simp only [results, Try.results27]; go_simp) rfl ⟨rfl, (by (repeat' (first | (with_reducible exact Below.refl _ _) | (with_reducible assumption) | (with_reducible refine Below.alloc ?_ ?_ _) | (with_reducible refine below_ext ?_ ?_ _ _) | (with_reducible refine Below.setCell ?_ ?_ _) | (with_reducible refine Below.drew ?_) | (with_reducible refine below_drewN ?_ _))); all_goals (first | omega | (simp; done) | (simp; omega)))⟩
theorem sRefill_any (r b t u now : Int) (w : World) :
    Calls Try.prog 27 #[.agg #[.int .i64 r, .int .i64 b, .int .i64 t, .int .i64 u], .int .i64 now] w fun e w' => e = .returned (.agg #[.int .i64 r, .int .i64 b, .int .i64 (rfT r b t u now), .int .i64 (rfU r b t u now)]) ∧ Below w.heap.size w w' := by
  cases h : rfOk r b t u now
  · simp only [rfT, rfU, h]
    exact sRefill_no r b t u now w h
  · have h' := h
    simp only [rfOk, Bool.and_eq_true, decide_eq_true_eq] at h'
    have ⟨⟨g1, g2⟩, ⟨g3, g4⟩, ⟨g5, g6⟩, g7, g8⟩ := vB_true h'.1
    simp only [rfT, rfU, h, if_true]
    have := sRefill_yes r b t u now w h'.1 h'.2.1 h'.2.2
    rwa [refill_cut g1 g2 g4 g5 (by omega) (by omega)] at this
theorem rf_valid {r b t u now : Int} (h : vB r b t u = true) : vB r b (rfT r b t u now) (rfU r b t u now) = true := by
  have ⟨⟨g1, g2⟩, ⟨g3, g4⟩, ⟨g5, g6⟩, g7, g8⟩ := vB_true h
  unfold rfT rfU
  cases h2 : rfOk r b t u now
  · exact h
  · simp only [rfOk, Bool.and_eq_true, decide_eq_true_eq] at h2
    have ⟨m1, m2, _⟩ := mul_bd (d := now - u) g1 g2 (by omega) (by omega)
    simp only [if_true]
    exact vB_mk ⟨⟨g1, g2⟩, ⟨g3, g4⟩, ⟨by omega, by omega⟩, by omega, by omega⟩

/-- What is left of T tokens when n are asked for. -/
def tkT (T n : Int) : Int := if inR n 0 T then wrap64 (T - n) else T
end Go.Proofs.Ytdjimaoelaekaaa
