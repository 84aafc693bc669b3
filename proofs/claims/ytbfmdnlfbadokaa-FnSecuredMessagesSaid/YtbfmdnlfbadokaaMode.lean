/- Security modes: what NewSecurityMode, VerifySecurityMode and NegotiateSecurity return, for all integers. -/
import Derived.Test.YtbfmdnlfbadokaaSel
import Derived.Test.YtbfmdnlfbadokaaHash
import Derived.Deep.RegionHeld3
namespace Go.Proofs.Ytbfmdnlfbadokaa
open Go.RowKit Go.Sep

theorem inRange_q (n a b : Int) (w : World) : Calls Try.prog 71 #[.int .i64 n, .int .i64 a, .int .i64 b] w fun e w' => e = .returned (.bool (inR n a b)) ∧ w' = w :=
  (inRange_any n a b w).mono fun _ _ h => ⟨h.1, h.2.symm⟩
theorem iSupports_q (c i : Int) (w : World) : Calls Try.prog 27 #[.int .i64 c, .int .i64 i] w fun e w' => e = .returned (.bool (sup c i)) ∧ w' = w :=
  (iSupports_any c i w).mono fun _ _ h => ⟨h.1, h.2.symm⟩
theorem sSupports_q (c i : Int) (w : World) : Calls Try.prog 25 #[.int .i64 c, .int .i64 i] w fun e w' => e = .returned (.bool (sup c i)) ∧ w' = w :=
  (sSupports_any c i w).mono fun _ _ h => ⟨h.1, h.2.symm⟩

theorem iMode_mac (w : World) (key a b : Int) :
    Calls Try.prog 63 #[.int .i64 key, .int .i64 a, .int .i64 b] w fun e w' => e = .returned (.int .i64 (kh key [11, a, b])) ∧ Below w.heap.size w w' := by
  have hrd := Rd.fresh w #[.int .i64 11, .int .i64 a, .int .i64 b] 3 1 3 rfl
  have HK := hide (iKH_any (w.alloc (.cells #[.int .i64 11, .int .i64 a, .int .i64 b] 3)) key _ 3 3 _ _ [11, a, b] hrd (by omega))
  go_enter Try.func63, Try.ntmps63
  go_wp2_with (go_at_call 80; refine (unhide HK).mono ?_; rintro e w' ⟨rfl, rfl⟩)
  go_ret
  exact ⟨rfl, (by (repeat' (first | (with_reducible exact Below.refl _ _) | (with_reducible assumption) | (with_reducible refine Below.alloc ?_ ?_ _) | (with_reducible refine below_ext ?_ ?_ _ _) | (with_reducible refine Below.setCell ?_ ?_ _) | (with_reducible refine Below.drew ?_) | (with_reducible refine below_drewN ?_ _))); all_goals (first | omega | (simp; done) | (simp; omega)))⟩
theorem sMode_mac (w : World) (key a b : Int) :
    Calls Try.prog 62 #[.int .i64 key, .int .i64 a, .int .i64 b] w fun e w' => e = .returned (.int .i64 (kh key [11, a, b])) ∧ Below w.heap.size w w' := by
  have hrd := Rd.fresh w #[.int .i64 11, .int .i64 a, .int .i64 b] 3 1 3 rfl
  have HK := hide (sKH_any (w.alloc (.cells #[.int .i64 11, .int .i64 a, .int .i64 b] 3)) key _ 3 3 _ _ [11, a, b] hrd (by omega) (by simp))
  go_enter Try.func62, Try.ntmps62
  go_wp2_with (go_at_call 92; refine (unhide HK).mono ?_; rintro e w1 ⟨rfl, hb1⟩; obtain ⟨os1, d1, rfl⟩ := ext_of_below hb1; clear hb1)
  go_ret
  exact ⟨rfl, (by (repeat' (first | (with_reducible exact Below.refl _ _) | (with_reducible assumption) | (with_reducible refine Below.alloc ?_ ?_ _) | (with_reducible refine below_ext ?_ ?_ _ _) | (with_reducible refine Below.setCell ?_ ?_ _) | (with_reducible refine Below.drew ?_) | (with_reducible refine below_drewN ?_ _))); all_goals (first | omega | (simp; done) | (simp; omega)))⟩

/-- A new mode. -/
def newM (key r o : Int) : Value := .agg #[.int .i64 r, .int .i64 (sel r o), .int .i64 (kh key [11, r, sel r o])]
theorem iNewM_any (w : World) (key r o : Int) :
    Calls Try.prog 19 #[.int .i64 key, .int .i64 r, .int .i64 o] w fun e w' => e = .returned (newM key r o) ∧ Below w.heap.size w w' := by
  have HS := hide (iSel_any r o)
  unfold newM
  generalize sel r o = s at HS ⊢
  have HM := hide (fun W => iMode_mac W key r s)
  generalize kh key [11, r, s] = m at HM ⊢
  have z1a : w.heap.size < w.heap.size + 1 := (by omega)
  go_enter Try.func19, Try.ntmps19
  go_wp2_with (first | (go_at_call 28; refine (unhide HS _).mono ?_; rintro e w' ⟨rfl, rfl⟩) | (go_at_call 63; refine (unhide HM _).mono ?_; rintro e w1 ⟨rfl, hb1⟩; obtain ⟨os1, d1, rfl⟩ := ext_of_below hb1; clear hb1))
  exact bodyPost_ret (v := .agg #[.int .i64 r, .int .i64 s, .int .i64 m]) (by simp only [results, Try.results19]; go_simp) rfl ⟨rfl, (by (repeat' (first | (with_reducible exact Below.refl _ _) | (with_reducible assumption) | (with_reducible refine Below.alloc ?_ ?_ _) | (with_reducible refine below_ext ?_ ?_ _ _) | (with_reducible refine Below.setCell ?_ ?_ _) | (with_reducible refine Below.drew ?_) | (with_reducible refine below_drewN ?_ _))); all_goals (first | omega | (simp; done) | (simp; omega)))⟩
theorem sNewM_any (w : World) (key r o : Int) :
    Calls Try.prog 18 #[.int .i64 key, .int .i64 r, .int .i64 o] w fun e w' => e = .returned (newM key r o) ∧ Below w.heap.size w w' := by
  have HS := hide (sSel_any r o)
  unfold newM
  generalize sel r o = s at HS ⊢
  have HM := hide (fun W => sMode_mac W key r s)
  generalize kh key [11, r, s] = m at HM ⊢
  have z1a : w.heap.size < w.heap.size + 1 := (by omega)
  go_enter Try.func18, Try.ntmps18
  go_wp2_with (first | (go_at_call 26; refine (unhide HS _).mono ?_; rintro e w' ⟨rfl, rfl⟩) | (go_at_call 62; refine (unhide HM _).mono ?_; rintro e w1 ⟨rfl, hb1⟩; obtain ⟨os1, d1, rfl⟩ := ext_of_below hb1; clear hb1))
  exact bodyPost_ret (v := .agg #[.int .i64 r, .int .i64 s, .int .i64 m]) (by simp only [results, Try.results18]; go_simp) rfl ⟨rfl, (by (repeat' (first | (with_reducible exact Below.refl _ _) | (with_reducible assumption) | (with_reducible refine Below.alloc ?_ ?_ _) | (with_reducible refine below_ext ?_ ?_ _ _) | (with_reducible refine Below.setCell ?_ ?_ _) | (with_reducible refine Below.drew ?_) | (with_reducible refine below_drewN ?_ _))); all_goals (first | omega | (simp; done) | (simp; omega)))⟩

/-- Is a mode right? -/
def vM (key sent c s m : Int) : Bool := (c == sent) && (sup sent s && (m == kh key [11, c, s]))
theorem vM_cases (key sent c s m : Int) : ((c == sent) = false ∧ vM key sent c s m = false) ∨ ((c == sent) = true ∧ sup sent s = false ∧ vM key sent c s m = false) ∨
    ((c == sent) = true ∧ sup sent s = true ∧ vM key sent c s m = (m == kh key [11, c, s])) := by
  unfold vM
  cases (c == sent) <;> cases sup sent s <;> simp
theorem iVM_any (w : World) (key sent c s m : Int) :
    Calls Try.prog 17 #[.int .i64 key, .int .i64 sent, .agg #[.int .i64 c, .int .i64 s, .int .i64 m]] w fun e w' => e = .returned (.bool (vM key sent c s m)) ∧ Below w.heap.size w w' := by
  rcases vM_cases key sent c s m with ⟨h1, h⟩ | ⟨h1, h2, h⟩ | ⟨h1, h2, h⟩
  · rw [h]
    clear h
    have z1a : w.heap.size < w.heap.size + 1 := (by omega)
    go_enter Try.func17, Try.ntmps17
    go_wp2_with fail
    go_quiet (fail)
    go_wp2_with fail
    go_ret
    exact ⟨rfl, (by (repeat' (first | (with_reducible exact Below.refl _ _) | (with_reducible assumption) | (with_reducible refine Below.alloc ?_ ?_ _) | (with_reducible refine below_ext ?_ ?_ _ _) | (with_reducible refine Below.setCell ?_ ?_ _) | (with_reducible refine Below.drew ?_) | (with_reducible refine below_drewN ?_ _))); all_goals (first | omega | (simp; done) | (simp; omega)))⟩
  · rw [h]
    clear h
    have z1a : w.heap.size < w.heap.size + 1 := (by omega)
    go_enter Try.func17, Try.ntmps17
    go_wp2_with fail
    go_quiet (((go_at_call 27; refine Calls.quiet_of_same (iSupports_q _ _ _))))
    go_wp2_with fail
    go_ret
    exact ⟨rfl, (by (repeat' (first | (with_reducible exact Below.refl _ _) | (with_reducible assumption) | (with_reducible refine Below.alloc ?_ ?_ _) | (with_reducible refine below_ext ?_ ?_ _ _) | (with_reducible refine Below.setCell ?_ ?_ _) | (with_reducible refine Below.drew ?_) | (with_reducible refine below_drewN ?_ _))); all_goals (first | omega | (simp; done) | (simp; omega)))⟩
  · rw [h]
    clear h
    have HM := hide (fun W => iMode_mac W key c s)
    generalize kh key [11, c, s] = M at HM ⊢
    have z1a : w.heap.size < w.heap.size + 1 := (by omega)
    go_enter Try.func17, Try.ntmps17
    go_wp2_with fail
    go_region_held3 (fun w' => w'.cell? ⟨w.heap.size, 0, none⟩ = some (.int .i64 c) ∧ w'.cell? ⟨w.heap.size, 1, none⟩ = some (.int .i64 s) ∧ w'.cell? ⟨w.heap.size, 2, none⟩ = some (.int .i64 m)) (first | (go_simp; done) | go_keep)
      (first | (go_at_call 27; refine (iSupports_any _ _ _).mono ?_; rintro e w' ⟨rfl, rfl⟩) | (go_at_call 63; refine (unhide HM _).mono ?_; rintro e w1 ⟨rfl, hb1⟩; obtain ⟨os1, d1, rfl⟩ := ext_of_below hb1; clear hb1))
    all_goals
      go_wp2_with fail
      go_ret
      exact ⟨rfl, (by (repeat' (first | (with_reducible exact Below.refl _ _) | (with_reducible assumption) | (with_reducible refine Below.alloc ?_ ?_ _) | (with_reducible refine below_ext ?_ ?_ _ _) | (with_reducible refine Below.setCell ?_ ?_ _) | (with_reducible refine Below.drew ?_) | (with_reducible refine below_drewN ?_ _))); all_goals (first | omega | (simp; done) | (simp; omega)))⟩
theorem sVM_any (w : World) (key sent c s m : Int) :
    Calls Try.prog 15 #[.int .i64 key, .int .i64 sent, .agg #[.int .i64 c, .int .i64 s, .int .i64 m]] w fun e w' => e = .returned (.bool (vM key sent c s m)) ∧ Below w.heap.size w w' := by
  rcases vM_cases key sent c s m with ⟨h1, h⟩ | ⟨h1, h2, h⟩ | ⟨h1, h2, h⟩
  · rw [h]
    clear h
    have z1a : w.heap.size < w.heap.size + 1 := (by omega)
    go_enter Try.func15, Try.ntmps15
    go_wp2_with fail
    go_quiet (fail)
    go_wp2_with fail
    go_ret
    exact ⟨rfl, (by (repeat' (first | (with_reducible exact Below.refl _ _) | (with_reducible assumption) | (with_reducible refine Below.alloc ?_ ?_ _) | (with_reducible refine below_ext ?_ ?_ _ _) | (with_reducible refine Below.setCell ?_ ?_ _) | (with_reducible refine Below.drew ?_) | (with_reducible refine below_drewN ?_ _))); all_goals (first | omega | (simp; done) | (simp; omega)))⟩
  · rw [h]
    clear h
    have z1a : w.heap.size < w.heap.size + 1 := (by omega)
    go_enter Try.func15, Try.ntmps15
    go_wp2_with fail
    go_quiet (((go_at_call 25; refine Calls.quiet_of_same (sSupports_q _ _ _))))
    go_wp2_with fail
    go_ret
    exact ⟨rfl, (by (repeat' (first | (with_reducible exact Below.refl _ _) | (with_reducible assumption) | (with_reducible refine Below.alloc ?_ ?_ _) | (with_reducible refine below_ext ?_ ?_ _ _) | (with_reducible refine Below.setCell ?_ ?_ _) | (with_reducible refine Below.drew ?_) | (with_reducible refine below_drewN ?_ _))); all_goals (first | omega | (simp; done) | (simp; omega)))⟩
  · rw [h]
    clear h
    have HM := hide (fun W => sMode_mac W key c s)
    generalize kh key [11, c, s] = M at HM ⊢
    have z1a : w.heap.size < w.heap.size + 1 := (by omega)
    go_enter Try.func15, Try.ntmps15
    go_wp2_with fail
    go_region_held3 (fun w' => w'.cell? ⟨w.heap.size, 0, none⟩ = some (.int .i64 c) ∧ w'.cell? ⟨w.heap.size, 1, none⟩ = some (.int .i64 s) ∧ w'.cell? ⟨w.heap.size, 2, none⟩ = some (.int .i64 m)) (first | (go_simp; done) | go_keep)
      (first | (go_at_call 25; refine (sSupports_any _ _ _).mono ?_; rintro e w' ⟨rfl, rfl⟩) | (go_at_call 62; refine (unhide HM _).mono ?_; rintro e w1 ⟨rfl, hb1⟩; obtain ⟨os1, d1, rfl⟩ := ext_of_below hb1; clear hb1))
    all_goals
      go_wp2_with fail
      go_ret
      exact ⟨rfl, (by (repeat' (first | (with_reducible exact Below.refl _ _) | (with_reducible assumption) | (with_reducible refine Below.alloc ?_ ?_ _) | (with_reducible refine below_ext ?_ ?_ _ _) | (with_reducible refine Below.setCell ?_ ?_ _) | (with_reducible refine Below.drew ?_) | (with_reducible refine below_drewN ?_ _))); all_goals (first | omega | (simp; done) | (simp; omega)))⟩

/-- The outcome of a negotiation. -/
def ngOk (sent r o : Int) : Bool := (r == sent) && sup sent (sel r o)
def ngN (sent r o : Int) : Int := if ngOk sent r o then sel r o else 0
theorem ng_ite (sent r o : Int) : ngN sent r o = if ngOk sent r o then sel r o else 0 := rfl
theorem ng_vM (key sent r o : Int) : vM key sent r (sel r o) (kh key [11, r, sel r o]) = ngOk sent r o := by simp [vM, ngOk]
theorem iNg_any (w : World) (key sent r o : Int) :
    Calls Try.prog 22 #[.int .i64 key, .int .i64 sent, .int .i64 r, .int .i64 o] w fun e w' => e = .returned (.tuple #[.int .i64 (ngN sent r o), .bool (ngOk sent r o)]) ∧ Below w.heap.size w w' := by
  have HN := hide (fun W => iNewM_any W key r o)
  unfold newM at HN
  have HV := hide (fun W => iVM_any W key sent r (sel r o) (kh key [11, r, sel r o]))
  rw [ng_vM] at HV
  have hn := ng_ite sent r o
  generalize ngN sent r o = N at hn ⊢
  generalize sel r o = s at HN HV hn
  generalize kh key [11, r, s] = m at HN HV
  cases hok : ngOk sent r o
  · rw [hok] at HV hn
    have HH := hide hn
    clear hn hok
    go_enter Try.func22, Try.ntmps22
    go_wp2_with fail; refine (unhide HN _).mono ?_; rintro e w1 ⟨rfl, hb1⟩; obtain ⟨os1, d1, rfl⟩ := ext_of_below hb1; clear hb1
    have y0 : w.heap.size + os1.size < w.heap.size + os1.size + 1 := (by omega)
    go_wp2_with fail; refine (unhide HV _).mono ?_; rintro e w2 ⟨rfl, hb2⟩; obtain ⟨os2, d2, rfl⟩ := ext_of_below hb2; clear hb2
    go_wp2_with fail
    go_ret2
    exact ⟨by rw [HH.out]; rfl, (by (repeat' (first | (with_reducible exact Below.refl _ _) | (with_reducible assumption) | (with_reducible refine Below.alloc ?_ ?_ _) | (with_reducible refine below_ext ?_ ?_ _ _) | (with_reducible refine Below.setCell ?_ ?_ _) | (with_reducible refine Below.drew ?_) | (with_reducible refine below_drewN ?_ _))); all_goals (first | omega | (simp; done) | (simp; omega)))⟩
  · rw [hok] at HV hn
    have HH := hide hn
    clear hn hok
    go_enter Try.func22, Try.ntmps22
    go_wp2_with fail; refine (unhide HN _).mono ?_; rintro e w1 ⟨rfl, hb1⟩; obtain ⟨os1, d1, rfl⟩ := ext_of_below hb1; clear hb1
    have y0 : w.heap.size + os1.size < w.heap.size + os1.size + 1 := (by omega)
    go_wp2_with fail; refine (unhide HV _).mono ?_; rintro e w2 ⟨rfl, hb2⟩; obtain ⟨os2, d2, rfl⟩ := ext_of_below hb2; clear hb2
    go_wp2_with fail
    go_ret2
    exact ⟨by rw [HH.out]; rfl, (by (repeat' (first | (with_reducible exact Below.refl _ _) | (with_reducible assumption) | (with_reducible refine Below.alloc ?_ ?_ _) | (with_reducible refine below_ext ?_ ?_ _ _) | (with_reducible refine Below.setCell ?_ ?_ _) | (with_reducible refine Below.drew ?_) | (with_reducible refine below_drewN ?_ _))); all_goals (first | omega | (simp; done) | (simp; omega)))⟩
theorem sNg_any (w : World) (key sent r o : Int) :
    Calls Try.prog 21 #[.int .i64 key, .int .i64 sent, .int .i64 r, .int .i64 o] w fun e w' => e = .returned (.tuple #[.int .i64 (ngN sent r o), .bool (ngOk sent r o)]) ∧ Below w.heap.size w w' := by
  have HN := hide (fun W => sNewM_any W key r o)
  unfold newM at HN
  have HV := hide (fun W => sVM_any W key sent r (sel r o) (kh key [11, r, sel r o]))
  rw [ng_vM] at HV
  have hn := ng_ite sent r o
  generalize ngN sent r o = N at hn ⊢
  generalize sel r o = s at HN HV hn
  generalize kh key [11, r, s] = m at HN HV
  cases hok : ngOk sent r o
  · rw [hok] at HV hn
    have HH := hide hn
    clear hn hok
    go_enter Try.func21, Try.ntmps21
    go_wp2_with fail; refine (unhide HN _).mono ?_; rintro e w1 ⟨rfl, hb1⟩; obtain ⟨os1, d1, rfl⟩ := ext_of_below hb1; clear hb1
    have y0 : w.heap.size + os1.size < w.heap.size + os1.size + 1 := (by omega)
    go_wp2_with fail; refine (unhide HV _).mono ?_; rintro e w2 ⟨rfl, hb2⟩; obtain ⟨os2, d2, rfl⟩ := ext_of_below hb2; clear hb2
    go_wp2_with fail
    go_ret2
    exact ⟨by rw [HH.out]; rfl, (by (repeat' (first | (with_reducible exact Below.refl _ _) | (with_reducible assumption) | (with_reducible refine Below.alloc ?_ ?_ _) | (with_reducible refine below_ext ?_ ?_ _ _) | (with_reducible refine Below.setCell ?_ ?_ _) | (with_reducible refine Below.drew ?_) | (with_reducible refine below_drewN ?_ _))); all_goals (first | omega | (simp; done) | (simp; omega)))⟩
  · rw [hok] at HV hn
    have HH := hide hn
    clear hn hok
    go_enter Try.func21, Try.ntmps21
    go_wp2_with fail; refine (unhide HN _).mono ?_; rintro e w1 ⟨rfl, hb1⟩; obtain ⟨os1, d1, rfl⟩ := ext_of_below hb1; clear hb1
    have y0 : w.heap.size + os1.size < w.heap.size + os1.size + 1 := (by omega)
    go_wp2_with fail; refine (unhide HV _).mono ?_; rintro e w2 ⟨rfl, hb2⟩; obtain ⟨os2, d2, rfl⟩ := ext_of_below hb2; clear hb2
    go_wp2_with fail
    go_ret2
    exact ⟨by rw [HH.out]; rfl, (by (repeat' (first | (with_reducible exact Below.refl _ _) | (with_reducible assumption) | (with_reducible refine Below.alloc ?_ ?_ _) | (with_reducible refine below_ext ?_ ?_ _ _) | (with_reducible refine Below.setCell ?_ ?_ _) | (with_reducible refine Below.drew ?_) | (with_reducible refine below_drewN ?_ _))); all_goals (first | omega | (simp; done) | (simp; omega)))⟩

theorem toSM_any (c s m : Int) (w : World) :
    Calls Try.prog 16 #[.agg #[.int .i64 c, .int .i64 s, .int .i64 m]] w fun e w' => e = .returned (.agg #[.int .i64 c, .int .i64 s, .int .i64 m]) ∧ Below w.heap.size w w' := by
  go_enter Try.func16, Try.ntmps16
  go_wp2
  exact bodyPost_ret (v := .agg #[.int .i64 c, .int .i64 s, .int .i64 m]) (by simp [results, Try.results16, go_sem]) rfl ⟨rfl, (by (repeat' (first | (with_reducible exact Below.refl _ _) | (with_reducible assumption) | (with_reducible refine Below.alloc ?_ ?_ _) | (with_reducible refine below_ext ?_ ?_ _ _) | (with_reducible refine Below.setCell ?_ ?_ _) | (with_reducible refine Below.drew ?_) | (with_reducible refine below_drewN ?_ _))); all_goals (first | omega | (simp; done) | (simp; omega)))⟩
theorem eqSM_yes (c s m : Int) (w : World) :
    Calls Try.prog 20 #[.agg #[.int .i64 c, .int .i64 s, .int .i64 m], .agg #[.int .i64 c, .int .i64 s, .int .i64 m]] w fun e w' => e = .returned (.bool true) ∧ Below w.heap.size w w' := by
  go_enter Try.func20, Try.ntmps20
  go_wp2
  go_ret
  exact ⟨rfl, (by (repeat' (first | (with_reducible exact Below.refl _ _) | (with_reducible assumption) | (with_reducible refine Below.alloc ?_ ?_ _) | (with_reducible refine below_ext ?_ ?_ _ _) | (with_reducible refine Below.setCell ?_ ?_ _) | (with_reducible refine Below.drew ?_) | (with_reducible refine below_drewN ?_ _))); all_goals (first | omega | (simp; done) | (simp; omega)))⟩

theorem fnExactNewSecurityMode.walk (key r o : Int) (w : World) :
    Calls Try.prog 4 #[.int .i64 key, .int .i64 r, .int .i64 o] w fun e w' => e = .returned (.bool true) ∧ Below w.heap.size w w' := by
  have HS := hide (fun W => sNewM_any W key r o)
  have HI := hide (fun W => iNewM_any W key r o)
  unfold newM at HS HI
  generalize sel r o = s at HS HI
  generalize kh key [11, r, s] = m at HS HI
  go_enter Try.func4, Try.ntmps4
  go_wp2_with fail; refine (unhide HS _).mono ?_; rintro e w1 ⟨rfl, hb1⟩; obtain ⟨os1, d1, rfl⟩ := ext_of_below hb1; clear hb1
  go_wp2_with fail; refine (unhide HI _).mono ?_; rintro e w2 ⟨rfl, hb2⟩; obtain ⟨os2, d2, rfl⟩ := ext_of_below hb2; clear hb2
  have y1 : w.heap.size + os1.size < w.heap.size + os1.size + 1 := (by omega)
  have y2 : w.heap.size + os1.size < w.heap.size + os1.size + 1 + os2.size := (by omega)
  go_wp2_with fail; refine (eqSM_yes _ _ _ _).mono ?_; rintro e w3 ⟨rfl, hb3⟩; obtain ⟨os3, d3, rfl⟩ := ext_of_below hb3; clear hb3
  go_wp2_with fail
  go_ret
  exact ⟨rfl, (by (repeat' (first | (with_reducible exact Below.refl _ _) | (with_reducible assumption) | (with_reducible refine Below.alloc ?_ ?_ _) | (with_reducible refine below_ext ?_ ?_ _ _) | (with_reducible refine Below.setCell ?_ ?_ _) | (with_reducible refine Below.drew ?_) | (with_reducible refine below_drewN ?_ _))); all_goals (first | omega | (simp; done) | (simp; omega)))⟩
theorem fnExactVerifySecurityMode.walk (key sent c s m : Int) (w : World) :
    Calls Try.prog 3 #[.int .i64 key, .int .i64 sent, .agg #[.int .i64 c, .int .i64 s, .int .i64 m]] w fun e w' => e = .returned (.bool true) ∧ Below w.heap.size w w' := by
  have HS := hide (fun W => sVM_any W key sent c s m)
  have HI := hide (fun W => iVM_any W key sent c s m)
  generalize vM key sent c s m = ok at HS HI
  have z1a : w.heap.size < w.heap.size + 1 := (by omega)
  go_enter Try.func3, Try.ntmps3
  go_wp2_with fail; refine (toSM_any _ _ _ _).mono ?_; rintro e w1 ⟨rfl, hb1⟩; obtain ⟨os1, d1, rfl⟩ := ext_of_below hb1; clear hb1
  go_wp2_with fail; refine (unhide HS _).mono ?_; rintro e w2 ⟨rfl, hb2⟩; obtain ⟨os2, d2, rfl⟩ := ext_of_below hb2; clear hb2
  have y1 : w.heap.size < w.heap.size + 1 + os1.size := (by omega)
  go_wp2_with fail; refine (toSM_any _ _ _ _).mono ?_; rintro e w3 ⟨rfl, hb3⟩; obtain ⟨os3, d3, rfl⟩ := ext_of_below hb3; clear hb3
  go_wp2_with fail; refine (unhide HI _).mono ?_; rintro e w4 ⟨rfl, hb4⟩; obtain ⟨os4, d4, rfl⟩ := ext_of_below hb4; clear hb4
  go_wp2_with fail
  go_ret
  exact ⟨rfl, (by (repeat' (first | (with_reducible exact Below.refl _ _) | (with_reducible assumption) | (with_reducible refine Below.alloc ?_ ?_ _) | (with_reducible refine below_ext ?_ ?_ _ _) | (with_reducible refine Below.setCell ?_ ?_ _) | (with_reducible refine Below.drew ?_) | (with_reducible refine below_drewN ?_ _))); all_goals (first | omega | (simp; done) | (simp; omega)))⟩
theorem fnExactNegotiateSecurity.walk (key sent r o : Int) (w : World) :
    Calls Try.prog 5 #[.int .i64 key, .int .i64 sent, .int .i64 r, .int .i64 o] w fun e w' => e = .returned (.bool true) ∧ Below w.heap.size w w' := by
  have HS := hide (fun W => sNg_any W key sent r o)
  have HI := hide (fun W => iNg_any W key sent r o)
  generalize ngN sent r o = n at HS HI
  generalize ngOk sent r o = ok at HS HI
  go_enter Try.func5, Try.ntmps5
  go_wp2_with fail; refine (unhide HS _).mono ?_; rintro e w1 ⟨rfl, hb1⟩; obtain ⟨os1, d1, rfl⟩ := ext_of_below hb1; clear hb1
  go_wp2_with fail; refine (unhide HI _).mono ?_; rintro e w2 ⟨rfl, hb2⟩; obtain ⟨os2, d2, rfl⟩ := ext_of_below hb2; clear hb2
  go_wp2_with fail
  go_ret
  exact ⟨rfl, (by (repeat' (first | (with_reducible exact Below.refl _ _) | (with_reducible assumption) | (with_reducible refine Below.alloc ?_ ?_ _) | (with_reducible refine below_ext ?_ ?_ _ _) | (with_reducible refine Below.setCell ?_ ?_ _) | (with_reducible refine Below.drew ?_) | (with_reducible refine below_drewN ?_ _))); all_goals (first | omega | (simp; done) | (simp; omega)))⟩
end Go.Proofs.Ytbfmdnlfbadokaa
