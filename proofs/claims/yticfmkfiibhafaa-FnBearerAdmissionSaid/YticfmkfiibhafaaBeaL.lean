/- The law FnBearerAdmission, walked. -/
import Derived.Test.YticfmkfiibhafaaBeaD
import Derived.Test.YticfmkfiibhafaaAdm
import Derived.Deep.RegionHeld3
import Derived.Deep.RegionLaw
namespace Go.Proofs.Yticfmkfiibhafaa
open Go.RowKit Go.Sep

theorem big_any (w : World) (A : Option Addr) (n c : Nat) (_hn : n ≤ 9223372036854775807) :
    Calls Try.prog 43 #[.slice A n c] w fun e w' => e = .returned (.bool (decide ((1048576 : Int) < (n : Int)))) ∧ w = w' := by
  go_enter Try.func43, Try.ntmps43
  go_wp2_with fail
  go_ret
  exact ⟨rfl, rfl⟩
theorem u8_in {l : List Int} (h : ∀ x ∈ l, (Lit.int .u8 x).wf = true) : ∀ x ∈ l, 0 ≤ x ∧ x ≤ 255 := fun x hx => by
  have := h x hx
  have hmin : IntKind.u8.min = 0 := rfl
  have hmax : IntKind.u8.max = 255 := rfl
  simp only [Lit.wf, Bool.and_eq_true, decide_eq_true_eq, hmin, hmax] at this
  exact this
theorem admR_false {l X : List (Int × Int × Int)} {x y z cap : Int} (h : admR l x y z cap = (X, false)) : X = l := by
  cases hs : setV l x y z
  · rw [admR_s hs] at h; simp at h; exact h.symm
  · cases ha : adm cap y (setO l x y z) with
    | none => rw [admR_n hs ha] at h; simp at h; exact h.symm
    | some Y => rw [admR_y hs ha] at h; simp at h
theorem sameB_yes (w : World) (A B : Option Addr) (n c c' lo hi lo' hi' : Nat) (l : List (Int × Int × Int)) (hr : Rd w lo hi 3 A n (l.flatMap c3)) (hr' : Rd w lo' hi' 3 B n (l.flatMap c3)) (hn : n ≤ 1048576) :
    Calls Try.prog 45 #[.slice A n c, .slice B n c'] w fun e w' => e = .returned (.bool true) ∧ Below w.heap.size w w' := by
  have hll := hr.len3
  go_enter Try.func45, Try.ntmps45
  go_wp2_with fail
  go_loopw [5] (fun i wr => ∃ k : Nat, k ≤ n ∧ i = .int .i64 k ∧ ∃ d, wr = w.drewN d) (fun i _ => n - (intOf i).toNat)
  case atStart => exact ⟨0, Nat.zero_le _, rfl, 0, rfl⟩
  case round =>
    obtain ⟨k, hk, rfl, d, rfl⟩ := hrel
    by_cases hlt : k < n
    · obtain ⟨b, o, x, y, z, rfl, hx, ha0, ha1, ha2⟩ := hr.at3 hll hlt
      obtain ⟨b', o', x', y', z', rfl, hx', hb0, hb1, hb2⟩ := hr'.at3 hll hlt
      rw [hx] at hx'
      injection hx' with hx'
      obtain ⟨rfl, rfl, rfl⟩ : x = x' ∧ y = y' ∧ z = z' := by simpa using hx'
      have hlt' : (k : Int) < (n : Int) := by omega
      clear hx hx' hr hr'
      go_wp2_with fail
      go_quiet (fail)
      go_wp2_with fail
      go_roundw
      case rel => exact ⟨k + 1, by omega, by go_num, (by first | exact ⟨_, rfl⟩ | exact ⟨_, World.drewN_drewN _ _ _⟩)⟩
      case measure => simp [intOf] <;> omega
    · go_wp2_with fail
      go_ret
      exact ⟨rfl, (by (repeat' (first | (with_reducible exact Below.refl _ _) | (with_reducible assumption) | (with_reducible refine Below.alloc ?_ ?_ _) | (with_reducible refine below_ext ?_ ?_ _ _) | (with_reducible refine Below.setCell ?_ ?_ _) | (with_reducible refine Below.drew ?_) | (with_reducible refine below_drewN ?_ _))); all_goals (first | omega | (simp; done) | (simp; omega)))⟩
set_option maxHeartbeats 20000000 in
set_option maxRecDepth 100000 in
theorem fnBearerAdmission.walk (A : Option Addr) (n c : Nat) (l : List Int) (w : World) (_hl : l.length = n) (hr : Rd w 0 w.heap.size 1 A n (l.map (.int .u8))) (hw : ∀ x ∈ l, (Lit.int .u8 x).wf = true) (hc : n ≤ c ∧ c ≤ maxLen) :
    Calls Try.prog 12 #[.slice A n c] w fun e w' => e = .returned (.bool true) ∧ Below w.heap.size w w' := by
  have hn : n ≤ 9223372036854775807 := by have := hc.1; have := hc.2; unfold maxLen at this; omega
  have HG := hide (fun W => big_any W A n c hn)
  by_cases hbig : (1048576 : Int) < (n : Int)
  · rw [show decide ((1048576 : Int) < (n : Int)) = true by simpa using hbig] at HG
    clear hbig
    go_enter Try.func12, Try.ntmps12
    go_wp2_with (go_at_call 43; refine (unhide HG _).mono ?_; rintro e w' ⟨rfl, rfl⟩)
    go_ret
    exact ⟨rfl, (by (repeat' (first | (with_reducible exact Below.refl _ _) | (with_reducible assumption) | (with_reducible refine Below.alloc ?_ ?_ _) | (with_reducible refine below_ext ?_ ?_ _ _) | (with_reducible refine Below.setCell ?_ ?_ _) | (with_reducible refine Below.drew ?_) | (with_reducible refine below_drewN ?_ _))); all_goals (first | omega | (simp; done) | (simp; omega)))⟩
  rw [show decide ((1048576 : Int) < (n : Int)) = false by simpa using hbig] at HG
  have hn2 : n ≤ 16777216 := by omega
  have h8 := u8_in hw
  clear hbig
  go_enter Try.func12, Try.ntmps12
  go_wp2_with (go_at_call 43; refine (unhide HG _).mono ?_; rintro e w' ⟨rfl, rfl⟩)
  refine (sDrawAB_any _ A n c l hr hn2 h8).mono ?_
  rintro e w1 ⟨x, y, z, cap, B, m, d, L, rfl, hL, hm, hr1, hmd, hdm, hb1⟩
  have hsz1 := hb1.size
  clear HG hr
  have HO1 := hide (fun (W : World) (lo hi : Nat) (h : Rd W lo hi 3 B m (L.flatMap c3)) => iAdm_any W B m d lo hi L x y z cap h (by omega))
  have HO2 := hide (fun (W : World) (lo hi : Nat) (h : Rd W lo hi 3 B m (L.flatMap c3)) => sAdm_any W B m d lo hi L x y z cap h (by omega))
  have HLAW := hide (fun X (h : admR L x y z cap = (X, true)) => adm_law h)
  have HZ := hide (fun X (h : admR L x y z cap = (X, false)) => admR_false h)
  have hol := admR_len L x y z cap
  generalize hO : admR L x y z cap = O at HO1 HO2 HLAW HZ hol
  obtain ⟨X, ok⟩ := O
  simp only at HO1 HO2 hol
  clear hO
  go_wp2_with fail
  refine (unhide HO1 _ _ _ (hr1.alloc _)).mono ?_
  rintro e w2 ⟨A2, c2', rfl, hc2, hm2, ho2, hb2⟩
  obtain ⟨hx0, hx1, hx2, hbw2, hsz2⟩ := box3 hb2
  have hr2 := hr1.below' hbw2
  have hX2 := ho2.rd
  have hbB := below_then hb1 hbw2 hsz1
  clear ho2 hb2 hbw2 hb1 hr1
  go_wp2_with fail
  refine (unhide HO2 _ _ _ hr2).mono ?_
  rintro e w3 ⟨A3, c3', rfl, hc3, hm3, ho3, hb3⟩
  obtain ⟨hy0, hy1, hy2, hsz3⟩ := box3' hb3 hsz2 hx0 hx1 hx2
  have hr3 := hr2.below' hb3
  have hX3 := hX2.below' hb3
  have hbC := below_then hbB hb3 (by omega)
  clear hb3 hX2 hr2 hbB hx0 hx1 hx2 ho3 HO1 HO2
  cases ok
  · obtain rfl := HZ.out X rfl
    have HS := hide (sameB_yes w3 A2 B m c2' d _ _ _ _ X (hX3.cast hL rfl) hr3 (by omega))
    have hXm : X.length = m := hL
    have HXm := hide hXm
    have HBC := hide hbC
    rw [hL]
    clear HLAW HZ hbC hX3 hr3 hL hXm hol
    go_wp2_with fail
    refine (unhide HS).mono ?_
    rintro e w4 ⟨rfl, hb4⟩
    have HF := hide (below_then HBC.out hb4 (by omega))
    clear hb4
    go_wp2_with fail
    go_ret
    exact ⟨rfl, HF.out⟩
  · obtain ⟨hv, ht, ⟨k, hk, hf, hXk⟩, hall⟩ := HLAW.out X rfl
    have HALL := hide hall
    have hXl : X.length ≤ 1048576 := by omega
    have HFB := hide (fun (W : World) (id : Int) (h : Rd W w1.heap.size w2.heap.size 3 A2 X.length (X.flatMap c3)) => iFindBearer_any W A2 X.length c2' _ _ X id h hXl)
    have HFX := hide (fun (W : World) (h : Rd W w1.heap.size w2.heap.size 3 A2 X.length (X.flatMap c3)) => iFindBearer_any W A2 X.length c2' _ _ X x h hXl)
    rw [hf] at HFX
    have HTR := hide (fun (W : World) (h : Rd W w1.heap.size w2.heap.size 3 A2 X.length (X.flatMap c3)) => iTotalRate_any W A2 X.length c2' _ _ X h hXl)
    have HAV := hide (fun (W : World) (h : Rd W w1.heap.size w2.heap.size 3 A2 X.length (X.flatMap c3)) => iAVB_any W A2 X.length c2' _ _ X h hXl)
    rw [hv] at HAV
    generalize tRate X = T at ht HTR
    have hX3' : Rd w3 w1.heap.size w2.heap.size 3 A2 X.length (X.flatMap c3) := hX3.more (by simp) (Nat.le_refl _)
    have HBC := hide hbC
    have HL := hide hL
    have HHALL := hide hall
    have hkx : (k : Int) < (X.length : Int) := by omega
    clear HLAW HZ hf hv hol hall hL HALL hbC hX3 hk
    go_wp2_with fail
    refine (unhide HFX _ hX3').mono ?_
    rintro e w4 ⟨rfl, hb4⟩
    obtain ⟨hz0, hz1, hz2, hsz4⟩ := box3' hb4 hsz3 hy0 hy1 hy2
    have hX4 := hX3'.below' hb4
    have hr4 := hr3.below' hb4
    have HBD := hide (below_then HBC.out hb4 (by omega))
    clear hX3' hr3 hb4 hy0 hy1 hy2 HBC HFX
    obtain ⟨b, o, x', y', z', rfl, hXk', ha0, ha1, ha2⟩ := hX4.at3 rfl (show k < X.length by omega)
    rw [hXk] at hXk'
    injection hXk' with hXk'
    obtain ⟨rfl, rfl, rfl⟩ : x = x' ∧ y = y' ∧ z = z' := by simpa using hXk'
    have hbl : b < w4.heap.size := World.block_lt_of_cell? w4 _ ha0
    clear hXk' hXk
    have hkx2 : ¬ (X.length : Int) ≤ (k : Int) := by omega
    have hlt4 : w1.heap.size < w4.heap.size := by omega
    have hTc : ¬ cap < T := by omega
    have g1 : decide (X.length ≤ k) = false := by simp; omega
    have g2 : decide (cap < T) = false := by simp; omega
    have g3 : ¬ X.length ≤ k := by omega
    go_wp2_with fail
    go_region_held3 (fun w' => (w'.cell? ⟨b, o + k * 3, none⟩ = some (.int .i64 x) ∧ w'.cell? ⟨b, o + k * 3 + 1, none⟩ = some (.int .i64 y) ∧ w'.cell? ⟨b, o + k * 3 + 2, none⟩ = some (.int .i64 z)) ∧ w'.cell? ⟨w1.heap.size, 0, none⟩ = some (.int .i64 x) ∧ w'.cell? ⟨w1.heap.size, 1, none⟩ = some (.int .i64 y) ∧ w'.cell? ⟨w1.heap.size, 2, none⟩ = some (.int .i64 z)) (first | (go_simp; done) | go_keep)
      (first | (go_at_call 19; refine (unhide HTR _ (hX4.below' (by (repeat' (first | (with_reducible exact Below.refl _ _) | (with_reducible assumption) | (with_reducible refine Below.alloc ?_ ?_ _) | (with_reducible refine below_ext ?_ ?_ _ _) | (with_reducible refine Below.setCell ?_ ?_ _) | (with_reducible refine Below.drew ?_) | (with_reducible refine below_drewN ?_ _))); all_goals (first | omega | (simp; done) | (simp; omega))))).mono ?_; rintro e w5 ⟨rfl, hb5⟩; obtain ⟨os5, d5, rfl⟩ := ext_of_below hb5; clear hb5) | (go_at_call 31; refine (unhide HAV _ (hX4.below' (by (repeat' (first | (with_reducible exact Below.refl _ _) | (with_reducible assumption) | (with_reducible refine Below.alloc ?_ ?_ _) | (with_reducible refine below_ext ?_ ?_ _ _) | (with_reducible refine Below.setCell ?_ ?_ _) | (with_reducible refine Below.drew ?_) | (with_reducible refine below_drewN ?_ _))); all_goals (first | omega | (simp; done) | (simp; omega))))).mono ?_; rintro e w6 ⟨rfl, hb6⟩; obtain ⟨os6, d6, rfl⟩ := ext_of_below hb6; clear hb6))
    all_goals
      have hLm := HL.out
      have hm12 : m ≤ 12 := hm
      clear g1 g2 g3 hkx hkx2 hTc ht ha0 ha1 ha2 HTR HAV hbl
      go_wp2_with fail
      go_loopw [11] (fun i wr => ∃ j : Nat, j ≤ m ∧ i = .int .i64 j ∧ Below w4.heap.size w4 wr) (fun i _ => m - (intOf i).toNat)
      case atStart => exact ⟨0, Nat.zero_le _, rfl, (by (repeat' (first | (with_reducible exact Below.refl _ _) | (with_reducible assumption) | (with_reducible refine Below.alloc ?_ ?_ _) | (with_reducible refine below_ext ?_ ?_ _ _) | (with_reducible refine Below.setCell ?_ ?_ _) | (with_reducible refine Below.drew ?_) | (with_reducible refine below_drewN ?_ _))); all_goals (first | omega | (simp; done) | (simp; omega)))⟩
      case round =>
        obtain ⟨j, hj, rfl, hbq⟩ := hrel
        have q0 := ((bcell hbq).1 w1.heap.size 0 hlt4).trans hz0
        have q1 := ((bcell hbq).1 w1.heap.size 1 hlt4).trans hz1
        have hlt5 : w1.heap.size < wr.heap.size := Nat.lt_of_lt_of_le hlt4 hbq.size
        by_cases hlt : j < m
        · obtain ⟨b2, o2, p, q, r, rfl, hLj, e0, e1, e2⟩ := (hr4.below' hbq).at3 hLm hlt
          have hbl2 : b2 < wr.heap.size := World.block_lt_of_cell? wr _ e0
          have hjm : (j : Int) < (m : Int) := by omega
          have HQ := hide hbq
          by_cases hpx : p = x
          · subst hpx
            clear hLj hLm hbq HHALL HL HFB hX4 hr4 HBD
            go_wp2_with fail
            go_quiet (fail)
            go_wp2_with fail
            go_roundw
            case rel => exact ⟨j + 1, by omega, by go_num, below_then HQ.out (below_drewN (Below.refl _ _) _) HQ.out.size⟩
            case measure => simp [intOf] <;> omega
          · have hne : (p != x) = true := by simpa using hpx
            have hne2 : (p == x) = false := by simpa using hpx
            have HF := hide (fun W h => HFB.out W p h)
            have hXr := hX4.below' hbq
            rcases fidx0 (isId p) X with hf | ⟨i, t, hf, _⟩
            · have hy := HHALL.out (p, q, r) (List.mem_of_getElem? hLj) hpx hf
              simp only at hy
              rw [hf] at HF
              have hy2 : ¬ q ≤ y := by omega
              have hy3 : decide (q ≤ y) = false := by simp; omega
              clear hLj hLm hbq HHALL HL HFB hX4 hr4 HBD hf hpx
              go_wp2_with fail
              go_region_held3 (fun w' => (w'.cell? ⟨b2, o2 + j * 3, none⟩ = some (.int .i64 p) ∧ w'.cell? ⟨b2, o2 + j * 3 + 1, none⟩ = some (.int .i64 q)) ∧ w'.cell? ⟨w1.heap.size, 0, none⟩ = some (.int .i64 x) ∧ w'.cell? ⟨w1.heap.size, 1, none⟩ = some (.int .i64 y)) (first | (go_simp; done) | go_keep)
                (first | (go_at_call 22; refine (unhide HF _ (hXr.below' (by (repeat' (first | (with_reducible exact Below.refl _ _) | (with_reducible assumption) | (with_reducible refine Below.alloc ?_ ?_ _) | (with_reducible refine below_ext ?_ ?_ _ _) | (with_reducible refine Below.setCell ?_ ?_ _) | (with_reducible refine Below.drew ?_) | (with_reducible refine below_drewN ?_ _))); all_goals (first | omega | (simp; done) | (simp; omega))))).mono ?_; rintro e w7 ⟨rfl, hb7⟩; obtain ⟨os7, d7, rfl⟩ := ext_of_below hb7; clear hb7))
              all_goals
                go_wp2_with fail
                go_roundw
                case rel => exact ⟨j + 1, by omega, by go_num, below_then (B' := wr.heap.size) HQ.out (by (repeat' (first | (with_reducible exact Below.refl _ _) | (with_reducible assumption) | (with_reducible refine Below.alloc ?_ ?_ _) | (with_reducible refine below_ext ?_ ?_ _ _) | (with_reducible refine Below.setCell ?_ ?_ _) | (with_reducible refine Below.drew ?_) | (with_reducible refine below_drewN ?_ _))); all_goals (first | omega | (simp; done) | (simp; omega))) HQ.out.size⟩
                case measure => simp [intOf] <;> omega
            · rw [hf] at HF
              have hi0 : (0 : Int) ≤ (i : Int) := by omega
              generalize (i : Int) = v at HF hi0 hf
              have hy2 : ¬ v < 0 := by omega
              have hy3 : decide (v < 0) = false := by simp; omega
              clear hLj hLm hbq HHALL HL HFB hX4 hr4 HBD hf hpx
              go_wp2_with fail
              have hy4 : decide (v < 0) = false := by simp; omega
              first
              | (go_region_law (go_simp; (go_at_call 22; refine (unhide HF _ (hXr.below' (by (repeat' (first | (with_reducible exact Below.refl _ _) | (with_reducible assumption) | (with_reducible refine Below.alloc ?_ ?_ _) | (with_reducible refine below_ext ?_ ?_ _ _) | (with_reducible refine Below.setCell ?_ ?_ _) | (with_reducible refine Below.drew ?_) | (with_reducible refine below_drewN ?_ _))); all_goals (first | omega | (simp; done) | (simp; omega))))).mono ?_; rintro e w7 ⟨rfl, hb7⟩; obtain ⟨os7, d7, rfl⟩ := ext_of_below hb7; clear hb7)))
              | fail
              all_goals
                go_wp2_with fail
                go_roundw
                case rel => exact ⟨j + 1, by omega, by go_num, below_then (B' := wr.heap.size) HQ.out (by (repeat' (first | (with_reducible exact Below.refl _ _) | (with_reducible assumption) | (with_reducible refine Below.alloc ?_ ?_ _) | (with_reducible refine below_ext ?_ ?_ _ _) | (with_reducible refine Below.setCell ?_ ?_ _) | (with_reducible refine Below.drew ?_) | (with_reducible refine below_drewN ?_ _))); all_goals (first | omega | (simp; done) | (simp; omega))) HQ.out.size⟩
                case measure => simp [intOf] <;> omega
        · have hjm : ¬ (j : Int) < (m : Int) := by omega
          have HF := hide (below_then HBD.out hbq (by have := HBD.out.size; omega))
          clear hbq q0 q1 hr4 hX4
          go_wp2_with fail
          go_ret
          exact ⟨rfl, HF.out⟩
end Go.Proofs.Yticfmkfiibhafaa
