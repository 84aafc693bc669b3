/- The law FnTunnelIDs, walked. -/
import Derived.Test.YtncnaahgpeaofaaDrawT
import Derived.Test.YtncnaahgpeaofaaRoute
import Derived.Test.YtncnaahgpeaofaaEncL
namespace Go.Proofs.Ytncnaahgpeaofaa
open Go.RowKit Go.Sep

theorem big_any (w : World) (A : Option Addr) (n c : Nat) (_hn : n ≤ 9223372036854775807) :
    Calls Try.prog 34 #[.slice A n c] w fun e w' => e = .returned (.bool (decide ((1048576 : Int) < (n : Int)))) ∧ w = w' := by
  go_enter Try.func34, Try.ntmps34
  go_wp2_with fail
  go_ret
  exact ⟨rfl, rfl⟩
theorem u8_in {l : List Int} (h : ∀ x ∈ l, (Lit.int .u8 x).wf = true) : ∀ x ∈ l, 0 ≤ x ∧ x ≤ 255 := fun x hx => by
  have := h x hx
  have hmin : IntKind.u8.min = 0 := rfl
  have hmax : IntKind.u8.max = 255 := rfl
  simp only [Lit.wf, Bool.and_eq_true, decide_eq_true_eq, hmin, hmax] at this
  exact this
theorem same_yes (w : World) (A B : Option Addr) (n c c' lo hi lo' hi' : Nat) (l : List Int) (hr : Rd w lo hi 1 A n (l.map (.int .u8))) (hr' : Rd w lo' hi' 1 B n (l.map (.int .u8))) (hn : n ≤ 1048576) :
    Calls Try.prog 38 #[.slice A n c, .slice B n c'] w fun e w' => e = .returned (.bool true) ∧ Below w.heap.size w w' := by
  have hlen : l.length = n := by simpa using hr.len
  go_enter Try.func38, Try.ntmps38
  go_wp2_with fail
  go_loopw [5] (fun i wr => ∃ k : Nat, k ≤ n ∧ i = .int .i64 k ∧ ∃ d, wr = w.drewN d) (fun i _ => n - (intOf i).toNat)
  case atStart => exact ⟨0, Nat.zero_le _, rfl, 0, rfl⟩
  case round =>
    obtain ⟨k, hk, rfl, d, rfl⟩ := hrel
    by_cases hlt : k < n
    · obtain ⟨b, o, rfl, _, _, hcell⟩ := hr.at_ (j := k) (by omega)
      obtain ⟨b', o', rfl, _, _, hcell'⟩ := hr'.at_ (j := k) (by omega)
      have hx := hcell k (.int .u8 (l[k]'(by omega))) (by simp [show k < l.length by omega])
      have hx' := hcell' k (.int .u8 (l[k]'(by omega))) (by simp [show k < l.length by omega])
      generalize l[k]'(by omega) = z at hx hx'
      have hlt' : (k : Int) < (n : Int) := by omega
      clear hcell hcell' hr hr'
      go_wp2_with fail
      go_quiet (fail)
      go_wp2_with fail
      go_roundw
      case rel => exact ⟨k + 1, by omega, by go_num, (by first | exact ⟨_, rfl⟩ | exact ⟨_, World.drewN_drewN _ _ _⟩)⟩
      case measure => simp [intOf] <;> omega
    · go_wp2_with fail
      go_ret
      exact ⟨rfl, (by (repeat' (first | (with_reducible exact Below.refl _ _) | (with_reducible assumption) | (with_reducible refine Below.alloc ?_ ?_ _) | (with_reducible refine below_ext ?_ ?_ _ _) | (with_reducible refine Below.setCell ?_ ?_ _) | (with_reducible refine Below.drew ?_) | (with_reducible refine below_drewN ?_ _))); all_goals (first | omega | (simp; done) | (simp; omega)))⟩
theorem sameT_yes (w : World) (A B : Option Addr) (n c c' lo hi lo' hi' : Nat) (l : List (Int × Int)) (hr : Rd w lo hi 2 A n (l.flatMap c2)) (hr' : Rd w lo' hi' 2 B n (l.flatMap c2)) (hn : n ≤ 1048576) :
    Calls Try.prog 36 #[.slice A n c, .slice B n c'] w fun e w' => e = .returned (.bool true) ∧ Below w.heap.size w w' := by
  have hll := hr.len2
  go_enter Try.func36, Try.ntmps36
  go_wp2_with fail
  go_loopw [5] (fun i wr => ∃ k : Nat, k ≤ n ∧ i = .int .i64 k ∧ ∃ d, wr = w.drewN d) (fun i _ => n - (intOf i).toNat)
  case atStart => exact ⟨0, Nat.zero_le _, rfl, 0, rfl⟩
  case round =>
    obtain ⟨k, hk, rfl, d, rfl⟩ := hrel
    by_cases hlt : k < n
    · obtain ⟨b, o, x, y, rfl, hx, ha0, ha1⟩ := hr.at2 hll hlt
      obtain ⟨b', o', x', y', rfl, hx', hb0, hb1⟩ := hr'.at2 hll hlt
      rw [hx] at hx'
      injection hx' with hx'
      obtain ⟨rfl, rfl⟩ : x = x' ∧ y = y' := by simpa using hx'
      have hlt' : (k : Int) < (n : Int) := by omega
      clear hx hx' hr hr'
      go_wp2_with fail
      go_quiet (fail)
      go_wp2_with fail
      go_roundw
      case rel => exact ⟨k + 1, by omega, by go_num, (by first | exact ⟨_, rfl⟩ | exact ⟨_, World.drewN_drewN _ _ _⟩)⟩
      case measure => simp [intOf] <;> omega
    · go_wp2_with fail
      go_ret
      exact ⟨rfl, (by (repeat' (first | (with_reducible exact Below.refl _ _) | (with_reducible assumption) | (with_reducible refine Below.alloc ?_ ?_ _) | (with_reducible refine below_ext ?_ ?_ _ _) | (with_reducible refine Below.setCell ?_ ?_ _) | (with_reducible refine Below.drew ?_) | (with_reducible refine below_drewN ?_ _))); all_goals (first | omega | (simp; done) | (simp; omega)))⟩
theorem cont_yes (w : World) (A : Option Addr) (n c lo hi : Nat) (l : List Int) (z : Int) (hr : Rd w lo hi 1 A n (l.map (.int .i64))) (hn : n ≤ 1048576) (hz : z ∈ l) :
    Calls Try.prog 39 #[.slice A n c, .int .i64 z] w fun e w' => e = .returned (.bool true) ∧ Below w.heap.size w w' := by
  have hlen : l.length = n := by simpa using hr.len
  go_enter Try.func39, Try.ntmps39
  go_wp2_with fail
  go_loop [5] (fun i => ∃ k : Nat, k ≤ n ∧ i = .int .i64 k ∧ Hid (z ∈ l.drop k)) (fun i => n - (intOf i).toNat)
  case atStart => exact ⟨0, Nat.zero_le _, rfl, hide (by simpa using hz)⟩
  case round =>
    obtain ⟨k, hk, rfl, HZ⟩ := hrel
    by_cases hlt : k < n
    · obtain ⟨b, o, rfl, _, _, hcell⟩ := hr.at_ (j := k) (by omega)
      have hx := hcell k (.int .i64 (l[k]'(by omega))) (by simp [show k < l.length by omega])
      have hd : l.drop k = l[k]'(by omega) :: l.drop (k + 1) := List.drop_eq_getElem_cons (by omega)
      have hzz := HZ.out
      rw [hd] at hzz
      generalize l[k]'(by omega) = y at hx hzz
      have hlt' : (k : Int) < (n : Int) := by omega
      clear hcell hr hd
      cases he : (y == z)
      · have HZ2 := hide (show z ∈ l.drop (k + 1) by
          rcases List.mem_cons.1 hzz with h | h
          · subst h; simp at he
          · exact h)
        clear hzz HZ
        go_wp2_with fail
        go_round
        case rel => exact ⟨k + 1, by omega, by go_num, HZ2⟩
        case measure => simp [intOf] <;> omega
      · clear hzz HZ
        go_wp2_with fail
        go_ret
        exact ⟨rfl, (by (repeat' (first | (with_reducible exact Below.refl _ _) | (with_reducible assumption) | (with_reducible refine Below.alloc ?_ ?_ _) | (with_reducible refine below_ext ?_ ?_ _ _) | (with_reducible refine Below.setCell ?_ ?_ _) | (with_reducible refine Below.drew ?_) | (with_reducible refine below_drewN ?_ _))); all_goals (first | omega | (simp; done) | (simp; omega)))⟩
    · exfalso
      have := HZ.out
      rw [List.drop_eq_nil_of_le (by omega)] at this
      cases this
set_option maxHeartbeats 2000000 in
set_option maxRecDepth 100000 in
theorem fnTunnelIDs.walk (A : Option Addr) (n c : Nat) (l : List Int) (w : World) (_hl : l.length = n) (hr : Rd w 0 w.heap.size 1 A n (l.map (.int .u8))) (hw : ∀ x ∈ l, (Lit.int .u8 x).wf = true) (hc : n ≤ c ∧ c ≤ maxLen) :
    Calls Try.prog 9 #[.slice A n c] w fun e w' => e = .returned (.bool true) ∧ Below w.heap.size w w' := by
  have hn : n ≤ 9223372036854775807 := by have := hc.1; have := hc.2; unfold maxLen at this; omega
  have HG := hide (fun W => big_any W A n c hn)
  by_cases hbig : (1048576 : Int) < (n : Int)
  · rw [show decide ((1048576 : Int) < (n : Int)) = true by simpa using hbig] at HG
    clear hbig
    go_enter Try.func9, Try.ntmps9
    go_wp2_with (go_at_call 34; refine (unhide HG _).mono ?_; rintro e w' ⟨rfl, rfl⟩)
    go_ret
    exact ⟨rfl, (by (repeat' (first | (with_reducible exact Below.refl _ _) | (with_reducible assumption) | (with_reducible refine Below.alloc ?_ ?_ _) | (with_reducible refine below_ext ?_ ?_ _ _) | (with_reducible refine Below.setCell ?_ ?_ _) | (with_reducible refine Below.drew ?_) | (with_reducible refine below_drewN ?_ _))); all_goals (first | omega | (simp; done) | (simp; omega)))⟩
  rw [show decide ((1048576 : Int) < (n : Int)) = false by simpa using hbig] at HG
  have hn2 : n ≤ 16777216 := by omega
  have hn1 : n ≤ 1048576 := by omega
  have h8 := u8_in hw
  clear hbig
  go_enter Try.func9, Try.ntmps9
  go_wp2_with (go_at_call 34; refine (unhide HG _).mono ?_; rintro e w' ⟨rfl, rfl⟩)
  refine (sDrawOT_any _ A n c l hr hn2 h8).mono ?_
  rintro e w1 ⟨p, B, k, d, L, rfl, rfl, hk, hr1, hkd, hdm, hb1⟩
  obtain ⟨os1, d1, rfl⟩ := ext_of_below hb1
  clear hb1 HG
  have HO1 := hide (fun (W : World) (lo hi : Nat) (h : Rd W lo hi 2 B L.length (L.flatMap c2)) => iOpen_any W B L.length d lo hi L p h (by omega))
  have HO2 := hide (fun (W : World) (lo hi : Nat) (h : Rd W lo hi 2 B L.length (L.flatMap c2)) => sOpen_any W B L.length d lo hi L p h (by omega) hkd)
  have HLAW := hide (fun X id (h : opL L L.length p = (X, id)) (hid : id ≠ 0) => op_law rfl h hid)
  have HZ := hide (fun X (h : opL L L.length p = (X, 0)) => op_zero h)
  have hol := op_len L L.length p
  generalize hO : opL L L.length p = O at HO1 HO2 HLAW HZ hol
  obtain ⟨X, id⟩ := O
  simp only at HO1 HO2 hol
  clear hO
  by_cases hid : id = 0
  · subst hid
    obtain rfl := HZ.out X rfl
    clear HLAW HZ
    go_wp2_with fail; refine (unhide HO1 _ _ _ (hr1.below' (by (repeat' (first | (with_reducible exact Below.refl _ _) | (with_reducible assumption) | (with_reducible refine Below.alloc ?_ ?_ _) | (with_reducible refine below_ext ?_ ?_ _ _) | (with_reducible refine Below.setCell ?_ ?_ _) | (with_reducible refine Below.drew ?_) | (with_reducible refine below_drewN ?_ _))); all_goals (first | omega | (simp; done) | (simp; omega))))).mono ?_; rintro e w2 ⟨A2, c2, rfl, hc2, hm2, ho2, hb2⟩; obtain ⟨os2, d2, rfl⟩ := ext_of_below hb2; clear hb2; try simp only [ext_drew] at ho2; try simp only [ext_drewN] at ho2
    go_wp2_with fail; refine (unhide HO2 _ _ _ (hr1.below' (by (repeat' (first | (with_reducible exact Below.refl _ _) | (with_reducible assumption) | (with_reducible refine Below.alloc ?_ ?_ _) | (with_reducible refine below_ext ?_ ?_ _ _) | (with_reducible refine Below.setCell ?_ ?_ _) | (with_reducible refine Below.drew ?_) | (with_reducible refine below_drewN ?_ _))); all_goals (first | omega | (simp; done) | (simp; omega))))).mono ?_; rintro e w3 ⟨A3, c3, rfl, hc3, hm3, ho3, hb3⟩; obtain ⟨os3, d3, rfl⟩ := ext_of_below hb3; clear hb3; try simp only [ext_drew] at ho3; try simp only [ext_drewN] at ho3
    go_wp2_with fail; refine (sameT_yes _ _ _ _ _ _ _ _ _ _ X (ho2.rd.below' (by (repeat' (first | (with_reducible exact Below.refl _ _) | (with_reducible assumption) | (with_reducible refine Below.alloc ?_ ?_ _) | (with_reducible refine below_ext ?_ ?_ _ _) | (with_reducible refine Below.setCell ?_ ?_ _) | (with_reducible refine Below.drew ?_) | (with_reducible refine below_drewN ?_ _))); all_goals (first | omega | (simp; done) | (simp; omega)))) (hr1.below' (by (repeat' (first | (with_reducible exact Below.refl _ _) | (with_reducible assumption) | (with_reducible refine Below.alloc ?_ ?_ _) | (with_reducible refine below_ext ?_ ?_ _ _) | (with_reducible refine Below.setCell ?_ ?_ _) | (with_reducible refine Below.drew ?_) | (with_reducible refine below_drewN ?_ _))); all_goals (first | omega | (simp; done) | (simp; omega)))) (by omega)).mono ?_; rintro e w4 ⟨rfl, hb4⟩; obtain ⟨os4, d4, rfl⟩ := ext_of_below hb4; clear hb4
    go_wp2_with fail
    go_ret
    exact ⟨rfl, (by (repeat' (first | (with_reducible exact Below.refl _ _) | (with_reducible assumption) | (with_reducible refine Below.alloc ?_ ?_ _) | (with_reducible refine below_ext ?_ ?_ _ _) | (with_reducible refine Below.setCell ?_ ?_ _) | (with_reducible refine Below.drew ?_) | (with_reducible refine below_drewN ?_ _))); all_goals (first | omega | (simp; done) | (simp; omega)))⟩
  · obtain ⟨hin, hp0, h20, hX1, htp, hvX, htpX, hmem, hcl⟩ := HLAW.out X id rfl hid
    have hrg := inR_true hin
    have hid0 : (id == 0) = false := by simpa using hid
    have HE := hide (fun (W : World) (A : Option Addr) (c lo hi : Nat) (h : Rd W lo hi 1 A n (l.map (.int .u8))) => iEncap_any W id A n c lo hi l h (by omega))
    have hel := cap_len id l
    have heb := cap_byte (id := id) h8
    have hln : l.length = n := _hl
    have hrt : rtL X (capL id l) = (p, l) := by
      have h1 := dc_cap (l := l) hin
      rw [rtL_2 (by rw [h1]) (by rw [h1]; simp only; rw [htpX]; omega), h1]
      simp only [htpX]
    have HR := hide (fun (W : World) (A : Option Addr) (c lo hi : Nat) (h : Rd W lo hi 2 A X.length (X.flatMap c2)) (B : Option Addr) (d lo' hi' : Nat) (h' : Rd W lo' hi' 1 B (capL id l).length ((capL id l).map (.int .u8))) (hd : (capL id l).length ≤ d) => iRoute_any W A X.length c lo hi X B (capL id l).length d lo' hi' (capL id l) h h' (by omega) (by omega) heb hd)
    rw [hrt] at HR
    simp only [hln] at HR
    have HP := hide (fun (W : World) (lo hi : Nat) (h : Rd W lo hi 2 B L.length (L.flatMap c2)) => sTunnelPeer_any W B L.length d lo hi L id h (by omega))
    rw [htp] at HP
    have HV := hide (fun (W : World) (A : Option Addr) (c lo hi : Nat) (h : Rd W lo hi 2 A X.length (X.flatMap c2)) => iAVT_any W A X.length c lo hi X h (by omega))
    rw [← hX1] at hvX
    rw [hvX] at HV
    have HTP := hide (fun (W : World) (A : Option Addr) (c lo hi : Nat) (h : Rd W lo hi 2 A X.length (X.flatMap c2)) => iOfPeer_any W A X.length c lo hi X p h (by omega))
    have HCL := hide (fun (W : World) (A : Option Addr) (c lo hi : Nat) (h : Rd W lo hi 2 A X.length (X.flatMap c2)) => iClose_any W A X.length c lo hi X id h (by omega))
    rw [hcl] at HCL
    have HMEM := hide hmem
    have htl := fm_len (fOfPeer p) X
    generalize X.filterMap (fOfPeer p) = T at HTP HMEM htl
    generalize capL id l = cb at HE HR hel
    have hn1' : id ≠ 0 := hid
    have hXl : X.length ≤ 22 := by omega
    have hLl : L.length ≤ 21 := hk
    clear HLAW HZ hin htp hvX htpX hmem hcl hrt heb hX1 hol hk _hl hln hid hw
    go_wp2_with fail; refine (unhide HO1 _ _ _ (hr1.below' (by (repeat' (first | (with_reducible exact Below.refl _ _) | (with_reducible assumption) | (with_reducible refine Below.alloc ?_ ?_ _) | (with_reducible refine below_ext ?_ ?_ _ _) | (with_reducible refine Below.setCell ?_ ?_ _) | (with_reducible refine Below.drew ?_) | (with_reducible refine below_drewN ?_ _))); all_goals (first | omega | (simp; done) | (simp; omega))))).mono ?_; rintro e w2 ⟨A2, c2, rfl, hc2, hm2, ho2, hb2⟩; obtain ⟨os2, d2, rfl⟩ := ext_of_below hb2; clear hb2; try simp only [ext_drew] at ho2; try simp only [ext_drewN] at ho2
    go_wp2_with fail; refine (unhide HO2 _ _ _ (hr1.below' (by (repeat' (first | (with_reducible exact Below.refl _ _) | (with_reducible assumption) | (with_reducible refine Below.alloc ?_ ?_ _) | (with_reducible refine below_ext ?_ ?_ _ _) | (with_reducible refine Below.setCell ?_ ?_ _) | (with_reducible refine Below.drew ?_) | (with_reducible refine below_drewN ?_ _))); all_goals (first | omega | (simp; done) | (simp; omega))))).mono ?_; rintro e w3 ⟨A3, c3, rfl, hc3, hm3, ho3, hb3⟩; obtain ⟨os3, d3, rfl⟩ := ext_of_below hb3; clear hb3; try simp only [ext_drew] at ho3; try simp only [ext_drewN] at ho3
    go_wp2_with fail; refine (unhide HE _ _ _ _ _ (hr.below' (by (repeat' (first | (with_reducible exact Below.refl _ _) | (with_reducible assumption) | (with_reducible refine Below.alloc ?_ ?_ _) | (with_reducible refine below_ext ?_ ?_ _ _) | (with_reducible refine Below.setCell ?_ ?_ _) | (with_reducible refine Below.drew ?_) | (with_reducible refine below_drewN ?_ _))); all_goals (first | omega | (simp; done) | (simp; omega))))).mono ?_; rintro e w4 ⟨A4, c4, rfl, hc4, hm4, ho4, hb4⟩; obtain ⟨os4, d4, rfl⟩ := ext_of_below hb4; clear hb4; try simp only [ext_drew] at ho4; try simp only [ext_drewN] at ho4
    go_wp2_with fail; refine (unhide HR _ _ _ _ _ (ho2.rd.below' (by (repeat' (first | (with_reducible exact Below.refl _ _) | (with_reducible assumption) | (with_reducible refine Below.alloc ?_ ?_ _) | (with_reducible refine below_ext ?_ ?_ _ _) | (with_reducible refine Below.setCell ?_ ?_ _) | (with_reducible refine Below.drew ?_) | (with_reducible refine below_drewN ?_ _))); all_goals (first | omega | (simp; done) | (simp; omega)))) _ _ _ _ (ho4.rd.below' (by (repeat' (first | (with_reducible exact Below.refl _ _) | (with_reducible assumption) | (with_reducible refine Below.alloc ?_ ?_ _) | (with_reducible refine below_ext ?_ ?_ _ _) | (with_reducible refine Below.setCell ?_ ?_ _) | (with_reducible refine Below.drew ?_) | (with_reducible refine below_drewN ?_ _))); all_goals (first | omega | (simp; done) | (simp; omega)))) hc4).mono ?_; rintro e w5 ⟨A5, c5, rfl, hc5, hm5, ho5, hb5⟩; obtain ⟨os5, d5, rfl⟩ := ext_of_below hb5; clear hb5; try simp only [ext_drew] at ho5; try simp only [ext_drewN] at ho5
    go_wp2_with fail; refine (unhide HP _ _ _ (hr1.below' (by (repeat' (first | (with_reducible exact Below.refl _ _) | (with_reducible assumption) | (with_reducible refine Below.alloc ?_ ?_ _) | (with_reducible refine below_ext ?_ ?_ _ _) | (with_reducible refine Below.setCell ?_ ?_ _) | (with_reducible refine Below.drew ?_) | (with_reducible refine below_drewN ?_ _))); all_goals (first | omega | (simp; done) | (simp; omega))))).mono ?_; rintro e w6 ⟨rfl, hb6⟩; obtain ⟨os6, d6, rfl⟩ := ext_of_below hb6; clear hb6
    go_wp2_with fail; refine (unhide HV _ _ _ _ _ (ho2.rd.below' (by (repeat' (first | (with_reducible exact Below.refl _ _) | (with_reducible assumption) | (with_reducible refine Below.alloc ?_ ?_ _) | (with_reducible refine below_ext ?_ ?_ _ _) | (with_reducible refine Below.setCell ?_ ?_ _) | (with_reducible refine Below.drew ?_) | (with_reducible refine below_drewN ?_ _))); all_goals (first | omega | (simp; done) | (simp; omega))))).mono ?_; rintro e w7 ⟨rfl, hb7⟩; obtain ⟨os7, d7, rfl⟩ := ext_of_below hb7; clear hb7
    go_wp2_with fail; refine (same_yes _ _ _ _ _ _ _ _ _ _ l (ho5.rd.below' (by (repeat' (first | (with_reducible exact Below.refl _ _) | (with_reducible assumption) | (with_reducible refine Below.alloc ?_ ?_ _) | (with_reducible refine below_ext ?_ ?_ _ _) | (with_reducible refine Below.setCell ?_ ?_ _) | (with_reducible refine Below.drew ?_) | (with_reducible refine below_drewN ?_ _))); all_goals (first | omega | (simp; done) | (simp; omega)))) (hr.below' (by (repeat' (first | (with_reducible exact Below.refl _ _) | (with_reducible assumption) | (with_reducible refine Below.alloc ?_ ?_ _) | (with_reducible refine below_ext ?_ ?_ _ _) | (with_reducible refine Below.setCell ?_ ?_ _) | (with_reducible refine Below.drew ?_) | (with_reducible refine below_drewN ?_ _))); all_goals (first | omega | (simp; done) | (simp; omega)))) (by omega)).mono ?_; rintro e w8 ⟨rfl, hb8⟩; obtain ⟨os8, d8, rfl⟩ := ext_of_below hb8; clear hb8
    go_wp2_with fail; refine (unhide HTP _ _ _ _ _ (ho2.rd.below' (by (repeat' (first | (with_reducible exact Below.refl _ _) | (with_reducible assumption) | (with_reducible refine Below.alloc ?_ ?_ _) | (with_reducible refine below_ext ?_ ?_ _ _) | (with_reducible refine Below.setCell ?_ ?_ _) | (with_reducible refine Below.drew ?_) | (with_reducible refine below_drewN ?_ _))); all_goals (first | omega | (simp; done) | (simp; omega))))).mono ?_; rintro e w9 ⟨A9, c9, rfl, hc9, hm9, ho9, hb9⟩; obtain ⟨os9, d9, rfl⟩ := ext_of_below hb9; clear hb9; try simp only [ext_drew] at ho9; try simp only [ext_drewN] at ho9
    go_wp2_with fail; refine (cont_yes _ _ _ _ _ _ T id (ho9.rd.below' (by (repeat' (first | (with_reducible exact Below.refl _ _) | (with_reducible assumption) | (with_reducible refine Below.alloc ?_ ?_ _) | (with_reducible refine below_ext ?_ ?_ _ _) | (with_reducible refine Below.setCell ?_ ?_ _) | (with_reducible refine Below.drew ?_) | (with_reducible refine below_drewN ?_ _))); all_goals (first | omega | (simp; done) | (simp; omega)))) (by omega) HMEM.out).mono ?_; rintro e w10 ⟨rfl, hb10⟩; obtain ⟨os10, d10, rfl⟩ := ext_of_below hb10; clear hb10
    go_wp2_with fail; refine (unhide HCL _ _ _ _ _ (ho2.rd.below' (by (repeat' (first | (with_reducible exact Below.refl _ _) | (with_reducible assumption) | (with_reducible refine Below.alloc ?_ ?_ _) | (with_reducible refine below_ext ?_ ?_ _ _) | (with_reducible refine Below.setCell ?_ ?_ _) | (with_reducible refine Below.drew ?_) | (with_reducible refine below_drewN ?_ _))); all_goals (first | omega | (simp; done) | (simp; omega))))).mono ?_; rintro e w11 ⟨A11, c11, rfl, hc11, hm11, ho11, hb11⟩; obtain ⟨os11, d11, rfl⟩ := ext_of_below hb11; clear hb11; try simp only [ext_drew] at ho11; try simp only [ext_drewN] at ho11
    go_wp2_with fail; refine (sameT_yes _ _ _ _ _ _ _ _ _ _ L (ho11.rd.below' (by (repeat' (first | (with_reducible exact Below.refl _ _) | (with_reducible assumption) | (with_reducible refine Below.alloc ?_ ?_ _) | (with_reducible refine below_ext ?_ ?_ _ _) | (with_reducible refine Below.setCell ?_ ?_ _) | (with_reducible refine Below.drew ?_) | (with_reducible refine below_drewN ?_ _))); all_goals (first | omega | (simp; done) | (simp; omega)))) (hr1.below' (by (repeat' (first | (with_reducible exact Below.refl _ _) | (with_reducible assumption) | (with_reducible refine Below.alloc ?_ ?_ _) | (with_reducible refine below_ext ?_ ?_ _ _) | (with_reducible refine Below.setCell ?_ ?_ _) | (with_reducible refine Below.drew ?_) | (with_reducible refine below_drewN ?_ _))); all_goals (first | omega | (simp; done) | (simp; omega)))) (by omega)).mono ?_; rintro e w12 ⟨rfl, hb12⟩; obtain ⟨os12, d12, rfl⟩ := ext_of_below hb12; clear hb12
    go_wp2_with fail
    go_ret
    exact ⟨rfl, (by (repeat' (first | (with_reducible exact Below.refl _ _) | (with_reducible assumption) | (with_reducible refine Below.alloc ?_ ?_ _) | (with_reducible refine below_ext ?_ ?_ _ _) | (with_reducible refine Below.setCell ?_ ?_ _) | (with_reducible refine Below.drew ?_) | (with_reducible refine below_drewN ?_ _))); all_goals (first | omega | (simp; done) | (simp; omega)))⟩
end Go.Proofs.Ytncnaahgpeaofaa
