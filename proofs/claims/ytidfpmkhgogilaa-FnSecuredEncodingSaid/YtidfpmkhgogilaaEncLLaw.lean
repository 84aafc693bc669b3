/- The law FnEncapsulation, walked. -/
import Derived.Test.YtidfpmkhgogilaaEncL
namespace Go.Proofs.Ytidfpmkhgogilaa
open Go.RowKit Go.Sep

theorem big_any (w : World) (A : Option Addr) (n c : Nat) (_hn : n ≤ 9223372036854775807) :
    Calls Try.prog 32 #[.slice A n c] w fun e w' => e = .returned (.bool (decide ((1048576 : Int) < (n : Int)))) ∧ w = w' := by
  go_enter Try.func32, Try.ntmps32
  go_wp2_with fail
  go_ret
  exact ⟨rfl, rfl⟩
theorem u8_in {l : List Int} (h : ∀ x ∈ l, (Lit.int .u8 x).wf = true) : ∀ x ∈ l, 0 ≤ x ∧ x ≤ 255 := fun x hx => by
  have := h x hx
  have hmin : IntKind.u8.min = 0 := rfl
  have hmax : IntKind.u8.max = 255 := rfl
  simp only [Lit.wf, Bool.and_eq_true, decide_eq_true_eq, hmin, hmax] at this
  exact this
theorem same_yes (w : World) (A B : Option Addr) (n c c' lo hi lo' hi' : Nat) (l : List Int) (hr : Rd w lo hi 1 A n (l.map (.int .u8))) (hr' : Rd w lo' hi' 1 B n (l.map (.int .u8))) (hn : n ≤ 1048576) :
    Calls Try.prog 36 #[.slice A n c, .slice B n c'] w fun e w' => e = .returned (.bool true) ∧ Below w.heap.size w w' := by
  have hlen : l.length = n := by simpa using hr.len
  go_enter Try.func36, Try.ntmps36
  go_wp2_with fail
  go_loopw [5] (fun i wr => ∃ k : Nat, k ≤ n ∧ i = .int .i64 k ∧ ∃ d, wr = w.drewN d) (fun i _ => n - (intOf i).toNat)
  case atStart => exact ⟨0, Nat.zero_le _, rfl, 0, rfl⟩
  case round =>
    obtain ⟨k, hk, rfl, d, rfl⟩ := hrel
    by_cases hlt : k < n
    · obtain ⟨b, o, rfl, _, _, hcell⟩ := hr.at_ (j := k) (by omega)
      obtain ⟨b', o', rfl, _, _, hcell'⟩ := hr'.at_ (j := k) (by omega)
      have hx := hcell k (.int .u8 (l[k]'(by omega))) (by simp [show k < l.length by omega])
      have hx' := hcell' k (.int .u8 (l[k]'(by omega))) (by simp [show k < l.length by omega])
      generalize l[k]'(by omega) = z at hx hx'
      have hlt' : (k : Int) < (n : Int) := by omega
      clear hcell hcell' hr hr'
      go_wp2_with fail
      go_quiet (fail)
      go_wp2_with fail
      go_roundw
      case rel => exact ⟨k + 1, by omega, by go_num, (by first | exact ⟨_, rfl⟩ | exact ⟨_, World.drewN_drewN _ _ _⟩)⟩
      case measure => simp [intOf] <;> omega
    · go_wp2_with fail
      go_ret
      exact ⟨rfl, (by (repeat' (first | (with_reducible exact Below.refl _ _) | (with_reducible assumption) | (with_reducible refine Below.alloc ?_ ?_ _) | (with_reducible refine below_ext ?_ ?_ _ _) | (with_reducible refine Below.setCell ?_ ?_ _) | (with_reducible refine Below.drew ?_) | (with_reducible refine below_drewN ?_ _))); all_goals (first | omega | (simp; done) | (simp; omega)))⟩
set_option maxHeartbeats 2000000 in
set_option maxRecDepth 100000 in
theorem fnEncapsulation.walk (A : Option Addr) (n c : Nat) (l : List Int) (w : World) (_hl : l.length = n) (hr : Rd w 0 w.heap.size 1 A n (l.map (.int .u8))) (hw : ∀ x ∈ l, (Lit.int .u8 x).wf = true) (hc : n ≤ c ∧ c ≤ maxLen) :
    Calls Try.prog 14 #[.slice A n c] w fun e w' => e = .returned (.bool true) ∧ Below w.heap.size w w' := by
  have hn : n ≤ 9223372036854775807 := by have := hc.1; have := hc.2; unfold maxLen at this; omega
  have HG := hide (fun W => big_any W A n c hn)
  by_cases hbig : (1048576 : Int) < (n : Int)
  · rw [show decide ((1048576 : Int) < (n : Int)) = true by simpa using hbig] at HG
    clear hbig
    go_enter Try.func14, Try.ntmps14
    go_wp2_with (go_at_call 32; refine (unhide HG _).mono ?_; rintro e w' ⟨rfl, rfl⟩)
    go_ret
    exact ⟨rfl, (by (repeat' (first | (with_reducible exact Below.refl _ _) | (with_reducible assumption) | (with_reducible refine Below.alloc ?_ ?_ _) | (with_reducible refine below_ext ?_ ?_ _ _) | (with_reducible refine Below.setCell ?_ ?_ _) | (with_reducible refine Below.drew ?_) | (with_reducible refine below_drewN ?_ _))); all_goals (first | omega | (simp; done) | (simp; omega)))⟩
  rw [show decide ((1048576 : Int) < (n : Int)) = false by simpa using hbig] at HG
  have hn2 : n ≤ 16777216 := by omega
  have h8 := u8_in hw
  clear hbig
  go_enter Try.func14, Try.ntmps14
  go_wp2_with (go_at_call 32; refine (unhide HG _).mono ?_; rintro e w' ⟨rfl, rfl⟩)
  refine (sDrawEn_any _ A n c l hr hn2 h8).mono ?_
  rintro e w1 ⟨id, B1, k1, cc1, bs, rfl, rfl, hk1, hb81, hr1, hkc1, hcm1, hb1⟩
  obtain ⟨os1, d1, rfl⟩ := ext_of_below hb1
  clear hb1
  go_wp2_with fail
  refine (sDrawDe_any _ A n c l ((hr.below' (by (repeat' (first | (with_reducible exact Below.refl _ _) | (with_reducible assumption) | (with_reducible refine Below.alloc ?_ ?_ _) | (with_reducible refine below_ext ?_ ?_ _ _) | (with_reducible refine Below.setCell ?_ ?_ _) | (with_reducible refine Below.drew ?_) | (with_reducible refine below_drewN ?_ _))); all_goals (first | omega | (simp; done) | (simp; omega)))).more (Nat.le_refl _) (by first | omega | (simp <;> omega))) hn2 h8).mono ?_
  rintro e w2 ⟨B2, k2, cc2, b2, rfl, rfl, hk2, hb82, hr2, hkc2, hcm2, hb2⟩
  obtain ⟨os2, d2, rfl⟩ := ext_of_below hb2
  clear hb2 HG
  have HD1 := hide (fun (W : World) (A : Option Addr) (c lo hi : Nat) (h : Rd W lo hi 1 A b2.length (b2.map (.int .u8))) (hc : b2.length ≤ c) => iDecap_any W A b2.length c lo hi b2 h (by omega) hb82 hc)
  have HD2 := hide (fun (W : World) (A : Option Addr) (c lo hi : Nat) (h : Rd W lo hi 1 A b2.length (b2.map (.int .u8))) (hc : b2.length ≤ c) => sDecap_any W A b2.length c lo hi b2 h (by omega) hb82 hc)
  have hcd : (dcL b2).2.2 = true → capL (dcL b2).1 (dcL b2).2.1 = b2 := cap_dc hb82
  have hdl := dc_len b2
  generalize dcL b2 = D at HD1 HD2 hcd hdl
  obtain ⟨i, d, ok⟩ := D
  simp only at HD1 HD2 hcd hdl
  have HE := hide (fun (W : World) (A : Option Addr) (c lo hi : Nat) (h : Rd W lo hi 1 A bs.length (bs.map (.int .u8))) => iEncap_any W id A bs.length c lo hi bs h (by omega))
  have hel := cap_len id bs
  have heb := cap_byte (id := id) hb81
  have HDE := hide (fun (W : World) (A : Option Addr) (c lo hi : Nat) (h : Rd W lo hi 1 A (capL id bs).length ((capL id bs).map (.int .u8))) (hc : (capL id bs).length ≤ c) => iDecap_any W A (capL id bs).length c lo hi (capL id bs) h (by omega) heb hc)
  cases hin : inR id 1 20
  · rw [capL_no hin] at HE HDE
    generalize dcL ([] : List Int) = D3 at HDE
    obtain ⟨i3, d3, ok3⟩ := D3
    simp only [List.length_nil, List.map_nil] at HE HDE
    clear hel heb
    rcases inR_false hin with hlow | hlow
    all_goals
      have hlow2 := hlow
      clear hin
      cases ok
      · skip
        clear hcd
        go_wp2_with fail; refine (unhide HD1 _ _ _ _ _ (hr2.below' (by (repeat' (first | (with_reducible exact Below.refl _ _) | (with_reducible assumption) | (with_reducible refine Below.alloc ?_ ?_ _) | (with_reducible refine below_ext ?_ ?_ _ _) | (with_reducible refine Below.setCell ?_ ?_ _) | (with_reducible refine Below.drew ?_) | (with_reducible refine below_drewN ?_ _))); all_goals (first | omega | (simp; done) | (simp; omega)))) hkc2).mono ?_; rintro e w3 ⟨A3, c3, rfl, hc3, hm3, ho3, hb3⟩; obtain ⟨os3, d3, rfl⟩ := ext_of_below hb3; clear hb3; try simp only [ext_drew] at ho3; try simp only [ext_drewN] at ho3
        go_wp2_with fail; refine (unhide HD2 _ _ _ _ _ (hr2.below' (by (repeat' (first | (with_reducible exact Below.refl _ _) | (with_reducible assumption) | (with_reducible refine Below.alloc ?_ ?_ _) | (with_reducible refine below_ext ?_ ?_ _ _) | (with_reducible refine Below.setCell ?_ ?_ _) | (with_reducible refine Below.drew ?_) | (with_reducible refine below_drewN ?_ _))); all_goals (first | omega | (simp; done) | (simp; omega)))) hkc2).mono ?_; rintro e w4 ⟨A4, c4, rfl, hc4, hm4, ho4, hb4⟩; obtain ⟨os4, d4, rfl⟩ := ext_of_below hb4; clear hb4; try simp only [ext_drew] at ho4; try simp only [ext_drewN] at ho4
        go_wp2_with fail; refine (unhide HE _ _ _ _ _ (hr1.below' (by (repeat' (first | (with_reducible exact Below.refl _ _) | (with_reducible assumption) | (with_reducible refine Below.alloc ?_ ?_ _) | (with_reducible refine below_ext ?_ ?_ _ _) | (with_reducible refine Below.setCell ?_ ?_ _) | (with_reducible refine Below.drew ?_) | (with_reducible refine below_drewN ?_ _))); all_goals (first | omega | (simp; done) | (simp; omega))))).mono ?_; rintro e w5 ⟨A5, c5, rfl, hc5, hm5, ho5, hb5⟩; obtain ⟨os5, d5, rfl⟩ := ext_of_below hb5; clear hb5; try simp only [ext_drew] at ho5; try simp only [ext_drewN] at ho5
        go_wp2_with fail; refine (unhide HDE _ _ _ _ _ (ho5.rd.below' (by (repeat' (first | (with_reducible exact Below.refl _ _) | (with_reducible assumption) | (with_reducible refine Below.alloc ?_ ?_ _) | (with_reducible refine below_ext ?_ ?_ _ _) | (with_reducible refine Below.setCell ?_ ?_ _) | (with_reducible refine Below.drew ?_) | (with_reducible refine below_drewN ?_ _))); all_goals (first | omega | (simp; done) | (simp; omega)))) hc5).mono ?_; rintro e w6 ⟨A6, c6, rfl, hc6, hm6, ho6, hb6⟩; obtain ⟨os6, d6, rfl⟩ := ext_of_below hb6; clear hb6; try simp only [ext_drew] at ho6; try simp only [ext_drewN] at ho6
        go_wp2_with fail; refine (same_yes _ _ _ _ _ _ _ _ _ _ d (ho3.rd.below' (by (repeat' (first | (with_reducible exact Below.refl _ _) | (with_reducible assumption) | (with_reducible refine Below.alloc ?_ ?_ _) | (with_reducible refine below_ext ?_ ?_ _ _) | (with_reducible refine Below.setCell ?_ ?_ _) | (with_reducible refine Below.drew ?_) | (with_reducible refine below_drewN ?_ _))); all_goals (first | omega | (simp; done) | (simp; omega)))) (ho4.rd.below' (by (repeat' (first | (with_reducible exact Below.refl _ _) | (with_reducible assumption) | (with_reducible refine Below.alloc ?_ ?_ _) | (with_reducible refine below_ext ?_ ?_ _ _) | (with_reducible refine Below.setCell ?_ ?_ _) | (with_reducible refine Below.drew ?_) | (with_reducible refine below_drewN ?_ _))); all_goals (first | omega | (simp; done) | (simp; omega)))) (by omega)).mono ?_; rintro e w7 ⟨rfl, hb7⟩; obtain ⟨os7, d7, rfl⟩ := ext_of_below hb7; clear hb7
        go_wp2_with fail; refine (unhide HE _ _ _ _ _ (hr1.below' (by (repeat' (first | (with_reducible exact Below.refl _ _) | (with_reducible assumption) | (with_reducible refine Below.alloc ?_ ?_ _) | (with_reducible refine below_ext ?_ ?_ _ _) | (with_reducible refine Below.setCell ?_ ?_ _) | (with_reducible refine Below.drew ?_) | (with_reducible refine below_drewN ?_ _))); all_goals (first | omega | (simp; done) | (simp; omega))))).mono ?_; rintro e w10 ⟨A10, c10, rfl, hc10, hm10, ho10, hb10⟩; obtain ⟨os10, d10, rfl⟩ := ext_of_below hb10; clear hb10; try simp only [ext_drew] at ho10; try simp only [ext_drewN] at ho10
        go_wp2_with fail
        go_ret
        exact ⟨rfl, (by (repeat' (first | (with_reducible exact Below.refl _ _) | (with_reducible assumption) | (with_reducible refine Below.alloc ?_ ?_ _) | (with_reducible refine below_ext ?_ ?_ _ _) | (with_reducible refine Below.setCell ?_ ?_ _) | (with_reducible refine Below.drew ?_) | (with_reducible refine below_drewN ?_ _))); all_goals (first | omega | (simp; done) | (simp; omega)))⟩
      · skip
        have HX := hide (fun (W : World) (A : Option Addr) (c lo hi : Nat) (h : Rd W lo hi 1 A d.length (d.map (.int .u8))) => iEncap_any W i A d.length c lo hi d h (by omega))
        rw [hcd rfl] at HX
        clear hcd
        go_wp2_with fail; refine (unhide HD1 _ _ _ _ _ (hr2.below' (by (repeat' (first | (with_reducible exact Below.refl _ _) | (with_reducible assumption) | (with_reducible refine Below.alloc ?_ ?_ _) | (with_reducible refine below_ext ?_ ?_ _ _) | (with_reducible refine Below.setCell ?_ ?_ _) | (with_reducible refine Below.drew ?_) | (with_reducible refine below_drewN ?_ _))); all_goals (first | omega | (simp; done) | (simp; omega)))) hkc2).mono ?_; rintro e w3 ⟨A3, c3, rfl, hc3, hm3, ho3, hb3⟩; obtain ⟨os3, d3, rfl⟩ := ext_of_below hb3; clear hb3; try simp only [ext_drew] at ho3; try simp only [ext_drewN] at ho3
        go_wp2_with fail; refine (unhide HD2 _ _ _ _ _ (hr2.below' (by (repeat' (first | (with_reducible exact Below.refl _ _) | (with_reducible assumption) | (with_reducible refine Below.alloc ?_ ?_ _) | (with_reducible refine below_ext ?_ ?_ _ _) | (with_reducible refine Below.setCell ?_ ?_ _) | (with_reducible refine Below.drew ?_) | (with_reducible refine below_drewN ?_ _))); all_goals (first | omega | (simp; done) | (simp; omega)))) hkc2).mono ?_; rintro e w4 ⟨A4, c4, rfl, hc4, hm4, ho4, hb4⟩; obtain ⟨os4, d4, rfl⟩ := ext_of_below hb4; clear hb4; try simp only [ext_drew] at ho4; try simp only [ext_drewN] at ho4
        go_wp2_with fail; refine (unhide HE _ _ _ _ _ (hr1.below' (by (repeat' (first | (with_reducible exact Below.refl _ _) | (with_reducible assumption) | (with_reducible refine Below.alloc ?_ ?_ _) | (with_reducible refine below_ext ?_ ?_ _ _) | (with_reducible refine Below.setCell ?_ ?_ _) | (with_reducible refine Below.drew ?_) | (with_reducible refine below_drewN ?_ _))); all_goals (first | omega | (simp; done) | (simp; omega))))).mono ?_; rintro e w5 ⟨A5, c5, rfl, hc5, hm5, ho5, hb5⟩; obtain ⟨os5, d5, rfl⟩ := ext_of_below hb5; clear hb5; try simp only [ext_drew] at ho5; try simp only [ext_drewN] at ho5
        go_wp2_with fail; refine (unhide HDE _ _ _ _ _ (ho5.rd.below' (by (repeat' (first | (with_reducible exact Below.refl _ _) | (with_reducible assumption) | (with_reducible refine Below.alloc ?_ ?_ _) | (with_reducible refine below_ext ?_ ?_ _ _) | (with_reducible refine Below.setCell ?_ ?_ _) | (with_reducible refine Below.drew ?_) | (with_reducible refine below_drewN ?_ _))); all_goals (first | omega | (simp; done) | (simp; omega)))) hc5).mono ?_; rintro e w6 ⟨A6, c6, rfl, hc6, hm6, ho6, hb6⟩; obtain ⟨os6, d6, rfl⟩ := ext_of_below hb6; clear hb6; try simp only [ext_drew] at ho6; try simp only [ext_drewN] at ho6
        go_wp2_with fail; refine (same_yes _ _ _ _ _ _ _ _ _ _ d (ho3.rd.below' (by (repeat' (first | (with_reducible exact Below.refl _ _) | (with_reducible assumption) | (with_reducible refine Below.alloc ?_ ?_ _) | (with_reducible refine below_ext ?_ ?_ _ _) | (with_reducible refine Below.setCell ?_ ?_ _) | (with_reducible refine Below.drew ?_) | (with_reducible refine below_drewN ?_ _))); all_goals (first | omega | (simp; done) | (simp; omega)))) (ho4.rd.below' (by (repeat' (first | (with_reducible exact Below.refl _ _) | (with_reducible assumption) | (with_reducible refine Below.alloc ?_ ?_ _) | (with_reducible refine below_ext ?_ ?_ _ _) | (with_reducible refine Below.setCell ?_ ?_ _) | (with_reducible refine Below.drew ?_) | (with_reducible refine below_drewN ?_ _))); all_goals (first | omega | (simp; done) | (simp; omega)))) (by omega)).mono ?_; rintro e w7 ⟨rfl, hb7⟩; obtain ⟨os7, d7, rfl⟩ := ext_of_below hb7; clear hb7
        go_wp2_with fail; refine (unhide HX _ _ _ _ _ (ho3.rd.below' (by (repeat' (first | (with_reducible exact Below.refl _ _) | (with_reducible assumption) | (with_reducible refine Below.alloc ?_ ?_ _) | (with_reducible refine below_ext ?_ ?_ _ _) | (with_reducible refine Below.setCell ?_ ?_ _) | (with_reducible refine Below.drew ?_) | (with_reducible refine below_drewN ?_ _))); all_goals (first | omega | (simp; done) | (simp; omega))))).mono ?_; rintro e w8 ⟨A8, c8, rfl, hc8, hm8, ho8, hb8⟩; obtain ⟨os8, d8, rfl⟩ := ext_of_below hb8; clear hb8; try simp only [ext_drew] at ho8; try simp only [ext_drewN] at ho8
        go_wp2_with fail; refine (same_yes _ _ _ _ _ _ _ _ _ _ b2 (ho8.rd.below' (by (repeat' (first | (with_reducible exact Below.refl _ _) | (with_reducible assumption) | (with_reducible refine Below.alloc ?_ ?_ _) | (with_reducible refine below_ext ?_ ?_ _ _) | (with_reducible refine Below.setCell ?_ ?_ _) | (with_reducible refine Below.drew ?_) | (with_reducible refine below_drewN ?_ _))); all_goals (first | omega | (simp; done) | (simp; omega)))) (hr2.below' (by (repeat' (first | (with_reducible exact Below.refl _ _) | (with_reducible assumption) | (with_reducible refine Below.alloc ?_ ?_ _) | (with_reducible refine below_ext ?_ ?_ _ _) | (with_reducible refine Below.setCell ?_ ?_ _) | (with_reducible refine Below.drew ?_) | (with_reducible refine below_drewN ?_ _))); all_goals (first | omega | (simp; done) | (simp; omega)))) (by omega)).mono ?_; rintro e w9 ⟨rfl, hb9⟩; obtain ⟨os9, d9, rfl⟩ := ext_of_below hb9; clear hb9
        go_wp2_with fail; refine (unhide HE _ _ _ _ _ (hr1.below' (by (repeat' (first | (with_reducible exact Below.refl _ _) | (with_reducible assumption) | (with_reducible refine Below.alloc ?_ ?_ _) | (with_reducible refine below_ext ?_ ?_ _ _) | (with_reducible refine Below.setCell ?_ ?_ _) | (with_reducible refine Below.drew ?_) | (with_reducible refine below_drewN ?_ _))); all_goals (first | omega | (simp; done) | (simp; omega))))).mono ?_; rintro e w10 ⟨A10, c10, rfl, hc10, hm10, ho10, hb10⟩; obtain ⟨os10, d10, rfl⟩ := ext_of_below hb10; clear hb10; try simp only [ext_drew] at ho10; try simp only [ext_drewN] at ho10
        go_wp2_with fail
        go_ret
        exact ⟨rfl, (by (repeat' (first | (with_reducible exact Below.refl _ _) | (with_reducible assumption) | (with_reducible refine Below.alloc ?_ ?_ _) | (with_reducible refine below_ext ?_ ?_ _ _) | (with_reducible refine Below.setCell ?_ ?_ _) | (with_reducible refine Below.drew ?_) | (with_reducible refine below_drewN ?_ _))); all_goals (first | omega | (simp; done) | (simp; omega)))⟩
  · have hdc := dc_cap (l := bs) hin
    have hrange := inR_true hin
    have hl1 : ¬ id < 1 := by omega
    have hl2 : ¬ 20 < id := by omega
    rw [hdc] at HDE
    generalize capL id bs = eb at HE HDE hel
    simp only at HDE
    clear hin hdc heb hrange
    cases ok
    · skip
      clear hcd
      go_wp2_with fail; refine (unhide HD1 _ _ _ _ _ (hr2.below' (by (repeat' (first | (with_reducible exact Below.refl _ _) | (with_reducible assumption) | (with_reducible refine Below.alloc ?_ ?_ _) | (with_reducible refine below_ext ?_ ?_ _ _) | (with_reducible refine Below.setCell ?_ ?_ _) | (with_reducible refine Below.drew ?_) | (with_reducible refine below_drewN ?_ _))); all_goals (first | omega | (simp; done) | (simp; omega)))) hkc2).mono ?_; rintro e w3 ⟨A3, c3, rfl, hc3, hm3, ho3, hb3⟩; obtain ⟨os3, d3, rfl⟩ := ext_of_below hb3; clear hb3; try simp only [ext_drew] at ho3; try simp only [ext_drewN] at ho3
      go_wp2_with fail; refine (unhide HD2 _ _ _ _ _ (hr2.below' (by (repeat' (first | (with_reducible exact Below.refl _ _) | (with_reducible assumption) | (with_reducible refine Below.alloc ?_ ?_ _) | (with_reducible refine below_ext ?_ ?_ _ _) | (with_reducible refine Below.setCell ?_ ?_ _) | (with_reducible refine Below.drew ?_) | (with_reducible refine below_drewN ?_ _))); all_goals (first | omega | (simp; done) | (simp; omega)))) hkc2).mono ?_; rintro e w4 ⟨A4, c4, rfl, hc4, hm4, ho4, hb4⟩; obtain ⟨os4, d4, rfl⟩ := ext_of_below hb4; clear hb4; try simp only [ext_drew] at ho4; try simp only [ext_drewN] at ho4
      go_wp2_with fail; refine (unhide HE _ _ _ _ _ (hr1.below' (by (repeat' (first | (with_reducible exact Below.refl _ _) | (with_reducible assumption) | (with_reducible refine Below.alloc ?_ ?_ _) | (with_reducible refine below_ext ?_ ?_ _ _) | (with_reducible refine Below.setCell ?_ ?_ _) | (with_reducible refine Below.drew ?_) | (with_reducible refine below_drewN ?_ _))); all_goals (first | omega | (simp; done) | (simp; omega))))).mono ?_; rintro e w5 ⟨A5, c5, rfl, hc5, hm5, ho5, hb5⟩; obtain ⟨os5, d5, rfl⟩ := ext_of_below hb5; clear hb5; try simp only [ext_drew] at ho5; try simp only [ext_drewN] at ho5
      go_wp2_with fail; refine (unhide HDE _ _ _ _ _ (ho5.rd.below' (by (repeat' (first | (with_reducible exact Below.refl _ _) | (with_reducible assumption) | (with_reducible refine Below.alloc ?_ ?_ _) | (with_reducible refine below_ext ?_ ?_ _ _) | (with_reducible refine Below.setCell ?_ ?_ _) | (with_reducible refine Below.drew ?_) | (with_reducible refine below_drewN ?_ _))); all_goals (first | omega | (simp; done) | (simp; omega)))) hc5).mono ?_; rintro e w6 ⟨A6, c6, rfl, hc6, hm6, ho6, hb6⟩; obtain ⟨os6, d6, rfl⟩ := ext_of_below hb6; clear hb6; try simp only [ext_drew] at ho6; try simp only [ext_drewN] at ho6
      go_wp2_with fail; refine (same_yes _ _ _ _ _ _ _ _ _ _ d (ho3.rd.below' (by (repeat' (first | (with_reducible exact Below.refl _ _) | (with_reducible assumption) | (with_reducible refine Below.alloc ?_ ?_ _) | (with_reducible refine below_ext ?_ ?_ _ _) | (with_reducible refine Below.setCell ?_ ?_ _) | (with_reducible refine Below.drew ?_) | (with_reducible refine below_drewN ?_ _))); all_goals (first | omega | (simp; done) | (simp; omega)))) (ho4.rd.below' (by (repeat' (first | (with_reducible exact Below.refl _ _) | (with_reducible assumption) | (with_reducible refine Below.alloc ?_ ?_ _) | (with_reducible refine below_ext ?_ ?_ _ _) | (with_reducible refine Below.setCell ?_ ?_ _) | (with_reducible refine Below.drew ?_) | (with_reducible refine below_drewN ?_ _))); all_goals (first | omega | (simp; done) | (simp; omega)))) (by omega)).mono ?_; rintro e w7 ⟨rfl, hb7⟩; obtain ⟨os7, d7, rfl⟩ := ext_of_below hb7; clear hb7
      go_wp2_with fail; refine (same_yes _ _ _ _ _ _ _ _ _ _ bs (ho6.rd.below' (by (repeat' (first | (with_reducible exact Below.refl _ _) | (with_reducible assumption) | (with_reducible refine Below.alloc ?_ ?_ _) | (with_reducible refine below_ext ?_ ?_ _ _) | (with_reducible refine Below.setCell ?_ ?_ _) | (with_reducible refine Below.drew ?_) | (with_reducible refine below_drewN ?_ _))); all_goals (first | omega | (simp; done) | (simp; omega)))) (hr1.below' (by (repeat' (first | (with_reducible exact Below.refl _ _) | (with_reducible assumption) | (with_reducible refine Below.alloc ?_ ?_ _) | (with_reducible refine below_ext ?_ ?_ _ _) | (with_reducible refine Below.setCell ?_ ?_ _) | (with_reducible refine Below.drew ?_) | (with_reducible refine below_drewN ?_ _))); all_goals (first | omega | (simp; done) | (simp; omega)))) (by omega)).mono ?_; rintro e w11 ⟨rfl, hb11⟩; obtain ⟨os11, d11, rfl⟩ := ext_of_below hb11; clear hb11
      go_wp2_with fail
      go_ret
      exact ⟨rfl, (by (repeat' (first | (with_reducible exact Below.refl _ _) | (with_reducible assumption) | (with_reducible refine Below.alloc ?_ ?_ _) | (with_reducible refine below_ext ?_ ?_ _ _) | (with_reducible refine Below.setCell ?_ ?_ _) | (with_reducible refine Below.drew ?_) | (with_reducible refine below_drewN ?_ _))); all_goals (first | omega | (simp; done) | (simp; omega)))⟩
    · skip
      have HX := hide (fun (W : World) (A : Option Addr) (c lo hi : Nat) (h : Rd W lo hi 1 A d.length (d.map (.int .u8))) => iEncap_any W i A d.length c lo hi d h (by omega))
      rw [hcd rfl] at HX
      clear hcd
      go_wp2_with fail; refine (unhide HD1 _ _ _ _ _ (hr2.below' (by (repeat' (first | (with_reducible exact Below.refl _ _) | (with_reducible assumption) | (with_reducible refine Below.alloc ?_ ?_ _) | (with_reducible refine below_ext ?_ ?_ _ _) | (with_reducible refine Below.setCell ?_ ?_ _) | (with_reducible refine Below.drew ?_) | (with_reducible refine below_drewN ?_ _))); all_goals (first | omega | (simp; done) | (simp; omega)))) hkc2).mono ?_; rintro e w3 ⟨A3, c3, rfl, hc3, hm3, ho3, hb3⟩; obtain ⟨os3, d3, rfl⟩ := ext_of_below hb3; clear hb3; try simp only [ext_drew] at ho3; try simp only [ext_drewN] at ho3
      go_wp2_with fail; refine (unhide HD2 _ _ _ _ _ (hr2.below' (by (repeat' (first | (with_reducible exact Below.refl _ _) | (with_reducible assumption) | (with_reducible refine Below.alloc ?_ ?_ _) | (with_reducible refine below_ext ?_ ?_ _ _) | (with_reducible refine Below.setCell ?_ ?_ _) | (with_reducible refine Below.drew ?_) | (with_reducible refine below_drewN ?_ _))); all_goals (first | omega | (simp; done) | (simp; omega)))) hkc2).mono ?_; rintro e w4 ⟨A4, c4, rfl, hc4, hm4, ho4, hb4⟩; obtain ⟨os4, d4, rfl⟩ := ext_of_below hb4; clear hb4; try simp only [ext_drew] at ho4; try simp only [ext_drewN] at ho4
      go_wp2_with fail; refine (unhide HE _ _ _ _ _ (hr1.below' (by (repeat' (first | (with_reducible exact Below.refl _ _) | (with_reducible assumption) | (with_reducible refine Below.alloc ?_ ?_ _) | (with_reducible refine below_ext ?_ ?_ _ _) | (with_reducible refine Below.setCell ?_ ?_ _) | (with_reducible refine Below.drew ?_) | (with_reducible refine below_drewN ?_ _))); all_goals (first | omega | (simp; done) | (simp; omega))))).mono ?_; rintro e w5 ⟨A5, c5, rfl, hc5, hm5, ho5, hb5⟩; obtain ⟨os5, d5, rfl⟩ := ext_of_below hb5; clear hb5; try simp only [ext_drew] at ho5; try simp only [ext_drewN] at ho5
      go_wp2_with fail; refine (unhide HDE _ _ _ _ _ (ho5.rd.below' (by (repeat' (first | (with_reducible exact Below.refl _ _) | (with_reducible assumption) | (with_reducible refine Below.alloc ?_ ?_ _) | (with_reducible refine below_ext ?_ ?_ _ _) | (with_reducible refine Below.setCell ?_ ?_ _) | (with_reducible refine Below.drew ?_) | (with_reducible refine below_drewN ?_ _))); all_goals (first | omega | (simp; done) | (simp; omega)))) hc5).mono ?_; rintro e w6 ⟨A6, c6, rfl, hc6, hm6, ho6, hb6⟩; obtain ⟨os6, d6, rfl⟩ := ext_of_below hb6; clear hb6; try simp only [ext_drew] at ho6; try simp only [ext_drewN] at ho6
      go_wp2_with fail; refine (same_yes _ _ _ _ _ _ _ _ _ _ d (ho3.rd.below' (by (repeat' (first | (with_reducible exact Below.refl _ _) | (with_reducible assumption) | (with_reducible refine Below.alloc ?_ ?_ _) | (with_reducible refine below_ext ?_ ?_ _ _) | (with_reducible refine Below.setCell ?_ ?_ _) | (with_reducible refine Below.drew ?_) | (with_reducible refine below_drewN ?_ _))); all_goals (first | omega | (simp; done) | (simp; omega)))) (ho4.rd.below' (by (repeat' (first | (with_reducible exact Below.refl _ _) | (with_reducible assumption) | (with_reducible refine Below.alloc ?_ ?_ _) | (with_reducible refine below_ext ?_ ?_ _ _) | (with_reducible refine Below.setCell ?_ ?_ _) | (with_reducible refine Below.drew ?_) | (with_reducible refine below_drewN ?_ _))); all_goals (first | omega | (simp; done) | (simp; omega)))) (by omega)).mono ?_; rintro e w7 ⟨rfl, hb7⟩; obtain ⟨os7, d7, rfl⟩ := ext_of_below hb7; clear hb7
      go_wp2_with fail; refine (unhide HX _ _ _ _ _ (ho3.rd.below' (by (repeat' (first | (with_reducible exact Below.refl _ _) | (with_reducible assumption) | (with_reducible refine Below.alloc ?_ ?_ _) | (with_reducible refine below_ext ?_ ?_ _ _) | (with_reducible refine Below.setCell ?_ ?_ _) | (with_reducible refine Below.drew ?_) | (with_reducible refine below_drewN ?_ _))); all_goals (first | omega | (simp; done) | (simp; omega))))).mono ?_; rintro e w8 ⟨A8, c8, rfl, hc8, hm8, ho8, hb8⟩; obtain ⟨os8, d8, rfl⟩ := ext_of_below hb8; clear hb8; try simp only [ext_drew] at ho8; try simp only [ext_drewN] at ho8
      go_wp2_with fail; refine (same_yes _ _ _ _ _ _ _ _ _ _ b2 (ho8.rd.below' (by (repeat' (first | (with_reducible exact Below.refl _ _) | (with_reducible assumption) | (with_reducible refine Below.alloc ?_ ?_ _) | (with_reducible refine below_ext ?_ ?_ _ _) | (with_reducible refine Below.setCell ?_ ?_ _) | (with_reducible refine Below.drew ?_) | (with_reducible refine below_drewN ?_ _))); all_goals (first | omega | (simp; done) | (simp; omega)))) (hr2.below' (by (repeat' (first | (with_reducible exact Below.refl _ _) | (with_reducible assumption) | (with_reducible refine Below.alloc ?_ ?_ _) | (with_reducible refine below_ext ?_ ?_ _ _) | (with_reducible refine Below.setCell ?_ ?_ _) | (with_reducible refine Below.drew ?_) | (with_reducible refine below_drewN ?_ _))); all_goals (first | omega | (simp; done) | (simp; omega)))) (by omega)).mono ?_; rintro e w9 ⟨rfl, hb9⟩; obtain ⟨os9, d9, rfl⟩ := ext_of_below hb9; clear hb9
      go_wp2_with fail; refine (same_yes _ _ _ _ _ _ _ _ _ _ bs (ho6.rd.below' (by (repeat' (first | (with_reducible exact Below.refl _ _) | (with_reducible assumption) | (with_reducible refine Below.alloc ?_ ?_ _) | (with_reducible refine below_ext ?_ ?_ _ _) | (with_reducible refine Below.setCell ?_ ?_ _) | (with_reducible refine Below.drew ?_) | (with_reducible refine below_drewN ?_ _))); all_goals (first | omega | (simp; done) | (simp; omega)))) (hr1.below' (by (repeat' (first | (with_reducible exact Below.refl _ _) | (with_reducible assumption) | (with_reducible refine Below.alloc ?_ ?_ _) | (with_reducible refine below_ext ?_ ?_ _ _) | (with_reducible refine Below.setCell ?_ ?_ _) | (with_reducible refine Below.drew ?_) | (with_reducible refine below_drewN ?_ _))); all_goals (first | omega | (simp; done) | (simp; omega)))) (by omega)).mono ?_; rintro e w11 ⟨rfl, hb11⟩; obtain ⟨os11, d11, rfl⟩ := ext_of_below hb11; clear hb11
      go_wp2_with fail
      go_ret
      exact ⟨rfl, (by (repeat' (first | (with_reducible exact Below.refl _ _) | (with_reducible assumption) | (with_reducible refine Below.alloc ?_ ?_ _) | (with_reducible refine below_ext ?_ ?_ _ _) | (with_reducible refine Below.setCell ?_ ?_ _) | (with_reducible refine Below.drew ?_) | (with_reducible refine below_drewN ?_ _))); all_goals (first | omega | (simp; done) | (simp; omega)))⟩
end Go.Proofs.Ytidfpmkhgogilaa
