/- The law FnSecuredEncoding, walked. -/
import Derived.Test.YtidfpmkhgogilaaMsgD2
namespace Go.Proofs.Ytidfpmkhgogilaa
open Go.RowKit Go.Sep

set_option maxRecDepth 100000 in
theorem sameS_yes (w : World) (x0 x1 x3 : Int) (A B : Option Addr) (n c c2 lo hi lo' hi' : Nat) (l : List Int) (hr : Rd w lo hi 1 A n (l.map (.int .u8))) (hr' : Rd w lo' hi' 1 B n (l.map (.int .u8))) (hn : n ≤ 1048576) :
    Calls Try.prog 35 #[.agg #[.int .i64 x0, .int .i64 x1, .slice A n c, .int .i64 x3], .agg #[.int .i64 x0, .int .i64 x1, .slice B n c2, .int .i64 x3]] w fun e w' => e = .returned (.bool true) ∧ Below w.heap.size w w' := by
  go_enter Try.func35, Try.ntmps35
  go_wp2_with (go_at_call 36; refine (same_yes _ _ _ _ _ _ _ _ _ _ l (hr.below' (by (repeat' (first | (with_reducible exact Below.refl _ _) | (with_reducible assumption) | (with_reducible refine Below.alloc ?_ ?_ _) | (with_reducible refine below_ext ?_ ?_ _ _) | (with_reducible refine Below.setCell ?_ ?_ _) | (with_reducible refine Below.drew ?_) | (with_reducible refine below_drewN ?_ _))); all_goals (first | omega | (simp; done) | (simp; omega)))) (hr'.below' (by (repeat' (first | (with_reducible exact Below.refl _ _) | (with_reducible assumption) | (with_reducible refine Below.alloc ?_ ?_ _) | (with_reducible refine below_ext ?_ ?_ _ _) | (with_reducible refine Below.setCell ?_ ?_ _) | (with_reducible refine Below.drew ?_) | (with_reducible refine below_drewN ?_ _))); all_goals (first | omega | (simp; done) | (simp; omega)))) hn).mono ?_; rintro e w1 ⟨rfl, hb1⟩; obtain ⟨os1, d1, rfl⟩ := ext_of_below hb1; clear hb1)
  go_ret
  exact ⟨rfl, (by (repeat' (first | (with_reducible exact Below.refl _ _) | (with_reducible assumption) | (with_reducible refine Below.alloc ?_ ?_ _) | (with_reducible refine below_ext ?_ ?_ _ _) | (with_reducible refine Below.setCell ?_ ?_ _) | (with_reducible refine Below.drew ?_) | (with_reducible refine below_drewN ?_ _))); all_goals (first | omega | (simp; done) | (simp; omega)))⟩
set_option maxHeartbeats 4000000 in
set_option maxRecDepth 100000 in
theorem fnSecuredEncoding.walk (A : Option Addr) (n c : Nat) (l : List Int) (w : World) (_hl : l.length = n) (hr : Rd w 0 w.heap.size 1 A n (l.map (.int .u8))) (hw : ∀ x ∈ l, (Lit.int .u8 x).wf = true) (hc : n ≤ c ∧ c ≤ maxLen) :
    Calls Try.prog 7 #[.slice A n c] w fun e w' => e = .returned (.bool true) ∧ Below w.heap.size w w' := by
  have hn : n ≤ 9223372036854775807 := by have := hc.1; have := hc.2; unfold maxLen at this; omega
  have HG := hide (fun W => big_any W A n c hn)
  by_cases hbig : (1048576 : Int) < (n : Int)
  · rw [show decide ((1048576 : Int) < (n : Int)) = true by simpa using hbig] at HG
    clear hbig
    go_enter Try.func7, Try.ntmps7
    go_wp2_with (go_at_call 32; refine (unhide HG _).mono ?_; rintro e w' ⟨rfl, rfl⟩)
    go_ret
    exact ⟨rfl, (by (repeat' (first | (with_reducible exact Below.refl _ _) | (with_reducible assumption) | (with_reducible refine Below.alloc ?_ ?_ _) | (with_reducible refine below_ext ?_ ?_ _ _) | (with_reducible refine Below.setCell ?_ ?_ _) | (with_reducible refine Below.drew ?_) | (with_reducible refine below_drewN ?_ _))); all_goals (first | omega | (simp; done) | (simp; omega)))⟩
  rw [show decide ((1048576 : Int) < (n : Int)) = false by simpa using hbig] at HG
  have hn2 : n ≤ 16777216 := by omega
  have h8 := u8_in hw
  clear hbig
  go_enter Try.func7, Try.ntmps7
  go_wp2_with (go_at_call 32; refine (unhide HG _).mono ?_; rintro e w' ⟨rfl, rfl⟩)
  refine (sDrawES_any _ A n c l hr hn2 h8).mono ?_
  rintro e w1 ⟨p, u, mm, B1, k1, cc1, bs, rfl, rfl, hk1, hb81, hr1, hkc1, hcm1, hb1⟩
  unfold msg
  obtain ⟨os1, d1, rfl⟩ := ext_of_below hb1
  clear hb1
  go_wp2_with fail
  refine (sDrawDS_any _ A n c l ((hr.below' (by (repeat' (first | (with_reducible exact Below.refl _ _) | (with_reducible assumption) | (with_reducible refine Below.alloc ?_ ?_ _) | (with_reducible refine below_ext ?_ ?_ _ _) | (with_reducible refine Below.setCell ?_ ?_ _) | (with_reducible refine Below.drew ?_) | (with_reducible refine below_drewN ?_ _))); all_goals (first | omega | (simp; done) | (simp; omega)))).more (Nat.le_refl _) (by first | omega | (simp <;> omega))) hn2 h8).mono ?_
  rintro e w2 ⟨B2, k2, cc2, b2, rfl, rfl, hk2, hb82, hr2, hkc2, hcm2, hb2⟩
  obtain ⟨os2, d2, rfl⟩ := ext_of_below hb2
  clear hb2 HG hr
  have HE := hide (fun (W : World) (A : Option Addr) (c lo hi : Nat) (h : Rd W lo hi 1 A bs.length (bs.map (.int .u8))) => iEncodeSecured_any W p u mm A bs.length c lo hi bs h (by omega) hb81)
  have HV := hide (fun (W : World) (A : Option Addr) (c : Nat) => sVS_any p u A bs.length c mm W)
  have hel := encS_len p u mm bs
  have heb := encS_byte (d := p) (c := u) (m := mm) hb81
  have HD0 := hide (fun (W : World) (A : Option Addr) (c lo hi : Nat) (h : Rd W lo hi 1 A (encS p u mm bs).length ((encS p u mm bs).map (.int .u8))) (hc : (encS p u mm bs).length ≤ c) (hd : dsO (encS p u mm bs) = none) => iDS_no W A _ c lo hi (encS p u mm bs) h (by omega) heb hc hd)
  have HD1 := hide (fun (W : World) (A : Option Addr) (c lo hi : Nat) (h : Rd W lo hi 1 A (encS p u mm bs).length ((encS p u mm bs).map (.int .u8))) (hc : (encS p u mm bs).length ≤ c) q1 q2 q3 s (hd : dsO (encS p u mm bs) = some (q1, q2, q3, s)) => iDS_yes W A _ c lo hi (encS p u mm bs) h (by omega) heb hc hd)
  have HI0 := hide (fun (W : World) (A : Option Addr) (c lo hi : Nat) (h : Rd W lo hi 1 A b2.length (b2.map (.int .u8))) (hc : b2.length ≤ c) (hd : dsO b2 = none) => iDS_no W A _ c lo hi b2 h (by omega) hb82 hc hd)
  have HI1 := hide (fun (W : World) (A : Option Addr) (c lo hi : Nat) (h : Rd W lo hi 1 A b2.length (b2.map (.int .u8))) (hc : b2.length ≤ c) q1 q2 q3 s (hd : dsO b2 = some (q1, q2, q3, s)) => iDS_yes W A _ c lo hi b2 h (by omega) hb82 hc hd)
  have HS0 := hide (fun (W : World) (A : Option Addr) (c lo hi : Nat) (h : Rd W lo hi 1 A b2.length (b2.map (.int .u8))) (hc : b2.length ≤ c) (hd : dsO b2 = none) => sDS_no W A _ c lo hi b2 h (by omega) hb82 hc hd)
  have HS1 := hide (fun (W : World) (A : Option Addr) (c lo hi : Nat) (h : Rd W lo hi 1 A b2.length (b2.map (.int .u8))) (hc : b2.length ≤ c) q1 q2 q3 s (hd : dsO b2 = some (q1, q2, q3, s)) => sDS_yes W A _ c lo hi b2 h (by omega) hb82 hc hd)
  have HB := hide (fun q1 q2 q3 s (hd : dsO b2 = some (q1, q2, q3, s)) => enc_ds hb82 hd)
  have HP := hide (fun (hv : vS p u bs.length mm = true) => ds_enc hv)
  have HN := hide (fun (hv : vS p u bs.length mm = false) => encS_no (d := p) (c := u) (m := mm) (l := bs) rfl hv)
  cases hv : vS p u bs.length mm
  · cases hd : dsO b2 with
    | none =>
      have hen := HN.out hv
      rw [hv] at HV
      have HDE := hide (fun W A c lo hi h hc => HD0.out W A c lo hi h hc (by rw [hen]; rfl))
      generalize encS p u mm bs = eb at HE HDE hel
      clear hen
      have HI := hide (fun W A c lo hi h hc => HI0.out W A c lo hi h hc hd)
      have HS := hide (fun W A c lo hi h hc => HS0.out W A c lo hi h hc hd)
      clear HD0 HD1 HI0 HI1 HS0 HS1 HB HP HN hv hd heb
      go_wp2_with fail; refine (unhide HE _ _ _ _ _ (hr1.below' (by (repeat' (first | (with_reducible exact Below.refl _ _) | (with_reducible assumption) | (with_reducible refine Below.alloc ?_ ?_ _) | (with_reducible refine below_ext ?_ ?_ _ _) | (with_reducible refine Below.setCell ?_ ?_ _) | (with_reducible refine Below.drew ?_) | (with_reducible refine below_drewN ?_ _))); all_goals (first | omega | (simp; done) | (simp; omega))))).mono ?_; rintro e w3 ⟨A3, c3, rfl, hc3, hm3, ho3, hb3⟩; obtain ⟨os3, d3, rfl⟩ := ext_of_below hb3; clear hb3; try simp only [ext_drew] at ho3; try simp only [ext_drewN] at ho3
      go_wp2_with fail; refine (unhide HDE _ _ _ _ _ (ho3.rd.below' (by (repeat' (first | (with_reducible exact Below.refl _ _) | (with_reducible assumption) | (with_reducible refine Below.alloc ?_ ?_ _) | (with_reducible refine below_ext ?_ ?_ _ _) | (with_reducible refine Below.setCell ?_ ?_ _) | (with_reducible refine Below.drew ?_) | (with_reducible refine below_drewN ?_ _))); all_goals (first | omega | (simp; done) | (simp; omega)))) hc3).mono ?_; rintro e w4 ⟨A4, c4, rfl, hc4, hm4, ho4, hb4⟩; obtain ⟨os4, d4, rfl⟩ := ext_of_below hb4; clear hb4; try simp only [ext_drew] at ho4; try simp only [ext_drewN] at ho4
      go_wp2_with fail; refine (unhide HI _ _ _ _ _ (hr2.below' (by (repeat' (first | (with_reducible exact Below.refl _ _) | (with_reducible assumption) | (with_reducible refine Below.alloc ?_ ?_ _) | (with_reducible refine below_ext ?_ ?_ _ _) | (with_reducible refine Below.setCell ?_ ?_ _) | (with_reducible refine Below.drew ?_) | (with_reducible refine below_drewN ?_ _))); all_goals (first | omega | (simp; done) | (simp; omega)))) hkc2).mono ?_; rintro e w5 ⟨A5, c5, rfl, hc5, hm5, ho5, hb5⟩; obtain ⟨os5, d5, rfl⟩ := ext_of_below hb5; clear hb5; try simp only [ext_drew] at ho5; try simp only [ext_drewN] at ho5
      go_wp2_with fail; refine (unhide HS _ _ _ _ _ (hr2.below' (by (repeat' (first | (with_reducible exact Below.refl _ _) | (with_reducible assumption) | (with_reducible refine Below.alloc ?_ ?_ _) | (with_reducible refine below_ext ?_ ?_ _ _) | (with_reducible refine Below.setCell ?_ ?_ _) | (with_reducible refine Below.drew ?_) | (with_reducible refine below_drewN ?_ _))); all_goals (first | omega | (simp; done) | (simp; omega)))) hkc2).mono ?_; rintro e w6 ⟨A6, c6, rfl, hc6, hm6, ho6, hb6⟩; obtain ⟨os6, d6, rfl⟩ := ext_of_below hb6; clear hb6; try simp only [ext_drew] at ho6; try simp only [ext_drewN] at ho6
      go_wp2_with fail; refine (unhide HV _ _ _).mono ?_; rintro e w7 ⟨rfl, hb7⟩; obtain ⟨os7, d7, rfl⟩ := ext_of_below hb7; clear hb7
      go_wp2_with fail
      go_ret
      exact ⟨rfl, (by (repeat' (first | (with_reducible exact Below.refl _ _) | (with_reducible assumption) | (with_reducible refine Below.alloc ?_ ?_ _) | (with_reducible refine below_ext ?_ ?_ _ _) | (with_reducible refine Below.setCell ?_ ?_ _) | (with_reducible refine Below.drew ?_) | (with_reducible refine below_drewN ?_ _))); all_goals (first | omega | (simp; done) | (simp; omega)))⟩
    | some ve =>
      have hen := HN.out hv
      rw [hv] at HV
      have HDE := hide (fun W A c lo hi h hc => HD0.out W A c lo hi h hc (by rw [hen]; rfl))
      generalize encS p u mm bs = eb at HE HDE hel
      clear hen
      obtain ⟨q1, q2, q3, s⟩ := ve
      obtain ⟨hbq, hsl, hs8⟩ := HB.out q1 q2 q3 s hd
      have HI := hide (fun W A c lo hi h hc => HI1.out W A c lo hi h hc q1 q2 q3 s hd)
      have HS := hide (fun W A c lo hi h hc => HS1.out W A c lo hi h hc q1 q2 q3 s hd)
      have HX := hide (fun (W : World) (A : Option Addr) (c lo hi : Nat) (h : Rd W lo hi 1 A s.length (s.map (.int .u8))) => iEncodeSecured_any W q1 q2 q3 A s.length c lo hi s h (by omega) hs8)
      rw [hbq] at HX
      clear hbq
      clear HD0 HD1 HI0 HI1 HS0 HS1 HB HP HN hv hd heb
      go_wp2_with fail; refine (unhide HE _ _ _ _ _ (hr1.below' (by (repeat' (first | (with_reducible exact Below.refl _ _) | (with_reducible assumption) | (with_reducible refine Below.alloc ?_ ?_ _) | (with_reducible refine below_ext ?_ ?_ _ _) | (with_reducible refine Below.setCell ?_ ?_ _) | (with_reducible refine Below.drew ?_) | (with_reducible refine below_drewN ?_ _))); all_goals (first | omega | (simp; done) | (simp; omega))))).mono ?_; rintro e w3 ⟨A3, c3, rfl, hc3, hm3, ho3, hb3⟩; obtain ⟨os3, d3, rfl⟩ := ext_of_below hb3; clear hb3; try simp only [ext_drew] at ho3; try simp only [ext_drewN] at ho3
      go_wp2_with fail; refine (unhide HDE _ _ _ _ _ (ho3.rd.below' (by (repeat' (first | (with_reducible exact Below.refl _ _) | (with_reducible assumption) | (with_reducible refine Below.alloc ?_ ?_ _) | (with_reducible refine below_ext ?_ ?_ _ _) | (with_reducible refine Below.setCell ?_ ?_ _) | (with_reducible refine Below.drew ?_) | (with_reducible refine below_drewN ?_ _))); all_goals (first | omega | (simp; done) | (simp; omega)))) hc3).mono ?_; rintro e w4 ⟨A4, c4, rfl, hc4, hm4, ho4, hb4⟩; obtain ⟨os4, d4, rfl⟩ := ext_of_below hb4; clear hb4; try simp only [ext_drew] at ho4; try simp only [ext_drewN] at ho4
      go_wp2_with fail; refine (unhide HI _ _ _ _ _ (hr2.below' (by (repeat' (first | (with_reducible exact Below.refl _ _) | (with_reducible assumption) | (with_reducible refine Below.alloc ?_ ?_ _) | (with_reducible refine below_ext ?_ ?_ _ _) | (with_reducible refine Below.setCell ?_ ?_ _) | (with_reducible refine Below.drew ?_) | (with_reducible refine below_drewN ?_ _))); all_goals (first | omega | (simp; done) | (simp; omega)))) hkc2).mono ?_; rintro e w5 ⟨A5, c5, rfl, hc5, hm5, ho5, hb5⟩; obtain ⟨os5, d5, rfl⟩ := ext_of_below hb5; clear hb5; try simp only [ext_drew] at ho5; try simp only [ext_drewN] at ho5
      go_wp2_with fail; refine (unhide HS _ _ _ _ _ (hr2.below' (by (repeat' (first | (with_reducible exact Below.refl _ _) | (with_reducible assumption) | (with_reducible refine Below.alloc ?_ ?_ _) | (with_reducible refine below_ext ?_ ?_ _ _) | (with_reducible refine Below.setCell ?_ ?_ _) | (with_reducible refine Below.drew ?_) | (with_reducible refine below_drewN ?_ _))); all_goals (first | omega | (simp; done) | (simp; omega)))) hkc2).mono ?_; rintro e w6 ⟨A6, c6, rfl, hc6, hm6, ho6, hb6⟩; obtain ⟨os6, d6, rfl⟩ := ext_of_below hb6; clear hb6; try simp only [ext_drew] at ho6; try simp only [ext_drewN] at ho6
      go_wp2_with fail; refine (unhide HV _ _ _).mono ?_; rintro e w7 ⟨rfl, hb7⟩; obtain ⟨os7, d7, rfl⟩ := ext_of_below hb7; clear hb7
      go_wp2_with fail; refine (unhide HX _ _ _ _ _ (ho5.rd.below' (by (repeat' (first | (with_reducible exact Below.refl _ _) | (with_reducible assumption) | (with_reducible refine Below.alloc ?_ ?_ _) | (with_reducible refine below_ext ?_ ?_ _ _) | (with_reducible refine Below.setCell ?_ ?_ _) | (with_reducible refine Below.drew ?_) | (with_reducible refine below_drewN ?_ _))); all_goals (first | omega | (simp; done) | (simp; omega))))).mono ?_; rintro e w8 ⟨A8, c8, rfl, hc8, hm8, ho8, hb8⟩; obtain ⟨os8, d8, rfl⟩ := ext_of_below hb8; clear hb8; try simp only [ext_drew] at ho8; try simp only [ext_drewN] at ho8
      go_wp2_with fail; refine (same_yes _ _ _ _ _ _ _ _ _ _ b2 (ho8.rd.below' (by (repeat' (first | (with_reducible exact Below.refl _ _) | (with_reducible assumption) | (with_reducible refine Below.alloc ?_ ?_ _) | (with_reducible refine below_ext ?_ ?_ _ _) | (with_reducible refine Below.setCell ?_ ?_ _) | (with_reducible refine Below.drew ?_) | (with_reducible refine below_drewN ?_ _))); all_goals (first | omega | (simp; done) | (simp; omega)))) (hr2.below' (by (repeat' (first | (with_reducible exact Below.refl _ _) | (with_reducible assumption) | (with_reducible refine Below.alloc ?_ ?_ _) | (with_reducible refine below_ext ?_ ?_ _ _) | (with_reducible refine Below.setCell ?_ ?_ _) | (with_reducible refine Below.drew ?_) | (with_reducible refine below_drewN ?_ _))); all_goals (first | omega | (simp; done) | (simp; omega)))) (by omega)).mono ?_; rintro e w9 ⟨rfl, hb9⟩; obtain ⟨os9, d9, rfl⟩ := ext_of_below hb9; clear hb9
      go_wp2_with fail
      go_ret
      exact ⟨rfl, (by (repeat' (first | (with_reducible exact Below.refl _ _) | (with_reducible assumption) | (with_reducible refine Below.alloc ?_ ?_ _) | (with_reducible refine below_ext ?_ ?_ _ _) | (with_reducible refine Below.setCell ?_ ?_ _) | (with_reducible refine Below.drew ?_) | (with_reducible refine below_drewN ?_ _))); all_goals (first | omega | (simp; done) | (simp; omega)))⟩
  · cases hd : dsO b2 with
    | none =>
      have hdp := HP.out hv
      rw [hv] at HV
      have HDE := hide (fun W A c lo hi h hc => HD1.out W A c lo hi h hc p u mm bs hdp)
      generalize encS p u mm bs = eb at HE HDE hel
      clear hdp
      have HI := hide (fun W A c lo hi h hc => HI0.out W A c lo hi h hc hd)
      have HS := hide (fun W A c lo hi h hc => HS0.out W A c lo hi h hc hd)
      clear HD0 HD1 HI0 HI1 HS0 HS1 HB HP HN hv hd heb
      go_wp2_with fail; refine (unhide HE _ _ _ _ _ (hr1.below' (by (repeat' (first | (with_reducible exact Below.refl _ _) | (with_reducible assumption) | (with_reducible refine Below.alloc ?_ ?_ _) | (with_reducible refine below_ext ?_ ?_ _ _) | (with_reducible refine Below.setCell ?_ ?_ _) | (with_reducible refine Below.drew ?_) | (with_reducible refine below_drewN ?_ _))); all_goals (first | omega | (simp; done) | (simp; omega))))).mono ?_; rintro e w3 ⟨A3, c3, rfl, hc3, hm3, ho3, hb3⟩; obtain ⟨os3, d3, rfl⟩ := ext_of_below hb3; clear hb3; try simp only [ext_drew] at ho3; try simp only [ext_drewN] at ho3
      go_wp2_with fail; refine (unhide HDE _ _ _ _ _ (ho3.rd.below' (by (repeat' (first | (with_reducible exact Below.refl _ _) | (with_reducible assumption) | (with_reducible refine Below.alloc ?_ ?_ _) | (with_reducible refine below_ext ?_ ?_ _ _) | (with_reducible refine Below.setCell ?_ ?_ _) | (with_reducible refine Below.drew ?_) | (with_reducible refine below_drewN ?_ _))); all_goals (first | omega | (simp; done) | (simp; omega)))) hc3).mono ?_; rintro e w4 ⟨A4, c4, rfl, hc4, hm4, ho4, hb4⟩; obtain ⟨os4, d4, rfl⟩ := ext_of_below hb4; clear hb4; try simp only [ext_drew] at ho4; try simp only [ext_drewN] at ho4
      go_wp2_with fail; refine (unhide HI _ _ _ _ _ (hr2.below' (by (repeat' (first | (with_reducible exact Below.refl _ _) | (with_reducible assumption) | (with_reducible refine Below.alloc ?_ ?_ _) | (with_reducible refine below_ext ?_ ?_ _ _) | (with_reducible refine Below.setCell ?_ ?_ _) | (with_reducible refine Below.drew ?_) | (with_reducible refine below_drewN ?_ _))); all_goals (first | omega | (simp; done) | (simp; omega)))) hkc2).mono ?_; rintro e w5 ⟨A5, c5, rfl, hc5, hm5, ho5, hb5⟩; obtain ⟨os5, d5, rfl⟩ := ext_of_below hb5; clear hb5; try simp only [ext_drew] at ho5; try simp only [ext_drewN] at ho5
      go_wp2_with fail; refine (unhide HS _ _ _ _ _ (hr2.below' (by (repeat' (first | (with_reducible exact Below.refl _ _) | (with_reducible assumption) | (with_reducible refine Below.alloc ?_ ?_ _) | (with_reducible refine below_ext ?_ ?_ _ _) | (with_reducible refine Below.setCell ?_ ?_ _) | (with_reducible refine Below.drew ?_) | (with_reducible refine below_drewN ?_ _))); all_goals (first | omega | (simp; done) | (simp; omega)))) hkc2).mono ?_; rintro e w6 ⟨A6, c6, rfl, hc6, hm6, ho6, hb6⟩; obtain ⟨os6, d6, rfl⟩ := ext_of_below hb6; clear hb6; try simp only [ext_drew] at ho6; try simp only [ext_drewN] at ho6
      go_wp2_with fail; refine (unhide HV _ _ _).mono ?_; rintro e w7 ⟨rfl, hb7⟩; obtain ⟨os7, d7, rfl⟩ := ext_of_below hb7; clear hb7
      go_wp2_with fail; refine (sameS_yes _ _ _ _ _ _ _ _ _ _ _ _ _ bs (ho4.rd.below' (by (repeat' (first | (with_reducible exact Below.refl _ _) | (with_reducible assumption) | (with_reducible refine Below.alloc ?_ ?_ _) | (with_reducible refine below_ext ?_ ?_ _ _) | (with_reducible refine Below.setCell ?_ ?_ _) | (with_reducible refine Below.drew ?_) | (with_reducible refine below_drewN ?_ _))); all_goals (first | omega | (simp; done) | (simp; omega)))) (hr1.below' (by (repeat' (first | (with_reducible exact Below.refl _ _) | (with_reducible assumption) | (with_reducible refine Below.alloc ?_ ?_ _) | (with_reducible refine below_ext ?_ ?_ _ _) | (with_reducible refine Below.setCell ?_ ?_ _) | (with_reducible refine Below.drew ?_) | (with_reducible refine below_drewN ?_ _))); all_goals (first | omega | (simp; done) | (simp; omega)))) (by omega)).mono ?_; rintro e w10 ⟨rfl, hb10⟩; obtain ⟨os10, d10, rfl⟩ := ext_of_below hb10; clear hb10
      go_wp2_with fail
      go_ret
      exact ⟨rfl, (by (repeat' (first | (with_reducible exact Below.refl _ _) | (with_reducible assumption) | (with_reducible refine Below.alloc ?_ ?_ _) | (with_reducible refine below_ext ?_ ?_ _ _) | (with_reducible refine Below.setCell ?_ ?_ _) | (with_reducible refine Below.drew ?_) | (with_reducible refine below_drewN ?_ _))); all_goals (first | omega | (simp; done) | (simp; omega)))⟩
    | some ve =>
      have hdp := HP.out hv
      rw [hv] at HV
      have HDE := hide (fun W A c lo hi h hc => HD1.out W A c lo hi h hc p u mm bs hdp)
      generalize encS p u mm bs = eb at HE HDE hel
      clear hdp
      obtain ⟨q1, q2, q3, s⟩ := ve
      obtain ⟨hbq, hsl, hs8⟩ := HB.out q1 q2 q3 s hd
      have HI := hide (fun W A c lo hi h hc => HI1.out W A c lo hi h hc q1 q2 q3 s hd)
      have HS := hide (fun W A c lo hi h hc => HS1.out W A c lo hi h hc q1 q2 q3 s hd)
      have HX := hide (fun (W : World) (A : Option Addr) (c lo hi : Nat) (h : Rd W lo hi 1 A s.length (s.map (.int .u8))) => iEncodeSecured_any W q1 q2 q3 A s.length c lo hi s h (by omega) hs8)
      rw [hbq] at HX
      clear hbq
      clear HD0 HD1 HI0 HI1 HS0 HS1 HB HP HN hv hd heb
      go_wp2_with fail; refine (unhide HE _ _ _ _ _ (hr1.below' (by (repeat' (first | (with_reducible exact Below.refl _ _) | (with_reducible assumption) | (with_reducible refine Below.alloc ?_ ?_ _) | (with_reducible refine below_ext ?_ ?_ _ _) | (with_reducible refine Below.setCell ?_ ?_ _) | (with_reducible refine Below.drew ?_) | (with_reducible refine below_drewN ?_ _))); all_goals (first | omega | (simp; done) | (simp; omega))))).mono ?_; rintro e w3 ⟨A3, c3, rfl, hc3, hm3, ho3, hb3⟩; obtain ⟨os3, d3, rfl⟩ := ext_of_below hb3; clear hb3; try simp only [ext_drew] at ho3; try simp only [ext_drewN] at ho3
      go_wp2_with fail; refine (unhide HDE _ _ _ _ _ (ho3.rd.below' (by (repeat' (first | (with_reducible exact Below.refl _ _) | (with_reducible assumption) | (with_reducible refine Below.alloc ?_ ?_ _) | (with_reducible refine below_ext ?_ ?_ _ _) | (with_reducible refine Below.setCell ?_ ?_ _) | (with_reducible refine Below.drew ?_) | (with_reducible refine below_drewN ?_ _))); all_goals (first | omega | (simp; done) | (simp; omega)))) hc3).mono ?_; rintro e w4 ⟨A4, c4, rfl, hc4, hm4, ho4, hb4⟩; obtain ⟨os4, d4, rfl⟩ := ext_of_below hb4; clear hb4; try simp only [ext_drew] at ho4; try simp only [ext_drewN] at ho4
      go_wp2_with fail; refine (unhide HI _ _ _ _ _ (hr2.below' (by (repeat' (first | (with_reducible exact Below.refl _ _) | (with_reducible assumption) | (with_reducible refine Below.alloc ?_ ?_ _) | (with_reducible refine below_ext ?_ ?_ _ _) | (with_reducible refine Below.setCell ?_ ?_ _) | (with_reducible refine Below.drew ?_) | (with_reducible refine below_drewN ?_ _))); all_goals (first | omega | (simp; done) | (simp; omega)))) hkc2).mono ?_; rintro e w5 ⟨A5, c5, rfl, hc5, hm5, ho5, hb5⟩; obtain ⟨os5, d5, rfl⟩ := ext_of_below hb5; clear hb5; try simp only [ext_drew] at ho5; try simp only [ext_drewN] at ho5
      go_wp2_with fail; refine (unhide HS _ _ _ _ _ (hr2.below' (by (repeat' (first | (with_reducible exact Below.refl _ _) | (with_reducible assumption) | (with_reducible refine Below.alloc ?_ ?_ _) | (with_reducible refine below_ext ?_ ?_ _ _) | (with_reducible refine Below.setCell ?_ ?_ _) | (with_reducible refine Below.drew ?_) | (with_reducible refine below_drewN ?_ _))); all_goals (first | omega | (simp; done) | (simp; omega)))) hkc2).mono ?_; rintro e w6 ⟨A6, c6, rfl, hc6, hm6, ho6, hb6⟩; obtain ⟨os6, d6, rfl⟩ := ext_of_below hb6; clear hb6; try simp only [ext_drew] at ho6; try simp only [ext_drewN] at ho6
      go_wp2_with fail; refine (unhide HV _ _ _).mono ?_; rintro e w7 ⟨rfl, hb7⟩; obtain ⟨os7, d7, rfl⟩ := ext_of_below hb7; clear hb7
      go_wp2_with fail; refine (sameS_yes _ _ _ _ _ _ _ _ _ _ _ _ _ bs (ho4.rd.below' (by (repeat' (first | (with_reducible exact Below.refl _ _) | (with_reducible assumption) | (with_reducible refine Below.alloc ?_ ?_ _) | (with_reducible refine below_ext ?_ ?_ _ _) | (with_reducible refine Below.setCell ?_ ?_ _) | (with_reducible refine Below.drew ?_) | (with_reducible refine below_drewN ?_ _))); all_goals (first | omega | (simp; done) | (simp; omega)))) (hr1.below' (by (repeat' (first | (with_reducible exact Below.refl _ _) | (with_reducible assumption) | (with_reducible refine Below.alloc ?_ ?_ _) | (with_reducible refine below_ext ?_ ?_ _ _) | (with_reducible refine Below.setCell ?_ ?_ _) | (with_reducible refine Below.drew ?_) | (with_reducible refine below_drewN ?_ _))); all_goals (first | omega | (simp; done) | (simp; omega)))) (by omega)).mono ?_; rintro e w10 ⟨rfl, hb10⟩; obtain ⟨os10, d10, rfl⟩ := ext_of_below hb10; clear hb10
      go_wp2_with fail; refine (unhide HX _ _ _ _ _ (ho5.rd.below' (by (repeat' (first | (with_reducible exact Below.refl _ _) | (with_reducible assumption) | (with_reducible refine Below.alloc ?_ ?_ _) | (with_reducible refine below_ext ?_ ?_ _ _) | (with_reducible refine Below.setCell ?_ ?_ _) | (with_reducible refine Below.drew ?_) | (with_reducible refine below_drewN ?_ _))); all_goals (first | omega | (simp; done) | (simp; omega))))).mono ?_; rintro e w8 ⟨A8, c8, rfl, hc8, hm8, ho8, hb8⟩; obtain ⟨os8, d8, rfl⟩ := ext_of_below hb8; clear hb8; try simp only [ext_drew] at ho8; try simp only [ext_drewN] at ho8
      go_wp2_with fail; refine (same_yes _ _ _ _ _ _ _ _ _ _ b2 (ho8.rd.below' (by (repeat' (first | (with_reducible exact Below.refl _ _) | (with_reducible assumption) | (with_reducible refine Below.alloc ?_ ?_ _) | (with_reducible refine below_ext ?_ ?_ _ _) | (with_reducible refine Below.setCell ?_ ?_ _) | (with_reducible refine Below.drew ?_) | (with_reducible refine below_drewN ?_ _))); all_goals (first | omega | (simp; done) | (simp; omega)))) (hr2.below' (by (repeat' (first | (with_reducible exact Below.refl _ _) | (with_reducible assumption) | (with_reducible refine Below.alloc ?_ ?_ _) | (with_reducible refine below_ext ?_ ?_ _ _) | (with_reducible refine Below.setCell ?_ ?_ _) | (with_reducible refine Below.drew ?_) | (with_reducible refine below_drewN ?_ _))); all_goals (first | omega | (simp; done) | (simp; omega)))) (by omega)).mono ?_; rintro e w9 ⟨rfl, hb9⟩; obtain ⟨os9, d9, rfl⟩ := ext_of_below hb9; clear hb9
      go_wp2_with fail
      go_ret
      exact ⟨rfl, (by (repeat' (first | (with_reducible exact Below.refl _ _) | (with_reducible assumption) | (with_reducible refine Below.alloc ?_ ?_ _) | (with_reducible refine below_ext ?_ ?_ _ _) | (with_reducible refine Below.setCell ?_ ?_ _) | (with_reducible refine Below.drew ?_) | (with_reducible refine below_drewN ?_ _))); all_goals (first | omega | (simp; done) | (simp; omega)))⟩
end Go.Proofs.Ytidfpmkhgogilaa
