/- The law FnPacketEncoding: the draws and the walk. -/
import Derived.Test.YtidfpmkhgogilaaPack
import Derived.Test.YtidfpmkhgogilaaEncLLaw
namespace Go.Proofs.Ytidfpmkhgogilaa
open Go.RowKit Go.Sep

theorem encP_byte {p : Int} {l : List Int} (h8 : ∀ x ∈ l, 0 ≤ x ∧ x ≤ 255) : ∀ x ∈ encP p l, 0 ≤ x ∧ x ≤ 255 := by
  intro x hx
  cases h : vP p l.length
  · rw [encP_no rfl h] at hx; cases hx
  · rw [encP_eq h] at hx
    have h' := vP_true h
    simp only [List.mem_append] at hx
    rcases hx with hx | hx | hx
    · exact uvF_byte 5 p (by omega) (lt128_6' (by omega)) x hx
    · exact uvF_byte 5 _ (by omega) (lt128_6' (by omega)) x hx
    · exact h8 x hx
set_option maxRecDepth 100000 in
theorem sDrawEP_any (w : World) (A : Option Addr) (n c : Nat) (l : List Int) (hr : Rd w 0 w.heap.size 1 A n (l.map (.int .u8))) (hn : n ≤ 16777216) (h8 : ∀ x ∈ l, 0 ≤ x ∧ x ≤ 255) :
    Calls Try.prog 48 #[.slice A n c] w fun e w' => ∃ (p : Int) (A' : Option Addr) (k c' : Nat) (bs : List Int), e = .returned (.agg #[.int .i64 p, .slice A' k c']) ∧ bs.length = k ∧ k ≤ 61 ∧ (∀ x ∈ bs, 0 ≤ x ∧ x ≤ 255) ∧ Rd w' w.heap.size w'.heap.size 1 A' k (bs.map (.int .u8)) ∧ k ≤ c' ∧ c' ≤ maxLen ∧ Below w.heap.size w w' := by
  go_enter Try.func48, Try.ntmps48
  go_wp2_with fail
  refine (sNew_any _ A n c _ _ l (hr.alloc _) hn h8).mono ?_
  rintro e w1 ⟨g, rfl, hg, hC1, hb1⟩
  have hr1 := (hr.alloc (.cells #[.int .i64 0, .slice none 0 0] 45)).below' hb1
  have hg' : w.heap.size + 1 ≤ g := by simpa using hg
  have hs1 := hb1.size
  simp at hs1
  have a0 := ((bcell hb1).1 w.heap.size 0 (by simp)).trans (by go_simp : _ = some (Value.int .i64 0))
  have a1 := ((bcell hb1).1 w.heap.size 1 (by simp)).trans (by go_simp : _ = some (Value.slice none 0 0))
  have f0 := ((bcell hb1).2 w.heap.size 0 (by simp)).trans (by go_simp : _ = false)
  have f1 := ((bcell hb1).2 w.heap.size 1 (by simp)).trans (by go_simp : _ = false)
  have hbw1 : Below w.heap.size w w1 := below_then ((Below.refl _ _).alloc (Nat.le_refl _) _) hb1 (by simp)
  clear hb1
  go_wp2_with fail
  refine (sPack_any _ g A n c _ _ l hC1 hr1 hn h8 (by omega)).mono ?_
  rintro e w2 ⟨p, A', k, c', bs, rfl, hl, hk, h8', hrd, hkc, hcm, hC2, hch2⟩
  have c0 := (hch2.cell (p := ⟨w.heap.size, 0, none⟩) (by simp; omega) (.inl (by simp; omega))).trans a0
  have c1 := (hch2.cell (p := ⟨w.heap.size, 1, none⟩) (by simp; omega) (.inl (by simp; omega))).trans a1
  have d0 := (hch2.frozen (p := ⟨w.heap.size, 0, none⟩) (by simp; omega) (.inl (by simp; omega))).trans f0
  have d1 := (hch2.frozen (p := ⟨w.heap.size, 1, none⟩) (by simp; omega) (.inl (by simp; omega))).trans f1
  have hbw2 : Below w.heap.size w w2 := below_then hbw1 (hch2.below (B := w.heap.size) (by omega) (by omega)) (Nat.le_refl _)
  have HF := hide (show Rd ((w2.setCell ⟨w.heap.size, 0, none⟩ (.int .i64 p)).setCell ⟨w.heap.size, 1, none⟩ (.slice A' k c')) w.heap.size ((w2.setCell ⟨w.heap.size, 0, none⟩ (.int .i64 p)).setCell ⟨w.heap.size, 1, none⟩ (.slice A' k c')).heap.size 1 A' k (bs.map (.int .u8)) ∧ Below w.heap.size w ((w2.setCell ⟨w.heap.size, 0, none⟩ (.int .i64 p)).setCell ⟨w.heap.size, 1, none⟩ (.slice A' k c')) from
    ⟨((hrd.setCell (.inr (by simp; omega)) _).setCell (.inr (by simp; omega)) _).more (by omega) (by simp), (hbw2.setCell (by simp) _).setCell (by simp) _⟩)
  clear hrd hch2 hC2 hbw2 hbw1 a0 a1 f0 f1 hr1 hC1 hr
  go_wp2_with fail
  exact bodyPost_ret (v := .agg #[.int .i64 p, .slice A' k c']) (by simp only [results, Try.results48]; go_simp) rfl ⟨p, A', k, c', bs, rfl, hl, hk, h8', HF.out.1, hkc, hcm, HF.out.2⟩
theorem sDrawDP_any (w : World) (A : Option Addr) (n c : Nat) (l : List Int) (hr : Rd w 0 w.heap.size 1 A n (l.map (.int .u8))) (hn : n ≤ 16777216) (h8 : ∀ x ∈ l, 0 ≤ x ∧ x ≤ 255) :
    Calls Try.prog 49 #[.slice A n c] w fun e w' => ∃ (A' : Option Addr) (k c' : Nat) (bs : List Int), e = .returned (.slice A' k c') ∧ bs.length = k ∧ k ≤ 80 ∧ (∀ x ∈ bs, 0 ≤ x ∧ x ≤ 255) ∧ Rd w' w.heap.size w'.heap.size 1 A' k (bs.map (.int .u8)) ∧ k ≤ c' ∧ c' ≤ maxLen ∧ Below w.heap.size w w' := by
  go_enter Try.func49, Try.ntmps49
  go_wp2_with fail
  refine (sNew_any _ A n c _ _ l hr hn h8).mono ?_
  rintro e w1 ⟨g, rfl, hg, hC1, hb1⟩
  have hr1 := hr.below' hb1
  go_wp2_with fail
  refine (sPack_any _ g A n c _ _ l hC1 hr1 hn h8 hg).mono ?_
  rintro e w2 ⟨p, A', k, c', bs, rfl, hl, hk, hb8, hrd, hkc, hcm, hC2, hch2⟩
  have hr2 := hr1.chg hch2 (.inl hg)
  have hsz1 := hb1.size
  have hsz2 := hch2.size
  go_wp2_with fail
  refine (sEncodePacket_any _ p _ _ _ _ _ bs hrd (by omega) hb8).mono ?_
  rintro e w5 ⟨A5, c5, rfl, hc5, hm5, ho5, hb5⟩
  have hlen := encP_len p bs
  have hbel5 : Below w.heap.size w w5 := below_then (below_then hb1 (hch2.below (B := w.heap.size) hg hb1.size) (Nat.le_refl _)) hb5 (by omega)
  have hsz5 := hb5.size
  go_wp2_with fail
  refine (sBent_any _ g A n c _ _ l _ _ _ _ _ (encP p bs) (hC2.below' hb5) (hr2.below' hb5) hn h8 hg ho5.rd (by omega) (encP_byte hb8)).mono ?_
  rintro e w6 ⟨A6, k6, c6, bs6, rfl, hl6, hk6, hb86, hr6, hkc6, hcm6, hC6, hch6⟩
  have HF := hide (⟨hr6.more (by omega) (Nat.le_refl _), below_then hbel5 (hch6.below (B := w.heap.size) hg hbel5.size) (Nat.le_refl _)⟩ : Rd w6 w.heap.size w6.heap.size 1 A6 k6 (bs6.map (.int .u8)) ∧ Below w.heap.size w w6)
  clear hr6 hch6 hC6 hbel5 hb5 ho5 hr2 hrd hC2 hch2 hr1 hC1 hb1 hr
  go_wp2_with fail
  go_ret
  exact ⟨A6, k6, c6, bs6, rfl, hl6, by omega, hb86, HF.out.1, hkc6, hcm6, HF.out.2⟩
set_option maxHeartbeats 4000000 in
set_option maxRecDepth 100000 in
theorem fnPacketEncoding.walk (A : Option Addr) (n c : Nat) (l : List Int) (w : World) (_hl : l.length = n) (hr : Rd w 0 w.heap.size 1 A n (l.map (.int .u8))) (hw : ∀ x ∈ l, (Lit.int .u8 x).wf = true) (hc : n ≤ c ∧ c ≤ maxLen) :
    Calls Try.prog 11 #[.slice A n c] w fun e w' => e = .returned (.bool true) ∧ Below w.heap.size w w' := by
  have hn : n ≤ 9223372036854775807 := by have := hc.1; have := hc.2; unfold maxLen at this; omega
  have HG := hide (fun W => big_any W A n c hn)
  by_cases hbig : (1048576 : Int) < (n : Int)
  · rw [show decide ((1048576 : Int) < (n : Int)) = true by simpa using hbig] at HG
    clear hbig
    go_enter Try.func11, Try.ntmps11
    go_wp2_with (go_at_call 32; refine (unhide HG _).mono ?_; rintro e w' ⟨rfl, rfl⟩)
    go_ret
    exact ⟨rfl, (by (repeat' (first | (with_reducible exact Below.refl _ _) | (with_reducible assumption) | (with_reducible refine Below.alloc ?_ ?_ _) | (with_reducible refine below_ext ?_ ?_ _ _) | (with_reducible refine Below.setCell ?_ ?_ _) | (with_reducible refine Below.drew ?_) | (with_reducible refine below_drewN ?_ _))); all_goals (first | omega | (simp; done) | (simp; omega)))⟩
  rw [show decide ((1048576 : Int) < (n : Int)) = false by simpa using hbig] at HG
  have hn2 : n ≤ 16777216 := by omega
  have h8 := u8_in hw
  clear hbig
  go_enter Try.func11, Try.ntmps11
  go_wp2_with (go_at_call 32; refine (unhide HG _).mono ?_; rintro e w' ⟨rfl, rfl⟩)
  refine (sDrawEP_any _ A n c l hr hn2 h8).mono ?_
  rintro e w1 ⟨p, B1, k1, cc1, bs, rfl, rfl, hk1, hb81, hr1, hkc1, hcm1, hb1⟩
  obtain ⟨os1, d1, rfl⟩ := ext_of_below hb1
  clear hb1
  go_wp2_with fail
  refine (sDrawDP_any _ A n c l ((hr.below' (by (repeat' (first | (with_reducible exact Below.refl _ _) | (with_reducible assumption) | (with_reducible refine Below.alloc ?_ ?_ _) | (with_reducible refine below_ext ?_ ?_ _ _) | (with_reducible refine Below.setCell ?_ ?_ _) | (with_reducible refine Below.drew ?_) | (with_reducible refine below_drewN ?_ _))); all_goals (first | omega | (simp; done) | (simp; omega)))).more (Nat.le_refl _) (by first | omega | (simp <;> omega))) hn2 h8).mono ?_
  rintro e w2 ⟨B2, k2, cc2, b2, rfl, rfl, hk2, hb82, hr2, hkc2, hcm2, hb2⟩
  obtain ⟨os2, d2, rfl⟩ := ext_of_below hb2
  clear hb2 HG hr
  have HE := hide (fun (W : World) (A : Option Addr) (c lo hi : Nat) (h : Rd W lo hi 1 A bs.length (bs.map (.int .u8))) => iEncodePacket_any W p A bs.length c lo hi bs h (by omega) hb81)
  have HV := hide (fun (W : World) (A : Option Addr) (c lo hi : Nat) (h : Rd W lo hi 1 A bs.length (bs.map (.int .u8))) => sIsValidPacket_any W p A bs.length c lo hi bs h (by omega) hb81)
  have hel := encP_len p bs
  have heb := encP_byte (p := p) hb81
  have HD0 := hide (fun (W : World) (A : Option Addr) (c lo hi : Nat) (h : Rd W lo hi 1 A (encP p bs).length ((encP p bs).map (.int .u8))) (hc : (encP p bs).length ≤ c) (hd : dpO (encP p bs) = none) => iDP_no W A _ c lo hi (encP p bs) h (by omega) heb hc hd)
  have HD1 := hide (fun (W : World) (A : Option Addr) (c lo hi : Nat) (h : Rd W lo hi 1 A (encP p bs).length ((encP p bs).map (.int .u8))) (hc : (encP p bs).length ≤ c) q s (hd : dpO (encP p bs) = some (q, s)) => iDP_yes W A _ c lo hi (encP p bs) h (by omega) heb hc hd)
  have HI0 := hide (fun (W : World) (A : Option Addr) (c lo hi : Nat) (h : Rd W lo hi 1 A b2.length (b2.map (.int .u8))) (hc : b2.length ≤ c) (hd : dpO b2 = none) => iDP_no W A _ c lo hi b2 h (by omega) hb82 hc hd)
  have HI1 := hide (fun (W : World) (A : Option Addr) (c lo hi : Nat) (h : Rd W lo hi 1 A b2.length (b2.map (.int .u8))) (hc : b2.length ≤ c) q s (hd : dpO b2 = some (q, s)) => iDP_yes W A _ c lo hi b2 h (by omega) hb82 hc hd)
  have HS0 := hide (fun (W : World) (A : Option Addr) (c lo hi : Nat) (h : Rd W lo hi 1 A b2.length (b2.map (.int .u8))) (hc : b2.length ≤ c) (hd : dpO b2 = none) => sDP_no W A _ c lo hi b2 h (by omega) hb82 hc hd)
  have HS1 := hide (fun (W : World) (A : Option Addr) (c lo hi : Nat) (h : Rd W lo hi 1 A b2.length (b2.map (.int .u8))) (hc : b2.length ≤ c) q s (hd : dpO b2 = some (q, s)) => sDP_yes W A _ c lo hi b2 h (by omega) hb82 hc hd)
  have HB := hide (fun q s (hd : dpO b2 = some (q, s)) => enc_dp hb82 hd)
  have HP := hide (fun (hv : vP p bs.length = true) => dp_enc hv)
  have HN := hide (fun (hv : vP p bs.length = false) => encP_no (p := p) (l := bs) rfl hv)
  cases hv : vP p bs.length
  · cases hd : dpO b2 with
    | none =>
      have hen := HN.out hv
      rw [hv] at HV
      have HDE := hide (fun W A c lo hi h hc => HD0.out W A c lo hi h hc (by rw [hen]; rfl))
      generalize encP p bs = eb at HE HDE hel
      clear hen
      have HI := hide (fun W A c lo hi h hc => HI0.out W A c lo hi h hc hd)
      have HS := hide (fun W A c lo hi h hc => HS0.out W A c lo hi h hc hd)
      clear HD0 HD1 HI0 HI1 HS0 HS1 HB HP HN hv hd heb
      go_wp2_with fail; refine (unhide HE _ _ _ _ _ (hr1.below' (by (repeat' (first | (with_reducible exact Below.refl _ _) | (with_reducible assumption) | (with_reducible refine Below.alloc ?_ ?_ _) | (with_reducible refine below_ext ?_ ?_ _ _) | (with_reducible refine Below.setCell ?_ ?_ _) | (with_reducible refine Below.drew ?_) | (with_reducible refine below_drewN ?_ _))); all_goals (first | omega | (simp; done) | (simp; omega))))).mono ?_; rintro e w3 ⟨A3, c3, rfl, hc3, hm3, ho3, hb3⟩; obtain ⟨os3, d3, rfl⟩ := ext_of_below hb3; clear hb3; try simp only [ext_drew] at ho3; try simp only [ext_drewN] at ho3
      go_wp2_with fail; refine (unhide HDE _ _ _ _ _ (ho3.rd.below' (by (repeat' (first | (with_reducible exact Below.refl _ _) | (with_reducible assumption) | (with_reducible refine Below.alloc ?_ ?_ _) | (with_reducible refine below_ext ?_ ?_ _ _) | (with_reducible refine Below.setCell ?_ ?_ _) | (with_reducible refine Below.drew ?_) | (with_reducible refine below_drewN ?_ _))); all_goals (first | omega | (simp; done) | (simp; omega)))) hc3).mono ?_; rintro e w4 ⟨A4, c4, rfl, hc4, hm4, ho4, hb4⟩; obtain ⟨os4, d4, rfl⟩ := ext_of_below hb4; clear hb4; try simp only [ext_drew] at ho4; try simp only [ext_drewN] at ho4
      go_wp2_with fail; refine (unhide HI _ _ _ _ _ (hr2.below' (by (repeat' (first | (with_reducible exact Below.refl _ _) | (with_reducible assumption) | (with_reducible refine Below.alloc ?_ ?_ _) | (with_reducible refine below_ext ?_ ?_ _ _) | (with_reducible refine Below.setCell ?_ ?_ _) | (with_reducible refine Below.drew ?_) | (with_reducible refine below_drewN ?_ _))); all_goals (first | omega | (simp; done) | (simp; omega)))) hkc2).mono ?_; rintro e w5 ⟨A5, c5, rfl, hc5, hm5, ho5, hb5⟩; obtain ⟨os5, d5, rfl⟩ := ext_of_below hb5; clear hb5; try simp only [ext_drew] at ho5; try simp only [ext_drewN] at ho5
      go_wp2_with fail; refine (unhide HS _ _ _ _ _ (hr2.below' (by (repeat' (first | (with_reducible exact Below.refl _ _) | (with_reducible assumption) | (with_reducible refine Below.alloc ?_ ?_ _) | (with_reducible refine below_ext ?_ ?_ _ _) | (with_reducible refine Below.setCell ?_ ?_ _) | (with_reducible refine Below.drew ?_) | (with_reducible refine below_drewN ?_ _))); all_goals (first | omega | (simp; done) | (simp; omega)))) hkc2).mono ?_; rintro e w6 ⟨A6, c6, rfl, hc6, hm6, ho6, hb6⟩; obtain ⟨os6, d6, rfl⟩ := ext_of_below hb6; clear hb6; try simp only [ext_drew] at ho6; try simp only [ext_drewN] at ho6
      go_wp2_with fail; refine (unhide HV _ _ _ _ _ (hr1.below' (by (repeat' (first | (with_reducible exact Below.refl _ _) | (with_reducible assumption) | (with_reducible refine Below.alloc ?_ ?_ _) | (with_reducible refine below_ext ?_ ?_ _ _) | (with_reducible refine Below.setCell ?_ ?_ _) | (with_reducible refine Below.drew ?_) | (with_reducible refine below_drewN ?_ _))); all_goals (first | omega | (simp; done) | (simp; omega))))).mono ?_; rintro e w7 ⟨rfl, hb7⟩; obtain ⟨os7, d7, rfl⟩ := ext_of_below hb7; clear hb7
      go_wp2_with fail
      go_ret
      exact ⟨rfl, (by (repeat' (first | (with_reducible exact Below.refl _ _) | (with_reducible assumption) | (with_reducible refine Below.alloc ?_ ?_ _) | (with_reducible refine below_ext ?_ ?_ _ _) | (with_reducible refine Below.setCell ?_ ?_ _) | (with_reducible refine Below.drew ?_) | (with_reducible refine below_drewN ?_ _))); all_goals (first | omega | (simp; done) | (simp; omega)))⟩
    | some ve =>
      have hen := HN.out hv
      rw [hv] at HV
      have HDE := hide (fun W A c lo hi h hc => HD0.out W A c lo hi h hc (by rw [hen]; rfl))
      generalize encP p bs = eb at HE HDE hel
      clear hen
      obtain ⟨q, s⟩ := ve
      have hbq := HB.out q s hd
      obtain ⟨e0, v0, e20, _, _, _, _, hs0⟩ := dpO_yes hd
      have hs8 : ∀ x ∈ s, 0 ≤ x ∧ x ≤ 255 := fun x hx => hb82 x (List.mem_of_mem_drop (List.mem_of_mem_take (by rw [hs0]; exact hx)))
      have hsl : s.length ≤ 80 := by rw [← hs0]; simp; omega
      have HI := hide (fun W A c lo hi h hc => HI1.out W A c lo hi h hc q s hd)
      have HS := hide (fun W A c lo hi h hc => HS1.out W A c lo hi h hc q s hd)
      have HX := hide (fun (W : World) (A : Option Addr) (c lo hi : Nat) (h : Rd W lo hi 1 A s.length (s.map (.int .u8))) => iEncodePacket_any W q A s.length c lo hi s h (by omega) hs8)
      rw [hbq] at HX
      clear hbq hs0
      clear HD0 HD1 HI0 HI1 HS0 HS1 HB HP HN hv hd heb
      go_wp2_with fail; refine (unhide HE _ _ _ _ _ (hr1.below' (by (repeat' (first | (with_reducible exact Below.refl _ _) | (with_reducible assumption) | (with_reducible refine Below.alloc ?_ ?_ _) | (with_reducible refine below_ext ?_ ?_ _ _) | (with_reducible refine Below.setCell ?_ ?_ _) | (with_reducible refine Below.drew ?_) | (with_reducible refine below_drewN ?_ _))); all_goals (first | omega | (simp; done) | (simp; omega))))).mono ?_; rintro e w3 ⟨A3, c3, rfl, hc3, hm3, ho3, hb3⟩; obtain ⟨os3, d3, rfl⟩ := ext_of_below hb3; clear hb3; try simp only [ext_drew] at ho3; try simp only [ext_drewN] at ho3
      go_wp2_with fail; refine (unhide HDE _ _ _ _ _ (ho3.rd.below' (by (repeat' (first | (with_reducible exact Below.refl _ _) | (with_reducible assumption) | (with_reducible refine Below.alloc ?_ ?_ _) | (with_reducible refine below_ext ?_ ?_ _ _) | (with_reducible refine Below.setCell ?_ ?_ _) | (with_reducible refine Below.drew ?_) | (with_reducible refine below_drewN ?_ _))); all_goals (first | omega | (simp; done) | (simp; omega)))) hc3).mono ?_; rintro e w4 ⟨A4, c4, rfl, hc4, hm4, ho4, hb4⟩; obtain ⟨os4, d4, rfl⟩ := ext_of_below hb4; clear hb4; try simp only [ext_drew] at ho4; try simp only [ext_drewN] at ho4
      go_wp2_with fail; refine (unhide HI _ _ _ _ _ (hr2.below' (by (repeat' (first | (with_reducible exact Below.refl _ _) | (with_reducible assumption) | (with_reducible refine Below.alloc ?_ ?_ _) | (with_reducible refine below_ext ?_ ?_ _ _) | (with_reducible refine Below.setCell ?_ ?_ _) | (with_reducible refine Below.drew ?_) | (with_reducible refine below_drewN ?_ _))); all_goals (first | omega | (simp; done) | (simp; omega)))) hkc2).mono ?_; rintro e w5 ⟨A5, c5, rfl, hc5, hm5, ho5, hb5⟩; obtain ⟨os5, d5, rfl⟩ := ext_of_below hb5; clear hb5; try simp only [ext_drew] at ho5; try simp only [ext_drewN] at ho5
      go_wp2_with fail; refine (unhide HS _ _ _ _ _ (hr2.below' (by (repeat' (first | (with_reducible exact Below.refl _ _) | (with_reducible assumption) | (with_reducible refine Below.alloc ?_ ?_ _) | (with_reducible refine below_ext ?_ ?_ _ _) | (with_reducible refine Below.setCell ?_ ?_ _) | (with_reducible refine Below.drew ?_) | (with_reducible refine below_drewN ?_ _))); all_goals (first | omega | (simp; done) | (simp; omega)))) hkc2).mono ?_; rintro e w6 ⟨A6, c6, rfl, hc6, hm6, ho6, hb6⟩; obtain ⟨os6, d6, rfl⟩ := ext_of_below hb6; clear hb6; try simp only [ext_drew] at ho6; try simp only [ext_drewN] at ho6
      go_wp2_with fail; refine (unhide HV _ _ _ _ _ (hr1.below' (by (repeat' (first | (with_reducible exact Below.refl _ _) | (with_reducible assumption) | (with_reducible refine Below.alloc ?_ ?_ _) | (with_reducible refine below_ext ?_ ?_ _ _) | (with_reducible refine Below.setCell ?_ ?_ _) | (with_reducible refine Below.drew ?_) | (with_reducible refine below_drewN ?_ _))); all_goals (first | omega | (simp; done) | (simp; omega))))).mono ?_; rintro e w7 ⟨rfl, hb7⟩; obtain ⟨os7, d7, rfl⟩ := ext_of_below hb7; clear hb7
      go_wp2_with fail; refine (unhide HX _ _ _ _ _ (ho5.rd.below' (by (repeat' (first | (with_reducible exact Below.refl _ _) | (with_reducible assumption) | (with_reducible refine Below.alloc ?_ ?_ _) | (with_reducible refine below_ext ?_ ?_ _ _) | (with_reducible refine Below.setCell ?_ ?_ _) | (with_reducible refine Below.drew ?_) | (with_reducible refine below_drewN ?_ _))); all_goals (first | omega | (simp; done) | (simp; omega))))).mono ?_; rintro e w8 ⟨A8, c8, rfl, hc8, hm8, ho8, hb8⟩; obtain ⟨os8, d8, rfl⟩ := ext_of_below hb8; clear hb8; try simp only [ext_drew] at ho8; try simp only [ext_drewN] at ho8
      go_wp2_with fail; refine (same_yes _ _ _ _ _ _ _ _ _ _ b2 (ho8.rd.below' (by (repeat' (first | (with_reducible exact Below.refl _ _) | (with_reducible assumption) | (with_reducible refine Below.alloc ?_ ?_ _) | (with_reducible refine below_ext ?_ ?_ _ _) | (with_reducible refine Below.setCell ?_ ?_ _) | (with_reducible refine Below.drew ?_) | (with_reducible refine below_drewN ?_ _))); all_goals (first | omega | (simp; done) | (simp; omega)))) (hr2.below' (by (repeat' (first | (with_reducible exact Below.refl _ _) | (with_reducible assumption) | (with_reducible refine Below.alloc ?_ ?_ _) | (with_reducible refine below_ext ?_ ?_ _ _) | (with_reducible refine Below.setCell ?_ ?_ _) | (with_reducible refine Below.drew ?_) | (with_reducible refine below_drewN ?_ _))); all_goals (first | omega | (simp; done) | (simp; omega)))) (by omega)).mono ?_; rintro e w9 ⟨rfl, hb9⟩; obtain ⟨os9, d9, rfl⟩ := ext_of_below hb9; clear hb9
      go_wp2_with fail
      go_ret
      exact ⟨rfl, (by (repeat' (first | (with_reducible exact Below.refl _ _) | (with_reducible assumption) | (with_reducible refine Below.alloc ?_ ?_ _) | (with_reducible refine below_ext ?_ ?_ _ _) | (with_reducible refine Below.setCell ?_ ?_ _) | (with_reducible refine Below.drew ?_) | (with_reducible refine below_drewN ?_ _))); all_goals (first | omega | (simp; done) | (simp; omega)))⟩
  · cases hd : dpO b2 with
    | none =>
      have hdp := HP.out hv
      rw [hv] at HV
      have HDE := hide (fun W A c lo hi h hc => HD1.out W A c lo hi h hc p bs hdp)
      generalize encP p bs = eb at HE HDE hel
      clear hdp
      have HI := hide (fun W A c lo hi h hc => HI0.out W A c lo hi h hc hd)
      have HS := hide (fun W A c lo hi h hc => HS0.out W A c lo hi h hc hd)
      clear HD0 HD1 HI0 HI1 HS0 HS1 HB HP HN hv hd heb
      go_wp2_with fail; refine (unhide HE _ _ _ _ _ (hr1.below' (by (repeat' (first | (with_reducible exact Below.refl _ _) | (with_reducible assumption) | (with_reducible refine Below.alloc ?_ ?_ _) | (with_reducible refine below_ext ?_ ?_ _ _) | (with_reducible refine Below.setCell ?_ ?_ _) | (with_reducible refine Below.drew ?_) | (with_reducible refine below_drewN ?_ _))); all_goals (first | omega | (simp; done) | (simp; omega))))).mono ?_; rintro e w3 ⟨A3, c3, rfl, hc3, hm3, ho3, hb3⟩; obtain ⟨os3, d3, rfl⟩ := ext_of_below hb3; clear hb3; try simp only [ext_drew] at ho3; try simp only [ext_drewN] at ho3
      go_wp2_with fail; refine (unhide HDE _ _ _ _ _ (ho3.rd.below' (by (repeat' (first | (with_reducible exact Below.refl _ _) | (with_reducible assumption) | (with_reducible refine Below.alloc ?_ ?_ _) | (with_reducible refine below_ext ?_ ?_ _ _) | (with_reducible refine Below.setCell ?_ ?_ _) | (with_reducible refine Below.drew ?_) | (with_reducible refine below_drewN ?_ _))); all_goals (first | omega | (simp; done) | (simp; omega)))) hc3).mono ?_; rintro e w4 ⟨A4, c4, rfl, hc4, hm4, ho4, hb4⟩; obtain ⟨os4, d4, rfl⟩ := ext_of_below hb4; clear hb4; try simp only [ext_drew] at ho4; try simp only [ext_drewN] at ho4
      go_wp2_with fail; refine (unhide HI _ _ _ _ _ (hr2.below' (by (repeat' (first | (with_reducible exact Below.refl _ _) | (with_reducible assumption) | (with_reducible refine Below.alloc ?_ ?_ _) | (with_reducible refine below_ext ?_ ?_ _ _) | (with_reducible refine Below.setCell ?_ ?_ _) | (with_reducible refine Below.drew ?_) | (with_reducible refine below_drewN ?_ _))); all_goals (first | omega | (simp; done) | (simp; omega)))) hkc2).mono ?_; rintro e w5 ⟨A5, c5, rfl, hc5, hm5, ho5, hb5⟩; obtain ⟨os5, d5, rfl⟩ := ext_of_below hb5; clear hb5; try simp only [ext_drew] at ho5; try simp only [ext_drewN] at ho5
      go_wp2_with fail; refine (unhide HS _ _ _ _ _ (hr2.below' (by (repeat' (first | (with_reducible exact Below.refl _ _) | (with_reducible assumption) | (with_reducible refine Below.alloc ?_ ?_ _) | (with_reducible refine below_ext ?_ ?_ _ _) | (with_reducible refine Below.setCell ?_ ?_ _) | (with_reducible refine Below.drew ?_) | (with_reducible refine below_drewN ?_ _))); all_goals (first | omega | (simp; done) | (simp; omega)))) hkc2).mono ?_; rintro e w6 ⟨A6, c6, rfl, hc6, hm6, ho6, hb6⟩; obtain ⟨os6, d6, rfl⟩ := ext_of_below hb6; clear hb6; try simp only [ext_drew] at ho6; try simp only [ext_drewN] at ho6
      go_wp2_with fail; refine (unhide HV _ _ _ _ _ (hr1.below' (by (repeat' (first | (with_reducible exact Below.refl _ _) | (with_reducible assumption) | (with_reducible refine Below.alloc ?_ ?_ _) | (with_reducible refine below_ext ?_ ?_ _ _) | (with_reducible refine Below.setCell ?_ ?_ _) | (with_reducible refine Below.drew ?_) | (with_reducible refine below_drewN ?_ _))); all_goals (first | omega | (simp; done) | (simp; omega))))).mono ?_; rintro e w7 ⟨rfl, hb7⟩; obtain ⟨os7, d7, rfl⟩ := ext_of_below hb7; clear hb7
      go_wp2_with fail; refine (same_yes _ _ _ _ _ _ _ _ _ _ bs (ho4.rd.below' (by (repeat' (first | (with_reducible exact Below.refl _ _) | (with_reducible assumption) | (with_reducible refine Below.alloc ?_ ?_ _) | (with_reducible refine below_ext ?_ ?_ _ _) | (with_reducible refine Below.setCell ?_ ?_ _) | (with_reducible refine Below.drew ?_) | (with_reducible refine below_drewN ?_ _))); all_goals (first | omega | (simp; done) | (simp; omega)))) (hr1.below' (by (repeat' (first | (with_reducible exact Below.refl _ _) | (with_reducible assumption) | (with_reducible refine Below.alloc ?_ ?_ _) | (with_reducible refine below_ext ?_ ?_ _ _) | (with_reducible refine Below.setCell ?_ ?_ _) | (with_reducible refine Below.drew ?_) | (with_reducible refine below_drewN ?_ _))); all_goals (first | omega | (simp; done) | (simp; omega)))) (by omega)).mono ?_; rintro e w10 ⟨rfl, hb10⟩; obtain ⟨os10, d10, rfl⟩ := ext_of_below hb10; clear hb10
      go_wp2_with fail
      go_ret
      exact ⟨rfl, (by (repeat' (first | (with_reducible exact Below.refl _ _) | (with_reducible assumption) | (with_reducible refine Below.alloc ?_ ?_ _) | (with_reducible refine below_ext ?_ ?_ _ _) | (with_reducible refine Below.setCell ?_ ?_ _) | (with_reducible refine Below.drew ?_) | (with_reducible refine below_drewN ?_ _))); all_goals (first | omega | (simp; done) | (simp; omega)))⟩
    | some ve =>
      have hdp := HP.out hv
      rw [hv] at HV
      have HDE := hide (fun W A c lo hi h hc => HD1.out W A c lo hi h hc p bs hdp)
      generalize encP p bs = eb at HE HDE hel
      clear hdp
      obtain ⟨q, s⟩ := ve
      have hbq := HB.out q s hd
      obtain ⟨e0, v0, e20, _, _, _, _, hs0⟩ := dpO_yes hd
      have hs8 : ∀ x ∈ s, 0 ≤ x ∧ x ≤ 255 := fun x hx => hb82 x (List.mem_of_mem_drop (List.mem_of_mem_take (by rw [hs0]; exact hx)))
      have hsl : s.length ≤ 80 := by rw [← hs0]; simp; omega
      have HI := hide (fun W A c lo hi h hc => HI1.out W A c lo hi h hc q s hd)
      have HS := hide (fun W A c lo hi h hc => HS1.out W A c lo hi h hc q s hd)
      have HX := hide (fun (W : World) (A : Option Addr) (c lo hi : Nat) (h : Rd W lo hi 1 A s.length (s.map (.int .u8))) => iEncodePacket_any W q A s.length c lo hi s h (by omega) hs8)
      rw [hbq] at HX
      clear hbq hs0
      clear HD0 HD1 HI0 HI1 HS0 HS1 HB HP HN hv hd heb
      go_wp2_with fail; refine (unhide HE _ _ _ _ _ (hr1.below' (by (repeat' (first | (with_reducible exact Below.refl _ _) | (with_reducible assumption) | (with_reducible refine Below.alloc ?_ ?_ _) | (with_reducible refine below_ext ?_ ?_ _ _) | (with_reducible refine Below.setCell ?_ ?_ _) | (with_reducible refine Below.drew ?_) | (with_reducible refine below_drewN ?_ _))); all_goals (first | omega | (simp; done) | (simp; omega))))).mono ?_; rintro e w3 ⟨A3, c3, rfl, hc3, hm3, ho3, hb3⟩; obtain ⟨os3, d3, rfl⟩ := ext_of_below hb3; clear hb3; try simp only [ext_drew] at ho3; try simp only [ext_drewN] at ho3
      go_wp2_with fail; refine (unhide HDE _ _ _ _ _ (ho3.rd.below' (by (repeat' (first | (with_reducible exact Below.refl _ _) | (with_reducible assumption) | (with_reducible refine Below.alloc ?_ ?_ _) | (with_reducible refine below_ext ?_ ?_ _ _) | (with_reducible refine Below.setCell ?_ ?_ _) | (with_reducible refine Below.drew ?_) | (with_reducible refine below_drewN ?_ _))); all_goals (first | omega | (simp; done) | (simp; omega)))) hc3).mono ?_; rintro e w4 ⟨A4, c4, rfl, hc4, hm4, ho4, hb4⟩; obtain ⟨os4, d4, rfl⟩ := ext_of_below hb4; clear hb4; try simp only [ext_drew] at ho4; try simp only [ext_drewN] at ho4
      go_wp2_with fail; refine (unhide HI _ _ _ _ _ (hr2.below' (by (repeat' (first | (with_reducible exact Below.refl _ _) | (with_reducible assumption) | (with_reducible refine Below.alloc ?_ ?_ _) | (with_reducible refine below_ext ?_ ?_ _ _) | (with_reducible refine Below.setCell ?_ ?_ _) | (with_reducible refine Below.drew ?_) | (with_reducible refine below_drewN ?_ _))); all_goals (first | omega | (simp; done) | (simp; omega)))) hkc2).mono ?_; rintro e w5 ⟨A5, c5, rfl, hc5, hm5, ho5, hb5⟩; obtain ⟨os5, d5, rfl⟩ := ext_of_below hb5; clear hb5; try simp only [ext_drew] at ho5; try simp only [ext_drewN] at ho5
      go_wp2_with fail; refine (unhide HS _ _ _ _ _ (hr2.below' (by (repeat' (first | (with_reducible exact Below.refl _ _) | (with_reducible assumption) | (with_reducible refine Below.alloc ?_ ?_ _) | (with_reducible refine below_ext ?_ ?_ _ _) | (with_reducible refine Below.setCell ?_ ?_ _) | (with_reducible refine Below.drew ?_) | (with_reducible refine below_drewN ?_ _))); all_goals (first | omega | (simp; done) | (simp; omega)))) hkc2).mono ?_; rintro e w6 ⟨A6, c6, rfl, hc6, hm6, ho6, hb6⟩; obtain ⟨os6, d6, rfl⟩ := ext_of_below hb6; clear hb6; try simp only [ext_drew] at ho6; try simp only [ext_drewN] at ho6
      go_wp2_with fail; refine (unhide HV _ _ _ _ _ (hr1.below' (by (repeat' (first | (with_reducible exact Below.refl _ _) | (with_reducible assumption) | (with_reducible refine Below.alloc ?_ ?_ _) | (with_reducible refine below_ext ?_ ?_ _ _) | (with_reducible refine Below.setCell ?_ ?_ _) | (with_reducible refine Below.drew ?_) | (with_reducible refine below_drewN ?_ _))); all_goals (first | omega | (simp; done) | (simp; omega))))).mono ?_; rintro e w7 ⟨rfl, hb7⟩; obtain ⟨os7, d7, rfl⟩ := ext_of_below hb7; clear hb7
      go_wp2_with fail; refine (same_yes _ _ _ _ _ _ _ _ _ _ bs (ho4.rd.below' (by (repeat' (first | (with_reducible exact Below.refl _ _) | (with_reducible assumption) | (with_reducible refine Below.alloc ?_ ?_ _) | (with_reducible refine below_ext ?_ ?_ _ _) | (with_reducible refine Below.setCell ?_ ?_ _) | (with_reducible refine Below.drew ?_) | (with_reducible refine below_drewN ?_ _))); all_goals (first | omega | (simp; done) | (simp; omega)))) (hr1.below' (by (repeat' (first | (with_reducible exact Below.refl _ _) | (with_reducible assumption) | (with_reducible refine Below.alloc ?_ ?_ _) | (with_reducible refine below_ext ?_ ?_ _ _) | (with_reducible refine Below.setCell ?_ ?_ _) | (with_reducible refine Below.drew ?_) | (with_reducible refine below_drewN ?_ _))); all_goals (first | omega | (simp; done) | (simp; omega)))) (by omega)).mono ?_; rintro e w10 ⟨rfl, hb10⟩; obtain ⟨os10, d10, rfl⟩ := ext_of_below hb10; clear hb10
      go_wp2_with fail; refine (unhide HX _ _ _ _ _ (ho5.rd.below' (by (repeat' (first | (with_reducible exact Below.refl _ _) | (with_reducible assumption) | (with_reducible refine Below.alloc ?_ ?_ _) | (with_reducible refine below_ext ?_ ?_ _ _) | (with_reducible refine Below.setCell ?_ ?_ _) | (with_reducible refine Below.drew ?_) | (with_reducible refine below_drewN ?_ _))); all_goals (first | omega | (simp; done) | (simp; omega))))).mono ?_; rintro e w8 ⟨A8, c8, rfl, hc8, hm8, ho8, hb8⟩; obtain ⟨os8, d8, rfl⟩ := ext_of_below hb8; clear hb8; try simp only [ext_drew] at ho8; try simp only [ext_drewN] at ho8
      go_wp2_with fail; refine (same_yes _ _ _ _ _ _ _ _ _ _ b2 (ho8.rd.below' (by (repeat' (first | (with_reducible exact Below.refl _ _) | (with_reducible assumption) | (with_reducible refine Below.alloc ?_ ?_ _) | (with_reducible refine below_ext ?_ ?_ _ _) | (with_reducible refine Below.setCell ?_ ?_ _) | (with_reducible refine Below.drew ?_) | (with_reducible refine below_drewN ?_ _))); all_goals (first | omega | (simp; done) | (simp; omega)))) (hr2.below' (by (repeat' (first | (with_reducible exact Below.refl _ _) | (with_reducible assumption) | (with_reducible refine Below.alloc ?_ ?_ _) | (with_reducible refine below_ext ?_ ?_ _ _) | (with_reducible refine Below.setCell ?_ ?_ _) | (with_reducible refine Below.drew ?_) | (with_reducible refine below_drewN ?_ _))); all_goals (first | omega | (simp; done) | (simp; omega)))) (by omega)).mono ?_; rintro e w9 ⟨rfl, hb9⟩; obtain ⟨os9, d9, rfl⟩ := ext_of_below hb9; clear hb9
      go_wp2_with fail
      go_ret
      exact ⟨rfl, (by (repeat' (first | (with_reducible exact Below.refl _ _) | (with_reducible assumption) | (with_reducible refine Below.alloc ?_ ?_ _) | (with_reducible refine below_ext ?_ ?_ _ _) | (with_reducible refine Below.setCell ?_ ?_ _) | (with_reducible refine Below.drew ?_) | (with_reducible refine below_drewN ?_ _))); all_goals (first | omega | (simp; done) | (simp; omega)))⟩
end Go.Proofs.Ytidfpmkhgogilaa
