/- The law FnSecuredMessages: the draw, the plain law, the walk. -/
import Derived.Test.YtbfmdnlfbadokaaSecP
import Derived.Test.YtbfmdnlfbadokaaSec
import Derived.Test.YtbfmdnlfbadokaaProt
import Derived.Test.YtbfmdnlfbadokaaUnp
import Derived.Test.YtbfmdnlfbadokaaDrawB
import Derived.Test.YtbfmdnlfbadokaaNeg
namespace Go.Proofs.Ytbfmdnlfbadokaa
open Go.RowKit Go.Sep

set_option maxRecDepth 100000 in
theorem sDrawPr_any (w : World) (A : Option Addr) (n c : Nat) (l : List Int) (hr : Rd w 0 w.heap.size 1 A n (l.map (.int .u8))) (hn : n ≤ 16777216) (h8 : ∀ x ∈ l, 0 ≤ x ∧ x ≤ 255) :
    Calls Try.prog 60 #[.slice A n c] w fun e w' => ∃ (key d q : Int) (A' : Option Addr) (k c' : Nat) (bs : List Int), e = .returned (.tuple #[.int .i64 key, .int .i64 d, .int .i64 q, .slice A' k c']) ∧ (0 ≤ d ∧ d ≤ 2) ∧ (0 ≤ q ∧ q ≤ 8) ∧ bs.length = k ∧ k ≤ 6 ∧ (∀ x ∈ bs, 0 ≤ x ∧ x ≤ 255) ∧ Rd w' w.heap.size w'.heap.size 1 A' k (bs.map (.int .u8)) ∧ k ≤ c' ∧ c' ≤ maxLen ∧ Below w.heap.size w w' := by
  go_enter Try.func60, Try.ntmps60
  go_wp2_with fail
  refine (sNew_any _ A n c _ _ l hr hn h8).mono ?_
  rintro e w1 ⟨g, rfl, hg, hC1, hb1⟩
  have hr1 := hr.below' hb1
  go_wp2_with fail
  refine (sKey5_any _ g A n c _ _ l hC1 hr1 hn h8 hg).mono ?_
  rintro e w2 ⟨key, rfl, _, hC2, hch2⟩
  have hr2 := hr1.chg hch2 (.inl hg)
  go_wp2_with fail
  refine (sBelow_any _ g A n c _ _ l _ hC2 hr2 hn h8 hg (by omega)).mono ?_
  rintro e w3 ⟨d, rfl, ⟨hd0, hd1⟩, hC3, hch3⟩
  have hd2 := hd1 (by omega)
  have hr3 := hr2.chg hch3 (.inl hg)
  clear hd1
  go_wp2_with fail
  refine (sBelow_any _ g A n c _ _ l _ hC3 hr3 hn h8 hg (by omega)).mono ?_
  rintro e w4 ⟨q, rfl, ⟨hq0, hq1⟩, hC4, hch4⟩
  have hq2 := hq1 (by omega)
  have hr4 := hr3.chg hch4 (.inl hg)
  clear hq1
  go_wp2_with fail
  refine (sBelow_any _ g A n c _ _ l _ hC4 hr4 hn h8 hg (by omega)).mono ?_
  rintro e w5 ⟨m, rfl, ⟨hm0, hm1⟩, hC5, hch5⟩
  have hm2 := hm1 (by omega)
  have hr5 := hr4.chg hch5 (.inl hg)
  clear hm1
  go_wp2_with fail
  refine (sBytes_any _ g A n c _ _ l m hC5 hr5 hn h8 hg (by omega)).mono ?_
  rintro e w6 ⟨A', k, c', bs, rfl, hl, hk, hb8, hown, hkc, hcm, hC6, hch6⟩
  have hchX := hch2.trans (hch3.trans (hch4.trans hch5))
  have hsz := hchX.size
  have hsz1 := hb1.size
  have HF := hide (⟨(hown.rd).more (by omega) (Nat.le_refl _), below_then hb1 ((hchX.trans hch6).below (B := w.heap.size) hg hb1.size) (Nat.le_refl _)⟩ : Rd w6 w.heap.size w6.heap.size 1 A' k (bs.map (.int .u8)) ∧ Below w.heap.size w w6)
  clear hown hch2 hch3 hch4 hch5 hch6 hchX hb1 hC1 hC2 hC3 hC4 hC5 hC6 hr1 hr2 hr3 hr4 hr5 hr
  go_wp2_with fail
  ((try simp only [Exit.inBlock, Exit.then]); refine bodyPost_ret (results_tmp4 rfl _ _ _) rfl ?_)
  exact ⟨key, d, q, A', k, c', bs, rfl, ⟨hd0, by omega⟩, ⟨hq0, by omega⟩, hl, by omega, hb8, HF.out.1, hkc, hcm, HF.out.2⟩
theorem big_any (w : World) (A : Option Addr) (n c : Nat) (_hn : n ≤ 9223372036854775807) :
    Calls Try.prog 23 #[.slice A n c] w fun e w' => e = .returned (.bool (decide ((1048576 : Int) < (n : Int)))) ∧ w = w' := by
  go_enter Try.func23, Try.ntmps23
  go_wp2_with fail
  go_ret
  exact ⟨rfl, rfl⟩
theorem u8_in {l : List Int} (h : ∀ x ∈ l, (Lit.int .u8 x).wf = true) : ∀ x ∈ l, 0 ≤ x ∧ x ≤ 255 := fun x hx => by
  have := h x hx
  have hmin : IntKind.u8.min = 0 := rfl
  have hmax : IntKind.u8.max = 255 := rfl
  simp only [Lit.wf, Bool.and_eq_true, decide_eq_true_eq, hmin, hmax] at this
  exact this
theorem same_yes (w : World) (A B : Option Addr) (n c c' lo hi lo' hi' : Nat) (l : List Int) (hr : Rd w lo hi 1 A n (l.map (.int .u8))) (hr' : Rd w lo' hi' 1 B n (l.map (.int .u8))) (hn : n ≤ 1048576) :
    Calls Try.prog 61 #[.slice A n c, .slice B n c'] w fun e w' => e = .returned (.bool true) ∧ Below w.heap.size w w' := by
  have hlen : l.length = n := by simpa using hr.len
  go_enter Try.func61, Try.ntmps61
  go_wp2_with fail
  go_loopw [5] (fun i wr => ∃ k : Nat, k ≤ n ∧ i = .int .i64 k ∧ ∃ d, wr = w.drewN d) (fun i _ => n - (intOf i).toNat)
  case atStart => exact ⟨0, Nat.zero_le _, rfl, 0, rfl⟩
  case round =>
    obtain ⟨k, hk, rfl, d, rfl⟩ := hrel
    by_cases hlt : k < n
    · obtain ⟨b, o, rfl, _, _, hcell⟩ := hr.at_ (j := k) (by omega)
      obtain ⟨b', o', rfl, _, _, hcell'⟩ := hr'.at_ (j := k) (by omega)
      have hx := hcell k (.int .u8 (l[k]'(by omega))) (by simp [show k < l.length by omega])
      have hx' := hcell' k (.int .u8 (l[k]'(by omega))) (by simp [show k < l.length by omega])
      generalize l[k]'(by omega) = z at hx hx'
      have hlt' : (k : Int) < (n : Int) := by omega
      clear hcell hcell' hr hr'
      go_wp2_with fail
      go_quiet (fail)
      go_wp2_with fail
      go_roundw
      case rel => exact ⟨k + 1, by omega, by go_num, (by first | exact ⟨_, rfl⟩ | exact ⟨_, World.drewN_drewN _ _ _⟩)⟩
      case measure => simp [intOf] <;> omega
    · go_wp2_with fail
      go_ret
      exact ⟨rfl, (by (repeat' (first | (with_reducible exact Below.refl _ _) | (with_reducible assumption) | (with_reducible refine Below.alloc ?_ ?_ _) | (with_reducible refine below_ext ?_ ?_ _ _) | (with_reducible refine Below.setCell ?_ ?_ _) | (with_reducible refine Below.drew ?_) | (with_reducible refine below_drewN ?_ _))); all_goals (first | omega | (simp; done) | (simp; omega)))⟩
set_option maxHeartbeats 8000000 in
set_option maxRecDepth 100000 in
theorem fnSecuredMessages.walk (A : Option Addr) (n c : Nat) (l : List Int) (w : World) (_hl : l.length = n) (hr : Rd w 0 w.heap.size 1 A n (l.map (.int .u8))) (hw : ∀ x ∈ l, (Lit.int .u8 x).wf = true) (hc : n ≤ c ∧ c ≤ maxLen) :
    Calls Try.prog 14 #[.slice A n c] w fun e w' => e = .returned (.bool true) ∧ Below w.heap.size w w' := by
  have hn : n ≤ 9223372036854775807 := by have := hc.1; have := hc.2; unfold maxLen at this; omega
  have HG := hide (fun W => big_any W A n c hn)
  by_cases hbig : (1048576 : Int) < (n : Int)
  · rw [show decide ((1048576 : Int) < (n : Int)) = true by simpa using hbig] at HG
    clear hbig
    go_enter Try.func14, Try.ntmps14
    go_wp2_with (go_at_call 23; refine (unhide HG _).mono ?_; rintro e w' ⟨rfl, rfl⟩)
    go_ret
    exact ⟨rfl, (by (repeat' (first | (with_reducible exact Below.refl _ _) | (with_reducible assumption) | (with_reducible refine Below.alloc ?_ ?_ _) | (with_reducible refine below_ext ?_ ?_ _ _) | (with_reducible refine Below.setCell ?_ ?_ _) | (with_reducible refine Below.drew ?_) | (with_reducible refine below_drewN ?_ _))); all_goals (first | omega | (simp; done) | (simp; omega)))⟩
  rw [show decide ((1048576 : Int) < (n : Int)) = false by simpa using hbig] at HG
  have hn2 : n ≤ 16777216 := by omega
  have h8 := u8_in hw
  clear hbig
  go_enter Try.func14, Try.ntmps14
  go_wp2_with (go_at_call 23; refine (unhide HG _).mono ?_; rintro e w' ⟨rfl, rfl⟩)
  refine (sDrawPr_any _ A n c l hr hn2 h8).mono ?_
  rintro e w1 ⟨key, d, q, B, k, bc, bs, rfl, ⟨hd0, hd2⟩, ⟨hq0, hq8⟩, hbl, hk, hb8, hr1, hkc, hcm, hb1⟩
  obtain ⟨os1, d1, rfl⟩ := ext_of_below hb1
  clear hb1 HG hr h8 hw
  have HPR := hide (fun (W : World) (lo hi : Nat) (h : Rd W lo hi 1 B k (bs.map (.int .u8))) => iProtect_any W key d q B k bc lo hi bs h (by omega) hb8)
  have hdec := decL_encL (pk key d q) bs hb8
  have heB := encL_B8 (pk key d q) bs
  have hel := encL_len (pk key d q) bs
  have hmb := smac_bd key d q (encL (pk key d q) bs)
  have hmn := smac_ne key d q (encL (pk key d q) bs) hq0 (by omega)
  have HUY := hide (fun (W : World) (m0 : Int) (A : Option Addr) (c lo hi : Nat) (h : Rd W lo hi 1 A k ((encL (pk key d q) bs).map (.int .u8))) (h1 : vS d q k m0 = true) (h3 : (m0 == smac key d q (encL (pk key d q) bs)) = true) (h4 : decide (q ≤ q - 1) = false) => iUnp_yes W key d (q - 1) d q m0 A k c lo hi (encL (pk key d q) bs) h (by omega) heB h1 (by simp) h3 h4)
  have HUN := hide (fun (W : World) (dir last q' m0 : Int) (A : Option Addr) (c lo hi : Nat) (h : Rd W lo hi 1 A k ((encL (pk key d q) bs).map (.int .u8))) hx => iUnp_no W key dir last d q' m0 A k c lo hi (encL (pk key d q) bs) h (by omega) heB hx)
  have HVM := hide (fun (W : World) (q' m0 : Int) (A : Option Addr) (c lo hi : Nat) (h : Rd W lo hi 1 A k ((encL (pk key d q) bs).map (.int .u8))) => iVer_any W key d q' m0 A k c lo hi (encL (pk key d q) bs) h (by omega) heB)
  simp only [hdec] at HUY
  generalize hM : smac key d q (encL (pk key d q) bs) = M at HPR HUY hmb hmn
  by_cases hval : d ≤ 1 ∧ 1 ≤ q
  · obtain ⟨hd1, hq1⟩ := hval
    have hk6 : k ≤ 6 := hk
    have hv0 : vS d q k M = true := vS_mk ⟨⟨hd0, hd1⟩, ⟨hq1, by omega⟩, by omega, by omega, by omega⟩
    have hv1 : vS d (q + 1) k M = true := vS_mk ⟨⟨hd0, hd1⟩, ⟨by omega, by omega⟩, by omega, by omega, by omega⟩
    have hmr : 0 ≤ (M + 1) % 2147483647 ∧ (M + 1) % 2147483647 ≤ 2147483646 ∧ (M + 1) % 2147483647 ≠ M := by omega
    have hv2 : vS d q k ((M + 1) % 2147483647) = true := vS_mk ⟨⟨hd0, hd1⟩, ⟨hq1, by omega⟩, by omega, hmr.1, hmr.2.1⟩
    have hne1 : (M == smac key d (q + 1) (encL (pk key d q) bs)) = false := by simpa using fun h => hmn h.symm
    have hne2 : ((M + 1) % 2147483647 == smac key d q (encL (pk key d q) bs)) = false := by rw [hM]; simpa using hmr.2.2
    have H1 := hide (fun W A c lo hi h => HUY.out W M A c lo hi h hv0 (by simp) (by simp; omega))
    have H2 := hide (fun W A c lo hi h => HUN.out W d q q M A c lo hi h (.inr (.inr (.inr ⟨hv0, by simp, by rw [hM]; simp, by simp⟩))))
    have H3 := hide (fun W A c lo hi h => HUN.out W (1 - d) (q - 1) q M A c lo hi h (.inr (.inl ⟨hv0, by simp; omega⟩)))
    have H4 := hide (fun W A c lo hi h => HUN.out W d (q - 1) (q + 1) M A c lo hi h (.inr (.inr (.inl ⟨hv1, by simp, hne1⟩))))
    have H5 := hide (fun W A c lo hi h => HUN.out W d (q - 1) q ((M + 1) % 2147483647) A c lo hi h (.inr (.inr (.inl ⟨hv2, by simp, hne2⟩))))
    have H6 := hide (fun W A c lo hi h => HVM.out W q M A c lo hi h)
    have H7 := hide (fun W A c lo hi h => HVM.out W q ((M + 1) % 2147483647) A c lo hi h)
    rw [hM] at H6 H7
    rw [show (M == M) = true by simp] at H6
    rw [show ((M + 1) % 2147483647 == M) = false by simpa using hmr.2.2] at H7
    have hd01 : d = 0 ∨ d = 1 := by omega
    generalize encL (pk key d q) bs = eb at HPR H1 H2 H3 H4 H5 H6 H7 hel
    have HMR := hide hmr.1
    have hM0 : 0 ≤ M := hmb.1
    have hM1 : M < 2147483647 := hmb.2
    clear HUY HUN HVM hdec heB hmn hM hv0 hv1 hmr hv2 hne1 hne2 hel hmb
    rcases hd01 with rfl | rfl
    · rw [show (1 : Int) - 0 = 1 from rfl] at H3
      clear HMR
      go_wp2_with fail; refine (unhide HPR _ _ _ (hr1.below' (by (repeat' (first | (with_reducible exact Below.refl _ _) | (with_reducible assumption) | (with_reducible refine Below.alloc ?_ ?_ _) | (with_reducible refine below_ext ?_ ?_ _ _) | (with_reducible refine Below.setCell ?_ ?_ _) | (with_reducible refine Below.drew ?_) | (with_reducible refine below_drewN ?_ _))); all_goals (first | omega | (simp; done) | (simp; omega))))).mono ?_; rintro e w2 ⟨A2, c2, rfl, hc2, hm2, ho2, hb2⟩; obtain ⟨os2, d2, rfl⟩ := ext_of_below hb2; clear hb2; try simp only [ext_drew] at ho2; try simp only [ext_drewN] at ho2
      go_wp2_with fail; refine (unhide H1 _ _ _ _ _ (ho2.rd.below' (by (repeat' (first | (with_reducible exact Below.refl _ _) | (with_reducible assumption) | (with_reducible refine Below.alloc ?_ ?_ _) | (with_reducible refine below_ext ?_ ?_ _ _) | (with_reducible refine Below.setCell ?_ ?_ _) | (with_reducible refine Below.drew ?_) | (with_reducible refine below_drewN ?_ _))); all_goals (first | omega | (simp; done) | (simp; omega))))).mono ?_; rintro e w3 ⟨A3, c3, rfl, hc3, hm3, ho3, hb3⟩; obtain ⟨os3, d3, rfl⟩ := ext_of_below hb3; clear hb3; try simp only [ext_drew] at ho3; try simp only [ext_drewN] at ho3
      go_wp2_with fail; refine (unhide H2 _ _ _ _ _ (ho2.rd.below' (by (repeat' (first | (with_reducible exact Below.refl _ _) | (with_reducible assumption) | (with_reducible refine Below.alloc ?_ ?_ _) | (with_reducible refine below_ext ?_ ?_ _ _) | (with_reducible refine Below.setCell ?_ ?_ _) | (with_reducible refine Below.drew ?_) | (with_reducible refine below_drewN ?_ _))); all_goals (first | omega | (simp; done) | (simp; omega))))).mono ?_; rintro e w4 ⟨A4, c4, rfl, hc4, hm4, ho4, hb4⟩; obtain ⟨os4, d4, rfl⟩ := ext_of_below hb4; clear hb4; try simp only [ext_drew] at ho4; try simp only [ext_drewN] at ho4
      go_wp2_with fail; refine (unhide H3 _ _ _ _ _ (ho2.rd.below' (by (repeat' (first | (with_reducible exact Below.refl _ _) | (with_reducible assumption) | (with_reducible refine Below.alloc ?_ ?_ _) | (with_reducible refine below_ext ?_ ?_ _ _) | (with_reducible refine Below.setCell ?_ ?_ _) | (with_reducible refine Below.drew ?_) | (with_reducible refine below_drewN ?_ _))); all_goals (first | omega | (simp; done) | (simp; omega))))).mono ?_; rintro e w5 ⟨A5, c5, rfl, hc5, hm5, ho5, hb5⟩; obtain ⟨os5, d5, rfl⟩ := ext_of_below hb5; clear hb5; try simp only [ext_drew] at ho5; try simp only [ext_drewN] at ho5
      go_wp2_with fail; refine (unhide H4 _ _ _ _ _ (ho2.rd.below' (by (repeat' (first | (with_reducible exact Below.refl _ _) | (with_reducible assumption) | (with_reducible refine Below.alloc ?_ ?_ _) | (with_reducible refine below_ext ?_ ?_ _ _) | (with_reducible refine Below.setCell ?_ ?_ _) | (with_reducible refine Below.drew ?_) | (with_reducible refine below_drewN ?_ _))); all_goals (first | omega | (simp; done) | (simp; omega))))).mono ?_; rintro e w6 ⟨A6, c6, rfl, hc6, hm6, ho6, hb6⟩; obtain ⟨os6, d6, rfl⟩ := ext_of_below hb6; clear hb6; try simp only [ext_drew] at ho6; try simp only [ext_drewN] at ho6
      go_wp2_with fail; refine (unhide H5 _ _ _ _ _ (ho2.rd.below' (by (repeat' (first | (with_reducible exact Below.refl _ _) | (with_reducible assumption) | (with_reducible refine Below.alloc ?_ ?_ _) | (with_reducible refine below_ext ?_ ?_ _ _) | (with_reducible refine Below.setCell ?_ ?_ _) | (with_reducible refine Below.drew ?_) | (with_reducible refine below_drewN ?_ _))); all_goals (first | omega | (simp; done) | (simp; omega))))).mono ?_; rintro e w7 ⟨A7, c7, rfl, hc7, hm7, ho7, hb7⟩; obtain ⟨os7, d7, rfl⟩ := ext_of_below hb7; clear hb7; try simp only [ext_drew] at ho7; try simp only [ext_drewN] at ho7
      go_wp2_with fail; refine (same_yes _ _ _ _ _ _ _ _ _ _ bs (ho3.rd.below' (by (repeat' (first | (with_reducible exact Below.refl _ _) | (with_reducible assumption) | (with_reducible refine Below.alloc ?_ ?_ _) | (with_reducible refine below_ext ?_ ?_ _ _) | (with_reducible refine Below.setCell ?_ ?_ _) | (with_reducible refine Below.drew ?_) | (with_reducible refine below_drewN ?_ _))); all_goals (first | omega | (simp; done) | (simp; omega)))) (hr1.below' (by (repeat' (first | (with_reducible exact Below.refl _ _) | (with_reducible assumption) | (with_reducible refine Below.alloc ?_ ?_ _) | (with_reducible refine below_ext ?_ ?_ _ _) | (with_reducible refine Below.setCell ?_ ?_ _) | (with_reducible refine Below.drew ?_) | (with_reducible refine below_drewN ?_ _))); all_goals (first | omega | (simp; done) | (simp; omega)))) (by omega)).mono ?_; rintro e w8 ⟨rfl, hb8⟩; obtain ⟨os8, d8, rfl⟩ := ext_of_below hb8; clear hb8
      go_wp2_with fail; refine (unhide H6 _ _ _ _ _ (ho2.rd.below' (by (repeat' (first | (with_reducible exact Below.refl _ _) | (with_reducible assumption) | (with_reducible refine Below.alloc ?_ ?_ _) | (with_reducible refine below_ext ?_ ?_ _ _) | (with_reducible refine Below.setCell ?_ ?_ _) | (with_reducible refine Below.drew ?_) | (with_reducible refine below_drewN ?_ _))); all_goals (first | omega | (simp; done) | (simp; omega))))).mono ?_; rintro e w9 ⟨rfl, hb9⟩; obtain ⟨os9, d9, rfl⟩ := ext_of_below hb9; clear hb9
      go_wp2_with fail; refine (unhide H7 _ _ _ _ _ (ho2.rd.below' (by (repeat' (first | (with_reducible exact Below.refl _ _) | (with_reducible assumption) | (with_reducible refine Below.alloc ?_ ?_ _) | (with_reducible refine below_ext ?_ ?_ _ _) | (with_reducible refine Below.setCell ?_ ?_ _) | (with_reducible refine Below.drew ?_) | (with_reducible refine below_drewN ?_ _))); all_goals (first | omega | (simp; done) | (simp; omega))))).mono ?_; rintro e w10 ⟨rfl, hb10⟩; obtain ⟨os10, d10, rfl⟩ := ext_of_below hb10; clear hb10
      go_wp2_with fail
      go_ret
      exact ⟨rfl, (by (repeat' (first | (with_reducible exact Below.refl _ _) | (with_reducible assumption) | (with_reducible refine Below.alloc ?_ ?_ _) | (with_reducible refine below_ext ?_ ?_ _ _) | (with_reducible refine Below.setCell ?_ ?_ _) | (with_reducible refine Below.drew ?_) | (with_reducible refine below_drewN ?_ _))); all_goals (first | omega | (simp; done) | (simp; omega)))⟩
    · rw [show (1 : Int) - 1 = 0 from rfl] at H3
      clear HMR
      go_wp2_with fail; refine (unhide HPR _ _ _ (hr1.below' (by (repeat' (first | (with_reducible exact Below.refl _ _) | (with_reducible assumption) | (with_reducible refine Below.alloc ?_ ?_ _) | (with_reducible refine below_ext ?_ ?_ _ _) | (with_reducible refine Below.setCell ?_ ?_ _) | (with_reducible refine Below.drew ?_) | (with_reducible refine below_drewN ?_ _))); all_goals (first | omega | (simp; done) | (simp; omega))))).mono ?_; rintro e w2 ⟨A2, c2, rfl, hc2, hm2, ho2, hb2⟩; obtain ⟨os2, d2, rfl⟩ := ext_of_below hb2; clear hb2; try simp only [ext_drew] at ho2; try simp only [ext_drewN] at ho2
      go_wp2_with fail; refine (unhide H1 _ _ _ _ _ (ho2.rd.below' (by (repeat' (first | (with_reducible exact Below.refl _ _) | (with_reducible assumption) | (with_reducible refine Below.alloc ?_ ?_ _) | (with_reducible refine below_ext ?_ ?_ _ _) | (with_reducible refine Below.setCell ?_ ?_ _) | (with_reducible refine Below.drew ?_) | (with_reducible refine below_drewN ?_ _))); all_goals (first | omega | (simp; done) | (simp; omega))))).mono ?_; rintro e w3 ⟨A3, c3, rfl, hc3, hm3, ho3, hb3⟩; obtain ⟨os3, d3, rfl⟩ := ext_of_below hb3; clear hb3; try simp only [ext_drew] at ho3; try simp only [ext_drewN] at ho3
      go_wp2_with fail; refine (unhide H2 _ _ _ _ _ (ho2.rd.below' (by (repeat' (first | (with_reducible exact Below.refl _ _) | (with_reducible assumption) | (with_reducible refine Below.alloc ?_ ?_ _) | (with_reducible refine below_ext ?_ ?_ _ _) | (with_reducible refine Below.setCell ?_ ?_ _) | (with_reducible refine Below.drew ?_) | (with_reducible refine below_drewN ?_ _))); all_goals (first | omega | (simp; done) | (simp; omega))))).mono ?_; rintro e w4 ⟨A4, c4, rfl, hc4, hm4, ho4, hb4⟩; obtain ⟨os4, d4, rfl⟩ := ext_of_below hb4; clear hb4; try simp only [ext_drew] at ho4; try simp only [ext_drewN] at ho4
      go_wp2_with fail; refine (unhide H3 _ _ _ _ _ (ho2.rd.below' (by (repeat' (first | (with_reducible exact Below.refl _ _) | (with_reducible assumption) | (with_reducible refine Below.alloc ?_ ?_ _) | (with_reducible refine below_ext ?_ ?_ _ _) | (with_reducible refine Below.setCell ?_ ?_ _) | (with_reducible refine Below.drew ?_) | (with_reducible refine below_drewN ?_ _))); all_goals (first | omega | (simp; done) | (simp; omega))))).mono ?_; rintro e w5 ⟨A5, c5, rfl, hc5, hm5, ho5, hb5⟩; obtain ⟨os5, d5, rfl⟩ := ext_of_below hb5; clear hb5; try simp only [ext_drew] at ho5; try simp only [ext_drewN] at ho5
      go_wp2_with fail; refine (unhide H4 _ _ _ _ _ (ho2.rd.below' (by (repeat' (first | (with_reducible exact Below.refl _ _) | (with_reducible assumption) | (with_reducible refine Below.alloc ?_ ?_ _) | (with_reducible refine below_ext ?_ ?_ _ _) | (with_reducible refine Below.setCell ?_ ?_ _) | (with_reducible refine Below.drew ?_) | (with_reducible refine below_drewN ?_ _))); all_goals (first | omega | (simp; done) | (simp; omega))))).mono ?_; rintro e w6 ⟨A6, c6, rfl, hc6, hm6, ho6, hb6⟩; obtain ⟨os6, d6, rfl⟩ := ext_of_below hb6; clear hb6; try simp only [ext_drew] at ho6; try simp only [ext_drewN] at ho6
      go_wp2_with fail; refine (unhide H5 _ _ _ _ _ (ho2.rd.below' (by (repeat' (first | (with_reducible exact Below.refl _ _) | (with_reducible assumption) | (with_reducible refine Below.alloc ?_ ?_ _) | (with_reducible refine below_ext ?_ ?_ _ _) | (with_reducible refine Below.setCell ?_ ?_ _) | (with_reducible refine Below.drew ?_) | (with_reducible refine below_drewN ?_ _))); all_goals (first | omega | (simp; done) | (simp; omega))))).mono ?_; rintro e w7 ⟨A7, c7, rfl, hc7, hm7, ho7, hb7⟩; obtain ⟨os7, d7, rfl⟩ := ext_of_below hb7; clear hb7; try simp only [ext_drew] at ho7; try simp only [ext_drewN] at ho7
      go_wp2_with fail; refine (same_yes _ _ _ _ _ _ _ _ _ _ bs (ho3.rd.below' (by (repeat' (first | (with_reducible exact Below.refl _ _) | (with_reducible assumption) | (with_reducible refine Below.alloc ?_ ?_ _) | (with_reducible refine below_ext ?_ ?_ _ _) | (with_reducible refine Below.setCell ?_ ?_ _) | (with_reducible refine Below.drew ?_) | (with_reducible refine below_drewN ?_ _))); all_goals (first | omega | (simp; done) | (simp; omega)))) (hr1.below' (by (repeat' (first | (with_reducible exact Below.refl _ _) | (with_reducible assumption) | (with_reducible refine Below.alloc ?_ ?_ _) | (with_reducible refine below_ext ?_ ?_ _ _) | (with_reducible refine Below.setCell ?_ ?_ _) | (with_reducible refine Below.drew ?_) | (with_reducible refine below_drewN ?_ _))); all_goals (first | omega | (simp; done) | (simp; omega)))) (by omega)).mono ?_; rintro e w8 ⟨rfl, hb8⟩; obtain ⟨os8, d8, rfl⟩ := ext_of_below hb8; clear hb8
      go_wp2_with fail; refine (unhide H6 _ _ _ _ _ (ho2.rd.below' (by (repeat' (first | (with_reducible exact Below.refl _ _) | (with_reducible assumption) | (with_reducible refine Below.alloc ?_ ?_ _) | (with_reducible refine below_ext ?_ ?_ _ _) | (with_reducible refine Below.setCell ?_ ?_ _) | (with_reducible refine Below.drew ?_) | (with_reducible refine below_drewN ?_ _))); all_goals (first | omega | (simp; done) | (simp; omega))))).mono ?_; rintro e w9 ⟨rfl, hb9⟩; obtain ⟨os9, d9, rfl⟩ := ext_of_below hb9; clear hb9
      go_wp2_with fail; refine (unhide H7 _ _ _ _ _ (ho2.rd.below' (by (repeat' (first | (with_reducible exact Below.refl _ _) | (with_reducible assumption) | (with_reducible refine Below.alloc ?_ ?_ _) | (with_reducible refine below_ext ?_ ?_ _ _) | (with_reducible refine Below.setCell ?_ ?_ _) | (with_reducible refine Below.drew ?_) | (with_reducible refine below_drewN ?_ _))); all_goals (first | omega | (simp; done) | (simp; omega))))).mono ?_; rintro e w10 ⟨rfl, hb10⟩; obtain ⟨os10, d10, rfl⟩ := ext_of_below hb10; clear hb10
      go_wp2_with fail
      go_ret
      exact ⟨rfl, (by (repeat' (first | (with_reducible exact Below.refl _ _) | (with_reducible assumption) | (with_reducible refine Below.alloc ?_ ?_ _) | (with_reducible refine below_ext ?_ ?_ _ _) | (with_reducible refine Below.setCell ?_ ?_ _) | (with_reducible refine Below.drew ?_) | (with_reducible refine below_drewN ?_ _))); all_goals (first | omega | (simp; done) | (simp; omega)))⟩
  · have hv0 : vS d q k M = false := by
      cases hh : vS d q k M
      · rfl
      · obtain ⟨⟨_, e1⟩, ⟨e2, _⟩, _⟩ := vS_true hh
        exact absurd ⟨e1, e2⟩ hval
    have H1 := hide (fun W A c lo hi h => HUN.out W d 0 q M A c lo hi h (.inl hv0))
    generalize encL (pk key d q) bs = eb at HPR H1
    have hcase : d = 2 ∨ (d = 0 ∧ q = 0) ∨ (d = 1 ∧ q = 0) := by omega
    clear HUY HUN HVM hdec heB hmn hM hv0 hel hmb hval
    rcases hcase with rfl | ⟨rfl, rfl⟩ | ⟨rfl, rfl⟩
    all_goals
      go_wp2_with fail; refine (unhide HPR _ _ _ (hr1.below' (by (repeat' (first | (with_reducible exact Below.refl _ _) | (with_reducible assumption) | (with_reducible refine Below.alloc ?_ ?_ _) | (with_reducible refine below_ext ?_ ?_ _ _) | (with_reducible refine Below.setCell ?_ ?_ _) | (with_reducible refine Below.drew ?_) | (with_reducible refine below_drewN ?_ _))); all_goals (first | omega | (simp; done) | (simp; omega))))).mono ?_; rintro e w2 ⟨A2, c2, rfl, hc2, hm2, ho2, hb2⟩; obtain ⟨os2, d2, rfl⟩ := ext_of_below hb2; clear hb2; try simp only [ext_drew] at ho2; try simp only [ext_drewN] at ho2
      go_wp2_with fail; refine (unhide H1 _ _ _ _ _ (ho2.rd.below' (by (repeat' (first | (with_reducible exact Below.refl _ _) | (with_reducible assumption) | (with_reducible refine Below.alloc ?_ ?_ _) | (with_reducible refine below_ext ?_ ?_ _ _) | (with_reducible refine Below.setCell ?_ ?_ _) | (with_reducible refine Below.drew ?_) | (with_reducible refine below_drewN ?_ _))); all_goals (first | omega | (simp; done) | (simp; omega))))).mono ?_; rintro e w3 ⟨A3, c3, rfl, hc3, hm3, ho3, hb3⟩; obtain ⟨os3, d3, rfl⟩ := ext_of_below hb3; clear hb3; try simp only [ext_drew] at ho3; try simp only [ext_drewN] at ho3
      go_wp2_with fail
      go_ret
      exact ⟨rfl, (by (repeat' (first | (with_reducible exact Below.refl _ _) | (with_reducible assumption) | (with_reducible refine Below.alloc ?_ ?_ _) | (with_reducible refine below_ext ?_ ?_ _ _) | (with_reducible refine Below.setCell ?_ ?_ _) | (with_reducible refine Below.drew ?_) | (with_reducible refine below_drewN ?_ _))); all_goals (first | omega | (simp; done) | (simp; omega)))⟩
end Go.Proofs.Ytbfmdnlfbadokaa
