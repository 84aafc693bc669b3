/- A secured message drawn, and its encoding bent. -/
import Derived.Test.YtidfpmkhgogilaaMsgD
import Derived.Test.YtidfpmkhgogilaaMsgP
import Derived.Test.YtidfpmkhgogilaaBent
namespace Go.Proofs.Ytidfpmkhgogilaa
open Go.RowKit Go.Sep

set_option maxHeartbeats 1000000 in
set_option maxRecDepth 100000 in
theorem sDrawES_any (w : World) (A : Option Addr) (n c : Nat) (l : List Int) (hr : Rd w 0 w.heap.size 1 A n (l.map (.int .u8))) (hn : n ≤ 16777216) (h8 : ∀ x ∈ l, 0 ≤ x ∧ x ≤ 255) :
    Calls Try.prog 33 #[.slice A n c] w fun e w' => ∃ (d q m : Int) (A' : Option Addr) (k c' : Nat) (bs : List Int), e = .returned (msg d q (.slice A' k c') m) ∧ bs.length = k ∧ k ≤ 62 ∧ (∀ x ∈ bs, 0 ≤ x ∧ x ≤ 255) ∧ Rd w' w.heap.size w'.heap.size 1 A' k (bs.map (.int .u8)) ∧ k ≤ c' ∧ c' ≤ maxLen ∧ Below w.heap.size w w' := by
  have HIV : ∀ (w : World) (hr : Rd w 0 w.heap.size 1 A n (l.map (.int .u8))), Calls Try.prog 71 #[.slice A n c] w fun e w' => ∃ (d q m : Int) (A' : Option Addr) (k c' : Nat) (bs : List Int), e = .returned (msg d q (.slice A' k c') m) ∧ bs.length = k ∧ k ≤ 62 ∧ (∀ x ∈ bs, 0 ≤ x ∧ x ≤ 255) ∧ Rd w' w.heap.size w'.heap.size 1 A' k (bs.map (.int .u8)) ∧ k ≤ c' ∧ c' ≤ maxLen ∧ Below w.heap.size w w' := by
    intro w hr
    have hx0 := Bx4.new w 27 (.int .i64 0) (.int .i64 0) (.slice none 0 0) (.int .i64 0)
    go_enter Try.func71, Try.ntmps71
    go_wp2_with fail
    refine (sNew_any _ A n c _ _ l (hr.alloc _) hn h8).mono ?_
    rintro e w1 ⟨g, rfl, hg, hC1, hb1⟩
    have hr1 := (hr.alloc (.cells #[.int .i64 0, .int .i64 0, .slice none 0 0, .int .i64 0] 27)).below' hb1
    have hg' : w.heap.size + 1 ≤ g := by simpa using hg
    have hs1 := hb1.size
    simp at hs1
    have hx1 := hx0.below' hb1
    have hbw1 : Below w.heap.size w w1 := below_then ((Below.refl _ _).alloc (Nat.le_refl _) _) hb1 (by simp)
    clear hb1 hx0
    go_wp2_with fail
    refine (sAny8_any _ g A n c _ _ l hC1 hr1 hn h8 (by omega)).mono ?_
    rintro e w2 ⟨key, d, q, m, A', k, c', bs, _, rfl, hl, hk, h8', hown, hkc, hcm, hC2, hch2⟩
    have hx2 := hx1.chg hch2 (.inl (by omega))
    have hs2 := hch2.size
    have hbw2 : Below w.heap.size w w2 := below_then hbw1 (hch2.below (B := w.heap.size) (by omega) (by omega)) (Nat.le_refl _)
    have hrd := hown.rd
    have hlt2 : w.heap.size < w2.heap.size := by omega
    obtain ⟨x0, x1, x2, x3, xf0, xf1, xf2, xf3⟩ := hx2
    have HRD := hide hrd
    have HB := hide hbw2
    clear hown hrd hch2 hC2 hbw2 hbw1 hx1 hr1 hC1 hr
    unfold msg
    go_wp2_with fail
    refine bodyPost_ret (v := .agg #[.int .i64 d, .int .i64 q, .slice A' k c', .int .i64 m]) (by simp only [results, Try.results71]; go_simp) rfl ⟨d, q, m, A', k, c', bs, rfl, hl, hk, h8', ?_, hkc, hcm, ?_⟩
    · refine Rd.more (lo := w1.heap.size) (hi := w2.heap.size) ?_ (Nat.le_trans (Nat.le_succ _) hs1) (by simp)
      clear hg h8 h8' hl hk hkc hcm x0 x1 x2 x3 xf0 xf1 xf2 xf3 HB
      ((repeat' (first | (with_reducible exact HRD.out) | (with_reducible refine Rd.setCell ?_ (.inr ?_) _) | (with_reducible refine Rd.alloc ?_ _) | (with_reducible refine Rd.drew ?_))); all_goals (first | omega | (simp; done) | (simp; omega)))
    · have hbw2 := HB.out
      exact (by (repeat' (first | (with_reducible exact Below.refl _ _) | (with_reducible assumption) | (with_reducible refine Below.alloc ?_ ?_ _) | (with_reducible refine below_ext ?_ ?_ _ _) | (with_reducible refine Below.setCell ?_ ?_ _) | (with_reducible refine Below.drew ?_) | (with_reducible refine below_drewN ?_ _))); all_goals (first | omega | (simp; done) | (simp; omega)))
  have hx0 := Bx4.new w 27 (.int .i64 0) (.int .i64 0) (.slice none 0 0) (.int .i64 0)
  have HIV2 := hide (HIV (w.alloc (.cells #[.int .i64 0, .int .i64 0, .slice none 0 0, .int .i64 0] 27)) ((hr.alloc _).more (Nat.le_refl _) (by simp)))
  clear HIV
  go_enter Try.func33, Try.ntmps33
  go_wp2_with fail
  refine (unhide HIV2).mono ?_
  rintro e w2 ⟨d, q, m, A', k, c', bs, rfl, hl, hk, h8', hrd, hkc, hcm, hb2⟩
  have hx2 := hx0.below' hb2
  have hs2 := hb2.size
  simp at hs2
  have hrd' : Rd w2 (w.heap.size + 1) w2.heap.size 1 A' k (bs.map (.int .u8)) := hrd.more (by simp) (Nat.le_refl _)
  have hbw2 : Below w.heap.size w w2 := below_then ((Below.refl _ _).alloc (Nat.le_refl _) _) hb2 (by simp)
  obtain ⟨x0, x1, x2, x3, xf0, xf1, xf2, xf3⟩ := hx2
  have HF := hide (fun (u0 u1 u2 u3 : Value) => (show Rd ((((w2.setCell ⟨w.heap.size, 0, none⟩ u0).setCell ⟨w.heap.size, 1, none⟩ u1).setCell ⟨w.heap.size, 2, none⟩ u2).setCell ⟨w.heap.size, 3, none⟩ u3) w.heap.size ((((w2.setCell ⟨w.heap.size, 0, none⟩ u0).setCell ⟨w.heap.size, 1, none⟩ u1).setCell ⟨w.heap.size, 2, none⟩ u2).setCell ⟨w.heap.size, 3, none⟩ u3).heap.size 1 A' k (bs.map (.int .u8)) ∧ Below w.heap.size w ((((w2.setCell ⟨w.heap.size, 0, none⟩ u0).setCell ⟨w.heap.size, 1, none⟩ u1).setCell ⟨w.heap.size, 2, none⟩ u2).setCell ⟨w.heap.size, 3, none⟩ u3) from
    ⟨((((hrd'.setCell (.inr (by simp)) _).setCell (.inr (by simp)) _).setCell (.inr (by simp)) _).setCell (.inr (by simp)) _).more (by omega) (by simp), (((hbw2.setCell (by simp) _).setCell (by simp) _).setCell (by simp) _).setCell (by simp) _⟩))
  clear hrd hrd' hb2 hbw2 hx0 hr HIV2
  unfold msg
  go_wp2_with fail
  exact bodyPost_ret (v := .agg #[.int .i64 d, .int .i64 q, .slice A' k c', .int .i64 m]) (by simp only [results, Try.results33]; go_simp) rfl ⟨d, q, m, A', k, c', bs, rfl, hl, hk, h8', (HF.out _ _ _ _).1, hkc, hcm, (HF.out _ _ _ _).2⟩
set_option maxRecDepth 100000 in
theorem sDrawDS_any (w : World) (A : Option Addr) (n c : Nat) (l : List Int) (hr : Rd w 0 w.heap.size 1 A n (l.map (.int .u8))) (hn : n ≤ 16777216) (h8 : ∀ x ∈ l, 0 ≤ x ∧ x ≤ 255) :
    Calls Try.prog 34 #[.slice A n c] w fun e w' => ∃ (A' : Option Addr) (k c' : Nat) (bs : List Int), e = .returned (.slice A' k c') ∧ bs.length = k ∧ k ≤ 90 ∧ (∀ x ∈ bs, 0 ≤ x ∧ x ≤ 255) ∧ Rd w' w.heap.size w'.heap.size 1 A' k (bs.map (.int .u8)) ∧ k ≤ c' ∧ c' ≤ maxLen ∧ Below w.heap.size w w' := by
  go_enter Try.func34, Try.ntmps34
  go_wp2_with fail
  refine (sNew_any _ A n c _ _ l hr hn h8).mono ?_
  rintro e w1 ⟨g, rfl, hg, hC1, hb1⟩
  have hr1 := hr.below' hb1
  go_wp2_with fail
  refine (sDraw8_any _ g A n c _ _ l hC1 hr1 hn h8 hg).mono ?_
  rintro e w2 ⟨key, d, q, m, A', k, c', bs, _, rfl, hl, hk, hb8, hown, hkc, hcm, hC2, hch2⟩
  have hr2 := hr1.chg hch2 (.inl hg)
  have hsz1 := hb1.size
  have hsz2 := hch2.size
  have hrd := hown.rd
  unfold msg
  go_wp2_with fail
  refine (sEncodeSecured_any _ d q m _ _ _ _ _ bs (hrd.alloc _) (by omega) hb8).mono ?_
  rintro e w5 ⟨A5, c5, rfl, hc5, hm5, ho5, hb5⟩
  have hlen := encS_len d q m bs
  have hbx : Below w2.heap.size w2 w5 := below_then ((Below.refl _ _).alloc (Nat.le_refl _) _) hb5 (by simp)
  have hbel5 : Below w.heap.size w w5 := below_then (below_then hb1 (hch2.below (B := w.heap.size) hg hb1.size) (Nat.le_refl _)) hbx (by omega)
  have hsz5 := hb5.size
  simp at hsz5
  go_wp2_with fail
  refine (sBent_any _ g A n c _ _ l _ _ _ _ _ (encS d q m bs) (hC2.below' hbx) (hr2.below' hbx) hn h8 hg ho5.rd (by omega) (encS_byte hb8)).mono ?_
  rintro e w6 ⟨A6, k6, c6, bs6, rfl, hl6, hk6, hb86, hr6, hkc6, hcm6, hC6, hch6⟩
  have HF := hide (⟨hr6.more (by omega) (Nat.le_refl _), below_then hbel5 (hch6.below (B := w.heap.size) hg hbel5.size) (Nat.le_refl _)⟩ : Rd w6 w.heap.size w6.heap.size 1 A6 k6 (bs6.map (.int .u8)) ∧ Below w.heap.size w w6)
  clear hr6 hch6 hC6 hbel5 hb5 ho5 hr2 hrd hown hC2 hch2 hr1 hC1 hb1 hr hbx
  go_wp2_with fail
  go_ret
  exact ⟨A6, k6, c6, bs6, rfl, hl6, by omega, hb86, HF.out.1, hkc6, hcm6, HF.out.2⟩
end Go.Proofs.Ytidfpmkhgogilaa
