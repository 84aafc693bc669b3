/- The law FnTokenBuckets, walked. -/
import Derived.Test.YtdjimaoelaekaaaBkD
namespace Go.Proofs.Ytdjimaoelaekaaa
open Go.RowKit Go.Sep

theorem big_any (w : World) (A : Option Addr) (n c : Nat) (_hn : n ≤ 9223372036854775807) :
    Calls Try.prog 33 #[.slice A n c] w fun e w' => e = .returned (.bool (decide ((1048576 : Int) < (n : Int)))) ∧ w = w' := by
  go_enter Try.func33, Try.ntmps33
  go_wp2_with fail
  go_ret
  exact ⟨rfl, rfl⟩
theorem u8_in {l : List Int} (h : ∀ x ∈ l, (Lit.int .u8 x).wf = true) : ∀ x ∈ l, 0 ≤ x ∧ x ≤ 255 := fun x hx => by
  have := h x hx
  have hmin : IntKind.u8.min = 0 := rfl
  have hmax : IntKind.u8.max = 255 := rfl
  simp only [Lit.wf, Bool.and_eq_true, decide_eq_true_eq, hmin, hmax] at this
  exact this
theorem at_any (w : World) (A : Option Addr) (n c lo hi : Nat) (l : List Int) (hr : Rd w lo hi 1 A n (l.map (.int .u8))) (hn : n ≤ 1048576) (h8 : ∀ x ∈ l, 0 ≤ x ∧ x ≤ 255) (i : Nat) (hi20 : i ≤ 20) (x : Int) (hxi : x = (i : Int)) :
    Calls Try.prog 35 #[.slice A n c, .int .i64 x] w fun e w' => (∃ v : Int, e = .returned (.int .i64 v) ∧ 0 ≤ v ∧ v ≤ 255) ∧ w = w' := by
  subst hxi
  have hlen : l.length = n := by simpa using hr.len
  by_cases hlt : i < n
  · obtain ⟨b, o, rfl, _, _, hcell⟩ := hr.at_ (j := i) (by omega)
    have hx := hcell i (.int .u8 (l[i]'(by omega))) (by simp [show i < l.length by omega])
    have hb8 := h8 (l[i]'(by omega)) (List.getElem_mem _)
    generalize l[i]'(by omega) = z at hx hb8
    have hlt' : (i : Int) < (n : Int) := by omega
    clear hcell hr
    go_enter Try.func35, Try.ntmps35
    go_wp2_with fail
    go_ret
    exact ⟨⟨_, rfl, by omega, by omega⟩, rfl⟩
  · have hlt' : ¬ (i : Int) < (n : Int) := by omega
    clear hr
    go_enter Try.func35, Try.ntmps35
    go_wp2_with fail
    go_ret
    exact ⟨⟨_, rfl, by omega, by omega⟩, rfl⟩
set_option maxHeartbeats 2000000 in
set_option maxRecDepth 100000 in
theorem fnTokenBuckets.walk (A : Option Addr) (n c : Nat) (l : List Int) (w : World) (_hl : l.length = n) (hr : Rd w 0 w.heap.size 1 A n (l.map (.int .u8))) (hw : ∀ x ∈ l, (Lit.int .u8 x).wf = true) (hc : n ≤ c ∧ c ≤ maxLen) :
    Calls Try.prog 12 #[.slice A n c] w fun e w' => e = .returned (.bool true) ∧ Below w.heap.size w w' := by
  have hn : n ≤ 9223372036854775807 := by have := hc.1; have := hc.2; unfold maxLen at this; omega
  have HG := hide (fun W => big_any W A n c hn)
  by_cases hbig : (1048576 : Int) < (n : Int)
  · rw [show decide ((1048576 : Int) < (n : Int)) = true by simpa using hbig] at HG
    clear hbig
    go_enter Try.func12, Try.ntmps12
    go_wp2_with (go_at_call 33; refine (unhide HG _).mono ?_; rintro e w' ⟨rfl, rfl⟩)
    go_ret
    exact ⟨rfl, (by (repeat' (first | (with_reducible exact Below.refl _ _) | (with_reducible assumption) | (with_reducible refine Below.alloc ?_ ?_ _) | (with_reducible refine below_ext ?_ ?_ _ _) | (with_reducible refine Below.setCell ?_ ?_ _) | (with_reducible refine Below.drew ?_) | (with_reducible refine below_drewN ?_ _))); all_goals (first | omega | (simp; done) | (simp; omega)))⟩
  rw [show decide ((1048576 : Int) < (n : Int)) = false by simpa using hbig] at HG
  have hn2 : n ≤ 1048576 := by omega
  have h8 := u8_in hw
  clear hbig
  go_enter Try.func12, Try.ntmps12
  go_wp2_with (go_at_call 33; refine (unhide HG _).mono ?_; rintro e w' ⟨rfl, rfl⟩)
  refine (sDrawBk_any _ A n c l hr (by omega) h8).mono ?_
  rintro e w1 ⟨r, b, t, u, rfl, hv, hu, hb1⟩
  have hxb := vB_true hv
  have hs1 := hb1.size
  have hp0 := Bx4.new w1 27 (.int .i64 r) (.int .i64 b) (.int .i64 t) (.int .i64 u)
  have hp1 := Bx4.new (w1.alloc (.cells #[.int .i64 r, .int .i64 b, .int .i64 t, .int .i64 u] 27)) 27 (.int .i64 r) (.int .i64 b) (.int .i64 t) (.int .i64 u)
  rw [show (w1.alloc (.cells #[.int .i64 r, .int .i64 b, .int .i64 t, .int .i64 u] 27)).heap.size = w1.heap.size + 1 by simp] at hp1
  have HR0 := hide (And.intro (bk_start hv) (And.intro (hp0.below' (w' := (w1.alloc (.cells #[.int .i64 r, .int .i64 b, .int .i64 t, .int .i64 u] 27)).alloc (.cells #[.int .i64 r, .int .i64 b, .int .i64 t, .int .i64 u] 27)) (by (repeat' (first | (with_reducible exact Below.refl _ _) | (with_reducible assumption) | (with_reducible refine Below.alloc ?_ ?_ _) | (with_reducible refine below_ext ?_ ?_ _ _) | (with_reducible refine Below.setCell ?_ ?_ _) | (with_reducible refine Below.drew ?_) | (with_reducible refine below_drewN ?_ _))); all_goals (first | omega | (simp; done) | (simp; omega)))) (And.intro hp1 (show Below w.heap.size w ((w1.alloc (.cells #[.int .i64 r, .int .i64 b, .int .i64 t, .int .i64 u] 27)).alloc (.cells #[.int .i64 r, .int .i64 b, .int .i64 t, .int .i64 u] 27)) from (by (repeat' (first | (with_reducible exact Below.refl _ _) | (with_reducible assumption) | (with_reducible refine Below.alloc ?_ ?_ _) | (with_reducible refine below_ext ?_ ?_ _ _) | (with_reducible refine Below.setCell ?_ ?_ _) | (with_reducible refine Below.drew ?_) | (with_reducible refine below_drewN ?_ _))); all_goals (first | omega | (simp; done) | (simp; omega)))))))
  clear hp0 hp1 hb1 HG
  go_wp2_with fail
  go_loopw [5, 6, 7] (fun nw tt i wr => ∃ (k : Nat) (t' u' now tot : Int), k ≤ 6 ∧ i = .int .i64 k ∧ nw = .int .i64 now ∧ tt = .int .i64 tot ∧ bkInv r b t u k t' u' now tot ∧ Bx4 wr w1.heap.size (.int .i64 r) (.int .i64 b) (.int .i64 t) (.int .i64 u) ∧ Bx4 wr (w1.heap.size + 1) (.int .i64 r) (.int .i64 b) (.int .i64 t') (.int .i64 u') ∧ Below w.heap.size w wr) (fun _ _ i _ => 6 - (intOf i).toNat)
  case atStart => exact ⟨0, t, u, u, 0, by omega, rfl, rfl, rfl, HR0.out⟩
  case round =>
    clear HR0
    obtain ⟨k, t', u', now, tot, hk, rfl, rfl, rfl, hI, hx, hy, hbw⟩ := hrel
    have hrw := hr.below' hbw
    have hsz := hbw.size
    have hyl := hy.lt
    by_cases hlt : k < 6
    · have hlt' : (k : Int) < 6 := by omega
      go_wp2_with fail
      have hI' := hI
      obtain ⟨_, j2, j3, j4, j5, j6, _⟩ := hI'
      have hnb : 0 ≤ now ∧ now ≤ 100 := by omega
      have htb : 0 ≤ tot ∧ tot ≤ 48 := by omega
      clear j2 j3 j4 j5 j6
      refine (at_any _ A n c _ _ l hrw hn2 h8 k (by omega) _ rfl).mono ?_
      rintro e w2 ⟨⟨v, rfl, hv0, hv1⟩, rfl⟩
      go_wp2_with fail
      have hb9 : 0 ≤ v % 9 ∧ v % 9 ≤ 8 := by omega
      generalize v % 9 = n1 at hb9 ⊢
      refine (at_any _ A n c _ _ l hrw hn2 h8 (k + 6) (by omega) _ (by omega)).mono ?_
      rintro e w2 ⟨⟨v2, rfl, hv20, hv21⟩, rfl⟩
      obtain ⟨x0, x1, x2, x3, xf0, xf1, xf2, xf3⟩ := hx
      obtain ⟨y0, y1, y2, y3, yf0, yf1, yf2, yf3⟩ := hy
      have hx : Bx4 wr w1.heap.size (.int .i64 r) (.int .i64 b) (.int .i64 t) (.int .i64 u) := ⟨x0, x1, x2, x3, xf0, xf1, xf2, xf3⟩
      have hy : Bx4 wr (w1.heap.size + 1) (.int .i64 r) (.int .i64 b) (.int .i64 t') (.int .i64 u') := ⟨y0, y1, y2, y3, yf0, yf1, yf2, yf3⟩
      go_wp2_with fail
      have hd3 : 0 ≤ v2 % 3 ∧ v2 % 3 ≤ 2 := by omega
      generalize v2 % 3 = d at hd3 ⊢
      refine (iTake_any r b t' u' n1 (now + d) _).mono ?_
      rintro e w4 ⟨rfl, hb4⟩
      obtain ⟨k1, k2, k3, k4⟩ := bk_next (n := n1) (d := d) hI hlt (by omega) hd3.1 hd3.2 hb9.2
      have hs4 := hb4.size
      have hx4 := hx.below' hb4
      have hy4 := hy.below' hb4
      have hbw4 : Below w.heap.size w w4 := below_then hbw hb4 (by omega)
      clear x0 x1 x2 x3 xf0 xf1 xf2 xf3 y0 y1 y2 y3 yf0 yf1 yf2 yf3 hx hy hb4 hbw hrw
      cases hok : inR n1 0 (rfT r b t' u' (now + d))
      · have hI2 := k2 hok
        clear k1 k2 hok
        generalize tkT (rfT r b t' u' (now + d)) n1 = T2 at hI2 k3 ⊢
        generalize rfU r b t' u' (now + d) = U2 at hI2 k3 k4 ⊢
        have HV := hide (fun W => iVB_any r b T2 U2 W)
        rw [k3] at HV
        go_wp2_with fail
        refine (unhide HV _).mono ?_
        rintro e w5 ⟨rfl, hb5⟩
        have hz5 := (Bx4.new w4 27 (.int .i64 r) (.int .i64 b) (.int .i64 T2) (.int .i64 U2)).below' hb5
        have hx5 := (hx4.below' (show Below w4.heap.size w4 (w4.alloc (.cells #[.int .i64 r, .int .i64 b, .int .i64 T2, .int .i64 U2] 27)) from (by (repeat' (first | (with_reducible exact Below.refl _ _) | (with_reducible assumption) | (with_reducible refine Below.alloc ?_ ?_ _) | (with_reducible refine below_ext ?_ ?_ _ _) | (with_reducible refine Below.setCell ?_ ?_ _) | (with_reducible refine Below.drew ?_) | (with_reducible refine below_drewN ?_ _))); all_goals (first | omega | (simp; done) | (simp; omega))))).below' hb5
        have hy5 := (hy4.below' (show Below w4.heap.size w4 (w4.alloc (.cells #[.int .i64 r, .int .i64 b, .int .i64 T2, .int .i64 U2] 27)) from (by (repeat' (first | (with_reducible exact Below.refl _ _) | (with_reducible assumption) | (with_reducible refine Below.alloc ?_ ?_ _) | (with_reducible refine below_ext ?_ ?_ _ _) | (with_reducible refine Below.setCell ?_ ?_ _) | (with_reducible refine Below.drew ?_) | (with_reducible refine below_drewN ?_ _))); all_goals (first | omega | (simp; done) | (simp; omega))))).below' hb5
        have hbw5 : Below w.heap.size w w5 := below_then (show Below w.heap.size w (w4.alloc (.cells #[.int .i64 r, .int .i64 b, .int .i64 T2, .int .i64 U2] 27)) from (by (repeat' (first | (with_reducible exact Below.refl _ _) | (with_reducible assumption) | (with_reducible refine Below.alloc ?_ ?_ _) | (with_reducible refine below_ext ?_ ?_ _ _) | (with_reducible refine Below.setCell ?_ ?_ _) | (with_reducible refine Below.drew ?_) | (with_reducible refine below_drewN ?_ _))); all_goals (first | omega | (simp; done) | (simp; omega)))) hb5 (by simp; omega)
        have HREL := hide (And.intro hI2 (And.intro (hx5.chg (chg4 (w := w5) (Nat.le_refl (w1.heap.size + 1)) (Nat.lt_succ_self _) (.int .i64 r) (.int .i64 b) (.int .i64 T2) (.int .i64 U2)) (.inl (Nat.lt_succ_self _))) (And.intro (hy5.set (.int .i64 r) (.int .i64 b) (.int .i64 T2) (.int .i64 U2)) (show Below w.heap.size w ((((w5.setCell ⟨w1.heap.size + 1, 0, none⟩ (.int .i64 r)).setCell ⟨w1.heap.size + 1, 1, none⟩ (.int .i64 b)).setCell ⟨w1.heap.size + 1, 2, none⟩ (.int .i64 T2)).setCell ⟨w1.heap.size + 1, 3, none⟩ (.int .i64 U2)) from (by (repeat' (first | (with_reducible exact Below.refl _ _) | (with_reducible assumption) | (with_reducible refine Below.alloc ?_ ?_ _) | (with_reducible refine below_ext ?_ ?_ _ _) | (with_reducible refine Below.setCell ?_ ?_ _) | (with_reducible refine Below.drew ?_) | (with_reducible refine below_drewN ?_ _))); all_goals (first | omega | (simp; done) | (simp; omega)))))))
        obtain ⟨x0, x1, x2, x3, xf0, xf1, xf2, xf3⟩ := hx5
        obtain ⟨y0, y1, y2, y3, yf0, yf1, yf2, yf3⟩ := hy5
        obtain ⟨z0, z1, z2, z3, zf0, zf1, zf2, zf3⟩ := hz5
        clear hx4 hy4 hbw4 hb5 hbw5 hI hI2
        go_wp2_with fail
        go_roundw
        case rel => exact ⟨k + 1, T2, U2, now + d, tot, by omega, by go_num, rfl, rfl, HREL.out⟩
        case measure => simp [intOf] <;> omega
      · have hI2 := k1 hok
        clear k1 k2 hok
        generalize tkT (rfT r b t' u' (now + d)) n1 = T2 at hI2 k3 ⊢
        generalize rfU r b t' u' (now + d) = U2 at hI2 k3 k4 ⊢
        have HV := hide (fun W => iVB_any r b T2 U2 W)
        rw [k3] at HV
        have hnl : ¬ U2 < u' := by omega
        go_wp2_with fail
        refine (unhide HV _).mono ?_
        rintro e w5 ⟨rfl, hb5⟩
        have hz5 := (Bx4.new w4 27 (.int .i64 r) (.int .i64 b) (.int .i64 T2) (.int .i64 U2)).below' hb5
        have hx5 := (hx4.below' (show Below w4.heap.size w4 (w4.alloc (.cells #[.int .i64 r, .int .i64 b, .int .i64 T2, .int .i64 U2] 27)) from (by (repeat' (first | (with_reducible exact Below.refl _ _) | (with_reducible assumption) | (with_reducible refine Below.alloc ?_ ?_ _) | (with_reducible refine below_ext ?_ ?_ _ _) | (with_reducible refine Below.setCell ?_ ?_ _) | (with_reducible refine Below.drew ?_) | (with_reducible refine below_drewN ?_ _))); all_goals (first | omega | (simp; done) | (simp; omega))))).below' hb5
        have hy5 := (hy4.below' (show Below w4.heap.size w4 (w4.alloc (.cells #[.int .i64 r, .int .i64 b, .int .i64 T2, .int .i64 U2] 27)) from (by (repeat' (first | (with_reducible exact Below.refl _ _) | (with_reducible assumption) | (with_reducible refine Below.alloc ?_ ?_ _) | (with_reducible refine below_ext ?_ ?_ _ _) | (with_reducible refine Below.setCell ?_ ?_ _) | (with_reducible refine Below.drew ?_) | (with_reducible refine below_drewN ?_ _))); all_goals (first | omega | (simp; done) | (simp; omega))))).below' hb5
        have hbw5 : Below w.heap.size w w5 := below_then (show Below w.heap.size w (w4.alloc (.cells #[.int .i64 r, .int .i64 b, .int .i64 T2, .int .i64 U2] 27)) from (by (repeat' (first | (with_reducible exact Below.refl _ _) | (with_reducible assumption) | (with_reducible refine Below.alloc ?_ ?_ _) | (with_reducible refine below_ext ?_ ?_ _ _) | (with_reducible refine Below.setCell ?_ ?_ _) | (with_reducible refine Below.drew ?_) | (with_reducible refine below_drewN ?_ _))); all_goals (first | omega | (simp; done) | (simp; omega)))) hb5 (by simp; omega)
        have HREL := hide (And.intro hI2 (And.intro (hx5.chg (chg4 (w := w5) (Nat.le_refl (w1.heap.size + 1)) (Nat.lt_succ_self _) (.int .i64 r) (.int .i64 b) (.int .i64 T2) (.int .i64 U2)) (.inl (Nat.lt_succ_self _))) (And.intro (hy5.set (.int .i64 r) (.int .i64 b) (.int .i64 T2) (.int .i64 U2)) (show Below w.heap.size w ((((w5.setCell ⟨w1.heap.size + 1, 0, none⟩ (.int .i64 r)).setCell ⟨w1.heap.size + 1, 1, none⟩ (.int .i64 b)).setCell ⟨w1.heap.size + 1, 2, none⟩ (.int .i64 T2)).setCell ⟨w1.heap.size + 1, 3, none⟩ (.int .i64 U2)) from (by (repeat' (first | (with_reducible exact Below.refl _ _) | (with_reducible assumption) | (with_reducible refine Below.alloc ?_ ?_ _) | (with_reducible refine below_ext ?_ ?_ _ _) | (with_reducible refine Below.setCell ?_ ?_ _) | (with_reducible refine Below.drew ?_) | (with_reducible refine below_drewN ?_ _))); all_goals (first | omega | (simp; done) | (simp; omega)))))))
        obtain ⟨x0, x1, x2, x3, xf0, xf1, xf2, xf3⟩ := hx5
        obtain ⟨y0, y1, y2, y3, yf0, yf1, yf2, yf3⟩ := hy5
        obtain ⟨z0, z1, z2, z3, zf0, zf1, zf2, zf3⟩ := hz5
        clear hx4 hy4 hbw4 hb5 hbw5 hI hI2
        go_wp2_with fail
        go_roundw
        case rel => exact ⟨k + 1, T2, U2, now + d, tot + n1, by omega, by go_num, rfl, rfl, HREL.out⟩
        case measure => simp [intOf] <;> omega
    · have hlt' : ¬ (k : Int) < 6 := by omega
      obtain rfl : k = 6 := by omega
      obtain ⟨e1, e2, e3, e4, e5, e6, e7, e8, e9, e10⟩ := bk_end hv hI
      have HM := hide (fun W => iMaxIn_any r b t u (now - u) W)
      generalize maxIn r b (now - u) = M at HM e1
      have hmul : wrap64 (r * (now - u)) = r * (now - u) := w64_in (by omega) (by omega)
      have hle1 : tot ≤ M := e1
      have hx6 := hx
      obtain ⟨x0, x1, x2, x3, xf0, xf1, xf2, xf3⟩ := hx
      have hy6 := hy
      obtain ⟨y0, y1, y2, y3, yf0, yf1, yf2, yf3⟩ := hy
      clear hI hrw
      go_wp2_with fail
      refine (unhide HM _).mono ?_
      rintro e w5 ⟨rfl, hb5⟩
      have hbw5 : Below w.heap.size w w5 := below_then hbw hb5 (by omega)
      obtain ⟨p0, p1, p2, p3, pf0, pf1, pf2, pf3⟩ := hx6.below' hb5
      obtain ⟨q0, q1, q2, q3, qf0, qf1, qf2, qf3⟩ := hy6.below' hb5
      clear hb5 hbw hx6 hy6 x0 x1 x2 x3 xf0 xf1 xf2 xf3 y0 y1 y2 y3 yf0 yf1 yf2 yf3
      have hfin : decide (t' + tot ≤ wrap64 (t + wrap64 (r * (now - u)))) = true := by
        rw [hmul, w64_in (by omega) (by omega)]
        exact decide_eq_true e2
      go_wp2_with fail
      go_ret
      exact ⟨rfl, hbw5⟩
end Go.Proofs.Ytdjimaoelaekaaa
