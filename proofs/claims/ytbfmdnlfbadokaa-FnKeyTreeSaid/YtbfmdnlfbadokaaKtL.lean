/- The law FnKeyTree, walked. -/
import Derived.Test.YtbfmdnlfbadokaaKtG
import Derived.Test.YtbfmdnlfbadokaaComp
import Derived.Test.YtbfmdnlfbadokaaSameI
namespace Go.Proofs.Ytbfmdnlfbadokaa
open Go.RowKit Go.Sep

theorem big_any (w : World) (A : Option Addr) (n c : Nat) (_hn : n ≤ 9223372036854775807) :
    Calls Try.prog 23 #[.slice A n c] w fun e w' => e = .returned (.bool (decide ((1048576 : Int) < (n : Int)))) ∧ w = w' := by
  go_enter Try.func23, Try.ntmps23
  go_wp2_with fail
  go_ret
  exact ⟨rfl, rfl⟩
theorem u8_in {l : List Int} (h : ∀ x ∈ l, (Lit.int .u8 x).wf = true) : ∀ x ∈ l, 0 ≤ x ∧ x ≤ 255 := fun x hx => by
  have := h x hx
  have hmin : IntKind.u8.min = 0 := rfl
  have hmax : IntKind.u8.max = 255 := rfl
  simp only [Lit.wf, Bool.and_eq_true, decide_eq_true_eq, hmin, hmax] at this
  exact this
theorem comp1 (l p : List Int) : comp [l] p = pre l p := by
  cases h : pre l p <;> simp [comp, fidx, preB, h]
theorem nd1_one {W : World} {lo hi : Nat} {A : Option Addr} {k c : Nat} {l : List Int} (h : Rd W lo hi 1 A k (l.map (.int .i64))) (hc : k ≤ c ∧ c ≤ maxLen) (hlo : lo ≤ W.heap.size) (hhi : hi ≤ W.heap.size) (E : TypeId) :
    Nd1 .i64 (W.alloc (.cells #[.slice A k c] E)) lo (W.heap.size + 1) (some ⟨W.heap.size, 0, none⟩) 1 [l] := by
  refine ⟨[⟨A, k, c, l⟩], ?_, ?_, rfl⟩
  · exact (Rd.fresh W #[.slice A k c] E 1 1 rfl).more hlo (by simp)
  · intro s hs
    obtain rfl := List.mem_singleton.1 hs
    exact ⟨(h.alloc _).more (Nat.le_refl _) (by omega), hc⟩
theorem pre_take {l l' : List Int} {k : Nat} (hl : l.length = k) : decide (l = l'.take k) = pre l l' := by simp [pre, hl]
theorem pre_not {l l' : List Int} (h : l'.length < l.length) : pre l l' = false := by
  cases hp : pre l l'
  · rfl
  · have := pre_len hp; omega
theorem dfR_pre {root : Int} {l l' : List Int} (h : pre l l' = true) : dfR root l l' = l'.foldl dk root := by
  simp only [dfR, h, if_true]
  rw [← List.foldl_append]
  congr 1
  have h2 : l = l'.take l.length := by simpa [pre] using h
  conv => lhs; arg 1; rw [h2]
  exact List.take_append_drop _ _
set_option maxHeartbeats 2000000 in
set_option maxRecDepth 100000 in
theorem fnKeyTree.walk (A : Option Addr) (n c : Nat) (l : List Int) (w : World) (_hl : l.length = n) (hr : Rd w 0 w.heap.size 1 A n (l.map (.int .u8))) (hw : ∀ x ∈ l, (Lit.int .u8 x).wf = true) (hc : n ≤ c ∧ c ≤ maxLen) :
    Calls Try.prog 10 #[.slice A n c] w fun e w' => e = .returned (.bool true) ∧ Below w.heap.size w w' := by
  have hn : n ≤ 9223372036854775807 := by have := hc.1; have := hc.2; unfold maxLen at this; omega
  have HG := hide (fun W => big_any W A n c hn)
  by_cases hbig : (1048576 : Int) < (n : Int)
  · rw [show decide ((1048576 : Int) < (n : Int)) = true by simpa using hbig] at HG
    clear hbig
    go_enter Try.func10, Try.ntmps10
    go_wp2_with (go_at_call 23; refine (unhide HG _).mono ?_; rintro e w' ⟨rfl, rfl⟩)
    go_ret
    exact ⟨rfl, (by (repeat' (first | (with_reducible exact Below.refl _ _) | (with_reducible assumption) | (with_reducible refine Below.alloc ?_ ?_ _) | (with_reducible refine below_ext ?_ ?_ _ _) | (with_reducible refine Below.setCell ?_ ?_ _) | (with_reducible refine Below.drew ?_) | (with_reducible refine below_drewN ?_ _))); all_goals (first | omega | (simp; done) | (simp; omega)))⟩
  rw [show decide ((1048576 : Int) < (n : Int)) = false by simpa using hbig] at HG
  have hn2 : n ≤ 1048576 := by omega
  have h8 := u8_in hw
  clear hbig
  go_enter Try.func10, Try.ntmps10
  go_wp2_with (go_at_call 23; refine (unhide HG _).mono ?_; rintro e w' ⟨rfl, rfl⟩)
  refine (sDrawDF_any _ A n c l hr (by omega) h8).mono ?_
  rintro e w1 ⟨root, A1, A2, k1, k2, c1, c2, L1, L2, rfl, hL1, hk1, hL2, hk2, hr1, hr2, hkc1, hcm1, hkc2, hcm2, hb1⟩
  have hs1 := hb1.size
  have hx1 := (Bx1.new w1 45 (.slice A1 k1 c1)).below' (w' := ((w1.alloc (.cells #[.slice A1 k1 c1] 45)).alloc (.cells #[.slice A2 k2 c2] 45))) (by (repeat' (first | (with_reducible exact Below.refl _ _) | (with_reducible assumption) | (with_reducible refine Below.alloc ?_ ?_ _) | (with_reducible refine below_ext ?_ ?_ _ _) | (with_reducible refine Below.setCell ?_ ?_ _) | (with_reducible refine Below.drew ?_) | (with_reducible refine below_drewN ?_ _))); all_goals (first | omega | (simp; done) | (simp; omega)))
  have hy1 := Bx1.new (w1.alloc (.cells #[.slice A1 k1 c1] 45)) 45 (.slice A2 k2 c2)
  rw [show (w1.alloc (.cells #[.slice A1 k1 c1] 45)).heap.size = w1.heap.size + 1 by simp] at hy1
  have hc2' : c2 ≤ 9223372036854775807 := by unfold maxLen at hcm2; omega
  have HD := hide (fun W h h' => iDF_any W root A1 A2 k1 k2 c1 c2 w.heap.size w1.heap.size w.heap.size w1.heap.size L1 L2 h h' (by omega) hkc2 hc2')
  have HP := hide (fun W h h' => iPre_any W A1 A2 k1 k2 c1 c2 w.heap.size w1.heap.size w.heap.size w1.heap.size L1 L2 h h' (by omega) hkc2 hc2')
  have HC := hide (fun W B lo hi h h' => iComp_any W B A2 1 k2 1 c2 lo hi w.heap.size w1.heap.size [L1] L2 h h' (by omega) hkc2 hc2')
  rw [comp1] at HC
  have HS := hide (fun W h h' => sameInts_any W A1 A2 k1 k1 c1 c2 w.heap.size w1.heap.size w.heap.size w1.heap.size L1 (L2.take k1) h h' (by omega) (by omega))
  rw [pre_take hL1] at HS
  have HK1 := hide (fun W h => iKFP_any W root A1 k1 c1 w.heap.size w1.heap.size L1 h (by omega))
  have HK2 := hide (fun W h => iKFP_any W root A2 k2 c2 w.heap.size w1.heap.size L2 h (by omega))
  cases hq : pre L1 L2
  · rw [hq] at HD HP HC HS
    have hD : dfR root L1 L2 = 0 := by simp [dfR, hq]
    rw [hD] at HD
    clear hD HK1 HK2
    go_wp2_with fail
    refine (unhide HD _ (hr1.below' (by (repeat' (first | (with_reducible exact Below.refl _ _) | (with_reducible assumption) | (with_reducible refine Below.alloc ?_ ?_ _) | (with_reducible refine below_ext ?_ ?_ _ _) | (with_reducible refine Below.setCell ?_ ?_ _) | (with_reducible refine Below.drew ?_) | (with_reducible refine below_drewN ?_ _))); all_goals (first | omega | (simp; done) | (simp; omega)))) (hr2.below' (by (repeat' (first | (with_reducible exact Below.refl _ _) | (with_reducible assumption) | (with_reducible refine Below.alloc ?_ ?_ _) | (with_reducible refine below_ext ?_ ?_ _ _) | (with_reducible refine Below.setCell ?_ ?_ _) | (with_reducible refine Below.drew ?_) | (with_reducible refine below_drewN ?_ _))); all_goals (first | omega | (simp; done) | (simp; omega))))).mono ?_
    rintro e w2 ⟨rfl, hb2⟩
    have hs2 := hb2.size
    simp at hs2
    have hX2 := hx1.below' hb2
    have hY2 := hy1.below' hb2
    have hrA := (hr1.below' (w' := ((w1.alloc (.cells #[.slice A1 k1 c1] 45)).alloc (.cells #[.slice A2 k2 c2] 45))) (by (repeat' (first | (with_reducible exact Below.refl _ _) | (with_reducible assumption) | (with_reducible refine Below.alloc ?_ ?_ _) | (with_reducible refine below_ext ?_ ?_ _ _) | (with_reducible refine Below.setCell ?_ ?_ _) | (with_reducible refine Below.drew ?_) | (with_reducible refine below_drewN ?_ _))); all_goals (first | omega | (simp; done) | (simp; omega)))).below' hb2
    have hrB := (hr2.below' (w' := ((w1.alloc (.cells #[.slice A1 k1 c1] 45)).alloc (.cells #[.slice A2 k2 c2] 45))) (by (repeat' (first | (with_reducible exact Below.refl _ _) | (with_reducible assumption) | (with_reducible refine Below.alloc ?_ ?_ _) | (with_reducible refine below_ext ?_ ?_ _ _) | (with_reducible refine Below.setCell ?_ ?_ _) | (with_reducible refine Below.drew ?_) | (with_reducible refine below_drewN ?_ _))); all_goals (first | omega | (simp; done) | (simp; omega)))).below' hb2
    have hbw2 : Below w.heap.size w w2 := below_then (show Below w.heap.size w ((w1.alloc (.cells #[.slice A1 k1 c1] 45)).alloc (.cells #[.slice A2 k2 c2] 45)) from (by (repeat' (first | (with_reducible exact Below.refl _ _) | (with_reducible assumption) | (with_reducible refine Below.alloc ?_ ?_ _) | (with_reducible refine below_ext ?_ ?_ _ _) | (with_reducible refine Below.setCell ?_ ?_ _) | (with_reducible refine Below.drew ?_) | (with_reducible refine below_drewN ?_ _))); all_goals (first | omega | (simp; done) | (simp; omega)))) hb2 (by simp; omega)
    have HX := hide hX2
    have HY := hide hY2
    obtain ⟨x0, xf0⟩ := hX2
    obtain ⟨y0, yf0⟩ := hY2
    clear hx1 hy1 hb2 hb1 hr1 hr2 HD
    by_cases hkk : k1 ≤ k2
    · have hkk' : (k1 : Int) ≤ (k2 : Int) := by omega
      have hkc' : (k1 : Int) ≤ (c2 : Int) := by omega
      go_wp2_with fail
      go_quiet (((go_at_call 42; refine Calls.quiet_of (unhide HS _ hrA (rd_take1 hrB hkk)))))
      clear HS
      go_wp2_with fail
      refine (unhide HP _ (hrA.drewN _) (hrB.drewN _)).mono ?_
      rintro e w3 ⟨rfl, hb3⟩
      have hb3' : Below w2.heap.size w2 w3 := below_then (show Below w2.heap.size w2 _ from (by (repeat' (first | (with_reducible exact Below.refl _ _) | (with_reducible assumption) | (with_reducible refine Below.alloc ?_ ?_ _) | (with_reducible refine below_ext ?_ ?_ _ _) | (with_reducible refine Below.setCell ?_ ?_ _) | (with_reducible refine Below.drew ?_) | (with_reducible refine below_drewN ?_ _))); all_goals (first | omega | (simp; done) | (simp; omega)))) hb3 (by simp)
      have hs3 := hb3'.size
      have hX3 := HX.out.below' hb3'
      have hY3 := HY.out.below' hb3'
      have hr3 := hrA.below' hb3'
      have hr3' := hrB.below' hb3'
      have hbw3 : Below w.heap.size w w3 := below_then hbw2 hb3' (by omega)
      clear hb3 hb3' HP hrA hrB hbw2 HX HY x0 xf0 y0 yf0
      have HX := hide hX3
      have HY := hide hY3
      obtain ⟨x0, xf0⟩ := hX3
      obtain ⟨y0, yf0⟩ := hY3
      have hlx : w1.heap.size < w3.heap.size := by omega
      have hly : w1.heap.size + 1 < w3.heap.size := by omega
      go_wp2_with fail
      refine (unhide HC _ _ _ _ (nd1_one (hr3.more (lo' := w.heap.size) (hi' := w1.heap.size) (Nat.le_refl _) (Nat.le_refl _)) ⟨hkc1, hcm1⟩ (by omega) (by omega) _) (hr3'.below' (by (repeat' (first | (with_reducible exact Below.refl _ _) | (with_reducible assumption) | (with_reducible refine Below.alloc ?_ ?_ _) | (with_reducible refine below_ext ?_ ?_ _ _) | (with_reducible refine Below.setCell ?_ ?_ _) | (with_reducible refine Below.drew ?_) | (with_reducible refine below_drewN ?_ _))); all_goals (first | omega | (simp; done) | (simp; omega))))).mono ?_
      rintro e w4 ⟨rfl, hb4⟩
      have hb4' : Below w3.heap.size w3 w4 := below_then (show Below w3.heap.size w3 _ from (by (repeat' (first | (with_reducible exact Below.refl _ _) | (with_reducible assumption) | (with_reducible refine Below.alloc ?_ ?_ _) | (with_reducible refine below_ext ?_ ?_ _ _) | (with_reducible refine Below.setCell ?_ ?_ _) | (with_reducible refine Below.drew ?_) | (with_reducible refine below_drewN ?_ _))); all_goals (first | omega | (simp; done) | (simp; omega)))) hb4 (by simp)
      have hs4 := hb4'.size
      have hX4 := HX.out.below' hb4'
      have hY4 := HY.out.below' hb4'
      have hr4 := hr3.below' hb4'
      have hr4' := hr3'.below' hb4'
      have hbw4 : Below w.heap.size w w4 := below_then hbw3 hb4' (by omega)
      clear hb4 hb4' HC hr3 hr3' hbw3 HX HY x0 xf0 y0 yf0
      have HX := hide hX4
      have HY := hide hY4
      obtain ⟨x0, xf0⟩ := hX4
      obtain ⟨y0, yf0⟩ := hY4
      go_wp2_with fail
      go_ret
      exact ⟨rfl, hbw4⟩
    · have hkk' : ¬ (k1 : Int) ≤ (k2 : Int) := by omega
      clear HS
      go_wp2_with fail
      go_quiet (fail)
      go_wp2_with fail
      refine (unhide HP _ (hrA.drewN _) (hrB.drewN _)).mono ?_
      rintro e w3 ⟨rfl, hb3⟩
      have hb3' : Below w2.heap.size w2 w3 := below_then (show Below w2.heap.size w2 _ from (by (repeat' (first | (with_reducible exact Below.refl _ _) | (with_reducible assumption) | (with_reducible refine Below.alloc ?_ ?_ _) | (with_reducible refine below_ext ?_ ?_ _ _) | (with_reducible refine Below.setCell ?_ ?_ _) | (with_reducible refine Below.drew ?_) | (with_reducible refine below_drewN ?_ _))); all_goals (first | omega | (simp; done) | (simp; omega)))) hb3 (by simp)
      have hs3 := hb3'.size
      have hX3 := HX.out.below' hb3'
      have hY3 := HY.out.below' hb3'
      have hr3 := hrA.below' hb3'
      have hr3' := hrB.below' hb3'
      have hbw3 : Below w.heap.size w w3 := below_then hbw2 hb3' (by omega)
      clear hb3 hb3' HP hrA hrB hbw2 HX HY x0 xf0 y0 yf0
      have HX := hide hX3
      have HY := hide hY3
      obtain ⟨x0, xf0⟩ := hX3
      obtain ⟨y0, yf0⟩ := hY3
      have hlx : w1.heap.size < w3.heap.size := by omega
      have hly : w1.heap.size + 1 < w3.heap.size := by omega
      go_wp2_with fail
      refine (unhide HC _ _ _ _ (nd1_one (hr3.more (lo' := w.heap.size) (hi' := w1.heap.size) (Nat.le_refl _) (Nat.le_refl _)) ⟨hkc1, hcm1⟩ (by omega) (by omega) _) (hr3'.below' (by (repeat' (first | (with_reducible exact Below.refl _ _) | (with_reducible assumption) | (with_reducible refine Below.alloc ?_ ?_ _) | (with_reducible refine below_ext ?_ ?_ _ _) | (with_reducible refine Below.setCell ?_ ?_ _) | (with_reducible refine Below.drew ?_) | (with_reducible refine below_drewN ?_ _))); all_goals (first | omega | (simp; done) | (simp; omega))))).mono ?_
      rintro e w4 ⟨rfl, hb4⟩
      have hb4' : Below w3.heap.size w3 w4 := below_then (show Below w3.heap.size w3 _ from (by (repeat' (first | (with_reducible exact Below.refl _ _) | (with_reducible assumption) | (with_reducible refine Below.alloc ?_ ?_ _) | (with_reducible refine below_ext ?_ ?_ _ _) | (with_reducible refine Below.setCell ?_ ?_ _) | (with_reducible refine Below.drew ?_) | (with_reducible refine below_drewN ?_ _))); all_goals (first | omega | (simp; done) | (simp; omega)))) hb4 (by simp)
      have hs4 := hb4'.size
      have hX4 := HX.out.below' hb4'
      have hY4 := HY.out.below' hb4'
      have hr4 := hr3.below' hb4'
      have hr4' := hr3'.below' hb4'
      have hbw4 : Below w.heap.size w w4 := below_then hbw3 hb4' (by omega)
      clear hb4 hb4' HC hr3 hr3' hbw3 HX HY x0 xf0 y0 yf0
      have HX := hide hX4
      have HY := hide hY4
      obtain ⟨x0, xf0⟩ := hX4
      obtain ⟨y0, yf0⟩ := hY4
      go_wp2_with fail
      go_ret
      exact ⟨rfl, hbw4⟩
  · have hle := pre_len hq
    have hD := dfR_pre (root := root) hq
    have hkk : k1 ≤ k2 := by omega
    rw [hq] at HD HP HC HS
    rw [hD] at HD
    have hkk' : (k1 : Int) ≤ (k2 : Int) := by omega
    have hkc' : (k1 : Int) ≤ (c2 : Int) := by omega
    clear hD hle
    go_wp2_with fail
    refine (unhide HD _ (hr1.below' (by (repeat' (first | (with_reducible exact Below.refl _ _) | (with_reducible assumption) | (with_reducible refine Below.alloc ?_ ?_ _) | (with_reducible refine below_ext ?_ ?_ _ _) | (with_reducible refine Below.setCell ?_ ?_ _) | (with_reducible refine Below.drew ?_) | (with_reducible refine below_drewN ?_ _))); all_goals (first | omega | (simp; done) | (simp; omega)))) (hr2.below' (by (repeat' (first | (with_reducible exact Below.refl _ _) | (with_reducible assumption) | (with_reducible refine Below.alloc ?_ ?_ _) | (with_reducible refine below_ext ?_ ?_ _ _) | (with_reducible refine Below.setCell ?_ ?_ _) | (with_reducible refine Below.drew ?_) | (with_reducible refine below_drewN ?_ _))); all_goals (first | omega | (simp; done) | (simp; omega))))).mono ?_
    rintro e w2 ⟨rfl, hb2⟩
    have hs2 := hb2.size
    simp at hs2
    have hX2 := hx1.below' hb2
    have hY2 := hy1.below' hb2
    have hrA := (hr1.below' (w' := ((w1.alloc (.cells #[.slice A1 k1 c1] 45)).alloc (.cells #[.slice A2 k2 c2] 45))) (by (repeat' (first | (with_reducible exact Below.refl _ _) | (with_reducible assumption) | (with_reducible refine Below.alloc ?_ ?_ _) | (with_reducible refine below_ext ?_ ?_ _ _) | (with_reducible refine Below.setCell ?_ ?_ _) | (with_reducible refine Below.drew ?_) | (with_reducible refine below_drewN ?_ _))); all_goals (first | omega | (simp; done) | (simp; omega)))).below' hb2
    have hrB := (hr2.below' (w' := ((w1.alloc (.cells #[.slice A1 k1 c1] 45)).alloc (.cells #[.slice A2 k2 c2] 45))) (by (repeat' (first | (with_reducible exact Below.refl _ _) | (with_reducible assumption) | (with_reducible refine Below.alloc ?_ ?_ _) | (with_reducible refine below_ext ?_ ?_ _ _) | (with_reducible refine Below.setCell ?_ ?_ _) | (with_reducible refine Below.drew ?_) | (with_reducible refine below_drewN ?_ _))); all_goals (first | omega | (simp; done) | (simp; omega)))).below' hb2
    have hbw2 : Below w.heap.size w w2 := below_then (show Below w.heap.size w ((w1.alloc (.cells #[.slice A1 k1 c1] 45)).alloc (.cells #[.slice A2 k2 c2] 45)) from (by (repeat' (first | (with_reducible exact Below.refl _ _) | (with_reducible assumption) | (with_reducible refine Below.alloc ?_ ?_ _) | (with_reducible refine below_ext ?_ ?_ _ _) | (with_reducible refine Below.setCell ?_ ?_ _) | (with_reducible refine Below.drew ?_) | (with_reducible refine below_drewN ?_ _))); all_goals (first | omega | (simp; done) | (simp; omega)))) hb2 (by simp; omega)
    have HX := hide hX2
    have HY := hide hY2
    obtain ⟨x0, xf0⟩ := hX2
    obtain ⟨y0, yf0⟩ := hY2
    clear hx1 hy1 hb2 hb1 hr1 hr2 HD
    go_wp2_with fail
    go_quiet (((go_at_call 42; refine Calls.quiet_of (unhide HS _ hrA (rd_take1 hrB hkk)))))
    go_wp2_with fail
    refine (unhide HP _ (hrA.drewN _) (hrB.drewN _)).mono ?_
    rintro e w3 ⟨rfl, hb3⟩
    have hb3' : Below w2.heap.size w2 w3 := below_then (show Below w2.heap.size w2 _ from (by (repeat' (first | (with_reducible exact Below.refl _ _) | (with_reducible assumption) | (with_reducible refine Below.alloc ?_ ?_ _) | (with_reducible refine below_ext ?_ ?_ _ _) | (with_reducible refine Below.setCell ?_ ?_ _) | (with_reducible refine Below.drew ?_) | (with_reducible refine below_drewN ?_ _))); all_goals (first | omega | (simp; done) | (simp; omega)))) hb3 (by simp)
    have hs3 := hb3'.size
    have hX3 := HX.out.below' hb3'
    have hY3 := HY.out.below' hb3'
    have hr3 := hrA.below' hb3'
    have hr3' := hrB.below' hb3'
    have hbw3 : Below w.heap.size w w3 := below_then hbw2 hb3' (by omega)
    clear hb3 hb3' HP hrA hrB hbw2 HX HY x0 xf0 y0 yf0
    have HX := hide hX3
    have HY := hide hY3
    obtain ⟨x0, xf0⟩ := hX3
    obtain ⟨y0, yf0⟩ := hY3
    have hlx : w1.heap.size < w3.heap.size := by omega
    have hly : w1.heap.size + 1 < w3.heap.size := by omega
    go_wp2_with fail
    refine (unhide HC _ _ _ _ (nd1_one (hr3.more (lo' := w.heap.size) (hi' := w1.heap.size) (Nat.le_refl _) (Nat.le_refl _)) ⟨hkc1, hcm1⟩ (by omega) (by omega) _) (hr3'.below' (by (repeat' (first | (with_reducible exact Below.refl _ _) | (with_reducible assumption) | (with_reducible refine Below.alloc ?_ ?_ _) | (with_reducible refine below_ext ?_ ?_ _ _) | (with_reducible refine Below.setCell ?_ ?_ _) | (with_reducible refine Below.drew ?_) | (with_reducible refine below_drewN ?_ _))); all_goals (first | omega | (simp; done) | (simp; omega))))).mono ?_
    rintro e w4 ⟨rfl, hb4⟩
    have hb4' : Below w3.heap.size w3 w4 := below_then (show Below w3.heap.size w3 _ from (by (repeat' (first | (with_reducible exact Below.refl _ _) | (with_reducible assumption) | (with_reducible refine Below.alloc ?_ ?_ _) | (with_reducible refine below_ext ?_ ?_ _ _) | (with_reducible refine Below.setCell ?_ ?_ _) | (with_reducible refine Below.drew ?_) | (with_reducible refine below_drewN ?_ _))); all_goals (first | omega | (simp; done) | (simp; omega)))) hb4 (by simp)
    have hs4 := hb4'.size
    have hX4 := HX.out.below' hb4'
    have hY4 := HY.out.below' hb4'
    have hr4 := hr3.below' hb4'
    have hr4' := hr3'.below' hb4'
    have hbw4 : Below w.heap.size w w4 := below_then hbw3 hb4' (by omega)
    clear hb4 hb4' HC hr3 hr3' hbw3 HX HY x0 xf0 y0 yf0
    have HX := hide hX4
    have HY := hide hY4
    obtain ⟨x0, xf0⟩ := hX4
    obtain ⟨y0, yf0⟩ := hY4
    go_wp2_with fail
    refine (unhide HK1 _ hr4).mono ?_
    rintro e w5 ⟨rfl, hb5⟩
    have hs5 := hb5.size
    have hX5 := HX.out.below' hb5
    have hY5 := HY.out.below' hb5
    have hr5 := hr4'.below' hb5
    have hbw5 : Below w.heap.size w w5 := below_then hbw4 hb5 (by omega)
    have hfold : L1.foldl dk root = (L2.take k1).foldl dk root := by
      congr 1
      have : decide (L1 = L2.take k1) = true := (pre_take hL1).trans hq
      simpa using this
    rw [hfold]
    clear hb5 hbw4 HX HY x0 xf0 y0 yf0 hr4 hr4' hfold
    have HREL := hide (And.intro hX5 (And.intro hY5 (And.intro hr5 hbw5)))
    obtain ⟨x0, xf0⟩ := hX5
    clear hY5 hr5 hbw5 HK1
    go_wp2_with fail
    clear x0 xf0
    go_loopw [9, 10] (fun x i wr => ∃ (k : Nat) (a : Int), k1 ≤ k ∧ k ≤ k2 ∧ i = .int .i64 k ∧ x = .int .i64 a ∧ Hid (a = (L2.take k).foldl dk root) ∧ Bx1 wr w1.heap.size (.slice A1 k1 c1) ∧ Bx1 wr (w1.heap.size + 1) (.slice A2 k2 c2) ∧ Rd wr w.heap.size w1.heap.size 1 A2 k2 (L2.map (.int .i64)) ∧ Below w.heap.size w wr) (fun _ i _ => k2 - (intOf i).toNat)
    case atStart => exact ⟨k1, _, by omega, by omega, rfl, rfl, hide rfl, HREL.out⟩
    case round =>
      clear HREL
      obtain ⟨k, a, hk0, hk, rfl, rfl, HA, hX, hY, hrk, hbw⟩ := hrel
      have hsz := hbw.size
      have HX := hide hX
      have HY := hide hY
      obtain ⟨y0, yf0⟩ := hY
      clear hX
      by_cases hlt : k < k2
      · have hltI : (k : Int) < (k2 : Int) := by omega
        obtain ⟨b, o, rfl, _, _, hcell⟩ := hrk.at_ (j := k) (by omega)
        have hkl : k < L2.length := by omega
        have hx := hcell k (.int .i64 L2[k]) (by simp [hkl])
        have HF := hide (dk_snoc L2 root k L2[k] (List.getElem?_eq_getElem hkl))
        generalize L2[k] = z at hx HF
        have HR := hide hrk
        clear hcell hkl hrk
        go_wp2_with fail
        refine (iDK_any _ _ _).mono ?_
        rintro e w6 ⟨rfl, hb6⟩
        have HREL := hide (And.intro (HX.out.below' hb6) (And.intro (HY.out.below' hb6) (And.intro (HR.out.below' hb6) (below_then hbw hb6 hsz))))
        clear y0 yf0 hx hb6 hbw
        go_wp2_with fail
        go_roundw
        case rel => exact ⟨k + 1, _, by omega, by omega, by go_num, rfl, hide (by rw [HF.out, ← HA.out]), HREL.out⟩
        case measure => simp [intOf] <;> omega
      · have hltI : ¬ (k : Int) < (k2 : Int) := by omega
        obtain rfl : k = k2 := by omega
        have HE := hide (show a = L2.foldl dk root by rw [HA.out, List.take_of_length_le (by omega)])
        rw [← HE.out] at HK2 ⊢
        go_wp2_with fail
        refine (unhide HK2 _ hrk).mono ?_
        rintro e w6 ⟨rfl, hb6⟩
        have hbw6 : Below w.heap.size w w6 := below_then hbw hb6 hsz
        clear hb6 hbw y0 yf0
        have HN := hide (iKFP_any w6 root none 0 0 0 0 [] (Rd.nil_ w6 0 0 1 none) (by omega))
        simp only [List.foldl_nil] at HN
        go_wp2_with fail
        refine (unhide HN).mono ?_
        rintro e w7 ⟨rfl, hb7⟩
        have hbw7 : Below w.heap.size w w7 := below_then hbw6 hb7 hbw6.size
        clear hb7 hbw6
        go_wp2_with fail
        go_ret
        exact ⟨rfl, hbw7⟩
end Go.Proofs.Ytbfmdnlfbadokaa
