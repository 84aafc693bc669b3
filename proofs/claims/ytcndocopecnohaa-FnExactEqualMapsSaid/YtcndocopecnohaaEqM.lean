/- EqualMaps: what both functions return. -/
import Derived.Test.YtcndocopecnohaaMap
namespace Go.Proofs.Ytcndocopecnohaa
open Go.RowKit Go.Sep

theorem take_succ_eq {α : Type} {l l' : List α} {k : Nat} {z z' : α} (h : l[k]? = some z) (h' : l'[k]? = some z') (he : l.take k = l'.take k) (hz : z = z') : l.take (k + 1) = l'.take (k + 1) := by
  obtain ⟨hk, e⟩ := List.getElem?_eq_some_iff.1 h
  obtain ⟨hk', e'⟩ := List.getElem?_eq_some_iff.1 h'
  rw [List.take_succ_eq_append_getElem hk, List.take_succ_eq_append_getElem hk', he, e, e', hz]

/-- slices.Equal at []int. -/
theorem slEq_any (w : World) (A B : Option Addr) (n m c c' lo hi lo' hi' : Nat) (l l' : List Int) (hr : Rd w lo hi 1 A n (l.map (.int .i64))) (hr' : Rd w lo' hi' 1 B m (l'.map (.int .i64))) (hn : n ≤ 9223372036854775807) (hm : m ≤ 9223372036854775807) :
    Calls Try.prog 53 #[.slice A n c, .slice B m c'] w fun e w' => e = .returned (.bool (decide (l = l'))) ∧ ∃ d, w' = w.drewN d := by
  have hlen : l.length = n := by simpa using hr.len
  have hlen' : l'.length = m := by simpa using hr'.len
  by_cases hnm : n = m
  · subst hnm
    go_enter Try.func53, Try.ntmps53
    go_wp2_with fail
    go_loopw [13] (fun i wr => ∃ k : Nat, k ≤ n ∧ i = .int .i64 k ∧ Hid (l.take k = l'.take k) ∧ ∃ d, wr = w.drewN d) (fun i _ => n - (intOf i).toNat)
    case atStart => exact ⟨0, Nat.zero_le _, rfl, hide rfl, 0, rfl⟩
    case round =>
      obtain ⟨k, hk, rfl, HE, d, rfl⟩ := hrel
      by_cases hlt : k < n
      · obtain ⟨b, o, rfl, _, _, hcell⟩ := hr.at_ (j := k) (by omega)
        obtain ⟨b', o', rfl, _, _, hcell'⟩ := hr'.at_ (j := k) (by omega)
        have hx := hcell k (.int .i64 (l[k]'(by omega))) (by simp [show k < l.length by omega])
        have hx' := hcell' k (.int .i64 (l'[k]'(by omega))) (by simp [show k < l'.length by omega])
        have HS := hide (show l[k]'(by omega) = l'[k]'(by omega) → l.take (k + 1) = l'.take (k + 1) from fun hz => take_succ_eq (List.getElem?_eq_getElem (show k < l.length by omega)) (List.getElem?_eq_getElem (show k < l'.length by omega)) HE.out hz)
        have HN := hide (show l[k]'(by omega) ≠ l'[k]'(by omega) → decide (l = l') = false from fun hne => by
          rw [decide_eq_false_iff_not]
          rintro rfl
          exact hne rfl)
        generalize l[k]'(by omega) = z at hx HS HN
        generalize l'[k]'(by omega) = z' at hx' HS HN
        clear hcell hcell' hr hr' HE
        have hlt' : (k : Int) < (n : Int) := by omega
        by_cases hz : z = z'
        · subst hz
          go_wp2_with fail
          go_quiet (fail)
          go_wp2_with fail
          go_roundw
          case rel => exact ⟨k + 1, by omega, by go_num, hide (by simpa using HS.out), (by first | exact ⟨_, rfl⟩ | exact ⟨_, World.drewN_drewN _ _ _⟩)⟩
          case measure => simp [intOf] <;> omega
        · have HF := hide (HN.out hz)
          have hne : (z != z') = true := by simpa using hz
          have hne2 : (z == z') = false := by simpa using hz
          have HZ := hide hz
          clear hz
          go_wp2_with fail
          go_quiet (fail)
          go_wp2_with fail
          go_ret
          exact ⟨ret_bool HF.out.symm, (by first | exact ⟨_, rfl⟩ | exact ⟨_, World.drewN_drewN _ _ _⟩)⟩
      · have HF := hide (show decide (l = l') = true by
          have := HE.out
          rw [List.take_of_length_le (by omega), List.take_of_length_le (by omega)] at this
          simpa using this)
        go_wp2_with fail
        go_ret
        exact ⟨ret_bool HF.out.symm, _, rfl⟩
  · have HF := hide (show decide (l = l') = false by
      rw [decide_eq_false_iff_not]
      rintro rfl
      omega)
    have hne : ((n : Int) != (m : Int)) = true := by simp; omega
    have hne2 : ((n : Int) == (m : Int)) = false := by simp; omega
    have HM := hide hnm
    clear hnm
    go_enter Try.func53, Try.ntmps53
    go_wp2_with fail
    go_ret
    exact ⟨ret_bool HF.out.symm, 0, rfl⟩
theorem iEqInts_any (w : World) (A B : Option Addr) (n m c c' lo hi lo' hi' : Nat) (l l' : List Int) (hr : Rd w lo hi 1 A n (l.map (.int .i64))) (hr' : Rd w lo' hi' 1 B m (l'.map (.int .i64))) (hn : n ≤ 9223372036854775807) (hm : m ≤ 9223372036854775807) :
    Calls Try.prog 44 #[.slice A n c, .slice B m c'] w fun e w' => e = .returned (.bool (decide (l = l'))) ∧ ∃ d, w' = w.drewN d := by
  have HE := hide (slEq_any w A B n m c c' lo hi lo' hi' l l' hr hr' hn hm)
  generalize decide (l = l') = q at HE ⊢
  go_enter Try.func44, Try.ntmps44
  go_wp2_with (go_at_call 53; refine (unhide HE).mono ?_; rintro e w1 ⟨rfl, d1, rfl⟩)
  go_ret
  exact ⟨rfl, d1, rfl⟩


theorem sEqInts_any (w : World) (A B : Option Addr) (n m c c' lo hi lo' hi' : Nat) (l l' : List Int) (hr : Rd w lo hi 1 A n (l.map (.int .i64))) (hr' : Rd w lo' hi' 1 B m (l'.map (.int .i64))) (hn : n ≤ 9223372036854775807) (hm : m ≤ 9223372036854775807) :
    Calls Try.prog 41 #[.slice A n c, .slice B m c'] w fun e w' => e = .returned (.bool (decide (l = l'))) ∧ ∃ d, w' = w.drewN d := by
  have hlen : l.length = n := by simpa using hr.len
  have hlen' : l'.length = m := by simpa using hr'.len
  by_cases hnm : n = m
  · subst hnm
    go_enter Try.func41, Try.ntmps41
    go_wp2_with fail
    go_loopw [5] (fun i wr => ∃ k : Nat, k ≤ n ∧ i = .int .i64 k ∧ Hid (l.take k = l'.take k) ∧ ∃ d, wr = w.drewN d) (fun i _ => n - (intOf i).toNat)
    case atStart => exact ⟨0, Nat.zero_le _, rfl, hide rfl, 0, rfl⟩
    case round =>
      obtain ⟨k, hk, rfl, HE, d, rfl⟩ := hrel
      by_cases hlt : k < n
      · obtain ⟨b, o, rfl, _, _, hcell⟩ := hr.at_ (j := k) (by omega)
        obtain ⟨b', o', rfl, _, _, hcell'⟩ := hr'.at_ (j := k) (by omega)
        have hx := hcell k (.int .i64 (l[k]'(by omega))) (by simp [show k < l.length by omega])
        have hx' := hcell' k (.int .i64 (l'[k]'(by omega))) (by simp [show k < l'.length by omega])
        have HS := hide (show l[k]'(by omega) = l'[k]'(by omega) → l.take (k + 1) = l'.take (k + 1) from fun hz => take_succ_eq (List.getElem?_eq_getElem (show k < l.length by omega)) (List.getElem?_eq_getElem (show k < l'.length by omega)) HE.out hz)
        have HN := hide (show l[k]'(by omega) ≠ l'[k]'(by omega) → decide (l = l') = false from fun hne => by
          rw [decide_eq_false_iff_not]
          rintro rfl
          exact hne rfl)
        generalize l[k]'(by omega) = z at hx HS HN
        generalize l'[k]'(by omega) = z' at hx' HS HN
        clear hcell hcell' hr hr' HE
        have hlt' : (k : Int) < (n : Int) := by omega
        by_cases hz : z = z'
        · subst hz
          go_wp2_with fail
          go_quiet (fail)
          go_wp2_with fail
          go_roundw
          case rel => exact ⟨k + 1, by omega, by go_num, hide (by simpa using HS.out), (by first | exact ⟨_, rfl⟩ | exact ⟨_, World.drewN_drewN _ _ _⟩)⟩
          case measure => simp [intOf] <;> omega
        · have HF := hide (HN.out hz)
          have hne : (z != z') = true := by simpa using hz
          have hne2 : (z == z') = false := by simpa using hz
          have HZ := hide hz
          clear hz
          go_wp2_with fail
          go_quiet (fail)
          go_wp2_with fail
          go_ret
          exact ⟨ret_bool HF.out.symm, (by first | exact ⟨_, rfl⟩ | exact ⟨_, World.drewN_drewN _ _ _⟩)⟩
      · have HF := hide (show decide (l = l') = true by
          have := HE.out
          rw [List.take_of_length_le (by omega), List.take_of_length_le (by omega)] at this
          simpa using this)
        go_wp2_with fail
        go_ret
        exact ⟨ret_bool HF.out.symm, _, rfl⟩
  · have HF := hide (show decide (l = l') = false by
      rw [decide_eq_false_iff_not]
      rintro rfl
      omega)
    have hne : ((n : Int) != (m : Int)) = true := by simp; omega
    have hne2 : ((n : Int) == (m : Int)) = false := by simp; omega
    have HM := hide hnm
    clear hnm
    go_enter Try.func41, Try.ntmps41
    go_wp2_with fail
    go_ret
    exact ⟨ret_bool HF.out.symm, 0, rfl⟩

def ceq (a b : Int × List Int) : Bool := (a.1 == b.1) && decide (a.2 = b.2)
theorem ceq_iff {a b : Int × List Int} : ceq a b = true ↔ a = b := by
  obtain ⟨x, s⟩ := a
  obtain ⟨y, t⟩ := b
  simp [ceq]
theorem iClo_any (w : World) (A B : Option Addr) (n m c c' lo hi lo' hi' : Nat) (x y : Int) (l l' : List Int) (hr : Rd w lo hi 1 A n (l.map (.int .i64))) (hr' : Rd w lo' hi' 1 B m (l'.map (.int .i64))) (hn : n ≤ 9223372036854775807) (hm : m ≤ 9223372036854775807) :
    Calls Try.prog 43 #[.agg #[.int .i64 x, .slice A n c], .agg #[.int .i64 y, .slice B m c']] w fun e w' => e = .returned (.bool (ceq (x, l) (y, l'))) ∧ Below w.heap.size w w' := by
  have HE := hide (fun W h h' => iEqInts_any W A B n m c c' lo hi lo' hi' l l' h h' hn hm)
  unfold ceq
  simp only
  generalize decide (l = l') = q at HE ⊢
  cases he : (x == y)
  · go_enter Try.func43, Try.ntmps43
    go_wp2_with fail
    go_ret
    exact ⟨rfl, (by (repeat' (first | (with_reducible exact Below.refl _ _) | (with_reducible assumption) | (with_reducible refine Below.alloc ?_ ?_ _) | (with_reducible refine below_ext ?_ ?_ _ _) | (with_reducible refine Below.setCell ?_ ?_ _) | (with_reducible refine Below.drew ?_) | (with_reducible refine below_drewN ?_ _))); all_goals (first | omega | (simp; done) | (simp; omega)))⟩
  · go_enter Try.func43, Try.ntmps43
    go_wp2_with (go_at_call 44; refine (unhide HE _ (hr.below' (by (repeat' (first | (with_reducible exact Below.refl _ _) | (with_reducible assumption) | (with_reducible refine Below.alloc ?_ ?_ _) | (with_reducible refine below_ext ?_ ?_ _ _) | (with_reducible refine Below.setCell ?_ ?_ _) | (with_reducible refine Below.drew ?_) | (with_reducible refine below_drewN ?_ _))); all_goals (first | omega | (simp; done) | (simp; omega)))) (hr'.below' (by (repeat' (first | (with_reducible exact Below.refl _ _) | (with_reducible assumption) | (with_reducible refine Below.alloc ?_ ?_ _) | (with_reducible refine below_ext ?_ ?_ _ _) | (with_reducible refine Below.setCell ?_ ?_ _) | (with_reducible refine Below.drew ?_) | (with_reducible refine below_drewN ?_ _))); all_goals (first | omega | (simp; done) | (simp; omega))))).mono ?_; rintro e w1 ⟨rfl, d1, rfl⟩)
    go_ret
    exact ⟨rfl, (by (repeat' (first | (with_reducible exact Below.refl _ _) | (with_reducible assumption) | (with_reducible refine Below.alloc ?_ ?_ _) | (with_reducible refine below_ext ?_ ?_ _ _) | (with_reducible refine Below.setCell ?_ ?_ _) | (with_reducible refine Below.drew ?_) | (with_reducible refine below_drewN ?_ _))); all_goals (first | omega | (simp; done) | (simp; omega)))⟩
set_option maxRecDepth 100000 in
theorem eqFn_any (w : World) (A B : Option Addr) (n m c c' lo hi lo' hi' : Nat) (l l' : CM) (hr : Nd2 .i64 w lo hi A n l) (hr' : Nd2 .i64 w lo' hi' B m l') (hn : n ≤ 1048576) (hm : m ≤ 1048576) (hs : ndSum2 l ≤ 1048576) (hs' : ndSum2 l' ≤ 1048576) :
    Calls Try.prog 42 #[.slice A n c, .slice B m c', .func (.func 43) #[] #[]] w fun e w' => e = .returned (.bool (decide (l = l'))) ∧ Below w.heap.size w w' := by
  have hlen := hr.len
  have hlen' := hr'.len
  by_cases hnm : n = m
  · subst hnm
    go_enter Try.func42, Try.ntmps42
    go_wp2_with fail
    go_loopw [17] (fun i wr => ∃ k : Nat, k ≤ n ∧ i = .int .i64 k ∧ Hid (l.take k = l'.take k) ∧ Below w.heap.size w wr) (fun i _ => n - (intOf i).toNat)
    case atStart => exact ⟨0, Nat.zero_le _, rfl, hide rfl, (by (repeat' (first | (with_reducible exact Below.refl _ _) | (with_reducible assumption) | (with_reducible refine Below.alloc ?_ ?_ _) | (with_reducible refine below_ext ?_ ?_ _ _) | (with_reducible refine Below.setCell ?_ ?_ _) | (with_reducible refine Below.drew ?_) | (with_reducible refine below_drewN ?_ _))); all_goals (first | omega | (simp; done) | (simp; omega)))⟩
    case round =>
      obtain ⟨k, hk, rfl, HE, hb⟩ := hrel
      by_cases hlt : k < n
      · obtain ⟨b, o, x, ⟨sA, sn, sc, sl⟩, rfl, hbl, hx, hx0, hx1, hs1⟩ := (hr.below' hb).at_ hlt
        obtain ⟨b', o', y, ⟨tA, tn, tc, tl⟩, rfl, hbl', hy, hy0, hy1, ht1⟩ := (hr'.below' hb).at_ hlt
        obtain rfl : sl.length = sn := by simpa using hs1.1.len
        obtain rfl : tl.length = tn := by simpa using ht1.1.len
        have hsum := ndSum2_le hx
        have hsum' := ndSum2_le hy
        simp only at hsum hsum' hx hy hx1 hy1
        have HP := hide (fun W h h' => iClo_any W sA tA sl.length tl.length sc tc lo hi lo' hi' x y sl tl h h' (by omega) (by omega))
        have HS := hide hs1.1
        have HT := hide ht1.1
        have hkn : (k : Int) < (n : Int) := by omega
        cases he : ceq (x, sl) (y, tl)
        · rw [he] at HP
          have HF := hide (show decide (l = l') = false by
            rw [decide_eq_false_iff_not]
            rintro rfl
            rw [hx] at hy
            injection hy with hy
            rw [ceq_iff.2 hy] at he
            cases he)
          clear hr hr' hx hy hs1 ht1 he HE
          go_wp2_with (go_at_call 43; refine (unhide HP _ (HS.out.below' (by (repeat' (first | (with_reducible exact Below.refl _ _) | (with_reducible assumption) | (with_reducible refine Below.alloc ?_ ?_ _) | (with_reducible refine below_ext ?_ ?_ _ _) | (with_reducible refine Below.setCell ?_ ?_ _) | (with_reducible refine Below.drew ?_) | (with_reducible refine below_drewN ?_ _))); all_goals (first | omega | (simp; done) | (simp; omega)))) (HT.out.below' (by (repeat' (first | (with_reducible exact Below.refl _ _) | (with_reducible assumption) | (with_reducible refine Below.alloc ?_ ?_ _) | (with_reducible refine below_ext ?_ ?_ _ _) | (with_reducible refine Below.setCell ?_ ?_ _) | (with_reducible refine Below.drew ?_) | (with_reducible refine below_drewN ?_ _))); all_goals (first | omega | (simp; done) | (simp; omega))))).mono ?_; rintro e w1 ⟨rfl, hb1⟩; obtain ⟨os1, d1, rfl⟩ := ext_of_below hb1; clear hb1)
          go_ret
          exact ⟨ret_bool HF.out.symm, below_then (B' := wr.heap.size) hb (by (repeat' (first | (with_reducible exact Below.refl _ _) | (with_reducible assumption) | (with_reducible refine Below.alloc ?_ ?_ _) | (with_reducible refine below_ext ?_ ?_ _ _) | (with_reducible refine Below.setCell ?_ ?_ _) | (with_reducible refine Below.drew ?_) | (with_reducible refine below_drewN ?_ _))); all_goals (first | omega | (simp; done) | (simp; omega))) hb.size⟩
        · rw [he] at HP
          have HF := hide (take_succ_eq hx hy HE.out (ceq_iff.1 he))
          clear hr hr' hx hy hs1 ht1 he HE
          go_wp2_with (go_at_call 43; refine (unhide HP _ (HS.out.below' (by (repeat' (first | (with_reducible exact Below.refl _ _) | (with_reducible assumption) | (with_reducible refine Below.alloc ?_ ?_ _) | (with_reducible refine below_ext ?_ ?_ _ _) | (with_reducible refine Below.setCell ?_ ?_ _) | (with_reducible refine Below.drew ?_) | (with_reducible refine below_drewN ?_ _))); all_goals (first | omega | (simp; done) | (simp; omega)))) (HT.out.below' (by (repeat' (first | (with_reducible exact Below.refl _ _) | (with_reducible assumption) | (with_reducible refine Below.alloc ?_ ?_ _) | (with_reducible refine below_ext ?_ ?_ _ _) | (with_reducible refine Below.setCell ?_ ?_ _) | (with_reducible refine Below.drew ?_) | (with_reducible refine below_drewN ?_ _))); all_goals (first | omega | (simp; done) | (simp; omega))))).mono ?_; rintro e w1 ⟨rfl, hb1⟩; obtain ⟨os1, d1, rfl⟩ := ext_of_below hb1; clear hb1)
          go_roundw
          case rel => exact ⟨k + 1, by omega, by go_num, HF, below_then (B' := wr.heap.size) hb (by (repeat' (first | (with_reducible exact Below.refl _ _) | (with_reducible assumption) | (with_reducible refine Below.alloc ?_ ?_ _) | (with_reducible refine below_ext ?_ ?_ _ _) | (with_reducible refine Below.setCell ?_ ?_ _) | (with_reducible refine Below.drew ?_) | (with_reducible refine below_drewN ?_ _))); all_goals (first | omega | (simp; done) | (simp; omega))) hb.size⟩
          case measure => simp [intOf] <;> omega
      · have HF := hide (show decide (l = l') = true by
          have := HE.out
          rw [List.take_of_length_le (by omega), List.take_of_length_le (by omega)] at this
          simpa using this)
        go_wp2_with fail
        go_ret
        exact ⟨ret_bool HF.out.symm, (by (repeat' (first | (with_reducible exact Below.refl _ _) | (with_reducible assumption) | (with_reducible refine Below.alloc ?_ ?_ _) | (with_reducible refine below_ext ?_ ?_ _ _) | (with_reducible refine Below.setCell ?_ ?_ _) | (with_reducible refine Below.drew ?_) | (with_reducible refine below_drewN ?_ _))); all_goals (first | omega | (simp; done) | (simp; omega)))⟩
  · have HF := hide (show decide (l = l') = false by
      rw [decide_eq_false_iff_not]
      rintro rfl
      omega)
    have hne : ((n : Int) != (m : Int)) = true := by simp; omega
    have hne2 : ((n : Int) == (m : Int)) = false := by simp; omega
    clear hnm
    go_enter Try.func42, Try.ntmps42
    go_wp2_with fail
    go_ret
    exact ⟨ret_bool HF.out.symm, (by (repeat' (first | (with_reducible exact Below.refl _ _) | (with_reducible assumption) | (with_reducible refine Below.alloc ?_ ?_ _) | (with_reducible refine below_ext ?_ ?_ _ _) | (with_reducible refine Below.setCell ?_ ?_ _) | (with_reducible refine Below.drew ?_) | (with_reducible refine below_drewN ?_ _))); all_goals (first | omega | (simp; done) | (simp; omega)))⟩
theorem iEqM_any (w : World) (A B : Option Addr) (n m c c' lo hi lo' hi' : Nat) (l l' : CM) (hr : Nd2 .i64 w lo hi A n l) (hr' : Nd2 .i64 w lo' hi' B m l') (hn : n ≤ 1048576) (hm : m ≤ 1048576) (hs : ndSum2 l ≤ 1048576) (hs' : ndSum2 l' ≤ 1048576) :
    Calls Try.prog 24 #[.agg #[.slice A n c], .agg #[.slice B m c']] w fun e w' => e = .returned (.bool (decide (l = l'))) ∧ Below w.heap.size w w' := by
  have HE := hide (fun W h h' => eqFn_any W A B n m c c' lo hi lo' hi' l l' h h' hn hm hs hs')
  generalize decide (l = l') = q at HE ⊢
  go_enter Try.func24, Try.ntmps24
  go_wp2_with (go_at_call 42; refine (unhide HE _ (hr.below' (by (repeat' (first | (with_reducible exact Below.refl _ _) | (with_reducible assumption) | (with_reducible refine Below.alloc ?_ ?_ _) | (with_reducible refine below_ext ?_ ?_ _ _) | (with_reducible refine Below.setCell ?_ ?_ _) | (with_reducible refine Below.drew ?_) | (with_reducible refine below_drewN ?_ _))); all_goals (first | omega | (simp; done) | (simp; omega)))) (hr'.below' (by (repeat' (first | (with_reducible exact Below.refl _ _) | (with_reducible assumption) | (with_reducible refine Below.alloc ?_ ?_ _) | (with_reducible refine below_ext ?_ ?_ _ _) | (with_reducible refine Below.setCell ?_ ?_ _) | (with_reducible refine Below.drew ?_) | (with_reducible refine below_drewN ?_ _))); all_goals (first | omega | (simp; done) | (simp; omega))))).mono ?_; rintro e w1 ⟨rfl, hb1⟩; obtain ⟨os1, d1, rfl⟩ := ext_of_below hb1; clear hb1)
  go_ret
  exact ⟨rfl, (by (repeat' (first | (with_reducible exact Below.refl _ _) | (with_reducible assumption) | (with_reducible refine Below.alloc ?_ ?_ _) | (with_reducible refine below_ext ?_ ?_ _ _) | (with_reducible refine Below.setCell ?_ ?_ _) | (with_reducible refine Below.drew ?_) | (with_reducible refine below_drewN ?_ _))); all_goals (first | omega | (simp; done) | (simp; omega)))⟩
set_option maxHeartbeats 1000000 in
set_option maxRecDepth 100000 in
theorem sEqM_any (w : World) (A B : Option Addr) (n m c c' lo hi lo' hi' : Nat) (l l' : CM) (hr : Nd2 .i64 w lo hi A n l) (hr' : Nd2 .i64 w lo' hi' B m l') (hn : n ≤ 1048576) (hm : m ≤ 1048576) (hs : ndSum2 l ≤ 1048576) (hs' : ndSum2 l' ≤ 1048576) :
    Calls Try.prog 23 #[.agg #[.slice A n c], .agg #[.slice B m c']] w fun e w' => e = .returned (.bool (decide (l = l'))) ∧ Below w.heap.size w w' := by
  have hlen := hr.len
  have hlen' := hr'.len
  by_cases hnm : n = m
  · subst hnm
    go_enter Try.func23, Try.ntmps23
    go_wp2_with fail
    go_loopw [5] (fun i wr => ∃ k : Nat, k ≤ n ∧ i = .int .i64 k ∧ Hid (l.take k = l'.take k) ∧ Below w.heap.size w wr ∧ w.heap.size + 1 < wr.heap.size ∧ wr.cell? ⟨w.heap.size, 0, none⟩ = some (.slice A n c) ∧ wr.cell? ⟨w.heap.size + 1, 0, none⟩ = some (.slice B n c')) (fun i _ => n - (intOf i).toNat)
    case atStart => exact ⟨0, Nat.zero_le _, rfl, hide rfl, (by (repeat' (first | (with_reducible exact Below.refl _ _) | (with_reducible assumption) | (with_reducible refine Below.alloc ?_ ?_ _) | (with_reducible refine below_ext ?_ ?_ _ _) | (with_reducible refine Below.setCell ?_ ?_ _) | (with_reducible refine Below.drew ?_) | (with_reducible refine below_drewN ?_ _))); all_goals (first | omega | (simp; done) | (simp; omega))), by simp, by go_simp, by go_simp⟩
    case round =>
      obtain ⟨k, hk, rfl, HE, hb, hz1, hbox, hbox2⟩ := hrel
      have hz0 : w.heap.size < wr.heap.size := by omega
      by_cases hlt : k < n
      · obtain ⟨b, o, x, ⟨sA, sn, sc, sl⟩, rfl, hbl, hx, hx0, hx1, hs1⟩ := (hr.below' hb).at_ hlt
        obtain ⟨b', o', y, ⟨tA, tn, tc, tl⟩, rfl, hbl', hy, hy0, hy1, ht1⟩ := (hr'.below' hb).at_ hlt
        obtain rfl : sl.length = sn := by simpa using hs1.1.len
        obtain rfl : tl.length = tn := by simpa using ht1.1.len
        have hsum := ndSum2_le hx
        have hsum' := ndSum2_le hy
        simp only at hsum hsum' hx hy hx1 hy1
        have HP := hide (fun W h h' => sEqInts_any W sA tA sl.length tl.length sc tc lo hi lo' hi' sl tl h h' (by omega) (by omega))
        have HS := hide hs1.1
        have HT := hide ht1.1
        have hkn : (k : Int) < (n : Int) := by omega
        by_cases hz : x = y
        · have hne : (x != y) = false := by simpa using hz
          have hne2 : (x == y) = true := by simpa using hz
          cases hq : decide (sl = tl)
          · rw [hq] at HP
            have HF := hide (show decide (l = l') = false by
              rw [decide_eq_false_iff_not]
              rintro rfl
              rw [hx] at hy
              injection hy with hy
              have := ceq_iff.2 hy
              simp only [ceq, hq, Bool.and_false] at this
              cases this)
            clear hr hr' hx hy hs1 ht1 hq HE hz
            go_wp2_with fail
            go_quiet ((go_at_call 41; refine Calls.quiet_of (unhide HP _ (HS.out.drewN _) (HT.out.drewN _))))
            go_wp2_with fail
            go_ret
            exact ⟨ret_bool HF.out.symm, (by (repeat' (first | (with_reducible exact Below.refl _ _) | (with_reducible assumption) | (with_reducible refine Below.alloc ?_ ?_ _) | (with_reducible refine below_ext ?_ ?_ _ _) | (with_reducible refine Below.setCell ?_ ?_ _) | (with_reducible refine Below.drew ?_) | (with_reducible refine below_drewN ?_ _))); all_goals (first | omega | (simp; done) | (simp; omega)))⟩
          · rw [hq] at HP
            have HF := hide (take_succ_eq hx hy HE.out (ceq_iff.1 (by simp [ceq, hq, hz])))
            clear hr hr' hx hy hs1 ht1 hq HE hz
            go_wp2_with fail
            go_quiet ((go_at_call 41; refine Calls.quiet_of (unhide HP _ (HS.out.drewN _) (HT.out.drewN _))))
            go_wp2_with fail
            go_roundw
            case rel => exact ⟨k + 1, by omega, by go_num, HF, below_drewN hb _, by simpa using hz1, hbox, hbox2⟩
            case measure => simp [intOf] <;> omega
        · have HF := hide (show decide (l = l') = false by
            rw [decide_eq_false_iff_not]
            rintro rfl
            rw [hx] at hy
            injection hy with hy
            injection hy with hy1
            exact hz hy1)
          have hne : (x != y) = true := by simpa using hz
          have hne2 : (x == y) = false := by simpa using hz
          clear hr hr' hx hy hs1 ht1 HE hz HP
          go_wp2_with fail
          go_quiet (fail)
          go_wp2_with fail
          go_ret
          exact ⟨ret_bool HF.out.symm, (by (repeat' (first | (with_reducible exact Below.refl _ _) | (with_reducible assumption) | (with_reducible refine Below.alloc ?_ ?_ _) | (with_reducible refine below_ext ?_ ?_ _ _) | (with_reducible refine Below.setCell ?_ ?_ _) | (with_reducible refine Below.drew ?_) | (with_reducible refine below_drewN ?_ _))); all_goals (first | omega | (simp; done) | (simp; omega)))⟩
      · have HF := hide (show decide (l = l') = true by
          have := HE.out
          rw [List.take_of_length_le (by omega), List.take_of_length_le (by omega)] at this
          simpa using this)
        go_wp2_with fail
        go_ret
        exact ⟨ret_bool HF.out.symm, (by (repeat' (first | (with_reducible exact Below.refl _ _) | (with_reducible assumption) | (with_reducible refine Below.alloc ?_ ?_ _) | (with_reducible refine below_ext ?_ ?_ _ _) | (with_reducible refine Below.setCell ?_ ?_ _) | (with_reducible refine Below.drew ?_) | (with_reducible refine below_drewN ?_ _))); all_goals (first | omega | (simp; done) | (simp; omega)))⟩
  · have HF := hide (show decide (l = l') = false by
      rw [decide_eq_false_iff_not]
      rintro rfl
      omega)
    have hne : ((n : Int) != (m : Int)) = true := by simp; omega
    have hne2 : ((n : Int) == (m : Int)) = false := by simp; omega
    clear hnm
    go_enter Try.func23, Try.ntmps23
    go_wp2_with fail
    go_ret
    exact ⟨ret_bool HF.out.symm, (by (repeat' (first | (with_reducible exact Below.refl _ _) | (with_reducible assumption) | (with_reducible refine Below.alloc ?_ ?_ _) | (with_reducible refine below_ext ?_ ?_ _ _) | (with_reducible refine Below.setCell ?_ ?_ _) | (with_reducible refine Below.drew ?_) | (with_reducible refine below_drewN ?_ _))); all_goals (first | omega | (simp; done) | (simp; omega)))⟩
end Go.Proofs.Ytcndocopecnohaa
