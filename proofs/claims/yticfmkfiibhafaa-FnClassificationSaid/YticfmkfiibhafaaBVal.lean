/- AreValidFilters and AreValidBearers. -/
import Derived.Test.YticfmkfiibhafaaBea
namespace Go.Proofs.Yticfmkfiibhafaa
open Go.RowKit Go.Sep

theorem and3_cases (a b c : Bool) : a = false ∨ (a = true ∧ b = false) ∨ (a = true ∧ b = true ∧ c = false) ∨ (a = true ∧ b = true ∧ c = true) := by cases a <;> cases b <;> cases c <;> simp
theorem and4_cases (a b c d : Bool) : a = false ∨ (a = true ∧ b = false) ∨ (a = true ∧ b = true ∧ c = false) ∨ (a = true ∧ b = true ∧ c = true ∧ d = false) ∨ (a = true ∧ b = true ∧ c = true ∧ d = true) := by
  cases a <;> cases b <;> cases c <;> cases d <;> simp
theorem not_true {p : Prop} [Decidable p] : (!decide p) = true ↔ decide p = false := by simp
def fOk (l : List (Int × Int × Int)) (i : Nat) : Bool :=
  match l[i]? with
  | none => true
  | some (x, y, z) => inR x 0 y && (!decide (65535 < y) && inR z 1 8)
def vFil (l : List (Int × Int × Int)) (n : Nat) : Bool := allOk (fOk l) n && decide ((n : Int) ≤ 8)
section
variable {l : List (Int × Int × Int)} {k j : Nat} {x y z p q r : Int}
theorem fOk_s (h : l[k]? = some (x, y, z)) : fOk l k = (inR x 0 y && (!decide (65535 < y) && inR z 1 8)) := by simp only [fOk, h]
theorem fOk_i (h : l[k]? = some (x, y, z)) : fOk l k = (!decide (x < 0) && (!decide (y < x) && (!decide (65535 < y) && inR z 1 8))) := by
  rw [fOk_s h, show inR x 0 y = (!decide (x < 0) && !decide (y < x)) by unfold inR; by_cases h1 : x < 0 <;> by_cases h2 : y < x <;> simp [h1, h2] <;> omega, Bool.and_assoc]
def bOk (l : List (Int × Int × Int)) (i : Nat) : Bool :=
  match l[i]? with
  | none => true
  | some (x, y, z) => inR x 1 8 && (inR y 1 4 && (inR z 1 1000 && (match i with
    | 0 => true
    | j + 1 => match l[j]? with
      | none => true
      | some (p, _, _) => !decide (x ≤ p))))
def vBea (l : List (Int × Int × Int)) (n : Nat) : Bool := allOk (bOk l) n && decide ((n : Int) ≤ 4)
theorem bOk_0 (h : l[0]? = some (x, y, z)) : bOk l 0 = (inR x 1 8 && (inR y 1 4 && inR z 1 1000)) := by simp only [bOk, h, Bool.and_true]
theorem bOk_s (h : l[j + 1]? = some (x, y, z)) (h' : l[j]? = some (p, q, r)) : bOk l (j + 1) = (inR x 1 8 && (inR y 1 4 && (inR z 1 1000 && !decide (x ≤ p)))) := by simp only [bOk, h, h']
end
set_option maxRecDepth 100000 in
theorem iAVF_any (w : World) (A : Option Addr) (n c lo hi : Nat) (l : List (Int × Int × Int)) (hr : Rd w lo hi 3 A n (l.flatMap c3)) (hn : n ≤ 1048576) :
    Calls Try.prog 29 #[.slice A n c] w fun e w' => e = .returned (.bool (vFil l n)) ∧ Below w.heap.size w w' := by
  have hll := hr.len3
  by_cases hbig : 8 < n
  · rw [show vFil l n = false by unfold vFil; rw [show decide ((n : Int) ≤ 8) = false by simp; omega, Bool.and_false]]
    have hb2 : (8 : Int) < (n : Int) := by omega
    clear hbig
    go_enter Try.func29, Try.ntmps29
    go_wp2_with fail
    go_ret
    exact ⟨rfl, (by (repeat' (first | (with_reducible exact Below.refl _ _) | (with_reducible assumption) | (with_reducible refine Below.alloc ?_ ?_ _) | (with_reducible refine below_ext ?_ ?_ _ _) | (with_reducible refine Below.setCell ?_ ?_ _) | (with_reducible refine Below.drew ?_) | (with_reducible refine below_drewN ?_ _))); all_goals (first | omega | (simp; done) | (simp; omega)))⟩
  have hcap : decide ((n : Int) ≤ 8) = true := by simp; omega
  have hcap2 : ¬ (8 : Int) < (n : Int) := by omega
  go_enter Try.func29, Try.ntmps29
  go_wp2_with fail
  go_loopw [10] (fun i wr => ∃ k : Nat, k ≤ n ∧ i = .int .i64 k ∧ Hid (∀ j, j < k → fOk l j = true) ∧ Below w.heap.size w wr) (fun i _ => n - (intOf i).toNat)
  case atStart => exact ⟨0, Nat.zero_le _, rfl, hide (fun j hj => absurd hj (by omega)), Below.refl _ _⟩
  case round =>
    obtain ⟨k, hk, rfl, HF, hb⟩ := hrel
    by_cases hlt : k < n
    · obtain ⟨b, o, x, y, z, rfl, hx, hc0, hc1, hc2⟩ := (hr.below' hb).at3 hll hlt
      have hbl : b < wr.heap.size := World.block_lt_of_cell? wr _ hc0
      have HN := hide (fun h : fOk l k = false => show vFil l n = false by unfold vFil; rw [allOk_no hlt h, Bool.false_and])
      have HY := hide (fun h : fOk l k = true => lt_next HF.out h)
      have hkn : (k : Int) < (n : Int) := by omega
      have hv := fOk_i hx
      clear hr HF hx
      rcases and4_cases (!decide (x < 0)) (!decide (y < x)) (!decide (65535 < y)) (inR z 1 8) with hA | ⟨hA, hB⟩ | ⟨hA, hB, hC⟩ | ⟨hA, hB, hC, hD⟩ | ⟨hA, hB, hC, hD⟩
      · have HR := hide (HN.out (by rw [hv, hA]; rfl))
        clear HN HY hv
        replace hA : decide (x < 0) = true := by simpa using hA
        go_wp2_with (go_at_call 60; refine (inRange_any _ _ _ _).mono ?_; rintro e w' ⟨rfl, rfl⟩)
        go_ret
        exact ⟨ret_bool HR.out.symm, below_then (B' := wr.heap.size) hb (by (repeat' (first | (with_reducible exact Below.refl _ _) | (with_reducible assumption) | (with_reducible refine Below.alloc ?_ ?_ _) | (with_reducible refine below_ext ?_ ?_ _ _) | (with_reducible refine Below.setCell ?_ ?_ _) | (with_reducible refine Below.drew ?_) | (with_reducible refine below_drewN ?_ _))); all_goals (first | omega | (simp; done) | (simp; omega))) hb.size⟩
      · have HR := hide (HN.out (by rw [hv, hA, hB]; rfl))
        clear HN HY hv
        replace hA : decide (x < 0) = false := by simpa using hA
        replace hB : decide (y < x) = true := by simpa using hB
        go_wp2_with (go_at_call 60; refine (inRange_any _ _ _ _).mono ?_; rintro e w' ⟨rfl, rfl⟩)
        go_ret
        exact ⟨ret_bool HR.out.symm, below_then (B' := wr.heap.size) hb (by (repeat' (first | (with_reducible exact Below.refl _ _) | (with_reducible assumption) | (with_reducible refine Below.alloc ?_ ?_ _) | (with_reducible refine below_ext ?_ ?_ _ _) | (with_reducible refine Below.setCell ?_ ?_ _) | (with_reducible refine Below.drew ?_) | (with_reducible refine below_drewN ?_ _))); all_goals (first | omega | (simp; done) | (simp; omega))) hb.size⟩
      · have HR := hide (HN.out (by rw [hv, hA, hB, hC]; rfl))
        clear HN HY hv
        replace hA : decide (x < 0) = false := by simpa using hA
        replace hB : decide (y < x) = false := by simpa using hB
        replace hC : decide (65535 < y) = true := by simpa using hC
        go_wp2_with (go_at_call 60; refine (inRange_any _ _ _ _).mono ?_; rintro e w' ⟨rfl, rfl⟩)
        go_ret
        exact ⟨ret_bool HR.out.symm, below_then (B' := wr.heap.size) hb (by (repeat' (first | (with_reducible exact Below.refl _ _) | (with_reducible assumption) | (with_reducible refine Below.alloc ?_ ?_ _) | (with_reducible refine below_ext ?_ ?_ _ _) | (with_reducible refine Below.setCell ?_ ?_ _) | (with_reducible refine Below.drew ?_) | (with_reducible refine below_drewN ?_ _))); all_goals (first | omega | (simp; done) | (simp; omega))) hb.size⟩
      · have HR := hide (HN.out (by rw [hv, hA, hB, hC, hD]; rfl))
        clear HN HY hv
        replace hA : decide (x < 0) = false := by simpa using hA
        replace hB : decide (y < x) = false := by simpa using hB
        replace hC : decide (65535 < y) = false := by simpa using hC
        go_wp2_with (go_at_call 60; refine (inRange_any _ _ _ _).mono ?_; rintro e w' ⟨rfl, rfl⟩)
        go_ret
        exact ⟨ret_bool HR.out.symm, below_then (B' := wr.heap.size) hb (by (repeat' (first | (with_reducible exact Below.refl _ _) | (with_reducible assumption) | (with_reducible refine Below.alloc ?_ ?_ _) | (with_reducible refine below_ext ?_ ?_ _ _) | (with_reducible refine Below.setCell ?_ ?_ _) | (with_reducible refine Below.drew ?_) | (with_reducible refine below_drewN ?_ _))); all_goals (first | omega | (simp; done) | (simp; omega))) hb.size⟩
      · have HR := hide (HY.out (by rw [hv, hA, hB, hC, hD]; rfl))
        clear HN HY hv
        replace hA : decide (x < 0) = false := by simpa using hA
        replace hB : decide (y < x) = false := by simpa using hB
        replace hC : decide (65535 < y) = false := by simpa using hC
        go_wp2_with (go_at_call 60; refine (inRange_any _ _ _ _).mono ?_; rintro e w' ⟨rfl, rfl⟩)
        go_roundw
        case rel => exact ⟨k + 1, by omega, by go_num, hide HR.out, below_then (B' := wr.heap.size) hb (by (repeat' (first | (with_reducible exact Below.refl _ _) | (with_reducible assumption) | (with_reducible refine Below.alloc ?_ ?_ _) | (with_reducible refine below_ext ?_ ?_ _ _) | (with_reducible refine Below.setCell ?_ ?_ _) | (with_reducible refine Below.drew ?_) | (with_reducible refine below_drewN ?_ _))); all_goals (first | omega | (simp; done) | (simp; omega))) hb.size⟩
        case measure => simp [intOf] <;> omega
    · obtain rfl : k = n := by omega
      have HG := hide (show vFil l k = true by unfold vFil; rw [allOk_yes HF.out, Bool.true_and]; exact hcap)
      clear HF
      go_wp2_with fail
      go_ret
      exact ⟨ret_bool HG.out.symm, hb⟩
set_option maxRecDepth 100000 in
theorem sAVF_any (w : World) (A : Option Addr) (n c lo hi : Nat) (l : List (Int × Int × Int)) (hr : Rd w lo hi 3 A n (l.flatMap c3)) (hn : n ≤ 1048576) :
    Calls Try.prog 28 #[.slice A n c] w fun e w' => e = .returned (.bool (vFil l n)) ∧ Below w.heap.size w w' := by
  have hll := hr.len3
  go_enter Try.func28, Try.ntmps28
  go_wp2_with fail
  go_loopw [3] (fun i wr => ∃ k : Nat, k ≤ n ∧ i = .int .i64 k ∧ Hid (∀ j, j < k → fOk l j = true) ∧ Below w.heap.size w wr) (fun i _ => n - (intOf i).toNat)
  case atStart => exact ⟨0, Nat.zero_le _, rfl, hide (fun j hj => absurd hj (by omega)), Below.refl _ _⟩
  case round =>
    obtain ⟨k, hk, rfl, HF, hb⟩ := hrel
    by_cases hlt : k < n
    · obtain ⟨b, o, x, y, z, rfl, hx, hc0, hc1, hc2⟩ := (hr.below' hb).at3 hll hlt
      have hbl : b < wr.heap.size := World.block_lt_of_cell? wr _ hc0
      have HN := hide (fun h : fOk l k = false => show vFil l n = false by unfold vFil; rw [allOk_no hlt h, Bool.false_and])
      have HY := hide (fun h : fOk l k = true => lt_next HF.out h)
      have hkn : (k : Int) < (n : Int) := by omega
      have hv := fOk_s hx
      clear hr HF hx
      rcases and3_cases (inR x 0 y) (!decide (65535 < y)) (inR z 1 8) with hA | ⟨hA, hB⟩ | ⟨hA, hB, hC⟩ | ⟨hA, hB, hC⟩
      · have HR := hide (HN.out (by rw [hv, hA]; rfl))
        clear HN HY hv
        go_wp2_with fail
        go_quiet (((go_at_call 58; refine quiet_left (l1In_any _ _ _ _))))
        go_wp2_with fail
        go_ret
        exact ⟨ret_bool HR.out.symm, below_then (B' := wr.heap.size) hb (by (repeat' (first | (with_reducible exact Below.refl _ _) | (with_reducible assumption) | (with_reducible refine Below.alloc ?_ ?_ _) | (with_reducible refine below_ext ?_ ?_ _ _) | (with_reducible refine Below.setCell ?_ ?_ _) | (with_reducible refine Below.drew ?_) | (with_reducible refine below_drewN ?_ _))); all_goals (first | omega | (simp; done) | (simp; omega))) hb.size⟩
      · have HR := hide (HN.out (by rw [hv, hA, hB]; rfl))
        clear HN HY hv
        replace hB : decide (65535 < y) = true := by simpa using hB
        go_wp2_with fail
        go_quiet (((go_at_call 58; refine quiet_left (l1In_any _ _ _ _))))
        go_wp2_with fail
        go_ret
        exact ⟨ret_bool HR.out.symm, below_then (B' := wr.heap.size) hb (by (repeat' (first | (with_reducible exact Below.refl _ _) | (with_reducible assumption) | (with_reducible refine Below.alloc ?_ ?_ _) | (with_reducible refine below_ext ?_ ?_ _ _) | (with_reducible refine Below.setCell ?_ ?_ _) | (with_reducible refine Below.drew ?_) | (with_reducible refine below_drewN ?_ _))); all_goals (first | omega | (simp; done) | (simp; omega))) hb.size⟩
      · have HR := hide (HN.out (by rw [hv, hA, hB, hC]; rfl))
        clear HN HY hv
        replace hB : decide (65535 < y) = false := by simpa using hB
        go_wp2_with fail
        go_quiet (((go_at_call 58; refine quiet_left (l1In_any _ _ _ _))))
        go_wp2_with fail
        go_ret
        exact ⟨ret_bool HR.out.symm, below_then (B' := wr.heap.size) hb (by (repeat' (first | (with_reducible exact Below.refl _ _) | (with_reducible assumption) | (with_reducible refine Below.alloc ?_ ?_ _) | (with_reducible refine below_ext ?_ ?_ _ _) | (with_reducible refine Below.setCell ?_ ?_ _) | (with_reducible refine Below.drew ?_) | (with_reducible refine below_drewN ?_ _))); all_goals (first | omega | (simp; done) | (simp; omega))) hb.size⟩
      · have HR := hide (HY.out (by rw [hv, hA, hB, hC]; rfl))
        clear HN HY hv
        replace hB : decide (65535 < y) = false := by simpa using hB
        go_wp2_with fail
        go_quiet (((go_at_call 58; refine quiet_left (l1In_any _ _ _ _))))
        go_wp2_with fail
        go_roundw
        case rel => exact ⟨k + 1, by omega, by go_num, hide HR.out, below_then (B' := wr.heap.size) hb (by (repeat' (first | (with_reducible exact Below.refl _ _) | (with_reducible assumption) | (with_reducible refine Below.alloc ?_ ?_ _) | (with_reducible refine below_ext ?_ ?_ _ _) | (with_reducible refine Below.setCell ?_ ?_ _) | (with_reducible refine Below.drew ?_) | (with_reducible refine below_drewN ?_ _))); all_goals (first | omega | (simp; done) | (simp; omega))) hb.size⟩
        case measure => simp [intOf] <;> omega
    · obtain rfl : k = n := by omega
      have HG := hide (show vFil l k = decide ((k : Int) ≤ 8) by unfold vFil; rw [allOk_yes HF.out, Bool.true_and])
      clear HF
      go_wp2_with fail
      go_ret
      exact ⟨ret_bool HG.out.symm, hb⟩
set_option maxRecDepth 100000 in
theorem iAVB_big (w : World) (A : Option Addr) (n c lo hi : Nat) (l : List (Int × Int × Int)) (hr : Rd w lo hi 3 A n (l.flatMap c3)) (hn : n ≤ 1048600) :
    Calls Try.prog 31 #[.slice A n c] w fun e w' => e = .returned (.bool (vBea l n)) ∧ Below w.heap.size w w' := by
  have hll := hr.len3
  by_cases hbig : 4 < n
  · rw [show vBea l n = false by unfold vBea; rw [show decide ((n : Int) ≤ 4) = false by simp; omega, Bool.and_false]]
    have hb2 : (4 : Int) < (n : Int) := by omega
    clear hbig
    go_enter Try.func31, Try.ntmps31
    go_wp2_with fail
    go_ret
    exact ⟨rfl, (by (repeat' (first | (with_reducible exact Below.refl _ _) | (with_reducible assumption) | (with_reducible refine Below.alloc ?_ ?_ _) | (with_reducible refine below_ext ?_ ?_ _ _) | (with_reducible refine Below.setCell ?_ ?_ _) | (with_reducible refine Below.drew ?_) | (with_reducible refine below_drewN ?_ _))); all_goals (first | omega | (simp; done) | (simp; omega)))⟩
  have hcap : decide ((n : Int) ≤ 4) = true := by simp; omega
  have hcap2 : ¬ (4 : Int) < (n : Int) := by omega
  go_enter Try.func31, Try.ntmps31
  go_wp2_with fail
  go_loopw [10] (fun i wr => ∃ k : Nat, k ≤ n ∧ i = .int .i64 k ∧ Hid (∀ j, j < k → bOk l j = true) ∧ Below w.heap.size w wr) (fun i _ => n - (intOf i).toNat)
  case atStart => exact ⟨0, Nat.zero_le _, rfl, hide (fun j hj => absurd hj (by omega)), Below.refl _ _⟩
  case round =>
    obtain ⟨k, hk, rfl, HF, hb⟩ := hrel
    by_cases hlt : k < n
    · obtain ⟨b, o, x, y, z, rfl, hx, hc0, hc1, hc2⟩ := (hr.below' hb).at3 hll hlt
      have hbl : b < wr.heap.size := World.block_lt_of_cell? wr _ hc0
      have HN := hide (fun h : bOk l k = false => show vBea l n = false by unfold vBea; rw [allOk_no hlt h, Bool.false_and])
      have HY := hide (fun h : bOk l k = true => lt_next HF.out h)
      have hkn : (k : Int) < (n : Int) := by omega
      rcases k with _ | j
      · have hv := bOk_0 hx
        clear hr HF hx
        simp only [Nat.zero_mul, Nat.add_zero] at hc0 hc1 hc2
        rcases and3_cases (inR x 1 8) (inR y 1 4) (inR z 1 1000) with hA | ⟨hA, hB⟩ | ⟨hA, hB, hC⟩ | ⟨hA, hB, hC⟩
        · have HR := hide (HN.out (by rw [hv, hA]; rfl))
          clear HN HY hv
          go_wp2_with (go_at_call 60; refine (inRange_any _ _ _ _).mono ?_; rintro e w' ⟨rfl, rfl⟩)
          go_ret
          exact ⟨ret_bool HR.out.symm, below_then (B' := wr.heap.size) hb (by (repeat' (first | (with_reducible exact Below.refl _ _) | (with_reducible assumption) | (with_reducible refine Below.alloc ?_ ?_ _) | (with_reducible refine below_ext ?_ ?_ _ _) | (with_reducible refine Below.setCell ?_ ?_ _) | (with_reducible refine Below.drew ?_) | (with_reducible refine below_drewN ?_ _))); all_goals (first | omega | (simp; done) | (simp; omega))) hb.size⟩
        · have HR := hide (HN.out (by rw [hv, hA, hB]; rfl))
          clear HN HY hv
          go_wp2_with (go_at_call 60; refine (inRange_any _ _ _ _).mono ?_; rintro e w' ⟨rfl, rfl⟩)
          go_ret
          exact ⟨ret_bool HR.out.symm, below_then (B' := wr.heap.size) hb (by (repeat' (first | (with_reducible exact Below.refl _ _) | (with_reducible assumption) | (with_reducible refine Below.alloc ?_ ?_ _) | (with_reducible refine below_ext ?_ ?_ _ _) | (with_reducible refine Below.setCell ?_ ?_ _) | (with_reducible refine Below.drew ?_) | (with_reducible refine below_drewN ?_ _))); all_goals (first | omega | (simp; done) | (simp; omega))) hb.size⟩
        · have HR := hide (HN.out (by rw [hv, hA, hB, hC]; rfl))
          clear HN HY hv
          go_wp2_with (go_at_call 60; refine (inRange_any _ _ _ _).mono ?_; rintro e w' ⟨rfl, rfl⟩)
          go_ret
          exact ⟨ret_bool HR.out.symm, below_then (B' := wr.heap.size) hb (by (repeat' (first | (with_reducible exact Below.refl _ _) | (with_reducible assumption) | (with_reducible refine Below.alloc ?_ ?_ _) | (with_reducible refine below_ext ?_ ?_ _ _) | (with_reducible refine Below.setCell ?_ ?_ _) | (with_reducible refine Below.drew ?_) | (with_reducible refine below_drewN ?_ _))); all_goals (first | omega | (simp; done) | (simp; omega))) hb.size⟩
        · have HR := hide (HY.out (by rw [hv, hA, hB, hC]; rfl))
          clear HN HY hv
          go_wp2_with (go_at_call 60; refine (inRange_any _ _ _ _).mono ?_; rintro e w' ⟨rfl, rfl⟩)
          go_quiet (fail)
          go_wp2_with fail
          go_roundw
          case rel => exact ⟨0 + 1, by omega, by go_num, hide HR.out, below_then (B' := wr.heap.size) hb (by (repeat' (first | (with_reducible exact Below.refl _ _) | (with_reducible assumption) | (with_reducible refine Below.alloc ?_ ?_ _) | (with_reducible refine below_ext ?_ ?_ _ _) | (with_reducible refine Below.setCell ?_ ?_ _) | (with_reducible refine Below.drew ?_) | (with_reducible refine below_drewN ?_ _))); all_goals (first | omega | (simp; done) | (simp; omega))) hb.size⟩
          case measure => simp [intOf] <;> omega
      · obtain ⟨b', o', p, q, r, hbo, hx', hp0, hp1, hp2⟩ := (hr.below' hb).at3 hll (show j < n by omega)
        injection hbo with hbo
        injection hbo with hbo1 hbo2
        subst hbo1 hbo2
        have hv := bOk_s hx hx'
        clear hr HF hx hx'
        have HW := hide (IntWalk.i64_in (j : Int) (by omega))
        have hjn : (j : Int) < (n : Int) := by omega
        rcases and4_cases (inR x 1 8) (inR y 1 4) (inR z 1 1000) (!decide (x ≤ p)) with hA | ⟨hA, hB⟩ | ⟨hA, hB, hC⟩ | ⟨hA, hB, hC, hD⟩ | ⟨hA, hB, hC, hD⟩
        · have HR := hide (HN.out (by rw [hv, hA]; rfl))
          clear HN HY hv
          go_wp2_with (go_at_call 60; refine (inRange_any _ _ _ _).mono ?_; rintro e w' ⟨rfl, rfl⟩)
          go_ret
          exact ⟨ret_bool HR.out.symm, below_then (B' := wr.heap.size) hb (by (repeat' (first | (with_reducible exact Below.refl _ _) | (with_reducible assumption) | (with_reducible refine Below.alloc ?_ ?_ _) | (with_reducible refine below_ext ?_ ?_ _ _) | (with_reducible refine Below.setCell ?_ ?_ _) | (with_reducible refine Below.drew ?_) | (with_reducible refine below_drewN ?_ _))); all_goals (first | omega | (simp; done) | (simp; omega))) hb.size⟩
        · have HR := hide (HN.out (by rw [hv, hA, hB]; rfl))
          clear HN HY hv
          go_wp2_with (go_at_call 60; refine (inRange_any _ _ _ _).mono ?_; rintro e w' ⟨rfl, rfl⟩)
          go_ret
          exact ⟨ret_bool HR.out.symm, below_then (B' := wr.heap.size) hb (by (repeat' (first | (with_reducible exact Below.refl _ _) | (with_reducible assumption) | (with_reducible refine Below.alloc ?_ ?_ _) | (with_reducible refine below_ext ?_ ?_ _ _) | (with_reducible refine Below.setCell ?_ ?_ _) | (with_reducible refine Below.drew ?_) | (with_reducible refine below_drewN ?_ _))); all_goals (first | omega | (simp; done) | (simp; omega))) hb.size⟩
        · have HR := hide (HN.out (by rw [hv, hA, hB, hC]; rfl))
          clear HN HY hv
          go_wp2_with (go_at_call 60; refine (inRange_any _ _ _ _).mono ?_; rintro e w' ⟨rfl, rfl⟩)
          go_ret
          exact ⟨ret_bool HR.out.symm, below_then (B' := wr.heap.size) hb (by (repeat' (first | (with_reducible exact Below.refl _ _) | (with_reducible assumption) | (with_reducible refine Below.alloc ?_ ?_ _) | (with_reducible refine below_ext ?_ ?_ _ _) | (with_reducible refine Below.setCell ?_ ?_ _) | (with_reducible refine Below.drew ?_) | (with_reducible refine below_drewN ?_ _))); all_goals (first | omega | (simp; done) | (simp; omega))) hb.size⟩
        · have HR := hide (HN.out (by rw [hv, hA, hB, hC, hD]; rfl))
          clear HN HY hv
          replace hD : decide (x ≤ p) = true := by simpa using hD
          go_wp2_with (go_at_call 60; refine (inRange_any _ _ _ _).mono ?_; rintro e w' ⟨rfl, rfl⟩)
          have hwj : IntKind.i64.wrap (j : Int) = j := HW.out
          go_quiet (fail)
          clear hwj
          go_wp2_with fail
          go_ret
          exact ⟨ret_bool HR.out.symm, below_then (B' := wr.heap.size) hb (by (repeat' (first | (with_reducible exact Below.refl _ _) | (with_reducible assumption) | (with_reducible refine Below.alloc ?_ ?_ _) | (with_reducible refine below_ext ?_ ?_ _ _) | (with_reducible refine Below.setCell ?_ ?_ _) | (with_reducible refine Below.drew ?_) | (with_reducible refine below_drewN ?_ _))); all_goals (first | omega | (simp; done) | (simp; omega))) hb.size⟩
        · have HR := hide (HY.out (by rw [hv, hA, hB, hC, hD]; rfl))
          clear HN HY hv
          replace hD : decide (x ≤ p) = false := by simpa using hD
          go_wp2_with (go_at_call 60; refine (inRange_any _ _ _ _).mono ?_; rintro e w' ⟨rfl, rfl⟩)
          have hwj : IntKind.i64.wrap (j : Int) = j := HW.out
          go_quiet (fail)
          clear hwj
          go_wp2_with fail
          go_roundw
          case rel => exact ⟨j + 1 + 1, by omega, by go_num, hide HR.out, below_then (B' := wr.heap.size) hb (by (repeat' (first | (with_reducible exact Below.refl _ _) | (with_reducible assumption) | (with_reducible refine Below.alloc ?_ ?_ _) | (with_reducible refine below_ext ?_ ?_ _ _) | (with_reducible refine Below.setCell ?_ ?_ _) | (with_reducible refine Below.drew ?_) | (with_reducible refine below_drewN ?_ _))); all_goals (first | omega | (simp; done) | (simp; omega))) hb.size⟩
          case measure => simp [intOf] <;> omega
    · obtain rfl : k = n := by omega
      have HG := hide (show vBea l k = true by unfold vBea; rw [allOk_yes HF.out, Bool.true_and]; exact hcap)
      clear HF
      go_wp2_with fail
      go_ret
      exact ⟨ret_bool HG.out.symm, hb⟩
set_option maxRecDepth 100000 in
theorem sAVB_big (w : World) (A : Option Addr) (n c lo hi : Nat) (l : List (Int × Int × Int)) (hr : Rd w lo hi 3 A n (l.flatMap c3)) (hn : n ≤ 1048600) :
    Calls Try.prog 30 #[.slice A n c] w fun e w' => e = .returned (.bool (vBea l n)) ∧ Below w.heap.size w w' := by
  have hll := hr.len3
  go_enter Try.func30, Try.ntmps30
  go_wp2_with fail
  go_loopw [3] (fun i wr => ∃ k : Nat, k ≤ n ∧ i = .int .i64 k ∧ Hid (∀ j, j < k → bOk l j = true) ∧ Below w.heap.size w wr) (fun i _ => n - (intOf i).toNat)
  case atStart => exact ⟨0, Nat.zero_le _, rfl, hide (fun j hj => absurd hj (by omega)), Below.refl _ _⟩
  case round =>
    obtain ⟨k, hk, rfl, HF, hb⟩ := hrel
    by_cases hlt : k < n
    · obtain ⟨b, o, x, y, z, rfl, hx, hc0, hc1, hc2⟩ := (hr.below' hb).at3 hll hlt
      have hbl : b < wr.heap.size := World.block_lt_of_cell? wr _ hc0
      have HN := hide (fun h : bOk l k = false => show vBea l n = false by unfold vBea; rw [allOk_no hlt h, Bool.false_and])
      have HY := hide (fun h : bOk l k = true => lt_next HF.out h)
      have hkn : (k : Int) < (n : Int) := by omega
      rcases k with _ | j
      · have hv := bOk_0 hx
        clear hr HF hx
        simp only [Nat.zero_mul, Nat.add_zero] at hc0 hc1 hc2
        rcases and3_cases (inR x 1 8) (inR y 1 4) (inR z 1 1000) with hA | ⟨hA, hB⟩ | ⟨hA, hB, hC⟩ | ⟨hA, hB, hC⟩
        · have HR := hide (HN.out (by rw [hv, hA]; rfl))
          clear HN HY hv
          go_wp2_with fail
          go_quiet (((go_at_call 58; refine quiet_left (l1In_any _ _ _ _))))
          go_wp2_with fail
          go_ret
          exact ⟨ret_bool HR.out.symm, below_then (B' := wr.heap.size) hb (by (repeat' (first | (with_reducible exact Below.refl _ _) | (with_reducible assumption) | (with_reducible refine Below.alloc ?_ ?_ _) | (with_reducible refine below_ext ?_ ?_ _ _) | (with_reducible refine Below.setCell ?_ ?_ _) | (with_reducible refine Below.drew ?_) | (with_reducible refine below_drewN ?_ _))); all_goals (first | omega | (simp; done) | (simp; omega))) hb.size⟩
        · have HR := hide (HN.out (by rw [hv, hA, hB]; rfl))
          clear HN HY hv
          go_wp2_with fail
          go_quiet (((go_at_call 58; refine quiet_left (l1In_any _ _ _ _))))
          go_wp2_with fail
          go_ret
          exact ⟨ret_bool HR.out.symm, below_then (B' := wr.heap.size) hb (by (repeat' (first | (with_reducible exact Below.refl _ _) | (with_reducible assumption) | (with_reducible refine Below.alloc ?_ ?_ _) | (with_reducible refine below_ext ?_ ?_ _ _) | (with_reducible refine Below.setCell ?_ ?_ _) | (with_reducible refine Below.drew ?_) | (with_reducible refine below_drewN ?_ _))); all_goals (first | omega | (simp; done) | (simp; omega))) hb.size⟩
        · have HR := hide (HN.out (by rw [hv, hA, hB, hC]; rfl))
          clear HN HY hv
          go_wp2_with fail
          go_quiet (((go_at_call 58; refine quiet_left (l1In_any _ _ _ _))))
          go_wp2_with fail
          go_ret
          exact ⟨ret_bool HR.out.symm, below_then (B' := wr.heap.size) hb (by (repeat' (first | (with_reducible exact Below.refl _ _) | (with_reducible assumption) | (with_reducible refine Below.alloc ?_ ?_ _) | (with_reducible refine below_ext ?_ ?_ _ _) | (with_reducible refine Below.setCell ?_ ?_ _) | (with_reducible refine Below.drew ?_) | (with_reducible refine below_drewN ?_ _))); all_goals (first | omega | (simp; done) | (simp; omega))) hb.size⟩
        · have HR := hide (HY.out (by rw [hv, hA, hB, hC]; rfl))
          clear HN HY hv
          go_wp2_with fail
          go_quiet (((go_at_call 58; refine quiet_left (l1In_any _ _ _ _))))
          go_wp2_with fail
          go_roundw
          case rel => exact ⟨0 + 1, by omega, by go_num, hide HR.out, below_then (B' := wr.heap.size) hb (by (repeat' (first | (with_reducible exact Below.refl _ _) | (with_reducible assumption) | (with_reducible refine Below.alloc ?_ ?_ _) | (with_reducible refine below_ext ?_ ?_ _ _) | (with_reducible refine Below.setCell ?_ ?_ _) | (with_reducible refine Below.drew ?_) | (with_reducible refine below_drewN ?_ _))); all_goals (first | omega | (simp; done) | (simp; omega))) hb.size⟩
          case measure => simp [intOf] <;> omega
      · obtain ⟨b', o', p, q, r, hbo, hx', hp0, hp1, hp2⟩ := (hr.below' hb).at3 hll (show j < n by omega)
        injection hbo with hbo
        injection hbo with hbo1 hbo2
        subst hbo1 hbo2
        have hv := bOk_s hx hx'
        clear hr HF hx hx'
        have HW := hide (IntWalk.i64_in (j : Int) (by omega))
        have hjn : (j : Int) < (n : Int) := by omega
        rcases and4_cases (inR x 1 8) (inR y 1 4) (inR z 1 1000) (!decide (x ≤ p)) with hA | ⟨hA, hB⟩ | ⟨hA, hB, hC⟩ | ⟨hA, hB, hC, hD⟩ | ⟨hA, hB, hC, hD⟩
        · have HR := hide (HN.out (by rw [hv, hA]; rfl))
          clear HN HY hv
          go_wp2_with fail
          have hwj : IntKind.i64.wrap (j : Int) = j := HW.out
          go_quiet (((go_at_call 58; refine quiet_left (l1In_any _ _ _ _))))
          clear hwj
          go_wp2_with fail
          go_ret
          exact ⟨ret_bool HR.out.symm, below_then (B' := wr.heap.size) hb (by (repeat' (first | (with_reducible exact Below.refl _ _) | (with_reducible assumption) | (with_reducible refine Below.alloc ?_ ?_ _) | (with_reducible refine below_ext ?_ ?_ _ _) | (with_reducible refine Below.setCell ?_ ?_ _) | (with_reducible refine Below.drew ?_) | (with_reducible refine below_drewN ?_ _))); all_goals (first | omega | (simp; done) | (simp; omega))) hb.size⟩
        · have HR := hide (HN.out (by rw [hv, hA, hB]; rfl))
          clear HN HY hv
          go_wp2_with fail
          have hwj : IntKind.i64.wrap (j : Int) = j := HW.out
          go_quiet (((go_at_call 58; refine quiet_left (l1In_any _ _ _ _))))
          clear hwj
          go_wp2_with fail
          go_ret
          exact ⟨ret_bool HR.out.symm, below_then (B' := wr.heap.size) hb (by (repeat' (first | (with_reducible exact Below.refl _ _) | (with_reducible assumption) | (with_reducible refine Below.alloc ?_ ?_ _) | (with_reducible refine below_ext ?_ ?_ _ _) | (with_reducible refine Below.setCell ?_ ?_ _) | (with_reducible refine Below.drew ?_) | (with_reducible refine below_drewN ?_ _))); all_goals (first | omega | (simp; done) | (simp; omega))) hb.size⟩
        · have HR := hide (HN.out (by rw [hv, hA, hB, hC]; rfl))
          clear HN HY hv
          go_wp2_with fail
          have hwj : IntKind.i64.wrap (j : Int) = j := HW.out
          go_quiet (((go_at_call 58; refine quiet_left (l1In_any _ _ _ _))))
          clear hwj
          go_wp2_with fail
          go_ret
          exact ⟨ret_bool HR.out.symm, below_then (B' := wr.heap.size) hb (by (repeat' (first | (with_reducible exact Below.refl _ _) | (with_reducible assumption) | (with_reducible refine Below.alloc ?_ ?_ _) | (with_reducible refine below_ext ?_ ?_ _ _) | (with_reducible refine Below.setCell ?_ ?_ _) | (with_reducible refine Below.drew ?_) | (with_reducible refine below_drewN ?_ _))); all_goals (first | omega | (simp; done) | (simp; omega))) hb.size⟩
        · have HR := hide (HN.out (by rw [hv, hA, hB, hC, hD]; rfl))
          clear HN HY hv
          replace hD : decide (x ≤ p) = true := by simpa using hD
          go_wp2_with fail
          have hwj : IntKind.i64.wrap (j : Int) = j := HW.out
          go_quiet (((go_at_call 58; refine quiet_left (l1In_any _ _ _ _))))
          clear hwj
          go_wp2_with fail
          go_ret
          exact ⟨ret_bool HR.out.symm, below_then (B' := wr.heap.size) hb (by (repeat' (first | (with_reducible exact Below.refl _ _) | (with_reducible assumption) | (with_reducible refine Below.alloc ?_ ?_ _) | (with_reducible refine below_ext ?_ ?_ _ _) | (with_reducible refine Below.setCell ?_ ?_ _) | (with_reducible refine Below.drew ?_) | (with_reducible refine below_drewN ?_ _))); all_goals (first | omega | (simp; done) | (simp; omega))) hb.size⟩
        · have HR := hide (HY.out (by rw [hv, hA, hB, hC, hD]; rfl))
          clear HN HY hv
          replace hD : decide (x ≤ p) = false := by simpa using hD
          go_wp2_with fail
          have hwj : IntKind.i64.wrap (j : Int) = j := HW.out
          go_quiet (((go_at_call 58; refine quiet_left (l1In_any _ _ _ _))))
          clear hwj
          go_wp2_with fail
          go_roundw
          case rel => exact ⟨j + 1 + 1, by omega, by go_num, hide HR.out, below_then (B' := wr.heap.size) hb (by (repeat' (first | (with_reducible exact Below.refl _ _) | (with_reducible assumption) | (with_reducible refine Below.alloc ?_ ?_ _) | (with_reducible refine below_ext ?_ ?_ _ _) | (with_reducible refine Below.setCell ?_ ?_ _) | (with_reducible refine Below.drew ?_) | (with_reducible refine below_drewN ?_ _))); all_goals (first | omega | (simp; done) | (simp; omega))) hb.size⟩
          case measure => simp [intOf] <;> omega
    · obtain rfl : k = n := by omega
      have HG := hide (show vBea l k = decide ((k : Int) ≤ 4) by unfold vBea; rw [allOk_yes HF.out, Bool.true_and])
      clear HF
      go_wp2_with fail
      go_ret
      exact ⟨ret_bool HG.out.symm, hb⟩
theorem iAVB_any (w : World) (A : Option Addr) (n c lo hi : Nat) (l : List (Int × Int × Int)) (hr : Rd w lo hi 3 A n (l.flatMap c3)) (hn : n ≤ 1048576) :
    Calls Try.prog 31 #[.slice A n c] w fun e w' => e = .returned (.bool (vBea l n)) ∧ Below w.heap.size w w' := iAVB_big w A n c lo hi l hr (by omega)
theorem sAVB_any (w : World) (A : Option Addr) (n c lo hi : Nat) (l : List (Int × Int × Int)) (hr : Rd w lo hi 3 A n (l.flatMap c3)) (hn : n ≤ 1048576) :
    Calls Try.prog 30 #[.slice A n c] w fun e w' => e = .returned (.bool (vBea l n)) ∧ Below w.heap.size w w' := sAVB_big w A n c lo hi l hr (by omega)
end Go.Proofs.Yticfmkfiibhafaa
