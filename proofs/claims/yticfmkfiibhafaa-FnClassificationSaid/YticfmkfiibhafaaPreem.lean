/- The bearer to be taken away first: preemptionIndex and PreemptionCandidate, on both sides. -/
import Derived.Test.YticfmkfiibhafaaBea
namespace Go.Proofs.Yticfmkfiibhafaa
open Go.RowKit Go.Sep

/-- x is to go before y. -/
def worse (x y : Int × Int × Int) : Bool := decide (y.2.1 < x.2.1) || ((x.2.1 == y.2.1) && decide (y.2.2 < x.2.2))
/-- The place of the one to go first among the first k. -/
def bst (l : List (Int × Int × Int)) : Nat → Option Nat
  | 0 => none
  | k + 1 => match bst l k with
    | none => some k
    | some j => match l[k]?, l[j]? with
      | some x, some y => if worse x y = true then some k else some j
      | _, _ => some j
def bstI (l : List (Int × Int × Int)) (k : Nat) : Int := match bst l k with
  | none => -1
  | some j => j
def preC (l : List (Int × Int × Int)) (n : Nat) : Int := match bst l n with
  | none => 0
  | some j => match l[j]? with
    | none => 0
    | some x => x.1
theorem bst_lt (l : List (Int × Int × Int)) (k : Nat) : (k = 0 ∧ bst l k = none) ∨ (0 < k ∧ ∃ j, j < k ∧ bst l k = some j) := by
  induction k with
  | zero => exact .inl ⟨rfl, rfl⟩
  | succ k ih =>
    refine .inr ⟨by omega, ?_⟩
    rw [bst]
    rcases ih with ⟨rfl, h⟩ | ⟨_, j, hj, h⟩
    · rw [h]; exact ⟨0, by omega, rfl⟩
    · simp only [h]
      cases hk : l[k]? with
      | none => exact ⟨j, by omega, rfl⟩
      | some x =>
        cases hj2 : l[j]? with
        | none => exact ⟨j, by omega, rfl⟩
        | some y =>
          cases hw : worse x y
          · exact ⟨j, by omega, by simp only [hw]; rfl⟩
          · exact ⟨k, by omega, by simp only [hw]; rfl⟩
theorem bst_0 {l : List (Int × Int × Int)} {k : Nat} (h : bst l k = none) : bst l (k + 1) = some k := by rw [bst, h]
theorem bst_y {l : List (Int × Int × Int)} {k j : Nat} {x y : Int × Int × Int} (h : bst l k = some j) (hx : l[k]? = some x) (hy : l[j]? = some y) (hw : worse x y = true) : bst l (k + 1) = some k := by simp only [bst, h, hx, hy, hw, if_true]
theorem bst_n {l : List (Int × Int × Int)} {k j : Nat} {x y : Int × Int × Int} (h : bst l k = some j) (hx : l[k]? = some x) (hy : l[j]? = some y) (hw : worse x y = false) : bst l (k + 1) = some j := by simp only [bst, h, hx, hy, hw, Bool.false_eq_true, if_false]
theorem worse_cases (x0 x1 x2 y0 y1 y2 : Int) : (decide (y1 < x1) = true ∧ worse (x0, x1, x2) (y0, y1, y2) = true) ∨
    (decide (y1 < x1) = false ∧ (x1 == y1) = false ∧ worse (x0, x1, x2) (y0, y1, y2) = false) ∨
    (decide (y1 < x1) = false ∧ (x1 == y1) = true ∧ decide (y2 < x2) = true ∧ worse (x0, x1, x2) (y0, y1, y2) = true) ∨
    (decide (y1 < x1) = false ∧ (x1 == y1) = true ∧ decide (y2 < x2) = false ∧ worse (x0, x1, x2) (y0, y1, y2) = false) := by
  unfold worse
  simp only
  cases decide (y1 < x1) <;> cases (x1 == y1) <;> cases decide (y2 < x2) <;> simp
theorem bstI_some {l : List (Int × Int × Int)} {k j : Nat} (h : bst l k = some j) : bstI l k = j := by rw [bstI, h]
theorem bstI_none {l : List (Int × Int × Int)} {k : Nat} (h : bst l k = none) : bstI l k = -1 := by rw [bstI, h]

set_option maxRecDepth 100000 in
theorem iPreI_any (w : World) (A : Option Addr) (n c lo hi : Nat) (l : List (Int × Int × Int)) (hr : Rd w lo hi 3 A n (l.flatMap c3)) (hn : n ≤ 1048576) :
    Calls Try.prog 62 #[.slice A n c] w fun e w' => e = .returned (.int .i64 (bstI l n)) ∧ Below w.heap.size w w' := by
  have hll := hr.len3
  go_enter Try.func62, Try.ntmps62
  go_wp2_with fail
  go_loopw [3, 8] (fun q i wr => ∃ k : Nat, k ≤ n ∧ i = .int .i64 k ∧ q = .int .i64 (bstI l k) ∧ Below w.heap.size w wr) (fun _ i _ => n - (intOf i).toNat)
  case atStart => exact ⟨0, Nat.zero_le _, rfl, rfl, Below.refl _ _⟩
  case round =>
    obtain ⟨k, hk, rfl, rfl, hb⟩ := hrel
    by_cases hlt : k < n
    · obtain ⟨b, o, x0, x1, x2, rfl, hx, hc0, hc1, hc2⟩ := (hr.below' hb).at3 hll hlt
      have hbl : b < wr.heap.size := World.block_lt_of_cell? wr _ hc0
      rcases bst_lt l k with ⟨rfl, h0⟩ | ⟨hpos, j, hj, h0⟩
      · have HB := hide (bstI_some (bst_0 h0))
        rw [bstI_none h0]
        clear h0 hr hx
        simp only [Nat.zero_mul, Nat.add_zero] at hc0 hc1 hc2
        go_wp2_with fail
        go_quiet (fail)
        go_wp2_with fail
        go_roundw
        case rel => exact ⟨0 + 1, by omega, by go_num, by rw [HB.out], below_then (B' := wr.heap.size) hb (by (repeat' (first | (with_reducible exact Below.refl _ _) | (with_reducible assumption) | (with_reducible refine Below.alloc ?_ ?_ _) | (with_reducible refine below_ext ?_ ?_ _ _) | (with_reducible refine Below.setCell ?_ ?_ _) | (with_reducible refine Below.drew ?_) | (with_reducible refine below_drewN ?_ _))); all_goals (first | omega | (simp; done) | (simp; omega))) hb.size⟩
        case measure => simp [intOf] <;> omega
      · obtain ⟨b', o', y0, y1, y2, hbo, hy, hp0, hp1, hp2⟩ := (hr.below' hb).at3 hll (show j < n by omega)
        injection hbo with hbo
        injection hbo with hbo1 hbo2
        subst hbo1 hbo2
        have hjn : (j : Int) < (n : Int) := by omega
        have hj0 : decide ((j : Int) < 0) = false := by simp
        rw [bstI_some h0]
        rcases worse_cases x0 x1 x2 y0 y1 y2 with ⟨hA, hw⟩ | ⟨hA, hB, hw⟩ | ⟨hA, hB, hC, hw⟩ | ⟨hA, hB, hC, hw⟩
        all_goals
          first
          | have HB := hide (bstI_some (bst_y h0 hx hy hw))
          | have HB := hide (bstI_some (bst_n h0 hx hy hw))
          clear h0 hr hx hy hw
          go_wp2_with fail
          go_quiet (fail)
          go_wp2_with fail
          go_roundw
          case rel => exact ⟨k + 1, by omega, by go_num, by rw [HB.out], below_then (B' := wr.heap.size) hb (by (repeat' (first | (with_reducible exact Below.refl _ _) | (with_reducible assumption) | (with_reducible refine Below.alloc ?_ ?_ _) | (with_reducible refine below_ext ?_ ?_ _ _) | (with_reducible refine Below.setCell ?_ ?_ _) | (with_reducible refine Below.drew ?_) | (with_reducible refine below_drewN ?_ _))); all_goals (first | omega | (simp; done) | (simp; omega))) hb.size⟩
          case measure => simp [intOf] <;> omega
    · obtain rfl : k = n := by omega
      go_wp2_with fail
      go_ret
      exact ⟨rfl, hb⟩
theorem iPreC_any (w : World) (A : Option Addr) (n c lo hi : Nat) (l : List (Int × Int × Int)) (hr : Rd w lo hi 3 A n (l.flatMap c3)) (hn : n ≤ 1048576) :
    Calls Try.prog 33 #[.slice A n c] w fun e w' => e = .returned (.int .i64 (preC l n)) ∧ Below w.heap.size w w' := by
  have hll := hr.len3
  have HI := hide (fun W h => iPreI_any W A n c lo hi l h hn)
  rcases bst_lt l n with ⟨rfl, h0⟩ | ⟨hpos, j, hj, h0⟩
  · have HR := hide (show preC l 0 = 0 by rw [preC, h0])
    rw [bstI_none h0] at HI
    clear h0
    go_enter Try.func33, Try.ntmps33
    go_wp2_with (go_at_call 62; refine (unhide HI _ (hr.below' (by (repeat' (first | (with_reducible exact Below.refl _ _) | (with_reducible assumption) | (with_reducible refine Below.alloc ?_ ?_ _) | (with_reducible refine below_ext ?_ ?_ _ _) | (with_reducible refine Below.setCell ?_ ?_ _) | (with_reducible refine Below.drew ?_) | (with_reducible refine below_drewN ?_ _))); all_goals (first | omega | (simp; done) | (simp; omega))))).mono ?_; rintro e w1 ⟨rfl, hb1⟩; obtain ⟨os1, d1, rfl⟩ := ext_of_below hb1; clear hb1)
    go_ret
    exact ⟨ret_int HR.out.symm, (by (repeat' (first | (with_reducible exact Below.refl _ _) | (with_reducible assumption) | (with_reducible refine Below.alloc ?_ ?_ _) | (with_reducible refine below_ext ?_ ?_ _ _) | (with_reducible refine Below.setCell ?_ ?_ _) | (with_reducible refine Below.drew ?_) | (with_reducible refine below_drewN ?_ _))); all_goals (first | omega | (simp; done) | (simp; omega)))⟩
  · obtain ⟨b, o, x0, x1, x2, rfl, hx, hc0, hc1, hc2⟩ := hr.at3 hll hj
    have HR := hide (show preC l n = x0 by rw [preC, h0]; simp only; rw [hx])
    have hjn : (j : Int) < (n : Int) := by omega
    have hbl : b < w.heap.size := World.block_lt_of_cell? w _ hc0
    rw [bstI_some h0] at HI
    clear h0 hx
    go_enter Try.func33, Try.ntmps33
    go_wp2_with (go_at_call 62; refine (unhide HI _ (hr.below' (by (repeat' (first | (with_reducible exact Below.refl _ _) | (with_reducible assumption) | (with_reducible refine Below.alloc ?_ ?_ _) | (with_reducible refine below_ext ?_ ?_ _ _) | (with_reducible refine Below.setCell ?_ ?_ _) | (with_reducible refine Below.drew ?_) | (with_reducible refine below_drewN ?_ _))); all_goals (first | omega | (simp; done) | (simp; omega))))).mono ?_; rintro e w1 ⟨rfl, hb1⟩; obtain ⟨os1, d1, rfl⟩ := ext_of_below hb1; clear hb1)
    go_ret
    exact ⟨ret_int HR.out.symm, (by (repeat' (first | (with_reducible exact Below.refl _ _) | (with_reducible assumption) | (with_reducible refine Below.alloc ?_ ?_ _) | (with_reducible refine below_ext ?_ ?_ _ _) | (with_reducible refine Below.setCell ?_ ?_ _) | (with_reducible refine Below.drew ?_) | (with_reducible refine below_drewN ?_ _))); all_goals (first | omega | (simp; done) | (simp; omega)))⟩
set_option maxRecDepth 100000 in
theorem sPreC_any (w : World) (A : Option Addr) (n c lo hi : Nat) (l : List (Int × Int × Int)) (hr : Rd w lo hi 3 A n (l.flatMap c3)) (hn : n ≤ 1048576) :
    Calls Try.prog 32 #[.slice A n c] w fun e w' => e = .returned (.int .i64 (preC l n)) ∧ Below w.heap.size w w' := by
  have hll := hr.len3
  go_enter Try.func32, Try.ntmps32
  go_wp2_with fail
  go_loopw [3, 4] (fun q i wr => ∃ k : Nat, k ≤ n ∧ i = .int .i64 k ∧ q = .int .i64 (bstI l k) ∧ Below w.heap.size w wr) (fun _ i _ => n - (intOf i).toNat)
  case atStart => exact ⟨0, Nat.zero_le _, rfl, rfl, Below.refl _ _⟩
  case round =>
    obtain ⟨k, hk, rfl, rfl, hb⟩ := hrel
    by_cases hlt : k < n
    · obtain ⟨b, o, x0, x1, x2, rfl, hx, hc0, hc1, hc2⟩ := (hr.below' hb).at3 hll hlt
      have hkn : (k : Int) < (n : Int) := by omega
      rcases bst_lt l k with ⟨rfl, h0⟩ | ⟨hpos, j, hj, h0⟩
      · have HB := hide (bstI_some (bst_0 h0))
        rw [bstI_none h0]
        clear h0 hr hx
        simp only [Nat.zero_mul, Nat.add_zero] at hc0 hc1 hc2
        go_wp2_with fail
        go_quiet (fail)
        go_wp2_with fail
        go_roundw
        case rel => exact ⟨0 + 1, by omega, by go_num, by rw [HB.out], below_then (B' := wr.heap.size) hb (by (repeat' (first | (with_reducible exact Below.refl _ _) | (with_reducible assumption) | (with_reducible refine Below.alloc ?_ ?_ _) | (with_reducible refine below_ext ?_ ?_ _ _) | (with_reducible refine Below.setCell ?_ ?_ _) | (with_reducible refine Below.drew ?_) | (with_reducible refine below_drewN ?_ _))); all_goals (first | omega | (simp; done) | (simp; omega))) hb.size⟩
        case measure => simp [intOf] <;> omega
      · obtain ⟨b', o', y0, y1, y2, hbo, hy, hp0, hp1, hp2⟩ := (hr.below' hb).at3 hll (show j < n by omega)
        injection hbo with hbo
        injection hbo with hbo1 hbo2
        subst hbo1 hbo2
        have hjn : (j : Int) < (n : Int) := by omega
        have hj0 : decide ((j : Int) < 0) = false := by simp
        rw [bstI_some h0]
        rcases worse_cases x0 x1 x2 y0 y1 y2 with ⟨hA, hw⟩ | ⟨hA, hB, hw⟩ | ⟨hA, hB, hC, hw⟩ | ⟨hA, hB, hC, hw⟩
        all_goals
          first
          | have HB := hide (bstI_some (bst_y h0 hx hy hw))
          | have HB := hide (bstI_some (bst_n h0 hx hy hw))
          clear h0 hr hx hy hw
          go_wp2_with fail
          go_quiet (fail)
          go_wp2_with fail
          go_roundw
          case rel => exact ⟨k + 1, by omega, by go_num, by rw [HB.out], below_then (B' := wr.heap.size) hb (by (repeat' (first | (with_reducible exact Below.refl _ _) | (with_reducible assumption) | (with_reducible refine Below.alloc ?_ ?_ _) | (with_reducible refine below_ext ?_ ?_ _ _) | (with_reducible refine Below.setCell ?_ ?_ _) | (with_reducible refine Below.drew ?_) | (with_reducible refine below_drewN ?_ _))); all_goals (first | omega | (simp; done) | (simp; omega))) hb.size⟩
          case measure => simp [intOf] <;> omega
    · obtain rfl : k = n := by omega
      rcases bst_lt l k with ⟨rfl, h0⟩ | ⟨hpos, j, hj, h0⟩
      · have HR := hide (show preC l 0 = 0 by rw [preC, h0])
        rw [bstI_none h0]
        clear h0
        go_wp2_with fail
        go_ret
        exact ⟨ret_int HR.out.symm, hb⟩
      · obtain ⟨b, o, x0, x1, x2, rfl, hx, hc0, hc1, hc2⟩ := (hr.below' hb).at3 hll hj
        have HR := hide (show preC l k = x0 by rw [preC, h0]; simp only; rw [hx])
        have hjn : (j : Int) < (k : Int) := by omega
        rw [bstI_some h0]
        clear h0 hx
        go_wp2_with fail
        go_ret
        exact ⟨ret_int HR.out.symm, hb⟩
end Go.Proofs.Yticfmkfiibhafaa
