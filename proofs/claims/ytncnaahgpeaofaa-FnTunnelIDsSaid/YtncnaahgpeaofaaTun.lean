/- Tunnels: what TunnelPeer and AreValidTunnels return. -/
import Derived.Test.YtncnaahgpeaofaaRowTunnel
import Derived.Test.YtncnaahgpeaofaaInt
import Derived.IntWalk
namespace Go.Proofs.Ytncnaahgpeaofaa
open Go.RowKit Go.Sep

/-- The first tunnel of that identifier: its peer. -/
def tpeer (id : Int) : List (Int × Int) → Int
  | [] => -1
  | p :: r => if (p.1 == id) = true then p.2 else tpeer id r
theorem tpeer_hit {l : List (Int × Int)} {k : Nat} {x y id : Int} (h : l[k]? = some (x, y)) (he : (x == id) = true) : tpeer id (l.drop k) = y := by rw [at_take h, tpeer, if_pos he]
theorem tpeer_miss {l : List (Int × Int)} {k : Nat} {x y id : Int} (h : l[k]? = some (x, y)) (he : (x == id) = false) : tpeer id (l.drop k) = tpeer id (l.drop (k + 1)) := by rw [at_take h, tpeer, if_neg (by simp [he])]
theorem tpeer_end {l : List (Int × Int)} {n : Nat} (h : l.length = n) (id : Int) : tpeer id (l.drop n) = -1 := by rw [List.drop_eq_nil_of_le (by omega), tpeer]

theorem iTunnelPeer_any (w : World) (A : Option Addr) (n c lo hi : Nat) (l : List (Int × Int)) (id : Int) (hr : Rd w lo hi 2 A n (l.flatMap c2)) (hn : n ≤ 1048576) :
    Calls Try.prog 13 #[.slice A n c, .int .i64 id] w fun e w' => e = .returned (.int .i64 (tpeer id l)) ∧ Below w.heap.size w w' := by
  have hll := hr.len2
  go_enter Try.func13, Try.ntmps13
  go_wp2_with fail
  go_loopw [9] (fun i wr => ∃ k : Nat, k ≤ n ∧ i = .int .i64 k ∧ Hid (tpeer id l = tpeer id (l.drop k)) ∧ Below w.heap.size w wr) (fun i _ => n - (intOf i).toNat)
  case atStart => exact ⟨0, Nat.zero_le _, rfl, hide (by simp), Below.refl _ _⟩
  case round =>
    obtain ⟨k, hk, rfl, HF, hb⟩ := hrel
    by_cases hlt : k < n
    · obtain ⟨b, o, x, y, rfl, hx, hc0, hc1⟩ := (hr.below' hb).at2 hll hlt
      cases he : (x == id)
      · have HG := hide (HF.out.trans (tpeer_miss hx he))
        clear hr HF hx
        go_wp2_with fail
        go_roundw
        case rel => exact ⟨k + 1, by omega, by go_num, HG, below_then (B' := wr.heap.size) hb (by (repeat' (first | (with_reducible exact Below.refl _ _) | (with_reducible assumption) | (with_reducible refine Below.alloc ?_ ?_ _) | (with_reducible refine below_ext ?_ ?_ _ _) | (with_reducible refine Below.setCell ?_ ?_ _) | (with_reducible refine Below.drew ?_) | (with_reducible refine below_drewN ?_ _))); all_goals (first | omega | (simp; done) | (simp; omega))) hb.size⟩
        case measure => simp [intOf] <;> omega
      · have HG := hide (HF.out.trans (tpeer_hit hx he))
        clear hr HF hx
        go_wp2_with fail
        go_ret
        exact ⟨ret_int HG.out.symm, below_then (B' := wr.heap.size) hb (by (repeat' (first | (with_reducible exact Below.refl _ _) | (with_reducible assumption) | (with_reducible refine Below.alloc ?_ ?_ _) | (with_reducible refine below_ext ?_ ?_ _ _) | (with_reducible refine Below.setCell ?_ ?_ _) | (with_reducible refine Below.drew ?_) | (with_reducible refine below_drewN ?_ _))); all_goals (first | omega | (simp; done) | (simp; omega))) hb.size⟩
    · obtain rfl : k = n := by omega
      have HG := hide (HF.out.trans (tpeer_end hll id))
      clear HF
      go_wp2_with fail
      go_ret
      exact ⟨ret_int HG.out.symm, hb⟩
theorem sTunnelPeer_any (w : World) (A : Option Addr) (n c lo hi : Nat) (l : List (Int × Int)) (id : Int) (hr : Rd w lo hi 2 A n (l.flatMap c2)) (hn : n ≤ 1048576) :
    Calls Try.prog 11 #[.slice A n c, .int .i64 id] w fun e w' => e = .returned (.int .i64 (tpeer id l)) ∧ Below w.heap.size w w' := by
  have hll := hr.len2
  go_enter Try.func11, Try.ntmps11
  go_wp2_with fail
  go_loopw [5] (fun i wr => ∃ k : Nat, k ≤ n ∧ i = .int .i64 k ∧ Hid (tpeer id l = tpeer id (l.drop k)) ∧ Below w.heap.size w wr) (fun i _ => n - (intOf i).toNat)
  case atStart => exact ⟨0, Nat.zero_le _, rfl, hide (by simp), Below.refl _ _⟩
  case round =>
    obtain ⟨k, hk, rfl, HF, hb⟩ := hrel
    by_cases hlt : k < n
    · obtain ⟨b, o, x, y, rfl, hx, hc0, hc1⟩ := (hr.below' hb).at2 hll hlt
      cases he : (x == id)
      · have HG := hide (HF.out.trans (tpeer_miss hx he))
        clear hr HF hx
        go_wp2_with fail
        go_roundw
        case rel => exact ⟨k + 1, by omega, by go_num, HG, hb⟩
        case measure => simp [intOf] <;> omega
      · have HG := hide (HF.out.trans (tpeer_hit hx he))
        clear hr HF hx
        go_wp2_with fail
        go_ret
        exact ⟨ret_int HG.out.symm, hb⟩
    · obtain rfl : k = n := by omega
      have HG := hide (HF.out.trans (tpeer_end hll id))
      clear HF
      go_wp2_with fail
      go_ret
      exact ⟨ret_int HG.out.symm, hb⟩

/-- Whether element i of the tunnels is as it should be. -/
def tOk (l : List (Int × Int)) (i : Nat) : Bool :=
  match l[i]? with
  | none => true
  | some (x, y) => inR x 1 20 && !decide (y < 0) && (match i with
    | 0 => true
    | j + 1 => match l[j]? with
      | none => true
      | some (p, _) => !decide (x ≤ p))
/-- The tests of one tunnel. -/
theorem tOk_0 {l : List (Int × Int)} {x y : Int} (h : l[0]? = some (x, y)) : tOk l 0 = (inR x 1 20 && !decide (y < 0)) := by simp [tOk, h]
theorem tOk_s {l : List (Int × Int)} {j : Nat} {x y p q : Int} (h : l[j + 1]? = some (x, y)) (h' : l[j]? = some (p, q)) : tOk l (j + 1) = (inR x 1 20 && !decide (y < 0) && !decide (x ≤ p)) := by simp only [tOk, h, h']

theorem iAVT_any (w : World) (A : Option Addr) (n c lo hi : Nat) (l : List (Int × Int)) (hr : Rd w lo hi 2 A n (l.flatMap c2)) (hn : n ≤ 1048576) :
    Calls Try.prog 16 #[.slice A n c] w fun e w' => e = .returned (.bool (allOk (tOk l) n)) ∧ Below w.heap.size w w' := by
  have hll := hr.len2
  go_enter Try.func16, Try.ntmps16
  go_wp2_with fail
  go_loopw [7] (fun i wr => ∃ k : Nat, k ≤ n ∧ i = .int .i64 k ∧ Hid (∀ j, j < k → tOk l j = true) ∧ Below w.heap.size w wr) (fun i _ => n - (intOf i).toNat)
  case atStart => exact ⟨0, Nat.zero_le _, rfl, hide (fun j hj => absurd hj (by omega)), Below.refl _ _⟩
  case round =>
    obtain ⟨k, hk, rfl, HF, hb⟩ := hrel
    by_cases hlt : k < n
    · obtain ⟨b, o, x, y, rfl, hx, hc0, hc1⟩ := (hr.below' hb).at2 hll hlt
      have HN := hide (fun h : tOk l k = false => allOk_no hlt h)
      have HY := hide (fun h : tOk l k = true => lt_next HF.out h)
      rcases k with _ | j
      · rw [tOk_0 hx] at HN HY
        clear hr HF hx
        simp only [Nat.zero_mul, Nat.add_zero] at hc0 hc1
        have HI := hide (fun W => inRange_any x 1 20 W)
        cases hA : inR x 1 20 <;> cases hB : decide (y < 0)
        all_goals
          rw [hA] at HI
          rw [hA, hB] at HN HY
          clear hA
          go_wp2_with (go_at_call 43; refine (unhide HI _).mono ?_; rintro e w' ⟨rfl, rfl⟩)
          first
          | (go_ret; exact ⟨ret_bool (HN.out rfl).symm, below_then (B' := wr.heap.size) hb (by (repeat' (first | (with_reducible exact Below.refl _ _) | (with_reducible assumption) | (with_reducible refine Below.alloc ?_ ?_ _) | (with_reducible refine below_ext ?_ ?_ _ _) | (with_reducible refine Below.setCell ?_ ?_ _) | (with_reducible refine Below.drew ?_) | (with_reducible refine below_drewN ?_ _))); all_goals (first | omega | (simp; done) | (simp; omega))) hb.size⟩)
          | (go_quiet (fail); go_wp2_with fail; go_roundw; (case rel => exact ⟨0 + 1, by omega, by go_num, hide (HY.out rfl), below_then (B' := wr.heap.size) hb (by (repeat' (first | (with_reducible exact Below.refl _ _) | (with_reducible assumption) | (with_reducible refine Below.alloc ?_ ?_ _) | (with_reducible refine below_ext ?_ ?_ _ _) | (with_reducible refine Below.setCell ?_ ?_ _) | (with_reducible refine Below.drew ?_) | (with_reducible refine below_drewN ?_ _))); all_goals (first | omega | (simp; done) | (simp; omega))) hb.size⟩); (case measure => simp [intOf] <;> omega))
      · obtain ⟨b', o', p, q, hbo, hx', hc0', hc1'⟩ := (hr.below' hb).at2 hll (show j < n by omega)
        injection hbo with hbo
        injection hbo with hbo1 hbo2
        subst hbo1 hbo2
        rw [tOk_s hx hx'] at HN HY
        clear hr HF hx hx'
        have HW := hide (IntWalk.i64_in (j : Int) (by omega))
        have hjn : (j : Int) < (n : Int) := by omega
        have hbl : b < wr.heap.size := World.block_lt_of_cell? wr _ hc0
        cases hA : inR x 1 20 <;> cases hB : decide (y < 0) <;> cases hC : decide (x ≤ p)
        all_goals
          have HI := hide (fun W => inRange_any x 1 20 W)
          rw [hA] at HI
          rw [hA, hB, hC] at HN HY
          clear hA
          go_wp2_with (go_at_call 43; refine (unhide HI _).mono ?_; rintro e w' ⟨rfl, rfl⟩)
          first
          | (go_ret; exact ⟨ret_bool (HN.out rfl).symm, below_then (B' := wr.heap.size) hb (by (repeat' (first | (with_reducible exact Below.refl _ _) | (with_reducible assumption) | (with_reducible refine Below.alloc ?_ ?_ _) | (with_reducible refine below_ext ?_ ?_ _ _) | (with_reducible refine Below.setCell ?_ ?_ _) | (with_reducible refine Below.drew ?_) | (with_reducible refine below_drewN ?_ _))); all_goals (first | omega | (simp; done) | (simp; omega))) hb.size⟩)
          | (have hwj : IntKind.i64.wrap (j : Int) = j := HW.out; go_quiet (fail); clear hwj; go_wp2_with fail; first | (go_ret; exact ⟨ret_bool (HN.out rfl).symm, below_then (B' := wr.heap.size) hb (by (repeat' (first | (with_reducible exact Below.refl _ _) | (with_reducible assumption) | (with_reducible refine Below.alloc ?_ ?_ _) | (with_reducible refine below_ext ?_ ?_ _ _) | (with_reducible refine Below.setCell ?_ ?_ _) | (with_reducible refine Below.drew ?_) | (with_reducible refine below_drewN ?_ _))); all_goals (first | omega | (simp; done) | (simp; omega))) hb.size⟩) | (go_roundw; (case rel => exact ⟨j + 1 + 1, by omega, by go_num, hide (HY.out rfl), below_then (B' := wr.heap.size) hb (by (repeat' (first | (with_reducible exact Below.refl _ _) | (with_reducible assumption) | (with_reducible refine Below.alloc ?_ ?_ _) | (with_reducible refine below_ext ?_ ?_ _ _) | (with_reducible refine Below.setCell ?_ ?_ _) | (with_reducible refine Below.drew ?_) | (with_reducible refine below_drewN ?_ _))); all_goals (first | omega | (simp; done) | (simp; omega))) hb.size⟩); (case measure => simp [intOf] <;> omega)))
    · obtain rfl : k = n := by omega
      have HG := hide (allOk_yes HF.out)
      clear HF
      go_wp2_with fail
      go_ret
      exact ⟨ret_bool HG.out.symm, hb⟩
theorem sAVT_any (w : World) (A : Option Addr) (n c lo hi : Nat) (l : List (Int × Int)) (hr : Rd w lo hi 2 A n (l.flatMap c2)) (hn : n ≤ 1048576) :
    Calls Try.prog 15 #[.slice A n c] w fun e w' => e = .returned (.bool (allOk (tOk l) n)) ∧ Below w.heap.size w w' := by
  have hll := hr.len2
  go_enter Try.func15, Try.ntmps15
  go_wp2_with fail
  go_loopw [3] (fun i wr => ∃ k : Nat, k ≤ n ∧ i = .int .i64 k ∧ Hid (∀ j, j < k → tOk l j = true) ∧ Below w.heap.size w wr) (fun i _ => n - (intOf i).toNat)
  case atStart => exact ⟨0, Nat.zero_le _, rfl, hide (fun j hj => absurd hj (by omega)), Below.refl _ _⟩
  case round =>
    obtain ⟨k, hk, rfl, HF, hb⟩ := hrel
    by_cases hlt : k < n
    · obtain ⟨b, o, x, y, rfl, hx, hc0, hc1⟩ := (hr.below' hb).at2 hll hlt
      have HN := hide (fun h : tOk l k = false => allOk_no hlt h)
      have HY := hide (fun h : tOk l k = true => lt_next HF.out h)
      have HI := hide (fun W => l1In_any x 1 20 W)
      have hkn : (k : Int) < (n : Int) := by omega
      rcases k with _ | j
      · rw [tOk_0 hx] at HN HY
        clear hr HF hx
        simp only [Nat.zero_mul, Nat.add_zero] at hc0 hc1
        cases hA : inR x 1 20 <;> cases hB : decide (y < 0)
        all_goals
          rw [hA] at HI
          rw [hA, hB] at HN HY
          clear hA
          go_wp2_with fail
          go_quiet (((go_at_call 42; refine quiet_left (unhide HI _))))
          go_wp2_with fail
          first
          | (go_ret; exact ⟨ret_bool (HN.out rfl).symm, (by (repeat' (first | (with_reducible exact Below.refl _ _) | (with_reducible assumption) | (with_reducible refine Below.alloc ?_ ?_ _) | (with_reducible refine below_ext ?_ ?_ _ _) | (with_reducible refine Below.setCell ?_ ?_ _) | (with_reducible refine Below.drew ?_) | (with_reducible refine below_drewN ?_ _))); all_goals (first | omega | (simp; done) | (simp; omega)))⟩)
          | (go_roundw; (case rel => exact ⟨0 + 1, by omega, by go_num, hide (HY.out rfl), (by (repeat' (first | (with_reducible exact Below.refl _ _) | (with_reducible assumption) | (with_reducible refine Below.alloc ?_ ?_ _) | (with_reducible refine below_ext ?_ ?_ _ _) | (with_reducible refine Below.setCell ?_ ?_ _) | (with_reducible refine Below.drew ?_) | (with_reducible refine below_drewN ?_ _))); all_goals (first | omega | (simp; done) | (simp; omega)))⟩); (case measure => simp [intOf] <;> omega))
      · obtain ⟨b', o', p, q, hbo, hx', hc0', hc1'⟩ := (hr.below' hb).at2 hll (show j < n by omega)
        injection hbo with hbo
        injection hbo with hbo1 hbo2
        subst hbo1 hbo2
        rw [tOk_s hx hx'] at HN HY
        clear hr HF hx hx'
        have HW := hide (IntWalk.i64_in (j : Int) (by omega))
        have hjn : (j : Int) < (n : Int) := by omega
        cases hA : inR x 1 20 <;> cases hB : decide (y < 0) <;> cases hC : decide (x ≤ p)
        all_goals
          rw [hA] at HI
          rw [hA, hB, hC] at HN HY
          clear hA
          go_wp2_with fail
          have hwj : IntKind.i64.wrap (j : Int) = j := HW.out
          go_quiet (((go_at_call 42; refine quiet_left (unhide HI _))))
          clear hwj
          go_wp2_with fail
          first
          | (go_ret; exact ⟨ret_bool (HN.out rfl).symm, (by (repeat' (first | (with_reducible exact Below.refl _ _) | (with_reducible assumption) | (with_reducible refine Below.alloc ?_ ?_ _) | (with_reducible refine below_ext ?_ ?_ _ _) | (with_reducible refine Below.setCell ?_ ?_ _) | (with_reducible refine Below.drew ?_) | (with_reducible refine below_drewN ?_ _))); all_goals (first | omega | (simp; done) | (simp; omega)))⟩)
          | (go_roundw; (case rel => exact ⟨j + 1 + 1, by omega, by go_num, hide (HY.out rfl), (by (repeat' (first | (with_reducible exact Below.refl _ _) | (with_reducible assumption) | (with_reducible refine Below.alloc ?_ ?_ _) | (with_reducible refine below_ext ?_ ?_ _ _) | (with_reducible refine Below.setCell ?_ ?_ _) | (with_reducible refine Below.drew ?_) | (with_reducible refine below_drewN ?_ _))); all_goals (first | omega | (simp; done) | (simp; omega)))⟩); (case measure => simp [intOf] <;> omega))
    · obtain rfl : k = n := by omega
      have HG := hide (allOk_yes HF.out)
      clear HF
      go_wp2_with fail
      go_ret
      exact ⟨ret_bool HG.out.symm, (by (repeat' (first | (with_reducible exact Below.refl _ _) | (with_reducible assumption) | (with_reducible refine Below.alloc ?_ ?_ _) | (with_reducible refine below_ext ?_ ?_ _ _) | (with_reducible refine Below.setCell ?_ ?_ _) | (with_reducible refine Below.drew ?_) | (with_reducible refine below_drewN ?_ _))); all_goals (first | omega | (simp; done) | (simp; omega)))⟩
end Go.Proofs.Ytncnaahgpeaofaa
