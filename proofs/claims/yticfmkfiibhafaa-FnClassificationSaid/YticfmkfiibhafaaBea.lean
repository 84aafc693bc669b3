/- Bearers and filters: what TotalRate, FindBearer and MatchFilter return. -/
import Derived.Test.YticfmkfiibhafaaRowBearer
import Derived.Test.YticfmkfiibhafaaRowPacketFilter
import Derived.Test.YticfmkfiibhafaaInt
import Derived.IntWalk
namespace Go.Proofs.Yticfmkfiibhafaa
open Go.RowKit Go.Sep

def addRate : Int → Int × Int × Int → Int := fun a t => wrap64 (a + t.2.2)
def tRate (l : List (Int × Int × Int)) : Int := l.foldl addRate 0
def isId (id : Int) : Int × Int × Int → Bool := fun t => t.1 == id
def inF (p : Int) : Int × Int × Int → Bool := fun t => inR p t.1 t.2.1
theorem iTotalRate_any (w : World) (A : Option Addr) (n c lo hi : Nat) (l : List (Int × Int × Int)) (hr : Rd w lo hi 3 A n (l.flatMap c3)) (hn : n ≤ 1048576) :
    Calls Try.prog 19 #[.slice A n c] w fun e w' => e = .returned (.int .i64 (tRate l)) ∧ Below w.heap.size w w' := by
  have hll := hr.len3
  go_enter Try.func19, Try.ntmps19
  go_wp2_with fail
  go_loopw [3, 8] (fun q i wr => ∃ (k : Nat) (a : Int), k ≤ n ∧ i = .int .i64 k ∧ q = .int .i64 a ∧ Hid (tRate l = (l.drop k).foldl addRate a) ∧ Below w.heap.size w wr) (fun _ i _ => n - (intOf i).toNat)
  case atStart => exact ⟨0, 0, Nat.zero_le _, rfl, rfl, hide rfl, Below.refl _ _⟩
  case round =>
    obtain ⟨k, a, hk, rfl, rfl, HF, hb⟩ := hrel
    by_cases hlt : k < n
    · obtain ⟨b, o, x0, x1, x2, rfl, hx, hc0, hc1, hc2⟩ := (hr.below' hb).at3 hll hlt
      have HG := hide (HF.out.trans (fold_at hx))
      clear hr HF hx
      go_wp2_with fail
      go_roundw
      case rel => exact ⟨k + 1, _, by omega, by go_num, rfl, HG, below_then (B' := wr.heap.size) hb (by (repeat' (first | (with_reducible exact Below.refl _ _) | (with_reducible assumption) | (with_reducible refine Below.alloc ?_ ?_ _) | (with_reducible refine below_ext ?_ ?_ _ _) | (with_reducible refine Below.setCell ?_ ?_ _) | (with_reducible refine Below.drew ?_) | (with_reducible refine below_drewN ?_ _))); all_goals (first | omega | (simp; done) | (simp; omega))) hb.size⟩
      case measure => simp [intOf] <;> omega
    · obtain rfl : k = n := by omega
      have HG := hide (HF.out.trans (by rw [List.drop_eq_nil_of_le (by omega)]; rfl : _ = a))
      clear HF
      go_wp2_with fail
      go_ret
      exact ⟨ret_int HG.out.symm, hb⟩
theorem sTotalRate_any (w : World) (A : Option Addr) (n c lo hi : Nat) (l : List (Int × Int × Int)) (hr : Rd w lo hi 3 A n (l.flatMap c3)) (hn : n ≤ 1048576) :
    Calls Try.prog 17 #[.slice A n c] w fun e w' => e = .returned (.int .i64 (tRate l)) ∧ Below w.heap.size w w' := by
  have hll := hr.len3
  go_enter Try.func17, Try.ntmps17
  go_wp2_with fail
  go_loopw [3, 4] (fun q i wr => ∃ (k : Nat) (a : Int), k ≤ n ∧ i = .int .i64 k ∧ q = .int .i64 a ∧ Hid (tRate l = (l.drop k).foldl addRate a) ∧ Below w.heap.size w wr) (fun _ i _ => n - (intOf i).toNat)
  case atStart => exact ⟨0, 0, Nat.zero_le _, rfl, rfl, hide rfl, Below.refl _ _⟩
  case round =>
    obtain ⟨k, a, hk, rfl, rfl, HF, hb⟩ := hrel
    by_cases hlt : k < n
    · obtain ⟨b, o, x0, x1, x2, rfl, hx, hc0, hc1, hc2⟩ := (hr.below' hb).at3 hll hlt
      have HG := hide (HF.out.trans (fold_at hx))
      clear hr HF hx
      go_wp2_with fail
      go_roundw
      case rel => exact ⟨k + 1, _, by omega, by go_num, rfl, HG, below_then (B' := wr.heap.size) hb (by (repeat' (first | (with_reducible exact Below.refl _ _) | (with_reducible assumption) | (with_reducible refine Below.alloc ?_ ?_ _) | (with_reducible refine below_ext ?_ ?_ _ _) | (with_reducible refine Below.setCell ?_ ?_ _) | (with_reducible refine Below.drew ?_) | (with_reducible refine below_drewN ?_ _))); all_goals (first | omega | (simp; done) | (simp; omega))) hb.size⟩
      case measure => simp [intOf] <;> omega
    · obtain rfl : k = n := by omega
      have HG := hide (HF.out.trans (by rw [List.drop_eq_nil_of_le (by omega)]; rfl : _ = a))
      clear HF
      go_wp2_with fail
      go_ret
      exact ⟨ret_int HG.out.symm, hb⟩
theorem iFindBearer_any (w : World) (A : Option Addr) (n c lo hi : Nat) (l : List (Int × Int × Int)) (id : Int) (hr : Rd w lo hi 3 A n (l.flatMap c3)) (hn : n ≤ 1048576) :
    Calls Try.prog 22 #[.slice A n c, .int .i64 id] w fun e w' => e = .returned (.int .i64 (fidx (isId id) 0 l)) ∧ Below w.heap.size w w' := by
  have hll := hr.len3
  go_enter Try.func22, Try.ntmps22
  go_wp2_with fail
  go_loopw [9] (fun i wr => ∃ k : Nat, k ≤ n ∧ i = .int .i64 k ∧ Hid (fidx (isId id) 0 l = fidx (isId id) k (l.drop k)) ∧ Below w.heap.size w wr) (fun i _ => n - (intOf i).toNat)
  case atStart => exact ⟨0, Nat.zero_le _, rfl, hide (by simp), Below.refl _ _⟩
  case round =>
    obtain ⟨k, hk, rfl, HF, hb⟩ := hrel
    by_cases hlt : k < n
    · obtain ⟨b, o, x0, x1, x2, rfl, hx, hc0, hc1, hc2⟩ := (hr.below' hb).at3 hll hlt
      have hkn : (k : Int) < (n : Int) := by omega
      cases he : (x0 == id)
      · have HG := hide (HF.out.trans (fidx_miss hx he))
        clear hr HF hx
        go_wp2_with fail
        go_roundw
        case rel => exact ⟨k + 1, by omega, by go_num, HG, below_then (B' := wr.heap.size) hb (by (repeat' (first | (with_reducible exact Below.refl _ _) | (with_reducible assumption) | (with_reducible refine Below.alloc ?_ ?_ _) | (with_reducible refine below_ext ?_ ?_ _ _) | (with_reducible refine Below.setCell ?_ ?_ _) | (with_reducible refine Below.drew ?_) | (with_reducible refine below_drewN ?_ _))); all_goals (first | omega | (simp; done) | (simp; omega))) hb.size⟩
        case measure => simp [intOf] <;> omega
      · have HG := hide (HF.out.trans (fidx_hit hx he))
        clear hr HF hx
        go_wp2_with fail
        go_ret
        exact ⟨ret_int HG.out.symm, below_then (B' := wr.heap.size) hb (by (repeat' (first | (with_reducible exact Below.refl _ _) | (with_reducible assumption) | (with_reducible refine Below.alloc ?_ ?_ _) | (with_reducible refine below_ext ?_ ?_ _ _) | (with_reducible refine Below.setCell ?_ ?_ _) | (with_reducible refine Below.drew ?_) | (with_reducible refine below_drewN ?_ _))); all_goals (first | omega | (simp; done) | (simp; omega))) hb.size⟩
    · obtain rfl : k = n := by omega
      have HG := hide (HF.out.trans (fidx_end hll))
      clear HF
      go_wp2_with fail
      go_ret
      exact ⟨ret_int HG.out.symm, hb⟩
theorem sFindBearer_any (w : World) (A : Option Addr) (n c lo hi : Nat) (l : List (Int × Int × Int)) (id : Int) (hr : Rd w lo hi 3 A n (l.flatMap c3)) (hn : n ≤ 1048576) :
    Calls Try.prog 21 #[.slice A n c, .int .i64 id] w fun e w' => e = .returned (.int .i64 (fidx (isId id) 0 l)) ∧ Below w.heap.size w w' := by
  have hll := hr.len3
  go_enter Try.func21, Try.ntmps21
  go_wp2_with fail
  go_loopw [5] (fun i wr => ∃ k : Nat, k ≤ n ∧ i = .int .i64 k ∧ Hid (fidx (isId id) 0 l = fidx (isId id) k (l.drop k)) ∧ Below w.heap.size w wr) (fun i _ => n - (intOf i).toNat)
  case atStart => exact ⟨0, Nat.zero_le _, rfl, hide (by simp), Below.refl _ _⟩
  case round =>
    obtain ⟨k, hk, rfl, HF, hb⟩ := hrel
    by_cases hlt : k < n
    · obtain ⟨b, o, x0, x1, x2, rfl, hx, hc0, hc1, hc2⟩ := (hr.below' hb).at3 hll hlt
      have hkn : (k : Int) < (n : Int) := by omega
      cases he : (x0 == id)
      · have HG := hide (HF.out.trans (fidx_miss hx he))
        clear hr HF hx
        go_wp2_with fail
        go_roundw
        case rel => exact ⟨k + 1, by omega, by go_num, HG, below_then (B' := wr.heap.size) hb (by (repeat' (first | (with_reducible exact Below.refl _ _) | (with_reducible assumption) | (with_reducible refine Below.alloc ?_ ?_ _) | (with_reducible refine below_ext ?_ ?_ _ _) | (with_reducible refine Below.setCell ?_ ?_ _) | (with_reducible refine Below.drew ?_) | (with_reducible refine below_drewN ?_ _))); all_goals (first | omega | (simp; done) | (simp; omega))) hb.size⟩
        case measure => simp [intOf] <;> omega
      · have HG := hide (HF.out.trans (fidx_hit hx he))
        clear hr HF hx
        go_wp2_with fail
        go_ret
        exact ⟨ret_int HG.out.symm, below_then (B' := wr.heap.size) hb (by (repeat' (first | (with_reducible exact Below.refl _ _) | (with_reducible assumption) | (with_reducible refine Below.alloc ?_ ?_ _) | (with_reducible refine below_ext ?_ ?_ _ _) | (with_reducible refine Below.setCell ?_ ?_ _) | (with_reducible refine Below.drew ?_) | (with_reducible refine below_drewN ?_ _))); all_goals (first | omega | (simp; done) | (simp; omega))) hb.size⟩
    · obtain rfl : k = n := by omega
      have HG := hide (HF.out.trans (fidx_end hll))
      clear HF
      go_wp2_with fail
      go_ret
      exact ⟨ret_int HG.out.symm, hb⟩
theorem iMatchFilter_any (w : World) (A : Option Addr) (n c lo hi : Nat) (l : List (Int × Int × Int)) (p : Int) (hr : Rd w lo hi 3 A n (l.flatMap c3)) (hn : n ≤ 1048576) :
    Calls Try.prog 26 #[.slice A n c, .int .i64 p] w fun e w' => e = .returned (.int .i64 (fidx (inF p) 0 l)) ∧ Below w.heap.size w w' := by
  have hll := hr.len3
  go_enter Try.func26, Try.ntmps26
  go_wp2_with fail
  go_loopw [9] (fun i wr => ∃ k : Nat, k ≤ n ∧ i = .int .i64 k ∧ Hid (fidx (inF p) 0 l = fidx (inF p) k (l.drop k)) ∧ Below w.heap.size w wr) (fun i _ => n - (intOf i).toNat)
  case atStart => exact ⟨0, Nat.zero_le _, rfl, hide (by simp), Below.refl _ _⟩
  case round =>
    obtain ⟨k, hk, rfl, HF, hb⟩ := hrel
    by_cases hlt : k < n
    · obtain ⟨b, o, x0, x1, x2, rfl, hx, hc0, hc1, hc2⟩ := (hr.below' hb).at3 hll hlt
      have hkn : (k : Int) < (n : Int) := by omega
      have HI := hide (fun W => inRange_any p x0 x1 W)
      cases he : (inR p x0 x1)
      · have HG := hide (HF.out.trans (fidx_miss hx he))
        clear hr HF hx
        rw [he] at HI
        clear he
        go_wp2_with (go_at_call 60; refine (unhide HI _).mono ?_; rintro e w' ⟨rfl, rfl⟩)
        go_roundw
        case rel => exact ⟨k + 1, by omega, by go_num, HG, below_then (B' := wr.heap.size) hb (by (repeat' (first | (with_reducible exact Below.refl _ _) | (with_reducible assumption) | (with_reducible refine Below.alloc ?_ ?_ _) | (with_reducible refine below_ext ?_ ?_ _ _) | (with_reducible refine Below.setCell ?_ ?_ _) | (with_reducible refine Below.drew ?_) | (with_reducible refine below_drewN ?_ _))); all_goals (first | omega | (simp; done) | (simp; omega))) hb.size⟩
        case measure => simp [intOf] <;> omega
      · have HG := hide (HF.out.trans (fidx_hit hx he))
        clear hr HF hx
        rw [he] at HI
        clear he
        go_wp2_with (go_at_call 60; refine (unhide HI _).mono ?_; rintro e w' ⟨rfl, rfl⟩)
        go_ret
        exact ⟨ret_int HG.out.symm, below_then (B' := wr.heap.size) hb (by (repeat' (first | (with_reducible exact Below.refl _ _) | (with_reducible assumption) | (with_reducible refine Below.alloc ?_ ?_ _) | (with_reducible refine below_ext ?_ ?_ _ _) | (with_reducible refine Below.setCell ?_ ?_ _) | (with_reducible refine Below.drew ?_) | (with_reducible refine below_drewN ?_ _))); all_goals (first | omega | (simp; done) | (simp; omega))) hb.size⟩
    · obtain rfl : k = n := by omega
      have HG := hide (HF.out.trans (fidx_end hll))
      clear HF
      go_wp2_with fail
      go_ret
      exact ⟨ret_int HG.out.symm, hb⟩
theorem sMatchFilter_any (w : World) (A : Option Addr) (n c lo hi : Nat) (l : List (Int × Int × Int)) (p : Int) (hr : Rd w lo hi 3 A n (l.flatMap c3)) (hn : n ≤ 1048576) :
    Calls Try.prog 24 #[.slice A n c, .int .i64 p] w fun e w' => e = .returned (.int .i64 (fidx (inF p) 0 l)) ∧ Below w.heap.size w w' := by
  have hll := hr.len3
  go_enter Try.func24, Try.ntmps24
  go_wp2_with fail
  go_loopw [5] (fun i wr => ∃ k : Nat, k ≤ n ∧ i = .int .i64 k ∧ Hid (fidx (inF p) 0 l = fidx (inF p) k (l.drop k)) ∧ Below w.heap.size w wr) (fun i _ => n - (intOf i).toNat)
  case atStart => exact ⟨0, Nat.zero_le _, rfl, hide (by simp), Below.refl _ _⟩
  case round =>
    obtain ⟨k, hk, rfl, HF, hb⟩ := hrel
    by_cases hlt : k < n
    · obtain ⟨b, o, x0, x1, x2, rfl, hx, hc0, hc1, hc2⟩ := (hr.below' hb).at3 hll hlt
      have hkn : (k : Int) < (n : Int) := by omega
      have HI := hide (fun W => l1In_any p x0 x1 W)
      cases he : (inR p x0 x1)
      · have HG := hide (HF.out.trans (fidx_miss hx he))
        clear hr HF hx
        rw [he] at HI
        clear he
        go_wp2_with fail
        go_quiet (((go_at_call 58; refine quiet_left (unhide HI _))))
        go_wp2_with fail
        go_roundw
        case rel => exact ⟨k + 1, by omega, by go_num, HG, below_then (B' := wr.heap.size) hb (by (repeat' (first | (with_reducible exact Below.refl _ _) | (with_reducible assumption) | (with_reducible refine Below.alloc ?_ ?_ _) | (with_reducible refine below_ext ?_ ?_ _ _) | (with_reducible refine Below.setCell ?_ ?_ _) | (with_reducible refine Below.drew ?_) | (with_reducible refine below_drewN ?_ _))); all_goals (first | omega | (simp; done) | (simp; omega))) hb.size⟩
        case measure => simp [intOf] <;> omega
      · have HG := hide (HF.out.trans (fidx_hit hx he))
        clear hr HF hx
        rw [he] at HI
        clear he
        go_wp2_with fail
        go_quiet (((go_at_call 58; refine quiet_left (unhide HI _))))
        go_wp2_with fail
        go_ret
        exact ⟨ret_int HG.out.symm, below_then (B' := wr.heap.size) hb (by (repeat' (first | (with_reducible exact Below.refl _ _) | (with_reducible assumption) | (with_reducible refine Below.alloc ?_ ?_ _) | (with_reducible refine below_ext ?_ ?_ _ _) | (with_reducible refine Below.setCell ?_ ?_ _) | (with_reducible refine Below.drew ?_) | (with_reducible refine below_drewN ?_ _))); all_goals (first | omega | (simp; done) | (simp; omega))) hb.size⟩
    · obtain rfl : k = n := by omega
      have HG := hide (HF.out.trans (fidx_end hll))
      clear HF
      go_wp2_with fail
      go_ret
      exact ⟨ret_int HG.out.symm, hb⟩
end Go.Proofs.Yticfmkfiibhafaa
