/- CloseTunnel and TunnelsOfPeer: what they make. -/
import Derived.Test.YtncnaahgpeaofaaRowTunnel
import Derived.Test.YtncnaahgpeaofaaIntS
import Derived.Test.YtncnaahgpeaofaaApp
namespace Go.Proofs.Ytncnaahgpeaofaa
open Go.RowKit Go.Sep

def fClose (id : Int) : Int × Int → Option (Int × Int) := fun t => if (t.1 == id) = true then none else some t
def fOfPeer (p : Int) : Int × Int → Option Int := fun t => if (t.2 == p) = true then some t.1 else none
theorem fClose_1 {x0 x1 id : Int} (h : (x0 == id) = true) : fClose id (x0, x1) = none := by simp [fClose, h]
theorem fClose_2 {x0 x1 id : Int} (h : (x0 == id) = false) : fClose id (x0, x1) = some (x0, x1) := by simp [fClose, h]
theorem fOfPeer_1 {x0 x1 p : Int} (h : (x1 == p) = false) : fOfPeer p (x0, x1) = none := by simp [fOfPeer, h]
theorem fOfPeer_2 {x0 x1 p : Int} (h : (x1 == p) = true) : fOfPeer p (x0, x1) = some x0 := by simp [fOfPeer, h]
set_option maxRecDepth 100000 in
theorem iClose_any (w : World) (A : Option Addr) (n c lo hi : Nat) (l : List (Int × Int)) (id : Int) (hr : Rd w lo hi 2 A n (l.flatMap c2)) (hn : n ≤ 1048576) :
    Calls Try.prog 18 #[.slice A n c, .int .i64 id] w (Mk w 50 2 (l.filterMap (fClose id)).length ((l.filterMap (fClose id)).flatMap c2)) := by
  have hll := hr.len2
  obtain ⟨i0, hi0, hz0, hz1, hz2⟩ := info_parts infoTunnel
  have hown : Own (w.alloc (.cells #[] 50)) w.heap.size (w.alloc (.cells #[] 50)).heap.size 50 2 (.slice (some ⟨w.heap.size, 0, none⟩) 0 0) 0 ([].flatMap c2) := by
    simpa using Own.fresh w #[] 50 2 0 rfl (by unfold maxLen; omega)
  go_enter Try.func18, Try.ntmps18
  go_wp2_with fail
  go_loopw [5, 11] (fun q i wr => ∃ (k m : Nat) (A' : Option Addr) (c' : Nat) (acc : List (Int × Int)), k ≤ n ∧ m ≤ k ∧ i = .int .i64 k ∧ q = .slice A' m c' ∧ Hid (acc.length = m) ∧ Hid (l.filterMap (fClose id) = acc ++ (l.drop k).filterMap (fClose id)) ∧ Own wr w.heap.size wr.heap.size 50 2 (.slice A' m c') m (acc.flatMap c2) ∧ Below w.heap.size w wr) (fun _ i _ => n - (intOf i).toNat)
  case atStart => exact ⟨0, 0, _, 0, [], Nat.zero_le _, Nat.le_refl _, rfl, rfl, hide rfl, hide (by simp), hown, (by (repeat' (first | (with_reducible exact Below.refl _ _) | (with_reducible assumption) | (with_reducible refine Below.alloc ?_ ?_ _) | (with_reducible refine below_ext ?_ ?_ _ _) | (with_reducible refine Below.setCell ?_ ?_ _) | (with_reducible refine Below.drew ?_) | (with_reducible refine below_drewN ?_ _))); all_goals (first | omega | (simp; done) | (simp; omega)))⟩
  case round =>
    obtain ⟨k, m, A', c', acc, hk, hmk, rfl, rfl, HL, HF, hown, hb⟩ := hrel
    by_cases hlt : k < n
    · obtain ⟨b, o, x0, x1, rfl, hx, hc0, hc1⟩ := (hr.below' hb).at2 hll hlt
      have hbl : b < wr.heap.size := World.block_lt_of_cell? wr _ hc0
      cases he : (x0 == id)
      case true =>
        have HG := hide (HF.out.trans (by rw [fm_miss hx (fClose_1 he)]))
        clear hr HF hx
        have hne : (x0 != id) = false := by simpa using he
        go_wp2_with fail
        go_roundw
        case rel => exact ⟨k + 1, m, A', c', acc, by omega, by omega, by go_num, rfl, HL, HG, (hown.below' (by (repeat' (first | (with_reducible exact Below.refl _ _) | (with_reducible assumption) | (with_reducible refine Below.alloc ?_ ?_ _) | (with_reducible refine below_ext ?_ ?_ _ _) | (with_reducible refine Below.setCell ?_ ?_ _) | (with_reducible refine Below.drew ?_) | (with_reducible refine below_drewN ?_ _))); all_goals (first | omega | (simp; done) | (simp; omega)))).more (Nat.le_refl _) (by first | omega | (simp <;> omega)), below_then (B' := wr.heap.size) hb (by (repeat' (first | (with_reducible exact Below.refl _ _) | (with_reducible assumption) | (with_reducible refine Below.alloc ?_ ?_ _) | (with_reducible refine below_ext ?_ ?_ _ _) | (with_reducible refine Below.setCell ?_ ?_ _) | (with_reducible refine Below.drew ?_) | (with_reducible refine below_drewN ?_ _))); all_goals (first | omega | (simp; done) | (simp; omega))) hb.size⟩
        case measure => simp [intOf] <;> omega
      case false =>
        have HG := hide (HF.out.trans (by rw [fm_hit hx (fClose_2 he)]; simp : _ = (acc ++ [(x0, x1)]) ++ (l.drop (k + 1)).filterMap (fClose id)))
        clear hr HF hx
        have hne : (x0 != id) = true := by simpa using he
        have hfr : Rd ((wr.alloc (.cells #[.int .i64 x0, .int .i64 x1] 50)).alloc (.cells #[.int .i64 x0, .int .i64 x1] 50)) (wr.heap.size + 1) (wr.heap.size + 1 + 1) 2 (some ⟨wr.heap.size + 1, 0, none⟩) 1 [.int .i64 x0, .int .i64 x1] := by simpa using Rd.fresh (wr.alloc (.cells #[.int .i64 x0, .int .i64 x1] 50)) #[.int .i64 x0, .int .i64 x1] 50 2 1 rfl
        go_wp2_with (at_builtin; refine wpList_app _ rfl (.tmp 19) (.tmp 21) 25 rfl 50 i0 (.agg #[.int .i64 0, .int .i64 0]) 2 16 w.heap.size wr.heap.size (wr.heap.size + 1) (wr.heap.size + 1 + 1) Try.underlying25 hi0 hz0 hz1 hz2 rfl (by omega) _ m _ rfl ((hown.alloc _).alloc _) _ 1 1 _ rfl hfr (by simp [Value.oneCell']) (by unfold maxLen; omega) (by omega) (by have := hb.size; simp; omega) (by simp <;> omega) ?_; intro A4 c4 w4 hown4 hc4 hm4 hch4)
        have hb4 : Below w.heap.size w w4 := below_then hb (((((Chg.refl w.heap.size wr.heap.size wr).alloc _).alloc _).trans hch4).below (Nat.le_refl _) hb.size) (Nat.le_refl _)
        have hown5 : Own w4 w.heap.size w4.heap.size 50 2 (.slice A4 (m + 1) c4) (m + 1) ((acc ++ [(x0, x1)]).flatMap c2) := by simpa [c2, c3] using hown4
        clear hown hown4 hch4 hb hfr
        go_wp2_with fail
        go_roundw
        case rel => exact ⟨k + 1, m + 1, _, _, acc ++ [(x0, x1)], by omega, by omega, by go_num, rfl, hide (by simp [HL.out]), HG, hown5, hb4⟩
        case measure => simp [intOf] <;> omega
    · obtain rfl : k = n := by omega
      have HG := hide (HF.out.trans (by rw [List.drop_eq_nil_of_le (by omega)]; simp : _ = acc))
      clear HF
      go_wp2_with fail
      go_ret
      rw [HG.out, HL.out]
      exact Mk.of_own hown hb (Nat.le_refl _)
set_option maxRecDepth 100000 in
theorem sClose_any (w : World) (A : Option Addr) (n c lo hi : Nat) (l : List (Int × Int)) (id : Int) (hr : Rd w lo hi 2 A n (l.flatMap c2)) (hn : n ≤ 1048576) :
    Calls Try.prog 17 #[.slice A n c, .int .i64 id] w (Mk w 50 2 (l.filterMap (fClose id)).length ((l.filterMap (fClose id)).flatMap c2)) := by
  have hll := hr.len2
  obtain ⟨i0, hi0, hz0, hz1, hz2⟩ := info_parts infoTunnel
  have hown : Own (w.alloc (.cells #[] 50)) w.heap.size (w.alloc (.cells #[] 50)).heap.size 50 2 (.slice (some ⟨w.heap.size, 0, none⟩) 0 0) 0 ([].flatMap c2) := by
    simpa using Own.fresh w #[] 50 2 0 rfl (by unfold maxLen; omega)
  go_enter Try.func17, Try.ntmps17
  go_wp2_with fail
  go_loopw [5, 6] (fun q i wr => ∃ (k m : Nat) (A' : Option Addr) (c' : Nat) (acc : List (Int × Int)), k ≤ n ∧ m ≤ k ∧ i = .int .i64 k ∧ q = .slice A' m c' ∧ Hid (acc.length = m) ∧ Hid (l.filterMap (fClose id) = acc ++ (l.drop k).filterMap (fClose id)) ∧ Own wr w.heap.size wr.heap.size 50 2 (.slice A' m c') m (acc.flatMap c2) ∧ Below w.heap.size w wr) (fun _ i _ => n - (intOf i).toNat)
  case atStart => exact ⟨0, 0, _, 0, [], Nat.zero_le _, Nat.le_refl _, rfl, rfl, hide rfl, hide (by simp), hown, (by (repeat' (first | (with_reducible exact Below.refl _ _) | (with_reducible assumption) | (with_reducible refine Below.alloc ?_ ?_ _) | (with_reducible refine below_ext ?_ ?_ _ _) | (with_reducible refine Below.setCell ?_ ?_ _) | (with_reducible refine Below.drew ?_) | (with_reducible refine below_drewN ?_ _))); all_goals (first | omega | (simp; done) | (simp; omega)))⟩
  case round =>
    obtain ⟨k, m, A', c', acc, hk, hmk, rfl, rfl, HL, HF, hown, hb⟩ := hrel
    by_cases hlt : k < n
    · obtain ⟨b, o, x0, x1, rfl, hx, hc0, hc1⟩ := (hr.below' hb).at2 hll hlt
      have hbl : b < wr.heap.size := World.block_lt_of_cell? wr _ hc0
      cases he : (x0 == id)
      case true =>
        have HG := hide (HF.out.trans (by rw [fm_miss hx (fClose_1 he)]))
        clear hr HF hx
        have hne : (x0 != id) = false := by simpa using he
        go_wp2_with fail
        go_roundw
        case rel => exact ⟨k + 1, m, A', c', acc, by omega, by omega, by go_num, rfl, HL, HG, (hown.below' (by (repeat' (first | (with_reducible exact Below.refl _ _) | (with_reducible assumption) | (with_reducible refine Below.alloc ?_ ?_ _) | (with_reducible refine below_ext ?_ ?_ _ _) | (with_reducible refine Below.setCell ?_ ?_ _) | (with_reducible refine Below.drew ?_) | (with_reducible refine below_drewN ?_ _))); all_goals (first | omega | (simp; done) | (simp; omega)))).more (Nat.le_refl _) (by first | omega | (simp <;> omega)), below_then (B' := wr.heap.size) hb (by (repeat' (first | (with_reducible exact Below.refl _ _) | (with_reducible assumption) | (with_reducible refine Below.alloc ?_ ?_ _) | (with_reducible refine below_ext ?_ ?_ _ _) | (with_reducible refine Below.setCell ?_ ?_ _) | (with_reducible refine Below.drew ?_) | (with_reducible refine below_drewN ?_ _))); all_goals (first | omega | (simp; done) | (simp; omega))) hb.size⟩
        case measure => simp [intOf] <;> omega
      case false =>
        have HG := hide (HF.out.trans (by rw [fm_hit hx (fClose_2 he)]; simp : _ = (acc ++ [(x0, x1)]) ++ (l.drop (k + 1)).filterMap (fClose id)))
        clear hr HF hx
        have hne : (x0 != id) = true := by simpa using he
        have hfr : Rd (wr.alloc (.cells #[.int .i64 x0, .int .i64 x1] 50)) (wr.heap.size) (wr.heap.size + 1) 2 (some ⟨wr.heap.size, 0, none⟩) 1 [.int .i64 x0, .int .i64 x1] := by simpa using Rd.fresh wr #[.int .i64 x0, .int .i64 x1] 50 2 1 rfl
        go_wp2_with (at_builtin; refine wpList_app _ rfl (.tmp 21) (.tmp 26) 25 rfl 50 i0 (.agg #[.int .i64 0, .int .i64 0]) 2 16 w.heap.size wr.heap.size (wr.heap.size) (wr.heap.size + 1) Try.underlying25 hi0 hz0 hz1 hz2 rfl (by omega) _ m _ rfl (hown.alloc _) _ 1 1 _ rfl hfr (by simp [Value.oneCell']) (by unfold maxLen; omega) (by omega) (by have := hb.size; simp; omega) (by simp <;> omega) ?_; intro A4 c4 w4 hown4 hc4 hm4 hch4)
        have hb4 : Below w.heap.size w w4 := below_then hb ((((Chg.refl w.heap.size wr.heap.size wr).alloc _).trans hch4).below (Nat.le_refl _) hb.size) (Nat.le_refl _)
        have hown5 : Own w4 w.heap.size w4.heap.size 50 2 (.slice A4 (m + 1) c4) (m + 1) ((acc ++ [(x0, x1)]).flatMap c2) := by simpa [c2, c3] using hown4
        clear hown hown4 hch4 hb hfr
        go_wp2_with fail
        go_roundw
        case rel => exact ⟨k + 1, m + 1, _, _, acc ++ [(x0, x1)], by omega, by omega, by go_num, rfl, hide (by simp [HL.out]), HG, hown5, hb4⟩
        case measure => simp [intOf] <;> omega
    · obtain rfl : k = n := by omega
      have HG := hide (HF.out.trans (by rw [List.drop_eq_nil_of_le (by omega)]; simp : _ = acc))
      clear HF
      go_wp2_with fail
      go_ret
      rw [HG.out, HL.out]
      exact Mk.of_own hown hb (Nat.le_refl _)
set_option maxRecDepth 100000 in
theorem iOfPeer_any (w : World) (A : Option Addr) (n c lo hi : Nat) (l : List (Int × Int)) (p : Int) (hr : Rd w lo hi 2 A n (l.flatMap c2)) (hn : n ≤ 1048576) :
    Calls Try.prog 22 #[.slice A n c, .int .i64 p] w (Mk w 3 1 (l.filterMap (fOfPeer p)).length ((l.filterMap (fOfPeer p)).map (Value.int .i64))) := by
  have hll := hr.len2
  obtain ⟨i0, hi0, hz0, hz1, hz2⟩ := info_parts infoIntS
  have hown : Own (w.alloc (.cells #[] 3)) w.heap.size (w.alloc (.cells #[] 3)).heap.size 3 1 (.slice (some ⟨w.heap.size, 0, none⟩) 0 0) 0 ([].map (Value.int .i64)) := by
    simpa using Own.fresh w #[] 3 1 0 rfl (by unfold maxLen; omega)
  go_enter Try.func22, Try.ntmps22
  go_wp2_with fail
  go_loopw [5, 11] (fun q i wr => ∃ (k m : Nat) (A' : Option Addr) (c' : Nat) (acc : List Int), k ≤ n ∧ m ≤ k ∧ i = .int .i64 k ∧ q = .slice A' m c' ∧ Hid (acc.length = m) ∧ Hid (l.filterMap (fOfPeer p) = acc ++ (l.drop k).filterMap (fOfPeer p)) ∧ Own wr w.heap.size wr.heap.size 3 1 (.slice A' m c') m (acc.map (Value.int .i64)) ∧ Below w.heap.size w wr) (fun _ i _ => n - (intOf i).toNat)
  case atStart => exact ⟨0, 0, _, 0, [], Nat.zero_le _, Nat.le_refl _, rfl, rfl, hide rfl, hide (by simp), hown, (by (repeat' (first | (with_reducible exact Below.refl _ _) | (with_reducible assumption) | (with_reducible refine Below.alloc ?_ ?_ _) | (with_reducible refine below_ext ?_ ?_ _ _) | (with_reducible refine Below.setCell ?_ ?_ _) | (with_reducible refine Below.drew ?_) | (with_reducible refine below_drewN ?_ _))); all_goals (first | omega | (simp; done) | (simp; omega)))⟩
  case round =>
    obtain ⟨k, m, A', c', acc, hk, hmk, rfl, rfl, HL, HF, hown, hb⟩ := hrel
    by_cases hlt : k < n
    · obtain ⟨b, o, x0, x1, rfl, hx, hc0, hc1⟩ := (hr.below' hb).at2 hll hlt
      have hbl : b < wr.heap.size := World.block_lt_of_cell? wr _ hc0
      cases he : (x1 == p)
      case false =>
        have HG := hide (HF.out.trans (by rw [fm_miss hx (fOfPeer_1 he)]))
        clear hr HF hx
        have hne : (x1 != p) = true := by simpa using he
        go_wp2_with fail
        go_roundw
        case rel => exact ⟨k + 1, m, A', c', acc, by omega, by omega, by go_num, rfl, HL, HG, (hown.below' (by (repeat' (first | (with_reducible exact Below.refl _ _) | (with_reducible assumption) | (with_reducible refine Below.alloc ?_ ?_ _) | (with_reducible refine below_ext ?_ ?_ _ _) | (with_reducible refine Below.setCell ?_ ?_ _) | (with_reducible refine Below.drew ?_) | (with_reducible refine below_drewN ?_ _))); all_goals (first | omega | (simp; done) | (simp; omega)))).more (Nat.le_refl _) (by first | omega | (simp <;> omega)), below_then (B' := wr.heap.size) hb (by (repeat' (first | (with_reducible exact Below.refl _ _) | (with_reducible assumption) | (with_reducible refine Below.alloc ?_ ?_ _) | (with_reducible refine below_ext ?_ ?_ _ _) | (with_reducible refine Below.setCell ?_ ?_ _) | (with_reducible refine Below.drew ?_) | (with_reducible refine below_drewN ?_ _))); all_goals (first | omega | (simp; done) | (simp; omega))) hb.size⟩
        case measure => simp [intOf] <;> omega
      case true =>
        have HG := hide (HF.out.trans (by rw [fm_hit hx (fOfPeer_2 he)]; simp : _ = (acc ++ [x0]) ++ (l.drop (k + 1)).filterMap (fOfPeer p)))
        clear hr HF hx
        have hne : (x1 != p) = false := by simpa using he
        have hfr : Rd ((wr.alloc (.cells #[.int .i64 x0, .int .i64 x1] 50)).alloc (.cells #[.int .i64 x0] 3)) (wr.heap.size + 1) (wr.heap.size + 1 + 1) 1 (some ⟨wr.heap.size + 1, 0, none⟩) 1 [.int .i64 x0] := by simpa using Rd.fresh (wr.alloc (.cells #[.int .i64 x0, .int .i64 x1] 50)) #[.int .i64 x0] 3 1 1 rfl
        go_wp2_with (at_builtin; refine wpList_app _ rfl (.tmp 19) (.tmp 22) 32 rfl 3 i0 (.int .i64 0) 1 8 w.heap.size wr.heap.size (wr.heap.size + 1) (wr.heap.size + 1 + 1) Try.underlying32 hi0 hz0 hz1 hz2 rfl (by omega) _ m _ rfl ((hown.alloc _).alloc _) _ 1 1 _ rfl hfr (by simp [Value.oneCell']) (by unfold maxLen; omega) (by omega) (by have := hb.size; simp; omega) (by simp <;> omega) ?_; intro A4 c4 w4 hown4 hc4 hm4 hch4)
        have hb4 : Below w.heap.size w w4 := below_then hb (((((Chg.refl w.heap.size wr.heap.size wr).alloc _).alloc _).trans hch4).below (Nat.le_refl _) hb.size) (Nat.le_refl _)
        have hown5 : Own w4 w.heap.size w4.heap.size 3 1 (.slice A4 (m + 1) c4) (m + 1) ((acc ++ [x0]).map (Value.int .i64)) := by simpa [c2, c3] using hown4
        clear hown hown4 hch4 hb hfr
        go_wp2_with fail
        go_roundw
        case rel => exact ⟨k + 1, m + 1, _, _, acc ++ [x0], by omega, by omega, by go_num, rfl, hide (by simp [HL.out]), HG, hown5, hb4⟩
        case measure => simp [intOf] <;> omega
    · obtain rfl : k = n := by omega
      have HG := hide (HF.out.trans (by rw [List.drop_eq_nil_of_le (by omega)]; simp : _ = acc))
      clear HF
      go_wp2_with fail
      go_ret
      rw [HG.out, HL.out]
      exact Mk.of_own hown hb (Nat.le_refl _)
set_option maxRecDepth 100000 in
theorem sOfPeer_any (w : World) (A : Option Addr) (n c lo hi : Nat) (l : List (Int × Int)) (p : Int) (hr : Rd w lo hi 2 A n (l.flatMap c2)) (hn : n ≤ 1048576) :
    Calls Try.prog 21 #[.slice A n c, .int .i64 p] w (Mk w 3 1 (l.filterMap (fOfPeer p)).length ((l.filterMap (fOfPeer p)).map (Value.int .i64))) := by
  have hll := hr.len2
  obtain ⟨i0, hi0, hz0, hz1, hz2⟩ := info_parts infoIntS
  have hown : Own (w.alloc (.cells #[] 3)) w.heap.size (w.alloc (.cells #[] 3)).heap.size 3 1 (.slice (some ⟨w.heap.size, 0, none⟩) 0 0) 0 ([].map (Value.int .i64)) := by
    simpa using Own.fresh w #[] 3 1 0 rfl (by unfold maxLen; omega)
  go_enter Try.func21, Try.ntmps21
  go_wp2_with fail
  go_loopw [5, 6] (fun q i wr => ∃ (k m : Nat) (A' : Option Addr) (c' : Nat) (acc : List Int), k ≤ n ∧ m ≤ k ∧ i = .int .i64 k ∧ q = .slice A' m c' ∧ Hid (acc.length = m) ∧ Hid (l.filterMap (fOfPeer p) = acc ++ (l.drop k).filterMap (fOfPeer p)) ∧ Own wr w.heap.size wr.heap.size 3 1 (.slice A' m c') m (acc.map (Value.int .i64)) ∧ Below w.heap.size w wr) (fun _ i _ => n - (intOf i).toNat)
  case atStart => exact ⟨0, 0, _, 0, [], Nat.zero_le _, Nat.le_refl _, rfl, rfl, hide rfl, hide (by simp), hown, (by (repeat' (first | (with_reducible exact Below.refl _ _) | (with_reducible assumption) | (with_reducible refine Below.alloc ?_ ?_ _) | (with_reducible refine below_ext ?_ ?_ _ _) | (with_reducible refine Below.setCell ?_ ?_ _) | (with_reducible refine Below.drew ?_) | (with_reducible refine below_drewN ?_ _))); all_goals (first | omega | (simp; done) | (simp; omega)))⟩
  case round =>
    obtain ⟨k, m, A', c', acc, hk, hmk, rfl, rfl, HL, HF, hown, hb⟩ := hrel
    by_cases hlt : k < n
    · obtain ⟨b, o, x0, x1, rfl, hx, hc0, hc1⟩ := (hr.below' hb).at2 hll hlt
      have hbl : b < wr.heap.size := World.block_lt_of_cell? wr _ hc0
      cases he : (x1 == p)
      case false =>
        have HG := hide (HF.out.trans (by rw [fm_miss hx (fOfPeer_1 he)]))
        clear hr HF hx
        have hne : (x1 != p) = true := by simpa using he
        go_wp2_with fail
        go_roundw
        case rel => exact ⟨k + 1, m, A', c', acc, by omega, by omega, by go_num, rfl, HL, HG, (hown.below' (by (repeat' (first | (with_reducible exact Below.refl _ _) | (with_reducible assumption) | (with_reducible refine Below.alloc ?_ ?_ _) | (with_reducible refine below_ext ?_ ?_ _ _) | (with_reducible refine Below.setCell ?_ ?_ _) | (with_reducible refine Below.drew ?_) | (with_reducible refine below_drewN ?_ _))); all_goals (first | omega | (simp; done) | (simp; omega)))).more (Nat.le_refl _) (by first | omega | (simp <;> omega)), below_then (B' := wr.heap.size) hb (by (repeat' (first | (with_reducible exact Below.refl _ _) | (with_reducible assumption) | (with_reducible refine Below.alloc ?_ ?_ _) | (with_reducible refine below_ext ?_ ?_ _ _) | (with_reducible refine Below.setCell ?_ ?_ _) | (with_reducible refine Below.drew ?_) | (with_reducible refine below_drewN ?_ _))); all_goals (first | omega | (simp; done) | (simp; omega))) hb.size⟩
        case measure => simp [intOf] <;> omega
      case true =>
        have HG := hide (HF.out.trans (by rw [fm_hit hx (fOfPeer_2 he)]; simp : _ = (acc ++ [x0]) ++ (l.drop (k + 1)).filterMap (fOfPeer p)))
        clear hr HF hx
        have hne : (x1 != p) = false := by simpa using he
        have hfr : Rd (wr.alloc (.cells #[.int .i64 x0] 3)) (wr.heap.size) (wr.heap.size + 1) 1 (some ⟨wr.heap.size, 0, none⟩) 1 [.int .i64 x0] := by simpa using Rd.fresh wr #[.int .i64 x0] 3 1 1 rfl
        go_wp2_with (at_builtin; refine wpList_app _ rfl (.tmp 21) (.tmp 27) 32 rfl 3 i0 (.int .i64 0) 1 8 w.heap.size wr.heap.size (wr.heap.size) (wr.heap.size + 1) Try.underlying32 hi0 hz0 hz1 hz2 rfl (by omega) _ m _ rfl (hown.alloc _) _ 1 1 _ rfl hfr (by simp [Value.oneCell']) (by unfold maxLen; omega) (by omega) (by have := hb.size; simp; omega) (by simp <;> omega) ?_; intro A4 c4 w4 hown4 hc4 hm4 hch4)
        have hb4 : Below w.heap.size w w4 := below_then hb ((((Chg.refl w.heap.size wr.heap.size wr).alloc _).trans hch4).below (Nat.le_refl _) hb.size) (Nat.le_refl _)
        have hown5 : Own w4 w.heap.size w4.heap.size 3 1 (.slice A4 (m + 1) c4) (m + 1) ((acc ++ [x0]).map (Value.int .i64)) := by simpa [c2, c3] using hown4
        clear hown hown4 hch4 hb hfr
        go_wp2_with fail
        go_roundw
        case rel => exact ⟨k + 1, m + 1, _, _, acc ++ [x0], by omega, by omega, by go_num, rfl, hide (by simp [HL.out]), HG, hown5, hb4⟩
        case measure => simp [intOf] <;> omega
    · obtain rfl : k = n := by omega
      have HG := hide (HF.out.trans (by rw [List.drop_eq_nil_of_le (by omega)]; simp : _ = acc))
      clear HF
      go_wp2_with fail
      go_ret
      rw [HG.out, HL.out]
      exact Mk.of_own hown hb (Nat.le_refl _)
theorem fm_len {α β : Type} (f : α → Option β) (l : List α) : (l.filterMap f).length ≤ l.length := List.length_filterMap_le f l
theorem close_both (n0 : Nat) (l0 : List (Int × Int)) (a1 : Int) (hm : n0 ≤ 1048576) (hl : l0.length = n0) : ∃ (N : Nat) (e : List (Int × Int)), N ≤ 1048576 ∧
    (∀ (W : World) (A : Option Addr) (c lo hi : Nat), Rd W lo hi 2 A n0 (l0.flatMap c2) → Calls Try.prog 17 #[.slice A n0 c, .int .i64 a1] W (Mk W 50 2 N (e.flatMap c2))) ∧
    (∀ (W : World) (A : Option Addr) (c lo hi : Nat), Rd W lo hi 2 A n0 (l0.flatMap c2) → Calls Try.prog 18 #[.slice A n0 c, .int .i64 a1] W (Mk W 50 2 N (e.flatMap c2))) :=
  ⟨_, l0.filterMap (fClose a1), by have := fm_len (fClose a1) l0; omega, fun W A c lo hi h => sClose_any W A n0 c lo hi l0 a1 h hm, fun W A c lo hi h => iClose_any W A n0 c lo hi l0 a1 h hm⟩
theorem ofpeer_both (n0 : Nat) (l0 : List (Int × Int)) (a1 : Int) (hm : n0 ≤ 1048576) (hl : l0.length = n0) : ∃ (N : Nat) (e : List Int), N ≤ 1048576 ∧
    (∀ (W : World) (A : Option Addr) (c lo hi : Nat), Rd W lo hi 2 A n0 (l0.flatMap c2) → Calls Try.prog 21 #[.slice A n0 c, .int .i64 a1] W (Mk W 3 1 N (e.map (.int .i64)))) ∧
    (∀ (W : World) (A : Option Addr) (c lo hi : Nat), Rd W lo hi 2 A n0 (l0.flatMap c2) → Calls Try.prog 22 #[.slice A n0 c, .int .i64 a1] W (Mk W 3 1 N (e.map (.int .i64)))) :=
  ⟨_, l0.filterMap (fOfPeer a1), by have := fm_len (fOfPeer a1) l0; omega, fun W A c lo hi h => sOfPeer_any W A n0 c lo hi l0 a1 h hm, fun W A c lo hi h => iOfPeer_any W A n0 c lo hi l0 a1 h hm⟩
end Go.Proofs.Ytncnaahgpeaofaa
