/- CellsInArea: what it makes. -/
import Derived.Test.YtcndocopecnohaaMap
import Derived.Test.YtcndocopecnohaaApp
namespace Go.Proofs.Ytcndocopecnohaa
open Go.RowKit Go.Sep

def ciL (p : Int) : Nat → CM → List Int
  | _, [] => []
  | k, (x, _) :: r => if (x == p) = true then (k : Int) :: ciL p (k + 1) r else ciL p (k + 1) r
section
variable {p x : Int} {k n : Nat} {m : CM} {s : List Int}
theorem ciL_hit (h : m[k]? = some (x, s)) (he : (x == p) = true) : ciL p k (m.drop k) = (k : Int) :: ciL p (k + 1) (m.drop (k + 1)) := by rw [at_take h, ciL, if_pos he]
theorem ciL_miss (h : m[k]? = some (x, s)) (he : (x == p) = false) : ciL p k (m.drop k) = ciL p (k + 1) (m.drop (k + 1)) := by rw [at_take h, ciL, if_neg (by simp [he])]
theorem ciL_end (h : m.length = n) : ciL p n (m.drop n) = [] := by rw [List.drop_eq_nil_of_le (by omega), ciL]
theorem ciL_len (p : Int) (k : Nat) (m : CM) : (ciL p k m).length ≤ m.length := by
  induction m generalizing k with
  | nil => simp [ciL]
  | cons a r ih =>
    obtain ⟨x, s⟩ := a
    have := ih (k + 1)
    unfold ciL
    split <;> simp <;> omega
end
set_option maxRecDepth 100000 in
theorem iCia_any (w : World) (A : Option Addr) (n c lo hi : Nat) (m : CM) (p : Int) (hr : Nd2 .i64 w lo hi A n m) (hn : n ≤ 1048576) :
    Calls Try.prog 18 #[.agg #[.slice A n c], .int .i64 p] w (Mk w 3 1 (ciL p 0 m).length ((ciL p 0 m).map (Value.int .i64))) := by
  have hll := hr.len
  obtain ⟨i0, hi0, hz0, hz1, hz2⟩ := info_parts infoIntS
  have hown0 : Own ((w.alloc (.cells #[.slice A n c] 29)).alloc (.cells #[] 3)) (w.heap.size + 1) (w.heap.size + 1 + 1) 3 1 (.slice (some ⟨w.heap.size + 1, 0, none⟩) 0 0) 0 ([].map (Value.int .i64)) := by
    simpa using Own.fresh (w.alloc (.cells #[.slice A n c] 29)) #[] 3 1 0 rfl (by unfold maxLen; omega)
  go_enter Try.func18, Try.ntmps18
  go_wp2_with fail
  go_loopw [5, 12] (fun q i wr => ∃ (k t : Nat) (A' : Option Addr) (c' : Nat) (acc : List Int), k ≤ n ∧ t ≤ k ∧ i = .int .i64 k ∧ q = .slice A' t c' ∧ Hid (acc.length = t) ∧ Hid (ciL p 0 m = acc ++ ciL p k (m.drop k)) ∧ Own wr (w.heap.size + 1) wr.heap.size 3 1 (.slice A' t c') t (acc.map (Value.int .i64)) ∧ Below w.heap.size w wr ∧ w.heap.size + 1 ≤ wr.heap.size) (fun _ i _ => n - (intOf i).toNat)
  case atStart => exact ⟨0, 0, _, 0, [], Nat.zero_le _, Nat.le_refl _, rfl, rfl, hide rfl, hide (by simp), by simpa using hown0, (by (repeat' (first | (with_reducible exact Below.refl _ _) | (with_reducible assumption) | (with_reducible refine Below.alloc ?_ ?_ _) | (with_reducible refine below_ext ?_ ?_ _ _) | (with_reducible refine Below.setCell ?_ ?_ _) | (with_reducible refine Below.drew ?_) | (with_reducible refine below_drewN ?_ _))); all_goals (first | omega | (simp; done) | (simp; omega))), by simp⟩
  case round =>
    obtain ⟨k, t, A', c', acc, hk, hmk, rfl, rfl, HL, HF, hown, hb, hz⟩ := hrel
    clear hown0
    by_cases hlt : k < n
    · obtain ⟨b, o, x, ⟨sA, sn, sc, sl⟩, rfl, hbl, hx, hc0, hc1, _⟩ := (hr.below' hb).at_ hlt
      have hkn : (k : Int) < (n : Int) := by omega
      simp only at hx hc1
      cases he : (x == p)
      case false =>
        have HG := hide (HF.out.trans (by rw [ciL_miss hx he]))
        clear hr HF hx
        go_wp2_with fail
        go_roundw
        case rel => exact ⟨k + 1, t, A', c', acc, by omega, by omega, by go_num, rfl, HL, HG, (hown.below' (by (repeat' (first | (with_reducible exact Below.refl _ _) | (with_reducible assumption) | (with_reducible refine Below.alloc ?_ ?_ _) | (with_reducible refine below_ext ?_ ?_ _ _) | (with_reducible refine Below.setCell ?_ ?_ _) | (with_reducible refine Below.drew ?_) | (with_reducible refine below_drewN ?_ _))); all_goals (first | omega | (simp; done) | (simp; omega)))).more (Nat.le_refl _) (by first | omega | (simp <;> omega)), below_then (B' := wr.heap.size) hb (by (repeat' (first | (with_reducible exact Below.refl _ _) | (with_reducible assumption) | (with_reducible refine Below.alloc ?_ ?_ _) | (with_reducible refine below_ext ?_ ?_ _ _) | (with_reducible refine Below.setCell ?_ ?_ _) | (with_reducible refine Below.drew ?_) | (with_reducible refine below_drewN ?_ _))); all_goals (first | omega | (simp; done) | (simp; omega))) hb.size, (by first | omega | (simp <;> omega))⟩
        case measure => simp [intOf] <;> omega
      case true =>
        have HG := hide (HF.out.trans (by rw [ciL_hit hx he]; simp : _ = (acc ++ [(k : Int)]) ++ ciL p (k + 1) (m.drop (k + 1))))
        clear hr HF hx
        have hfr : Rd ((wr.alloc (.cells #[.int .i64 x, .slice sA sn sc] 51)).alloc (.cells #[.int .i64 k] 3)) (wr.heap.size + 1) (wr.heap.size + 1 + 1) 1 (some ⟨wr.heap.size + 1, 0, none⟩) 1 [.int .i64 k] := by simpa using Rd.fresh (wr.alloc (.cells #[.int .i64 x, .slice sA sn sc] 51)) #[.int .i64 k] 3 1 1 rfl
        go_wp2_with (at_builtin; refine wpList_app _ rfl (.tmp 21) (.tmp 23) 35 rfl 3 i0 (.int .i64 0) 1 8 (w.heap.size + 1) wr.heap.size (wr.heap.size + 1) (wr.heap.size + 1 + 1) Try.underlying35 hi0 hz0 hz1 hz2 rfl (by omega) _ t _ rfl ((hown.alloc _).alloc _) _ 1 1 _ rfl hfr (by simp [Value.oneCell']) (by unfold maxLen; omega) (by omega) (by first | omega | (simp <;> omega)) (by first | omega | (simp <;> omega)) ?_; intro A4 c4 w4 hown4 hc4 hm4 hch4)
        have hsz4 := hch4.size
        have hb4 : Below w.heap.size w w4 := below_then hb (((((Chg.refl (w.heap.size + 1) wr.heap.size wr).alloc _).alloc _).trans hch4).below (B := w.heap.size) (by omega) hb.size) (Nat.le_refl _)
        have hown5 : Own w4 (w.heap.size + 1) w4.heap.size 3 1 (.slice A4 (t + 1) c4) (t + 1) ((acc ++ [(k : Int)]).map (Value.int .i64)) := by simpa using hown4
        clear hown hown4 hch4 hb hfr
        go_wp2_with fail
        go_roundw
        case rel => exact ⟨k + 1, t + 1, _, _, acc ++ [(k : Int)], by omega, by omega, by go_num, rfl, hide (by simp [HL.out]), HG, hown5, hb4, by simp at hsz4; omega⟩
        case measure => simp [intOf] <;> omega
    · obtain rfl : k = n := by omega
      have HG := hide (HF.out.trans (by rw [ciL_end hll]; simp : _ = acc))
      clear HF
      go_wp2_with fail
      go_ret
      rw [HG.out, HL.out]
      exact Mk.of_own (hown.more (Nat.le_succ _) (Nat.le_refl _)) hb (Nat.le_refl _)
set_option maxRecDepth 100000 in
theorem sCia_any (w : World) (A : Option Addr) (n c lo hi : Nat) (m : CM) (p : Int) (hr : Nd2 .i64 w lo hi A n m) (hn : n ≤ 1048576) :
    Calls Try.prog 17 #[.agg #[.slice A n c], .int .i64 p] w (Mk w 3 1 (ciL p 0 m).length ((ciL p 0 m).map (Value.int .i64))) := by
  have hll := hr.len
  obtain ⟨i0, hi0, hz0, hz1, hz2⟩ := info_parts infoIntS
  have hown0 : Own ((w.alloc (.cells #[.slice A n c] 29)).alloc (.cells #[] 3)) (w.heap.size + 1) (w.heap.size + 1 + 1) 3 1 (.slice (some ⟨w.heap.size + 1, 0, none⟩) 0 0) 0 ([].map (Value.int .i64)) := by
    simpa using Own.fresh (w.alloc (.cells #[.slice A n c] 29)) #[] 3 1 0 rfl (by unfold maxLen; omega)
  go_enter Try.func17, Try.ntmps17
  go_wp2_with fail
  go_loopw [5, 6] (fun q i wr => ∃ (k t : Nat) (A' : Option Addr) (c' : Nat) (acc : List Int), k ≤ n ∧ t ≤ k ∧ i = .int .i64 k ∧ q = .slice A' t c' ∧ Hid (acc.length = t) ∧ Hid (ciL p 0 m = acc ++ ciL p k (m.drop k)) ∧ Own wr (w.heap.size + 1) wr.heap.size 3 1 (.slice A' t c') t (acc.map (Value.int .i64)) ∧ Below w.heap.size w wr ∧ w.heap.size + 1 ≤ wr.heap.size ∧ wr.cell? ⟨w.heap.size, 0, none⟩ = some (.slice A n c)) (fun _ i _ => n - (intOf i).toNat)
  case atStart => exact ⟨0, 0, _, 0, [], Nat.zero_le _, Nat.le_refl _, rfl, rfl, hide rfl, hide (by simp), by simpa using hown0, (by (repeat' (first | (with_reducible exact Below.refl _ _) | (with_reducible assumption) | (with_reducible refine Below.alloc ?_ ?_ _) | (with_reducible refine below_ext ?_ ?_ _ _) | (with_reducible refine Below.setCell ?_ ?_ _) | (with_reducible refine Below.drew ?_) | (with_reducible refine below_drewN ?_ _))); all_goals (first | omega | (simp; done) | (simp; omega))), by simp, by go_simp⟩
  case round =>
    obtain ⟨k, t, A', c', acc, hk, hmk, rfl, rfl, HL, HF, hown, hb, hz, hbox⟩ := hrel
    clear hown0
    have hzb : w.heap.size < wr.heap.size := by omega
    by_cases hlt : k < n
    · obtain ⟨b, o, x, ⟨sA, sn, sc, sl⟩, rfl, hbl, hx, hc0, hc1, _⟩ := (hr.below' hb).at_ hlt
      have hkn : (k : Int) < (n : Int) := by omega
      simp only at hx hc1
      cases he : (x == p)
      case false =>
        have HG := hide (HF.out.trans (by rw [ciL_miss hx he]))
        clear hr HF hx
        go_wp2_with fail
        go_roundw
        case rel => exact ⟨k + 1, t, A', c', acc, by omega, by omega, by go_num, rfl, HL, HG, hown, hb, hz, hbox⟩
        case measure => simp [intOf] <;> omega
      case true =>
        have HG := hide (HF.out.trans (by rw [ciL_hit hx he]; simp : _ = (acc ++ [(k : Int)]) ++ ciL p (k + 1) (m.drop (k + 1))))
        clear hr HF hx
        have hfr : Rd (wr.alloc (.cells #[.int .i64 k] 3)) wr.heap.size (wr.heap.size + 1) 1 (some ⟨wr.heap.size, 0, none⟩) 1 [.int .i64 k] := by simpa using Rd.fresh wr #[.int .i64 k] 3 1 1 rfl
        go_wp2_with (at_builtin; refine wpList_app _ rfl (.tmp 23) (.tmp 25) 35 rfl 3 i0 (.int .i64 0) 1 8 (w.heap.size + 1) wr.heap.size wr.heap.size (wr.heap.size + 1) Try.underlying35 hi0 hz0 hz1 hz2 rfl (by omega) _ t _ rfl (hown.alloc _) _ 1 1 _ rfl hfr (by simp [Value.oneCell']) (by unfold maxLen; omega) (by omega) (by first | omega | (simp <;> omega)) (by first | omega | (simp <;> omega)) ?_; intro A4 c4 w4 hown4 hc4 hm4 hch4)
        have hsz4 := hch4.size
        have hbox4 : w4.cell? ⟨w.heap.size, 0, none⟩ = some (.slice (some ⟨b, o, none⟩) n c) := (hch4.cell (p := ⟨w.heap.size, 0, none⟩) (by first | omega | (simp <;> omega)) (.inl (by first | omega | (simp <;> omega)))).trans (by go_simp)
        have hb4 : Below w.heap.size w w4 := below_then hb ((((Chg.refl (w.heap.size + 1) wr.heap.size wr).alloc _).trans hch4).below (B := w.heap.size) (by omega) hb.size) (Nat.le_refl _)
        have hown5 : Own w4 (w.heap.size + 1) w4.heap.size 3 1 (.slice A4 (t + 1) c4) (t + 1) ((acc ++ [(k : Int)]).map (Value.int .i64)) := by simpa using hown4
        clear hown hown4 hch4 hb hfr
        go_wp2_with fail
        go_roundw
        case rel => exact ⟨k + 1, t + 1, _, _, acc ++ [(k : Int)], by omega, by omega, by go_num, rfl, hide (by simp [HL.out]), HG, hown5, hb4, by simp at hsz4; omega, hbox4⟩
        case measure => simp [intOf] <;> omega
    · obtain rfl : k = n := by omega
      have HG := hide (HF.out.trans (by rw [ciL_end hll]; simp : _ = acc))
      clear HF
      go_wp2_with fail
      go_ret
      rw [HG.out, HL.out]
      exact Mk.of_own (hown.more (Nat.le_succ _) (Nat.le_refl _)) hb (Nat.le_refl _)
end Go.Proofs.Ytcndocopecnohaa
