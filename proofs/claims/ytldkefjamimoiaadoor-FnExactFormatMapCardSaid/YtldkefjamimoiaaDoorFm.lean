/- FormatMap: what it returns, on both sides. -/
import Derived.Test.YtldkefjamimoiaaDoorFj
import Derived.Deep.RegionLaw
import Derived.Deep.RegionHeld3
namespace Go.Proofs.YtldkefjamimoiaaDoor
open Go.RowKit Go.Sep

abbrev CM := List (Int × List Int)
/-- One cell, written. -/
def wd (i : Nat) (x : Int) (s : List Int) : List UInt8 := ((Lib.itoa i ++ [58]) ++ Lib.itoa x) ++ (if s = [] then [] else [62] ++ jL [44] (s.map Lib.itoa))
def wdAt (m : CM) (i : Nat) : List UInt8 := match m[i]? with
  | none => []
  | some q => wd i q.1 q.2
def wds (m : CM) (k : Nat) : List (List UInt8) := (List.range k).map (wdAt m)
theorem wds_succ {m : CM} {k : Nat} {x : Int} {s : List Int} (h : m[k]? = some (x, s)) : wds m (k + 1) = wds m k ++ [wd k x s] := by
  unfold wds
  rw [List.range_succ, List.map_append]
  simp [wdAt, h]
def okM (m : CM) : Prop := ∀ q ∈ m, i64R q.1 ∧ ∀ x ∈ q.2, i64R x
theorem nat_i64 {k : Nat} (h : k ≤ 1048576) : i64R (k : Int) := ⟨by omega, by omega⟩
theorem wd_len {k : Nat} {x : Int} {s : List Int} (hk : k ≤ 1048576) (hx : i64R x) (hs : ∀ y ∈ s, i64R y) (hl : s.length ≤ 1048576) : (wd k x s).length ≤ 23100000 := by
  have h1 := itoa_len (nat_i64 hk)
  have h2 := itoa_len hx
  have h3 := ints_len (sep := [44]) hs
  have h4 : (21 + ([44] : List UInt8).length) * s.length ≤ 22 * 1048576 := Nat.mul_le_mul (by simp) hl
  unfold wd
  split
  · simp; omega
  · simp only [List.length_append, List.length_cons, List.length_nil]
    omega
theorem wds_len {m : CM} {n : Nat} (hm : okM m) (hs : ndSum2 m ≤ 1048576) (hn : n ≤ 1048576) : (jL [32] (wds m n)).length ≤ 24300000000000 := by
  have h := jL_len [32] (wds m n) 23100000 (fun x hx => by
    obtain ⟨i, hi, rfl⟩ := List.mem_map.1 hx
    have hi2 : i < n := by simpa using hi
    unfold wdAt
    cases hq : m[i]? with
    | none => simp
    | some q =>
      have hmem := List.mem_of_getElem? hq
      obtain ⟨h1, h2⟩ := hm q hmem
      have hl : q.2.length ≤ 1048576 := by have := ndSum2_le hq; omega
      exact wd_len (by omega) h1 h2 hl)
  have h2 : (23100000 + ([32] : List UInt8).length) * (wds m n).length ≤ 23100001 * 1048576 := Nat.mul_le_mul (by simp) (by simp [wds]; omega)
  omega
theorem fiB_mk (z : Int) : fiB z = mkB (Lib.itoa z) := rfl
set_option maxHeartbeats 1000000 in
set_option maxRecDepth 100000 in
theorem sFM_any (w : World) (A : Option Addr) (n c lo hi : Nat) (m : CM) (hr : Nd2 .i64 w lo hi A n m) (hn : n ≤ 1048576) (hs0 : ndSum2 m ≤ 1048576) (hM : okM m) :
    Calls Tryd.prog 6 #[.agg #[.slice A n c]] w fun e w' => e = .returned (.string (mkB (jL [32] (wds m n)))) ∧ Below w.heap.size w w' := by
  have hll := hr.len
  go_enter Tryd.func6, Tryd.ntmps6
  go_wp2_with fail
  go_loopw [3, 4] (fun s i wr => ∃ (k : Nat) (S : List UInt8), k ≤ n ∧ i = .int .i64 k ∧ s = .string (mkB S) ∧ Hid (S = jL [32] (wds m k)) ∧ Below w.heap.size w wr ∧ w.heap.size < wr.heap.size ∧ wr.cell? ⟨w.heap.size, 0, none⟩ = some (.slice A n c)) (fun _ i _ => n - (intOf i).toNat)
  case atStart => exact ⟨0, [], Nat.zero_le _, rfl, rfl, hide rfl, (by (repeat' (first | (with_reducible exact Below.refl _ _) | (with_reducible assumption) | (with_reducible refine Below.alloc ?_ ?_ _) | (with_reducible refine below_ext ?_ ?_ _ _) | (with_reducible refine Below.setCell ?_ ?_ _) | (with_reducible refine Below.drew ?_) | (with_reducible refine below_drewN ?_ _))); all_goals (first | omega | (simp; done) | (simp; omega))), by simp, World.cell?_alloc_new _ _ _ _⟩
  case round =>
    obtain ⟨k, S, hk, rfl, rfl, HS, hb, hz, hbox⟩ := hrel
    have hbs := hb.size
    by_cases hlt : k < n
    · obtain ⟨b, o, x, ⟨sA, sn, sc, sl⟩, rfl, hbl, hx, hx0, hx1, hs⟩ := (hr.below' hb).at_ hlt
      obtain rfl : sl.length = sn := by simpa using hs.1.len
      have hsum := ndSum2_le hx
      simp only at hsum hx hx1
      obtain ⟨hxi, hsi⟩ := hM _ (List.mem_of_getElem? hx)
      simp only at hxi hsi
      have hkI : (k : Int) < (n : Int) := by omega
      have hSl : S.length ≤ 24300000000000 := by rw [HS.out]; exact wds_len hM hs0 (by omega)
      have hSz := mkB_size S
      have hf1 := fiB_size k (nat_i64 (by omega)).1 (nat_i64 (by omega)).2
      have hf2 := fiB_size x hxi.1 hxi.2
      have H1 := hide (fun W => sFI_any k (nat_i64 (k := k) (by omega)).1 (nat_i64 (k := k) (by omega)).2 W)
      have H2 := hide (fun W => sFI_any x hxi.1 hxi.2 W)
      have H3 := hide (fun W h => sInts_any W sA sl.length sc lo hi sl [44] h (by omega) hsi (by simp))
      have hjl := ints_len (sep := [44]) hsi
      have hjl2 : (21 + ([44] : List UInt8).length) * sl.length ≤ 22 * 1048576 := Nat.mul_le_mul (by simp) (by omega)
      have hjz := mkB_size (jL [44] (sl.map Lib.itoa))
      have HSS := hide hs.1
      have HW := hide (wds_succ hx)
      obtain ⟨S1, hS1⟩ : ∃ S1 : List UInt8, S1 = (if k = 0 then S else S ++ [32]) := ⟨_, rfl⟩
      have HJ := hide (show jL [32] (wds m (k + 1)) = S1 ++ wd k x sl by
        rw [HW.out, hS1]
        by_cases h0 : k = 0
        · subst h0
          have hw0 : wds m 0 = [] := rfl
          rw [if_pos rfl, HS.out, hw0, List.nil_append, jL_one]
          rfl
        · rw [if_neg h0, jL_snoc (by intro h; have := congrArg List.length h; simp [wds] at this; omega), ← HS.out])
      clear hs HW hx
--SFM
      by_cases hk0 : k = 0
      · have hkd : ¬ (0 : Int) < (k : Int) := by omega
        have hS2 : mkB S1 = mkB S := by rw [hS1, if_pos hk0]
        have hzz : (mkB S).size ≤ 24300000000001 := by rw [← hS2, mkB_size, hS1]; split <;> (try simp) <;> omega
        have hq1 : ¬ (9223372036854775807 : Int) < ((mkB S).size : Int) + ((fiB k).size : Int) := by rw [hSz]; omega
        have hq2 : ¬ (9223372036854775807 : Int) < ((mkB S).size : Int) + ((fiB k).size : Int) + 1 := by rw [hSz]; omega
        have hq3 : ¬ (9223372036854775807 : Int) < ((mkB S).size : Int) + ((fiB k).size : Int) + 1 + ((fiB x).size : Int) := by rw [hSz]; omega
        have hp1 : ¬ 9223372036854775807 < (mkB S).size + (fiB k).size := by rw [hSz]; omega
        have hp2 : ¬ 9223372036854775807 < (mkB S).size + (fiB k).size + 1 := by rw [hSz]; omega
        have hp3 : ¬ 9223372036854775807 < (mkB S).size + (fiB k).size + 1 + (fiB x).size := by rw [hSz]; omega
        by_cases hsl : sl = []
        · have hsd : ¬ (0 : Int) < (sl.length : Int) := by rw [hsl]; simp
          have HQ := hide (show (((mkB S ++ fiB k) ++ ⟨#[58]⟩) ++ fiB x) = mkB (jL [32] (wds m (k + 1))) by
            rw [← hS2, HJ.out, wd, if_pos hsl, fiB_mk, fiB_mk, show (⟨#[58]⟩ : ByteArray) = mkB [58] from rfl, mkB_app, mkB_app, mkB_app]
            simp)
          clear hS2 hS1 hk0 HS HJ hSz hsl
          have hSl2 : (mkB S).size ≤ 24300000000000 := by rw [mkB_size]; exact hSl
          go_wp2_with fail
          go_region_law (first
            | (go_simp; go_at_call 13; (with_reducible refine (unhide H1 _).mono ?_); rintro e wa ⟨rfl, hba⟩; have hbA : Below wr.heap.size wr wa := below_then (show Below wr.heap.size wr _ from (by (repeat' (first | (with_reducible exact Below.refl _ _) | (with_reducible assumption) | (with_reducible refine Below.alloc ?_ ?_ _) | (with_reducible refine below_ext ?_ ?_ _ _) | (with_reducible refine Below.setCell ?_ ?_ _) | (with_reducible refine Below.drew ?_) | (with_reducible refine below_drewN ?_ _))); all_goals (first | omega | (simp; done) | (simp; omega)))) hba (by first | exact Nat.le_refl _ | simp); have hsA := hbA.size; have hbxA := (hbA.cell (p := ⟨w.heap.size, 0, none⟩) hz).trans hbox; have hx0A := (hbA.cell (p := ⟨b, o + k * 2, none⟩) hbl).trans hx0; have hx1A := (hbA.cell (p := ⟨b, o + k * 2 + 1, none⟩) hbl).trans hx1)
            | (go_simp; go_at_call 13; (with_reducible refine (unhide H2 _).mono ?_); rintro e wb ⟨rfl, hbb⟩; have hbB : Below wr.heap.size wr wb := below_then hbA (below_then (show Below wa.heap.size wa _ from (by (repeat' (first | (with_reducible exact Below.refl _ _) | (with_reducible assumption) | (with_reducible refine Below.alloc ?_ ?_ _) | (with_reducible refine below_ext ?_ ?_ _ _) | (with_reducible refine Below.setCell ?_ ?_ _) | (with_reducible refine Below.drew ?_) | (with_reducible refine below_drewN ?_ _))); all_goals (first | omega | (simp; done) | (simp; omega)))) hbb (by first | exact Nat.le_refl _ | simp)) hbA.size; have hsB := hbB.size; have hbxB := (hbB.cell (p := ⟨w.heap.size, 0, none⟩) hz).trans hbox; have hx0B := (hbB.cell (p := ⟨b, o + k * 2, none⟩) hbl).trans hx0; have hx1B := (hbB.cell (p := ⟨b, o + k * 2 + 1, none⟩) hbl).trans hx1)
            | fail)
          all_goals
            clear hq1 hq2 hq3 hp1 hp2 hp3 hzz hkd
            have hbw := below_then hb hbB hbs
            have hzB : w.heap.size < wb.heap.size := by omega
            clear hbA hba hbb hbB hbxA hx0A hx1A hsA hsB
            go_wp2_with fail
            go_roundw
            case rel => exact ⟨k + 1, jL [32] (wds m (k + 1)), by omega, by go_num, by rw [← HQ.out], hide rfl, hbw, hzB, hbxB⟩
            case measure => simp [intOf] <;> omega
        · have hsd : (0 : Int) < (sl.length : Int) := by have := List.length_pos_iff.2 hsl; omega
          have HQ := hide (show (((((mkB S ++ fiB k) ++ ⟨#[58]⟩) ++ fiB x) ++ ⟨#[62]⟩) ++ mkB (jL [44] (sl.map Lib.itoa))) = mkB (jL [32] (wds m (k + 1))) by
            rw [← hS2, HJ.out, wd, if_neg hsl, fiB_mk, fiB_mk, show (⟨#[58]⟩ : ByteArray) = mkB [58] from rfl, show (⟨#[62]⟩ : ByteArray) = mkB [62] from rfl, mkB_app, mkB_app, mkB_app, mkB_app, mkB_app]
            simp)
          clear hS2 hS1 hk0 HS HJ hSz hsl
          have hSl2 : (mkB S).size ≤ 24300000000000 := by rw [mkB_size]; exact hSl
          go_wp2_with fail
          go_region_law (first
            | (go_simp; go_at_call 13; (with_reducible refine (unhide H1 _).mono ?_); rintro e wa ⟨rfl, hba⟩; have hbA : Below wr.heap.size wr wa := below_then (show Below wr.heap.size wr _ from (by (repeat' (first | (with_reducible exact Below.refl _ _) | (with_reducible assumption) | (with_reducible refine Below.alloc ?_ ?_ _) | (with_reducible refine below_ext ?_ ?_ _ _) | (with_reducible refine Below.setCell ?_ ?_ _) | (with_reducible refine Below.drew ?_) | (with_reducible refine below_drewN ?_ _))); all_goals (first | omega | (simp; done) | (simp; omega)))) hba (by first | exact Nat.le_refl _ | simp); have hsA := hbA.size; have hbxA := (hbA.cell (p := ⟨w.heap.size, 0, none⟩) hz).trans hbox; have hx0A := (hbA.cell (p := ⟨b, o + k * 2, none⟩) hbl).trans hx0; have hx1A := (hbA.cell (p := ⟨b, o + k * 2 + 1, none⟩) hbl).trans hx1)
            | (go_simp; go_at_call 13; (with_reducible refine (unhide H2 _).mono ?_); rintro e wb ⟨rfl, hbb⟩; have hbB : Below wr.heap.size wr wb := below_then hbA (below_then (show Below wa.heap.size wa _ from (by (repeat' (first | (with_reducible exact Below.refl _ _) | (with_reducible assumption) | (with_reducible refine Below.alloc ?_ ?_ _) | (with_reducible refine below_ext ?_ ?_ _ _) | (with_reducible refine Below.setCell ?_ ?_ _) | (with_reducible refine Below.drew ?_) | (with_reducible refine below_drewN ?_ _))); all_goals (first | omega | (simp; done) | (simp; omega)))) hbb (by first | exact Nat.le_refl _ | simp)) hbA.size; have hsB := hbB.size; have hbxB := (hbB.cell (p := ⟨w.heap.size, 0, none⟩) hz).trans hbox; have hx0B := (hbB.cell (p := ⟨b, o + k * 2, none⟩) hbl).trans hx0; have hx1B := (hbB.cell (p := ⟨b, o + k * 2 + 1, none⟩) hbl).trans hx1)
            | fail)
          all_goals
            clear hq1 hq2 hq3 hp1 hp2 hp3 hzz hkd
            have hbw := below_then hb hbB hbs
            have hzB : w.heap.size < wb.heap.size := by omega
            have HRd := hide (HSS.out.below' hbB)
            clear hbA hba hbb hbB hbxA hx0A hx1A
            go_wp2_with fail
            refine (unhide H3 _ HRd.out).mono ?_
            rintro e wc ⟨rfl, hbc⟩
            have hbxC := (hbc.cell (p := ⟨w.heap.size, 0, none⟩) hzB).trans hbxB
            have hbwC := below_then hbw hbc hbw.size
            have hzC : w.heap.size < wc.heap.size := by have := hbc.size; omega
            clear hbc hbxB hbw hx0B hx1B
            go_wp2_with fail
            go_roundw
            case rel => exact ⟨k + 1, jL [32] (wds m (k + 1)), by omega, by go_num, by rw [← HQ.out], hide rfl, hbwC, hzC, hbxC⟩
            case measure => simp [intOf] <;> omega
      · have hkd : (0 : Int) < (k : Int) := by omega
        have hS2 : mkB S1 = (mkB S ++ ⟨#[32]⟩) := by rw [hS1, if_neg hk0]; exact (mkB_app S [32]).symm
        have hzz : ((mkB S ++ ⟨#[32]⟩)).size ≤ 24300000000001 := by rw [← hS2, mkB_size, hS1]; split <;> (try simp) <;> omega
        have hq1 : ¬ (9223372036854775807 : Int) < ((mkB S).size : Int) + 1 + ((fiB k).size : Int) := by rw [hSz]; omega
        have hq2 : ¬ (9223372036854775807 : Int) < ((mkB S).size : Int) + 1 + ((fiB k).size : Int) + 1 := by rw [hSz]; omega
        have hq3 : ¬ (9223372036854775807 : Int) < ((mkB S).size : Int) + 1 + ((fiB k).size : Int) + 1 + ((fiB x).size : Int) := by rw [hSz]; omega
        have hp1 : ¬ 9223372036854775807 < (mkB S).size + 1 + (fiB k).size := by rw [hSz]; omega
        have hp2 : ¬ 9223372036854775807 < (mkB S).size + 1 + (fiB k).size + 1 := by rw [hSz]; omega
        have hp3 : ¬ 9223372036854775807 < (mkB S).size + 1 + (fiB k).size + 1 + (fiB x).size := by rw [hSz]; omega
        by_cases hsl : sl = []
        · have hsd : ¬ (0 : Int) < (sl.length : Int) := by rw [hsl]; simp
          have HQ := hide (show ((((mkB S ++ ⟨#[32]⟩) ++ fiB k) ++ ⟨#[58]⟩) ++ fiB x) = mkB (jL [32] (wds m (k + 1))) by
            rw [← hS2, HJ.out, wd, if_pos hsl, fiB_mk, fiB_mk, show (⟨#[58]⟩ : ByteArray) = mkB [58] from rfl, mkB_app, mkB_app, mkB_app]
            simp)
          clear hS2 hS1 hk0 HS HJ hSz hsl
          have hSl2 : (mkB S).size ≤ 24300000000000 := by rw [mkB_size]; exact hSl
          go_wp2_with fail
          go_region_law (first
            | (go_simp; go_at_call 13; (with_reducible refine (unhide H1 _).mono ?_); rintro e wa ⟨rfl, hba⟩; have hbA : Below wr.heap.size wr wa := below_then (show Below wr.heap.size wr _ from (by (repeat' (first | (with_reducible exact Below.refl _ _) | (with_reducible assumption) | (with_reducible refine Below.alloc ?_ ?_ _) | (with_reducible refine below_ext ?_ ?_ _ _) | (with_reducible refine Below.setCell ?_ ?_ _) | (with_reducible refine Below.drew ?_) | (with_reducible refine below_drewN ?_ _))); all_goals (first | omega | (simp; done) | (simp; omega)))) hba (by first | exact Nat.le_refl _ | simp); have hsA := hbA.size; have hbxA := (hbA.cell (p := ⟨w.heap.size, 0, none⟩) hz).trans hbox; have hx0A := (hbA.cell (p := ⟨b, o + k * 2, none⟩) hbl).trans hx0; have hx1A := (hbA.cell (p := ⟨b, o + k * 2 + 1, none⟩) hbl).trans hx1)
            | (go_simp; go_at_call 13; (with_reducible refine (unhide H2 _).mono ?_); rintro e wb ⟨rfl, hbb⟩; have hbB : Below wr.heap.size wr wb := below_then hbA (below_then (show Below wa.heap.size wa _ from (by (repeat' (first | (with_reducible exact Below.refl _ _) | (with_reducible assumption) | (with_reducible refine Below.alloc ?_ ?_ _) | (with_reducible refine below_ext ?_ ?_ _ _) | (with_reducible refine Below.setCell ?_ ?_ _) | (with_reducible refine Below.drew ?_) | (with_reducible refine below_drewN ?_ _))); all_goals (first | omega | (simp; done) | (simp; omega)))) hbb (by first | exact Nat.le_refl _ | simp)) hbA.size; have hsB := hbB.size; have hbxB := (hbB.cell (p := ⟨w.heap.size, 0, none⟩) hz).trans hbox; have hx0B := (hbB.cell (p := ⟨b, o + k * 2, none⟩) hbl).trans hx0; have hx1B := (hbB.cell (p := ⟨b, o + k * 2 + 1, none⟩) hbl).trans hx1)
            | fail)
          all_goals
            clear hq1 hq2 hq3 hp1 hp2 hp3 hzz hkd
            have hbw := below_then hb hbB hbs
            have hzB : w.heap.size < wb.heap.size := by omega
            clear hbA hba hbb hbB hbxA hx0A hx1A hsA hsB
            go_wp2_with fail
            go_roundw
            case rel => exact ⟨k + 1, jL [32] (wds m (k + 1)), by omega, by go_num, by rw [← HQ.out], hide rfl, hbw, hzB, hbxB⟩
            case measure => simp [intOf] <;> omega
        · have hsd : (0 : Int) < (sl.length : Int) := by have := List.length_pos_iff.2 hsl; omega
          have HQ := hide (show ((((((mkB S ++ ⟨#[32]⟩) ++ fiB k) ++ ⟨#[58]⟩) ++ fiB x) ++ ⟨#[62]⟩) ++ mkB (jL [44] (sl.map Lib.itoa))) = mkB (jL [32] (wds m (k + 1))) by
            rw [← hS2, HJ.out, wd, if_neg hsl, fiB_mk, fiB_mk, show (⟨#[58]⟩ : ByteArray) = mkB [58] from rfl, show (⟨#[62]⟩ : ByteArray) = mkB [62] from rfl, mkB_app, mkB_app, mkB_app, mkB_app, mkB_app]
            simp)
          clear hS2 hS1 hk0 HS HJ hSz hsl
          have hSl2 : (mkB S).size ≤ 24300000000000 := by rw [mkB_size]; exact hSl
          go_wp2_with fail
          go_region_law (first
            | (go_simp; go_at_call 13; (with_reducible refine (unhide H1 _).mono ?_); rintro e wa ⟨rfl, hba⟩; have hbA : Below wr.heap.size wr wa := below_then (show Below wr.heap.size wr _ from (by (repeat' (first | (with_reducible exact Below.refl _ _) | (with_reducible assumption) | (with_reducible refine Below.alloc ?_ ?_ _) | (with_reducible refine below_ext ?_ ?_ _ _) | (with_reducible refine Below.setCell ?_ ?_ _) | (with_reducible refine Below.drew ?_) | (with_reducible refine below_drewN ?_ _))); all_goals (first | omega | (simp; done) | (simp; omega)))) hba (by first | exact Nat.le_refl _ | simp); have hsA := hbA.size; have hbxA := (hbA.cell (p := ⟨w.heap.size, 0, none⟩) hz).trans hbox; have hx0A := (hbA.cell (p := ⟨b, o + k * 2, none⟩) hbl).trans hx0; have hx1A := (hbA.cell (p := ⟨b, o + k * 2 + 1, none⟩) hbl).trans hx1)
            | (go_simp; go_at_call 13; (with_reducible refine (unhide H2 _).mono ?_); rintro e wb ⟨rfl, hbb⟩; have hbB : Below wr.heap.size wr wb := below_then hbA (below_then (show Below wa.heap.size wa _ from (by (repeat' (first | (with_reducible exact Below.refl _ _) | (with_reducible assumption) | (with_reducible refine Below.alloc ?_ ?_ _) | (with_reducible refine below_ext ?_ ?_ _ _) | (with_reducible refine Below.setCell ?_ ?_ _) | (with_reducible refine Below.drew ?_) | (with_reducible refine below_drewN ?_ _))); all_goals (first | omega | (simp; done) | (simp; omega)))) hbb (by first | exact Nat.le_refl _ | simp)) hbA.size; have hsB := hbB.size; have hbxB := (hbB.cell (p := ⟨w.heap.size, 0, none⟩) hz).trans hbox; have hx0B := (hbB.cell (p := ⟨b, o + k * 2, none⟩) hbl).trans hx0; have hx1B := (hbB.cell (p := ⟨b, o + k * 2 + 1, none⟩) hbl).trans hx1)
            | fail)
          all_goals
            clear hq1 hq2 hq3 hp1 hp2 hp3 hzz hkd
            have hbw := below_then hb hbB hbs
            have hzB : w.heap.size < wb.heap.size := by omega
            have HRd := hide (HSS.out.below' hbB)
            clear hbA hba hbb hbB hbxA hx0A hx1A
            go_wp2_with fail
            refine (unhide H3 _ HRd.out).mono ?_
            rintro e wc ⟨rfl, hbc⟩
            have hbxC := (hbc.cell (p := ⟨w.heap.size, 0, none⟩) hzB).trans hbxB
            have hbwC := below_then hbw hbc hbw.size
            have hzC : w.heap.size < wc.heap.size := by have := hbc.size; omega
            clear hbc hbxB hbw hx0B hx1B
            go_wp2_with fail
            go_roundw
            case rel => exact ⟨k + 1, jL [32] (wds m (k + 1)), by omega, by go_num, by rw [← HQ.out], hide rfl, hbwC, hzC, hbxC⟩
            case measure => simp [intOf] <;> omega
--/SFM
    · obtain rfl : k = n := by omega
      have HG := hide HS.out
      go_wp2_with fail
      go_ret
      exact ⟨by first | (rw [HG.out]; rfl) | rfl, hb⟩
end Go.Proofs.YtldkefjamimoiaaDoor
