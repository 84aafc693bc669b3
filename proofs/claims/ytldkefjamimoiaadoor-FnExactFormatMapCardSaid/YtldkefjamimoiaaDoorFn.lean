/- FormatMap of the program, walked. -/
import Derived.Test.YtldkefjamimoiaaDoorFm
namespace Go.Proofs.YtldkefjamimoiaaDoor
open Go.RowKit Go.Sep

theorem mkB_back (l : List (List UInt8)) : (l.map mkB).map (·.data.toList) = l := by
  induction l with
  | nil => rfl
  | cons a r ih => rw [List.map_cons, List.map_cons, ih]; simp [mkB]
set_option maxHeartbeats 1000000 in
set_option maxRecDepth 100000 in
theorem iFM_any (w : World) (A : Option Addr) (n c lo hi : Nat) (m : CM) (hr : Nd2 .i64 w lo hi A n m) (hn : n ≤ 1048576) (hs0 : ndSum2 m ≤ 1048576) (hM : okM m) (hT : TB w) :
    Calls Tryd.prog 8 #[.agg #[.slice A n c]] w fun e w' => e = .returned (.string (mkB (jL [32] (wds m n)))) ∧ Below w.heap.size w w' := by
  have hll := hr.len
  obtain ⟨ti, hti, hz0, hz1, hz2⟩ := info_parts infoStr
  have hjl := wds_len hM hs0 hn
  have hwl : (wds m n).length = n := by simp [wds]
  go_enter Tryd.func8, Tryd.ntmps8
  go_wp2_with (at_make; refine wpList_make_full _ rfl _ _ 41 rfl (w.heap.size + 1) 9 ti (.string ⟨#[]⟩) 1 Tryd.underlying41 hti hz0 hz1 _ _ _ _ n rfl rfl rfl rfl (by rw [hz2]; omega) (by unfold maxLen; omega) (by simp) ?_; intro w1 hown1 hgrow1; have hbx1 : w1.cell? ⟨w.heap.size, 0, none⟩ = some (.slice A n c) := (World.cell?_of_block (a := ⟨w.heap.size, 0, none⟩) (hgrow1.block w.heap.size (by simp) (by simp))).trans (World.cell?_alloc_new _ _ _ _))
  have hb1 : Below w.heap.size w w1 := below_then (show Below w.heap.size w (w.alloc (.cells #[.slice A n c] 29)) from (by (repeat' (first | (with_reducible exact Below.refl _ _) | (with_reducible assumption) | (with_reducible refine Below.alloc ?_ ?_ _) | (with_reducible refine below_ext ?_ ?_ _ _) | (with_reducible refine Below.setCell ?_ ?_ _) | (with_reducible refine Below.drew ?_) | (with_reducible refine below_drewN ?_ _))); all_goals (first | omega | (simp; done) | (simp; omega)))) ((Below.refl _ _).grown hgrow1 (Nat.le_refl _) (by simp)) (by simp)
  have hzl := zeros_len (Value.string ⟨#[]⟩).cells (n * 1)
  rw [show (w.alloc (.cells #[.slice A n c] 29)).heap.size = w.heap.size + 1 by simp] at hown1
  have hO1 : Own w1 (w.heap.size + 1) (w.heap.size + 1 + 1) 9 1 (.slice (some ⟨w.heap.size + 1, 0, none⟩) n n) n _ := ⟨hown1, fun k hk => by simp [Value.ownBlock] at hk; omega⟩
  have hlt1 := (hown1.lt (w.heap.size + 1) (by simp [Value.ownBlock])).2
  generalize (madeCells (Value.string ⟨#[]⟩).cells (n * 1)).toList = zs at hO1 hzl hown1
  clear hown1 hgrow1
  go_wp2_with fail
  go_loopw [13] (fun i wr => ∃ k : Nat, k ≤ n ∧ i = .int .i64 k ∧ Own wr (w.heap.size + 1) (w.heap.size + 1 + 1) 9 1 (.slice (some ⟨w.heap.size + 1, 0, none⟩) n n) n (mixed (((wds m n).map mkB).map Value.string) zs k) ∧ Below w.heap.size w wr ∧ w.heap.size + 1 < wr.heap.size) (fun i _ => n - (intOf i).toNat)
  case atStart => exact ⟨0, Nat.zero_le _, rfl, by rw [mixed_zero]; exact hO1, hb1, hlt1⟩
  case round =>
    clear hO1 hb1 hlt1 hbx1
    obtain ⟨k, hk, rfl, hown, hb, hz⟩ := hrel
    have hbs := hb.size
    by_cases hlt : k < n
    · obtain ⟨b, o, x, ⟨sA, sn, sc, sl⟩, rfl, hbl, hx, hx0w, hx1w, hs⟩ := hr.at_ hlt
      obtain rfl : sl.length = sn := by simpa using hs.1.len
      have hsum := ndSum2_le hx
      simp only at hsum hx hx1w
      have hx0 := (hb.cell (p := ⟨b, o + k * 2, none⟩) hbl).trans hx0w
      have hx1 := (hb.cell (p := ⟨b, o + k * 2 + 1, none⟩) hbl).trans hx1w
      clear hx0w hx1w
      obtain ⟨hxi, hsi⟩ := hM _ (List.mem_of_getElem? hx)
      simp only at hxi hsi
      have hkI : (k : Int) < (n : Int) := by omega
      have hf1 := fiB_size k (nat_i64 (by omega)).1 (nat_i64 (by omega)).2
      have hf2 := fiB_size x hxi.1 hxi.2
      have H1 := hide (fun W h => iFI_any k (nat_i64 (k := k) (by omega)).1 (nat_i64 (k := k) (by omega)).2 W h)
      have H2 := hide (fun W h => iFI_any x hxi.1 hxi.2 W h)
      have H3 := hide (fun W h h' => iInts_any W sA sc lo hi sl [44] h (by omega) hsi (by simp) h')
      rw [show mkB [44] = (⟨#[44]⟩ : ByteArray) from rfl] at H3
      have hjl3 := ints_len (sep := [44]) hsi
      have hjl4 : (21 + ([44] : List UInt8).length) * sl.length ≤ 22 * 1048576 := Nat.mul_le_mul (by simp) (by omega)
      have hjz := mkB_size (jL [44] (sl.map Lib.itoa))
      have hwat : wdAt m k = wd k x sl := by simp [wdAt, hx]
      have hfs : (((wds m n).map mkB).map Value.string)[k]? = some (.string (mkB (wd k x sl))) := by
        rw [← hwat]; simp [wds, hlt]
      have HFS := hide hfs
      clear hfs hwat
      have hn1 : ¬ 9223372036854775807 < (fiB k).size + 1 := by omega
      have hn2 : ¬ 9223372036854775807 < (fiB k).size + 1 + (fiB x).size := by omega
      have hm1 : ¬ (9223372036854775807 : Int) < ((fiB k).size : Int) + 1 := by omega
      have hm2 : ¬ (9223372036854775807 : Int) < ((fiB k).size : Int) + 1 + ((fiB x).size : Int) := by omega
      have HSS := hide hs.1
      have HO := hide hown
      have HBW := hide hb
      have HT := hide (hT.below' hb)
      have hlw : wr.heap.size < wr.heap.size + 1 := Nat.lt_succ_self _
      have hc0 : (wr.alloc (.cells #[.int .i64 x, .slice sA sl.length sc] 38)).cell? ⟨wr.heap.size, 0, none⟩ = some (.int .i64 x) := by go_simp
      have hc1 : (wr.alloc (.cells #[.int .i64 x, .slice sA sl.length sc] 38)).cell? ⟨wr.heap.size, 1, none⟩ = some (.slice sA sl.length sc) := by go_simp
      have hBW1 : Below wr.heap.size wr (wr.alloc (.cells #[.int .i64 x, .slice sA sl.length sc] 38)) := (by (repeat' (first | (with_reducible exact Below.refl _ _) | (with_reducible assumption) | (with_reducible refine Below.alloc ?_ ?_ _) | (with_reducible refine below_ext ?_ ?_ _ _) | (with_reducible refine Below.setCell ?_ ?_ _) | (with_reducible refine Below.drew ?_) | (with_reducible refine below_drewN ?_ _))); all_goals (first | omega | (simp; done) | (simp; omega)))
      have hsW1 : (wr.alloc (.cells #[.int .i64 x, .slice sA sl.length sc] 38)).heap.size = wr.heap.size + 1 := by simp
      have HW1 := hide (And.intro hc0 (And.intro hc1 (And.intro hBW1 hsW1)))
      clear hs hown hb hx hc0 hc1 hBW1 hsW1
      go_wp2_with fail
      generalize wr.alloc (.cells #[.int .i64 x, .slice sA sl.length sc] 38) = W1 at HW1 ⊢
      obtain ⟨hc0, hc1, hBW1, hsW1⟩ := HW1.out
      have hlW1 : wr.heap.size < W1.heap.size := by omega
      clear hsW1 HW1
      go_region_law (first
        | (go_simp; go_at_call 16; (with_reducible refine (unhide H1 _ (HT.out.below' (below_then hBW1 (show Below W1.heap.size W1 _ from (by (repeat' (first | (with_reducible exact Below.refl _ _) | (with_reducible assumption) | (with_reducible refine Below.alloc ?_ ?_ _) | (with_reducible refine below_ext ?_ ?_ _ _) | (with_reducible refine Below.setCell ?_ ?_ _) | (with_reducible refine Below.drew ?_) | (with_reducible refine below_drewN ?_ _))); all_goals (first | omega | (simp; done) | (simp; omega)))) hBW1.size))).mono ?_); rintro e wa ⟨rfl, hba⟩; have hbA : Below W1.heap.size W1 wa := below_then (show Below W1.heap.size W1 _ from (by (repeat' (first | (with_reducible exact Below.refl _ _) | (with_reducible assumption) | (with_reducible refine Below.alloc ?_ ?_ _) | (with_reducible refine below_ext ?_ ?_ _ _) | (with_reducible refine Below.setCell ?_ ?_ _) | (with_reducible refine Below.drew ?_) | (with_reducible refine below_drewN ?_ _))); all_goals (first | omega | (simp; done) | (simp; omega)))) hba (by first | exact Nat.le_refl _ | simp); have hsA := hbA.size; have hcA0 := (hbA.cell (p := ⟨wr.heap.size, 0, none⟩) hlW1).trans hc0; have hcA1 := (hbA.cell (p := ⟨wr.heap.size, 1, none⟩) hlW1).trans hc1)
        | (go_simp; go_at_call 16; (with_reducible refine (unhide H2 _ (HT.out.below' (below_then (below_then hBW1 hbA hBW1.size) (show Below wa.heap.size wa _ from (by (repeat' (first | (with_reducible exact Below.refl _ _) | (with_reducible assumption) | (with_reducible refine Below.alloc ?_ ?_ _) | (with_reducible refine below_ext ?_ ?_ _ _) | (with_reducible refine Below.setCell ?_ ?_ _) | (with_reducible refine Below.drew ?_) | (with_reducible refine below_drewN ?_ _))); all_goals (first | omega | (simp; done) | (simp; omega)))) (by omega)))).mono ?_); rintro e wb ⟨rfl, hbb⟩; have hbB : Below W1.heap.size W1 wb := below_then hbA (below_then (show Below wa.heap.size wa _ from (by (repeat' (first | (with_reducible exact Below.refl _ _) | (with_reducible assumption) | (with_reducible refine Below.alloc ?_ ?_ _) | (with_reducible refine below_ext ?_ ?_ _ _) | (with_reducible refine Below.setCell ?_ ?_ _) | (with_reducible refine Below.drew ?_) | (with_reducible refine below_drewN ?_ _))); all_goals (first | omega | (simp; done) | (simp; omega)))) hbb (by first | exact Nat.le_refl _ | simp)) hbA.size; have hsB := hbB.size; have hcB0 := (hbB.cell (p := ⟨wr.heap.size, 0, none⟩) hlW1).trans hc0; have hcB1 := (hbB.cell (p := ⟨wr.heap.size, 1, none⟩) hlW1).trans hc1; have hBB := below_then hBW1 hbB hBW1.size; obtain ⟨old, hdst, hfr⟩ := strs_at (HO.out.below' hBB) hlt)
        | fail)
      all_goals
        clear hn1 hn2 hm1 hm2
        have hownB := HO.out.below' hBB
        obtain ⟨h1, h2⟩ := hownB.stored k (.string ((fiB k ++ ⟨#[58]⟩) ++ fiB x))
        have hml : (mixed (((wds m n).map mkB).map Value.string) zs k).length = n := by have := hownB.len; omega
        have hb5 : Below w.heap.size w (wb.setCell ⟨w.heap.size + 1, k, none⟩ (.string ((fiB k ++ ⟨#[58]⟩) ++ fiB x))) := below_then (below_then HBW.out hBB hbs) (h2.below (B := w.heap.size) (by omega) (by omega)) (Nat.le_refl _)
        have hv5 : (wb.setCell ⟨w.heap.size + 1, k, none⟩ (.string ((fiB k ++ ⟨#[58]⟩) ++ fiB x))).cell? ⟨w.heap.size + 1, k, none⟩ = some (.string ((fiB k ++ ⟨#[58]⟩) ++ fiB x)) := by
          rw [h1.row.cellAt k (by omega), List.getElem?_set, if_pos rfl, if_pos (by omega)]
        have hfr5 := h1.row.frozenAt k
        have hc5 : (wb.setCell ⟨w.heap.size + 1, k, none⟩ (.string ((fiB k ++ ⟨#[58]⟩) ++ fiB x))).cell? ⟨wr.heap.size, 1, none⟩ = some (.slice sA sl.length sc) := (h2.cell (p := ⟨wr.heap.size, 1, none⟩) (by show wr.heap.size < _; omega) (.inr (by show _ ≤ wr.heap.size; omega))).trans hcB1
        have hs5 := h2.size
        have HRd5 := hide (HSS.out.below' hb5)
        have HT5 := hide (hT.below' hb5)
        by_cases hsl : sl = []
        · have hsd : ¬ (0 : Int) < (sl.length : Int) := by rw [hsl]; simp
          have hV : (fiB k ++ ⟨#[58]⟩) ++ fiB x = mkB (wd k x sl) := by
            rw [wd, if_pos hsl, List.append_nil, fiB_mk, fiB_mk, show (⟨#[58]⟩ : ByteArray) = mkB [58] from rfl, mkB_app, mkB_app]
          rw [mixed_set (by omega) (by rw [hV]; exact HFS.out)] at h1
          have HREL := hide (And.intro h1 (And.intro hb5 (Nat.lt_of_lt_of_le (show w.heap.size + 1 < wb.heap.size by omega) hs5)))
          clear h1 h2 hv5 hfr5 hc5 hb5 hownB hV hsl
          go_wp2_with fail
          go_roundw
          case rel => exact ⟨k + 1, by omega, by go_num, HREL.out⟩
          case measure => simp [intOf] <;> omega
        · have hsd : (0 : Int) < (sl.length : Int) := by have := List.length_pos_iff.2 hsl; omega
          have hV : ((fiB k ++ ⟨#[58]⟩) ++ fiB x) ++ (⟨#[62]⟩ ++ mkB (jL [44] (sl.map Lib.itoa))) = mkB (wd k x sl) := by
            rw [wd, if_neg hsl, fiB_mk, fiB_mk, show (⟨#[58]⟩ : ByteArray) = mkB [58] from rfl, show (⟨#[62]⟩ : ByteArray) = mkB [62] from rfl, mkB_app, mkB_app, mkB_app, mkB_app]
          have HQ := hide hV
          have hz1 : ((fiB k ++ ⟨#[58]⟩) ++ fiB x).size ≤ 50 := by
            rw [ByteArray.size_append, ByteArray.size_append, show (⟨#[58]⟩ : ByteArray).size = 1 from rfl]; omega
          have hz2 : (mkB (jL [44] (sl.map Lib.itoa))).size ≤ 23100000 := by
            rw [hjz]; simp at hjl3 hjl4; omega
          have HO5 := hide h1
          have HB5 := hide hb5
          clear hV hsl hjz hjl3 hjl4 h1 hb5 hownB h2
          generalize hW5 : wb.setCell ⟨w.heap.size + 1, k, none⟩ (.string ((fiB k ++ ⟨#[58]⟩) ++ fiB x)) = W5 at HO5 HB5 hv5 hfr5 hc5 hs5 HRd5 HT5 ⊢
          clear hW5
          generalize ((fiB k ++ ⟨#[58]⟩) ++ fiB x) = V1 at HQ hz1 HO5 hv5 ⊢
          generalize mkB (jL [44] (sl.map Lib.itoa)) = J at HQ hz2 H3
          have hp1 : ¬ 9223372036854775807 < 1 + J.size := by omega
          have hp2 : ¬ 9223372036854775807 < V1.size + (1 + J.size) := by omega
          have hp3 : ¬ (9223372036854775807 : Int) < 1 + (J.size : Int) := by omega
          have hp4 : ¬ (9223372036854775807 : Int) < (V1.size : Int) + (1 + (J.size : Int)) := by omega
          have hlG : w.heap.size + 1 < W5.heap.size := by omega
          have hlR : wr.heap.size < W5.heap.size := by omega
          go_wp2_with fail
          go_region_law (first
            | (go_simp; go_at_call 17; (with_reducible refine (unhide H3 _ (HRd5.out.below' (by (repeat' (first | (with_reducible exact Below.refl _ _) | (with_reducible assumption) | (with_reducible refine Below.alloc ?_ ?_ _) | (with_reducible refine below_ext ?_ ?_ _ _) | (with_reducible refine Below.setCell ?_ ?_ _) | (with_reducible refine Below.drew ?_) | (with_reducible refine below_drewN ?_ _))); all_goals (first | omega | (simp; done) | (simp; omega)))) (HT5.out.below' (by (repeat' (first | (with_reducible exact Below.refl _ _) | (with_reducible assumption) | (with_reducible refine Below.alloc ?_ ?_ _) | (with_reducible refine below_ext ?_ ?_ _ _) | (with_reducible refine Below.setCell ?_ ?_ _) | (with_reducible refine Below.drew ?_) | (with_reducible refine below_drewN ?_ _))); all_goals (first | omega | (simp; done) | (simp; omega))))).mono ?_); rintro e wc ⟨rfl, hbc⟩; have hbC : Below W5.heap.size W5 wc := below_then (show Below W5.heap.size W5 _ from (by (repeat' (first | (with_reducible exact Below.refl _ _) | (with_reducible assumption) | (with_reducible refine Below.alloc ?_ ?_ _) | (with_reducible refine below_ext ?_ ?_ _ _) | (with_reducible refine Below.setCell ?_ ?_ _) | (with_reducible refine Below.drew ?_) | (with_reducible refine below_drewN ?_ _))); all_goals (first | omega | (simp; done) | (simp; omega)))) hbc (by first | exact Nat.le_refl _ | simp); have hsC := hbC.size; have hvC := (hbC.cell (p := ⟨w.heap.size + 1, k, none⟩) hlG).trans hv5; have hfC := (World.frozen?_of_block (a := ⟨w.heap.size + 1, k, none⟩) (hbC.block (w.heap.size + 1) hlG)).trans hfr5)
            | fail)
          all_goals
            obtain ⟨g1, g2⟩ := (HO5.out.below' hbC).stored k (.string (V1 ++ (⟨#[62]⟩ ++ J)))
            rw [List.set_set, mixed_set (by omega) (by rw [HQ.out]; exact HFS.out)] at g1
            have HREL := hide (And.intro g1 (And.intro (below_then (below_then HB5.out hbC HB5.out.size) (g2.below (B := w.heap.size) (by omega) (by omega)) (Nat.le_refl _)) (show w.heap.size + 1 < _ from Nat.lt_of_lt_of_le (by omega) g2.size)))
            clear g1 g2 hp1 hp2 hp3 hp4 hbC hvC hfC hbc
            go_wp2_with fail
            go_roundw
            case rel => exact ⟨k + 1, by omega, by go_num, HREL.out⟩
            case measure => simp [intOf] <;> omega
    · obtain rfl : k = n := by omega
      rw [mixed_all (by simp [hwl]) (by omega)] at hown
      have HJ := Tryd.strings_Join (w.heap.size + 1) 0 k ((wds m k).map mkB) (mkB [32]) wr (strs_all (by rw [List.length_map, hwl]; exact hown)) hz (by simp [hwl]; omega) (by simp [hwl]) (by
        have e := mkB_back (wds m k)
        rw [e]
        show (jL [32] (wds m k)).length ≤ _
        omega)
      rw [List.length_map, hwl, mkB_back] at HJ
      have HJ2 := hide HJ
      clear HJ hown
      go_wp2_with fail
      refine (unhide HJ2).mono ?_
      rintro e w2 ⟨rfl, hb2⟩
      have hbw := below_then hb hb2 hb.size
      clear hb2
      go_wp2_with fail
      go_ret
      exact ⟨rfl, hbw⟩
end Go.Proofs.YtldkefjamimoiaaDoor
