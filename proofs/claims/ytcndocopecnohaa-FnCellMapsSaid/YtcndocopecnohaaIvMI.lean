/- IsValidMap: the program's own. -/
import Derived.Test.YtcndocopecnohaaIvM
namespace Go.Proofs.Ytcndocopecnohaa
open Go.RowKit Go.Sep
set_option maxRecDepth 100000 in
theorem iIsValidMap_any (w : World) (A : Option Addr) (n c lo hi : Nat) (m : CM) (hr : Nd2 .i64 w lo hi A n m) (hn : n ≤ 1048576) (hs0 : ndSum2 m ≤ 1048576) :
    Calls Try.prog 28 #[.agg #[.slice A n c]] w fun e w' => e = .returned (.bool (vMap m n)) ∧ Below w.heap.size w w' := by
  have hl := hr.len
  have HL := hide (fun W => inRange_any (n : Int) 1 6 W)
  cases hcap : inR (n : Int) 1 6
  · rw [hcap] at HL
    rw [show vMap m n = false by unfold vMap; rw [hcap, Bool.and_false]]
    clear hcap hr
    go_enter Try.func28, Try.ntmps28
    go_wp2_with (go_at_call 45; refine (unhide HL _).mono ?_; rintro e w' ⟨rfl, rfl⟩)
    go_ret
    exact ⟨rfl, (by (repeat' (first | (with_reducible exact Below.refl _ _) | (with_reducible assumption) | (with_reducible refine Below.alloc ?_ ?_ _) | (with_reducible refine below_ext ?_ ?_ _ _) | (with_reducible refine Below.setCell ?_ ?_ _) | (with_reducible refine Below.drew ?_) | (with_reducible refine below_drewN ?_ _))); all_goals (first | omega | (simp; done) | (simp; omega)))⟩
  rw [hcap] at HL
  have HCAP := hide hcap
  clear hcap
  go_enter Try.func28, Try.ntmps28
  go_wp2_with (go_at_call 45; refine (unhide HL _).mono ?_; rintro e w' ⟨rfl, rfl⟩)
  clear HL
  go_loopw [15] (fun i wr => ∃ k : Nat, k ≤ n ∧ i = .int .i64 k ∧ Hid (∀ j, j < k → cellOk m n j = true) ∧ Below w.heap.size w wr ∧ w.heap.size < wr.heap.size ∧ wr.cell? ⟨w.heap.size, 0, none⟩ = some (.slice A n c)) (fun i _ => n - (intOf i).toNat)
  case atStart => exact ⟨0, Nat.zero_le _, rfl, hide (fun j hj => absurd hj (by omega)), (by (repeat' (first | (with_reducible exact Below.refl _ _) | (with_reducible assumption) | (with_reducible refine Below.alloc ?_ ?_ _) | (with_reducible refine below_ext ?_ ?_ _ _) | (with_reducible refine Below.setCell ?_ ?_ _) | (with_reducible refine Below.drew ?_) | (with_reducible refine below_drewN ?_ _))); all_goals (first | omega | (simp; done) | (simp; omega))), by simp, World.cell?_alloc_new _ _ _ _⟩
  case round =>
    obtain ⟨k, hk, rfl, HF, hb, hz, hbox⟩ := hrel
    obtain ⟨wo, hwo⟩ : ∃ wo, wo = wr := ⟨_, rfl⟩
    subst hwo
    by_cases hlt : k < n
    · obtain ⟨b, o, x, ⟨sA, sn, sc, sl⟩, rfl, hbl, hx, hx0, hx1, hs⟩ := (hr.below' hb).at_ hlt
      obtain rfl : sl.length = sn := by simpa using hs.1.len
      have hsum := ndSum2_le hx
      simp only at hsum
      have hkn : (k : Int) < (n : Int) := by omega
      have HN := hide (fun h : cellOk m n k = false => show vMap m n = false by unfold vMap; rw [allOk_no hlt h, Bool.false_and])
      have HY := hide (fun h : cellOk m n k = true => lt_next HF.out h)
      have hv := cellOk_i (n := n) hx
      have HS := hide hs.1
      have HI := hide (fun W => inRange_any x 0 2 W)
      have HA := hide (fun W h => iAsc_any W sA sl.length sc lo hi sl h (by omega))
      clear hs hx HF HCAP
      cases hA : inR x 0 2
      · rw [hA] at HI hv
        have HR := hide (HN.out (by rw [hv]; rfl))
        clear HN HY hv hA hr HA
        go_wp2_with (go_at_call 45; refine (unhide HI _).mono ?_; rintro e w' ⟨rfl, rfl⟩)
        go_ret
        exact ⟨ret_bool HR.out.symm, (by (repeat' (first | (with_reducible exact Below.refl _ _) | (with_reducible assumption) | (with_reducible refine Below.alloc ?_ ?_ _) | (with_reducible refine below_ext ?_ ?_ _ _) | (with_reducible refine Below.setCell ?_ ?_ _) | (with_reducible refine Below.drew ?_) | (with_reducible refine below_drewN ?_ _))); all_goals (first | omega | (simp; done) | (simp; omega)))⟩
      · rw [hA] at HI hv
        rw [Bool.true_and] at hv
        clear hA
        cases hB : allOk (ascAt sl) sl.length
        · rw [hB] at HA hv
          have HR := hide (HN.out (by rw [hv]; rfl))
          clear HN HY hv hr hB
          go_wp2_with (first | (go_at_call 45; refine (unhide HI _).mono ?_; rintro e w' ⟨rfl, rfl⟩) | (go_at_call 46; refine (unhide HA _ (HS.out.below' (by (repeat' (first | (with_reducible exact Below.refl _ _) | (with_reducible assumption) | (with_reducible refine Below.alloc ?_ ?_ _) | (with_reducible refine below_ext ?_ ?_ _ _) | (with_reducible refine Below.setCell ?_ ?_ _) | (with_reducible refine Below.drew ?_) | (with_reducible refine below_drewN ?_ _))); all_goals (first | omega | (simp; done) | (simp; omega))))).mono ?_; rintro e w1 ⟨rfl, d1, rfl⟩))
          go_ret
          exact ⟨ret_bool HR.out.symm, (by (repeat' (first | (with_reducible exact Below.refl _ _) | (with_reducible assumption) | (with_reducible refine Below.alloc ?_ ?_ _) | (with_reducible refine below_ext ?_ ?_ _ _) | (with_reducible refine Below.setCell ?_ ?_ _) | (with_reducible refine Below.drew ?_) | (with_reducible refine below_drewN ?_ _))); all_goals (first | omega | (simp; done) | (simp; omega)))⟩
        rw [hB] at HA hv
        rw [Bool.true_and] at hv
        have HV := hide hv
        have HRR := hide hr
        clear hv hr hB
        go_wp2_with (first | (go_at_call 45; refine (unhide HI _).mono ?_; rintro e w' ⟨rfl, rfl⟩) | (go_at_call 46; refine (unhide HA _ (HS.out.below' (by (repeat' (first | (with_reducible exact Below.refl _ _) | (with_reducible assumption) | (with_reducible refine Below.alloc ?_ ?_ _) | (with_reducible refine below_ext ?_ ?_ _ _) | (with_reducible refine Below.setCell ?_ ?_ _) | (with_reducible refine Below.drew ?_) | (with_reducible refine below_drewN ?_ _))); all_goals (first | omega | (simp; done) | (simp; omega))))).mono ?_; rintro e w1 ⟨rfl, d1, rfl⟩))
        clear HI HA
        go_loopw [33] (fun i wr => ∃ q : Nat, q ≤ sl.length ∧ i = .int .i64 q ∧ Hid (∀ j, j < q → nbI m n k sl j = true) ∧ Below wo.heap.size wo wr) (fun i _ => sl.length - (intOf i).toNat)
        case atStart => exact ⟨0, Nat.zero_le _, rfl, hide (fun j hj => absurd hj (by omega)), (by (repeat' (first | (with_reducible exact Below.refl _ _) | (with_reducible assumption) | (with_reducible refine Below.alloc ?_ ?_ _) | (with_reducible refine below_ext ?_ ?_ _ _) | (with_reducible refine Below.setCell ?_ ?_ _) | (with_reducible refine Below.drew ?_) | (with_reducible refine below_drewN ?_ _))); all_goals (first | omega | (simp; done) | (simp; omega)))⟩
        case round =>
          obtain ⟨q, hq, rfl, HG, hb2⟩ := hrel
          have hbox2 := ((bcell hb2).1 _ 0 hz).trans hbox
          have hb3 : Below w.heap.size w wr := below_then hb hb2 hb.size
          have hsz := hb3.size
          have hsz2 := hb2.size
          have hz2 : w.heap.size < wr.heap.size := by omega
          by_cases hqlt : q < sl.length
          · obtain ⟨b2, o2, rfl, _, hb2l, hcell⟩ := (HS.out.below' hb2).at_ (j := q) (by omega)
            have hvq := hcell q (.int .i64 sl[q]) (by simp [hqlt])
            have hg : sl[q]? = some sl[q] := List.getElem?_eq_getElem hqlt
            generalize sl[q] = v at hvq hg
            have hql : (q : Int) < (sl.length : Int) := by omega
            have HN2 := hide (fun h : nbI m n k sl q = false => HN.out (by rw [HV.out, allOk_no hqlt h]))
            have HY2 := hide (fun h : nbI m n k sl q = true => lt_next HG.out h)
            have hw2 := nbI_v (m := m) (n := n) (i := k) hg
            have HC := hide (fun W => iIsCell_any W (some ⟨b, o, none⟩) n c v hn)
            have HM := hide (fun W h => iAreNeighbors_any W (some ⟨b, o, none⟩) n c lo hi m v k h hn hs0)
            clear HN HY HV HG hcell hg HS
            cases he : (v == (k : Int)) <;> cases hI : inR v 0 ((n : Int) - 1) <;> cases hM : nbr m v k
            all_goals
              rw [hI] at HC
              rw [hM] at HM
              rw [he, hI, hM] at hw2
              clear hI hM
              go_wp2_with (first | (go_at_call 36; refine (unhide HC _).mono ?_; rintro e w1 ⟨rfl, hb1⟩; obtain ⟨os1, d1, rfl⟩ := ext_of_below hb1; clear hb1) | (go_at_call 16; refine (unhide HM _ ((HRR.out.below' hb3).below' (by (repeat' (first | (with_reducible exact Below.refl _ _) | (with_reducible assumption) | (with_reducible refine Below.alloc ?_ ?_ _) | (with_reducible refine below_ext ?_ ?_ _ _) | (with_reducible refine Below.setCell ?_ ?_ _) | (with_reducible refine Below.drew ?_) | (with_reducible refine below_drewN ?_ _))); all_goals (first | omega | (simp; done) | (simp; omega))))).mono ?_; rintro e w2 ⟨rfl, hb2⟩; obtain ⟨os2, d2, rfl⟩ := ext_of_below hb2; clear hb2))
              first
              | (go_ret; exact ⟨ret_bool (HN2.out (by rw [hw2]; rfl)).symm, (by (repeat' (first | (with_reducible exact Below.refl _ _) | (with_reducible assumption) | (with_reducible refine Below.alloc ?_ ?_ _) | (with_reducible refine below_ext ?_ ?_ _ _) | (with_reducible refine Below.setCell ?_ ?_ _) | (with_reducible refine Below.drew ?_) | (with_reducible refine below_drewN ?_ _))); all_goals (first | omega | (simp; done) | (simp; omega)))⟩)
              | (go_roundw; (case rel => exact ⟨q + 1, by omega, by go_num, hide (HY2.out (by rw [hw2]; rfl)), below_then hb2 (B' := wr.heap.size) (by (repeat' (first | (with_reducible exact Below.refl _ _) | (with_reducible assumption) | (with_reducible refine Below.alloc ?_ ?_ _) | (with_reducible refine below_ext ?_ ?_ _ _) | (with_reducible refine Below.setCell ?_ ?_ _) | (with_reducible refine Below.drew ?_) | (with_reducible refine below_drewN ?_ _))); all_goals (first | omega | (simp; done) | (simp; omega))) hb2.size⟩); (case measure => simp [intOf] <;> omega))
          · obtain rfl : q = sl.length := by omega
            have HR := hide (HY.out (by rw [HV.out, allOk_yes HG.out]))
            clear HN HY HV HG HRR HS
            go_wp2_with fail
            go_roundw
            case rel => exact ⟨k + 1, by omega, by go_num, hide HR.out, hb3, by omega, hbox2⟩
            case measure => simp [intOf] <;> omega
    · obtain rfl : k = n := by omega
      have HG := hide (show vMap m k = true by unfold vMap; rw [allOk_yes HF.out, Bool.true_and]; exact HCAP.out)
      clear HF hr
      go_wp2_with fail
      go_ret
      exact ⟨ret_bool HG.out.symm, (by (repeat' (first | (with_reducible exact Below.refl _ _) | (with_reducible assumption) | (with_reducible refine Below.alloc ?_ ?_ _) | (with_reducible refine below_ext ?_ ?_ _ _) | (with_reducible refine Below.setCell ?_ ?_ _) | (with_reducible refine Below.drew ?_) | (with_reducible refine below_drewN ?_ _))); all_goals (first | omega | (simp; done) | (simp; omega)))⟩
end Go.Proofs.Ytcndocopecnohaa
