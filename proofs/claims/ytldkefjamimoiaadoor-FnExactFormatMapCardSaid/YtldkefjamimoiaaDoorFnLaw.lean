/- The law on FormatMap, walked. -/
import Derived.Test.YtldkefjamimoiaaDoorFn
import Derived.Test.YtldkefjamimoiaaDoorNCell
namespace Go.Proofs.YtldkefjamimoiaaDoor
open Go.RowKit Go.Sep

set_option maxRecDepth 100000 in
theorem fnExactFormatMap.walk (A : Option Addr) (n c : Nat) (l : List (Int × Sl))  (w : World) (_hl : l.length = n) (hr : Rd w 0 w.heap.size 2 A n (l.flatMap cs1)) (hs : ∀ s ∈ l, s.2.ok .i64 w 0 w.heap.size) (hc : n ≤ c ∧ c ≤ maxLen) (hM0 : ∀ s ∈ l, i64R s.1 ∧ ∀ x ∈ s.2.l, i64R x) (hT : TB w) :
    Calls Tryd.prog 3 #[.agg #[.slice A n c]] w fun e w' => e = .returned (.bool true) ∧ Below w.heap.size w w' := by
  have hN : Nd2 .i64 w 0 w.heap.size A n (l.map (fun s => (s.1, s.2.l))) := ⟨l, hr, hs, rfl⟩
  have hM : okM (l.map (fun s : Int × Sl => (s.1, s.2.l))) := fun q hq => by
    obtain ⟨s, hs1, rfl⟩ := List.mem_map.1 hq
    exact hM0 s hs1
  generalize l.map (fun s : Int × Sl => (s.1, s.2.l)) = m at hN hM
  have hn : n ≤ 9223372036854775807 := by have := hc.1; have := hc.2; unfold maxLen at this; omega
  have HS := hide (fun W h => szCellMap_any W A n c 0 w.heap.size m 1048576 h hn (by omega) (by omega))
  by_cases hbig : (1048576 : Int) < (n : Int) + (ndSum2 m : Nat)
  · rw [show szTot 1048576 n (ndSum2 m) = -1 from if_pos hbig] at HS
    clear hbig
    go_enter Tryd.func3, Tryd.ntmps3
    go_wp2_with (go_at_call 5; refine (unhide HS _ (hN.below' (by (repeat' (first | (with_reducible exact Below.refl _ _) | (with_reducible assumption) | (with_reducible refine Below.alloc ?_ ?_ _) | (with_reducible refine below_ext ?_ ?_ _ _) | (with_reducible refine Below.setCell ?_ ?_ _) | (with_reducible refine Below.drew ?_) | (with_reducible refine below_drewN ?_ _))); all_goals (first | omega | (simp; done) | (simp; omega))))).mono ?_; rintro e w1 ⟨rfl, hb1⟩; obtain ⟨os1, d1, rfl⟩ := ext_of_below hb1; clear hb1)
    go_ret
    exact ⟨rfl, (by (repeat' (first | (with_reducible exact Below.refl _ _) | (with_reducible assumption) | (with_reducible refine Below.alloc ?_ ?_ _) | (with_reducible refine below_ext ?_ ?_ _ _) | (with_reducible refine Below.setCell ?_ ?_ _) | (with_reducible refine Below.drew ?_) | (with_reducible refine below_drewN ?_ _))); all_goals (first | omega | (simp; done) | (simp; omega)))⟩
  rw [show szTot 1048576 n (ndSum2 m) = 1048576 - n - (ndSum2 m : Nat) from if_neg hbig] at HS
  have hz : (0 : Int) ≤ 1048576 - n - (ndSum2 m : Nat) := by omega
  have hm : n + ndSum2 m ≤ 1048576 := by omega
  have hm1 : n ≤ 1048576 := by omega
  have hm2 : ndSum2 m ≤ 1048576 := by omega
  generalize (1048576 : Int) - n - (ndSum2 m : Nat) = z at HS hz
  have HR := hide (fun W A c lo hi h => sFM_any W A n c lo hi m h hm1 hm2 hM)
  have HI := hide (fun W A c lo hi h h' => iFM_any W A n c lo hi m h hm1 hm2 hM h')
  have hneq : ∀ r : ByteArray, (r.toList != r.toList) = false := fun r => by simp
  generalize mkB (jL [32] (wds m n)) = r at HR HI
  clear hbig hm1 hm2
  go_enter Tryd.func3, Tryd.ntmps3
  go_wp2_with fail; refine (unhide HS _ (hN.below' (by (repeat' (first | (with_reducible exact Below.refl _ _) | (with_reducible assumption) | (with_reducible refine Below.alloc ?_ ?_ _) | (with_reducible refine below_ext ?_ ?_ _ _) | (with_reducible refine Below.setCell ?_ ?_ _) | (with_reducible refine Below.drew ?_) | (with_reducible refine below_drewN ?_ _))); all_goals (first | omega | (simp; done) | (simp; omega))))).mono ?_; rintro e w1 ⟨rfl, hb1⟩; obtain ⟨os1, d1, rfl⟩ := ext_of_below hb1; clear hb1
  go_wp2_with fail; refine (toCellMap_any _ _ _ _ _ _ m (hN.below' (by (repeat' (first | (with_reducible exact Below.refl _ _) | (with_reducible assumption) | (with_reducible refine Below.alloc ?_ ?_ _) | (with_reducible refine below_ext ?_ ?_ _ _) | (with_reducible refine Below.setCell ?_ ?_ _) | (with_reducible refine Below.drew ?_) | (with_reducible refine below_drewN ?_ _))); all_goals (first | omega | (simp; done) | (simp; omega)))) hm).mono ?_; rintro e w2 ⟨A2, c2, rfl, hc2, hm2, ho2, hb2⟩; obtain ⟨os2, d2, rfl⟩ := ext_of_below hb2; clear hb2; try simp only [ext_drew] at ho2; try simp only [ext_drewN] at ho2
  go_wp2_with fail; refine (unhide HR _ _ _ _ _ (ho2.nd.below' (by (repeat' (first | (with_reducible exact Below.refl _ _) | (with_reducible assumption) | (with_reducible refine Below.alloc ?_ ?_ _) | (with_reducible refine below_ext ?_ ?_ _ _) | (with_reducible refine Below.setCell ?_ ?_ _) | (with_reducible refine Below.drew ?_) | (with_reducible refine below_drewN ?_ _))); all_goals (first | omega | (simp; done) | (simp; omega))))).mono ?_; rintro e w3 ⟨rfl, hb3⟩; obtain ⟨os3, d3, rfl⟩ := ext_of_below hb3; clear hb3
  go_wp2_with fail; refine (toCellMap_any _ _ _ _ _ _ m (hN.below' (by (repeat' (first | (with_reducible exact Below.refl _ _) | (with_reducible assumption) | (with_reducible refine Below.alloc ?_ ?_ _) | (with_reducible refine below_ext ?_ ?_ _ _) | (with_reducible refine Below.setCell ?_ ?_ _) | (with_reducible refine Below.drew ?_) | (with_reducible refine below_drewN ?_ _))); all_goals (first | omega | (simp; done) | (simp; omega)))) hm).mono ?_; rintro e w4 ⟨A4, c4, rfl, hc4, hm4, ho4, hb4⟩; obtain ⟨os4, d4, rfl⟩ := ext_of_below hb4; clear hb4; try simp only [ext_drew] at ho4; try simp only [ext_drewN] at ho4
  go_wp2_with fail; refine (unhide HI _ _ _ _ _ (ho4.nd.below' (by (repeat' (first | (with_reducible exact Below.refl _ _) | (with_reducible assumption) | (with_reducible refine Below.alloc ?_ ?_ _) | (with_reducible refine below_ext ?_ ?_ _ _) | (with_reducible refine Below.setCell ?_ ?_ _) | (with_reducible refine Below.drew ?_) | (with_reducible refine below_drewN ?_ _))); all_goals (first | omega | (simp; done) | (simp; omega)))) (hT.below' (by (repeat' (first | (with_reducible exact Below.refl _ _) | (with_reducible assumption) | (with_reducible refine Below.alloc ?_ ?_ _) | (with_reducible refine below_ext ?_ ?_ _ _) | (with_reducible refine Below.setCell ?_ ?_ _) | (with_reducible refine Below.drew ?_) | (with_reducible refine below_drewN ?_ _))); all_goals (first | omega | (simp; done) | (simp; omega))))).mono ?_; rintro e w5 ⟨rfl, hb5⟩; obtain ⟨os5, d5, rfl⟩ := ext_of_below hb5; clear hb5
  go_wp2_with fail
  go_region_held3 (fun w' => w'.cell? ⟨w.heap.size, 0, none⟩ = some (.slice A n c) ∧ w'.cell? ⟨w.heap.size + 1 + os1.size + os2.size + os3.size + os4.size, 0, none⟩ = some (.slice A4 n c4)) (first | (go_simp; done) | go_keep)
    (first | (go_at_call 7; refine (toCellMap_any _ _ _ _ _ _ m (hN.below' (by (repeat' (first | (with_reducible exact Below.refl _ _) | (with_reducible assumption) | (with_reducible refine Below.alloc ?_ ?_ _) | (with_reducible refine below_ext ?_ ?_ _ _) | (with_reducible refine Below.setCell ?_ ?_ _) | (with_reducible refine Below.drew ?_) | (with_reducible refine below_drewN ?_ _))); all_goals (first | omega | (simp; done) | (simp; omega)))) hm).mono ?_; rintro e w6 ⟨A6, c6, rfl, hc6, hm6, ho6, hb6⟩; obtain ⟨os6, d6, rfl⟩ := ext_of_below hb6; clear hb6; try simp only [ext_drew] at ho6; try simp only [ext_drewN] at ho6) | (go_at_call 9; refine (eqCellMap_yes _ _ _ _ _ _ _ _ _ _ m (ho4.nd.below' (by (repeat' (first | (with_reducible exact Below.refl _ _) | (with_reducible assumption) | (with_reducible refine Below.alloc ?_ ?_ _) | (with_reducible refine below_ext ?_ ?_ _ _) | (with_reducible refine Below.setCell ?_ ?_ _) | (with_reducible refine Below.drew ?_) | (with_reducible refine below_drewN ?_ _))); all_goals (first | omega | (simp; done) | (simp; omega)))) (ho6.nd.below' (by (repeat' (first | (with_reducible exact Below.refl _ _) | (with_reducible assumption) | (with_reducible refine Below.alloc ?_ ?_ _) | (with_reducible refine below_ext ?_ ?_ _ _) | (with_reducible refine Below.setCell ?_ ?_ _) | (with_reducible refine Below.drew ?_) | (with_reducible refine below_drewN ?_ _))); all_goals (first | omega | (simp; done) | (simp; omega)))) hn).mono ?_; rintro e w7 ⟨rfl, hb7⟩; obtain ⟨os7, d7, rfl⟩ := ext_of_below hb7; clear hb7))
  all_goals
    go_wp2_with fail
    go_ret
    exact ⟨rfl, (by (repeat' (first | (with_reducible exact Below.refl _ _) | (with_reducible assumption) | (with_reducible refine Below.alloc ?_ ?_ _) | (with_reducible refine below_ext ?_ ?_ _ _) | (with_reducible refine Below.setCell ?_ ?_ _) | (with_reducible refine Below.drew ?_) | (with_reducible refine below_drewN ?_ _))); all_goals (first | omega | (simp; done) | (simp; omega)))⟩
end Go.Proofs.YtldkefjamimoiaaDoor
