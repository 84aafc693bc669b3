/- SetBearer: what both sides return. -/
import Derived.Test.YticfmkfiibhafaaPlace
namespace Go.Proofs.Yticfmkfiibhafaa
open Go.RowKit Go.Sep

set_option maxHeartbeats 1000000 in
set_option maxRecDepth 100000 in
theorem iSet_any (w : World) (A : Option Addr) (n c lo hi : Nat) (l : List (Int × Int × Int)) (x y z : Int) (hr : Rd w lo hi 3 A n (l.flatMap c3)) (hn : n ≤ 1048576) :
    Calls Try.prog 40 #[.slice A n c, .agg #[.int .i64 x, .int .i64 y, .int .i64 z]] w (MkV (fun v => .tuple #[v, .bool (setR l x y z).2]) w 46 3 (setR l x y z).1.length ((setR l x y z).1.flatMap c3)) := by
  have hll := hr.len3
  have hol := setO_len l x y z
  have HC := hide (fun W h => iCopyBe_any W A n c lo hi l h (by omega))
  have HP := hide (fun W h => iPlace_any W A n c lo hi l x y z h (by omega))
  have HV := hide (fun W A' c' lo' hi' h => iAVB_big W A' (setO l x y z).length c' lo' hi' (setO l x y z) h (by omega))
  cases hv : setV l x y z
  · have hR := setR_n hv
    have hv' : vBea (setO l x y z) (setO l x y z).length = false := hv
    rw [hv'] at HV
    rw [hR]
    show Calls _ _ _ w (MkV (fun v => .tuple #[v, .bool false]) w _ 3 l.length (l.flatMap c3))
    rw [hll]
    generalize setO l x y z = O at HP HV hol
    clear hR hv hv'
    go_enter Try.func40, Try.ntmps40
    go_wp2_with fail
    refine (unhide HP _ (hr.below' (by (repeat' (first | (with_reducible exact Below.refl _ _) | (with_reducible assumption) | (with_reducible refine Below.alloc ?_ ?_ _) | (with_reducible refine below_ext ?_ ?_ _ _) | (with_reducible refine Below.setCell ?_ ?_ _) | (with_reducible refine Below.drew ?_) | (with_reducible refine below_drewN ?_ _))); all_goals (first | omega | (simp; done) | (simp; omega))))).mono ?_
    rintro e w1 ⟨A1, c1, rfl, hc1, hm1, ho1, hb1⟩
    have hbw1 := below_then ((Below.refl w.heap.size w).alloc (Nat.le_refl _) _) hb1 (by simp)
    clear HP
    go_wp2_with fail
    refine (unhide HV _ _ _ _ _ ho1.rd).mono ?_
    rintro e w2 ⟨rfl, hb2⟩
    have hbw2 := below_then hbw1 hb2 hbw1.size
    clear HV ho1 hb1
    go_wp2_with fail
    refine (unhide HC _ (hr.below' hbw2)).mono ?_
    rintro e w3 ⟨A3, c3', rfl, hc3, hm3, ho3, hb3⟩
    have HF := hide (show MkV (fun v => .tuple #[v, .bool false]) w 46 3 n (l.flatMap c3) (.returned (.tuple #[.slice A3 n c3', .bool false])) w3 from ⟨A3, c3', rfl, hc3, hm3, ho3.more hbw2.size (Nat.le_refl _), below_then hbw2 hb3 hbw2.size⟩)
    clear ho3 hb3 hbw2 hbw1 hb2 hr
    go_wp2_with fail
    go_ret2
    exact HF.out
  · have hR := setR_y hv
    have hv' : vBea (setO l x y z) (setO l x y z).length = true := hv
    rw [hv'] at HV
    rw [hR]
    generalize setO l x y z = O at HP HV hol
    show Calls _ _ _ w (MkV (fun v => .tuple #[v, .bool true]) w _ 3 O.length (O.flatMap c3))
    clear hR hv hv' HC
    go_enter Try.func40, Try.ntmps40
    go_wp2_with fail
    refine (unhide HP _ (hr.below' (by (repeat' (first | (with_reducible exact Below.refl _ _) | (with_reducible assumption) | (with_reducible refine Below.alloc ?_ ?_ _) | (with_reducible refine below_ext ?_ ?_ _ _) | (with_reducible refine Below.setCell ?_ ?_ _) | (with_reducible refine Below.drew ?_) | (with_reducible refine below_drewN ?_ _))); all_goals (first | omega | (simp; done) | (simp; omega))))).mono ?_
    rintro e w1 ⟨A1, c1, rfl, hc1, hm1, ho1, hb1⟩
    have hbw1 := below_then ((Below.refl w.heap.size w).alloc (Nat.le_refl _) _) hb1 (by simp)
    clear HP
    go_wp2_with fail
    refine (unhide HV _ _ _ _ _ ho1.rd).mono ?_
    rintro e w2 ⟨rfl, hb2⟩
    have hbw2 := below_then hbw1 hb2 hbw1.size
    have HF := hide (show MkV (fun v => .tuple #[v, .bool true]) w 46 3 O.length (O.flatMap c3) (.returned (.tuple #[.slice A1 O.length c1, .bool true])) w2 from ⟨A1, c1, rfl, hc1, hm1, (ho1.below' hb2).more (by simp) hb2.size, hbw2⟩)
    clear HV ho1 hb1 hbw2 hbw1 hb2 hr
    go_wp2_with fail
    go_ret2
    exact HF.out
end Go.Proofs.Yticfmkfiibhafaa
