/- AdmitBearer: what both sides return. -/
import Derived.Test.YticfmkfiibhafaaSetW
import Derived.Test.YticfmkfiibhafaaSetS
namespace Go.Proofs.Yticfmkfiibhafaa
open Go.RowKit Go.Sep

def sliceN : Value → Nat
  | .slice _ n _ => n
  | _ => 0
theorem box3' {w w1 w2 : World} {x y z : Value} (hb : Below w1.heap.size w1 w2) (hs : w.heap.size + 1 ≤ w1.heap.size) (h0 : w1.cell? ⟨w.heap.size, 0, none⟩ = some x) (h1 : w1.cell? ⟨w.heap.size, 1, none⟩ = some y) (h2 : w1.cell? ⟨w.heap.size, 2, none⟩ = some z) :
    w2.cell? ⟨w.heap.size, 0, none⟩ = some x ∧ w2.cell? ⟨w.heap.size, 1, none⟩ = some y ∧ w2.cell? ⟨w.heap.size, 2, none⟩ = some z ∧ w.heap.size + 1 ≤ w2.heap.size := by
  obtain ⟨h, _⟩ := bcell hb
  exact ⟨(h _ _ (by omega)).trans h0, (h _ _ (by omega)).trans h1, (h _ _ (by omega)).trans h2, Nat.le_trans hs hb.size⟩
/-- What the loop of an admission keeps. -/
def AdmRel (w : World) (x y z cap : Int) (O : List (Int × Int × Int)) (q : Value) (wr : World) : Prop :=
  ∃ (m : Nat) (A' : Option Addr) (c' : Nat) (L : List (Int × Int × Int)), q = .slice A' m c' ∧ m ≤ c' ∧ c' ≤ maxLen ∧ Hid (L.length = m) ∧ Hid (vBea L L.length = true) ∧ Hid (adm cap y O = adm cap y L) ∧
    Own wr (w.heap.size + 1) wr.heap.size 46 3 (.slice A' m c') m (L.flatMap c3) ∧ Below w.heap.size w wr ∧
    (wr.cell? ⟨w.heap.size, 0, none⟩ = some (.int .i64 x) ∧ wr.cell? ⟨w.heap.size, 1, none⟩ = some (.int .i64 y) ∧ wr.cell? ⟨w.heap.size, 2, none⟩ = some (.int .i64 z) ∧ w.heap.size + 1 ≤ wr.heap.size)
set_option maxHeartbeats 2000000 in
set_option maxRecDepth 100000 in
theorem iAdm_any (w : World) (A : Option Addr) (n c lo hi : Nat) (l : List (Int × Int × Int)) (x y z cap : Int) (hr : Rd w lo hi 3 A n (l.flatMap c3)) (hn : n ≤ 1048576) :
    Calls Try.prog 42 #[.slice A n c, .agg #[.int .i64 x, .int .i64 y, .int .i64 z], .int .i64 cap] w (MkV (fun v => .tuple #[v, .bool (admR l x y z cap).2]) w 46 3 (admR l x y z cap).1.length ((admR l x y z cap).1.flatMap c3)) := by
  have hll := hr.len3
  have HC := hide (fun W h => iCopyBe_any W A n c lo hi l h (by omega))
  have HS := hide (fun W h => iSet_any W A n c lo hi l x y z h (by omega))
  have HDONE := hide (fun (A3 : Option Addr) (c3' N hi' : Nat) (w3 : World) (X : List (Int × Int × Int)) (hX : admR l x y z cap = (X, true)) (hN : N = X.length) (h1 : N ≤ c3') (h2 : c3' ≤ maxLen) (h3 : Own w3 (w.heap.size + 1) hi' 46 3 (.slice A3 N c3') N (X.flatMap c3)) (h4 : Below w.heap.size w w3) (h5 : hi' ≤ w3.heap.size) =>
    (show MkV (fun v => .tuple #[v, .bool (admR l x y z cap).2]) w 46 3 (admR l x y z cap).1.length ((admR l x y z cap).1.flatMap c3) (.returned (.tuple #[.slice A3 N c3', .bool true])) w3 from by
      rw [hX]
      subst hN
      exact ⟨A3, c3', rfl, h1, h2, h3.more (by omega) h5, h4⟩))
  have HFAIL := hide (fun (A3 : Option Addr) (c3' lo' hi' : Nat) (w3 : World) (hv : admR l x y z cap = (l, false)) (h1 : n ≤ c3') (h2 : c3' ≤ maxLen) (h3 : Own w3 lo' hi' 46 3 (.slice A3 n c3') n (l.flatMap c3)) (h4 : Below w.heap.size w w3) (h5 : w.heap.size ≤ lo') (h6 : hi' ≤ w3.heap.size) =>
    (show MkV (fun v => .tuple #[v, .bool (admR l x y z cap).2]) w 46 3 (admR l x y z cap).1.length ((admR l x y z cap).1.flatMap c3) (.returned (.tuple #[.slice A3 n c3', .bool false])) w3 from by
      rw [hv]
      simp only [hll]
      exact ⟨A3, c3', rfl, h1, h2, h3.more h5 h6, h4⟩))
  have HY := hide (fun (hv : setV l x y z = true) X h => admR_y (l := l) (x := x) (y := y) (z := z) (cap := cap) (X := X) hv h)
  have HNN := hide (fun (hv : setV l x y z = true) h => admR_n (l := l) (x := x) (y := y) (z := z) (cap := cap) hv h)
  have HSS := hide (fun h => admR_s (l := l) (x := x) (y := y) (z := z) (cap := cap) h)
  generalize admR l x y z cap = R at HDONE HFAIL HY HNN HSS ⊢
  cases hv : setV l x y z
  · have hR := setR_n hv
    have hAR := hide (HSS.out hv)
    rw [hR] at HS
    simp only [hll] at HS
    clear hR hv HY HNN HSS HDONE
    go_enter Try.func42, Try.ntmps42
    go_wp2_with fail
    refine (unhide HS _ (hr.alloc _)).mono ?_
    rintro e w1 ⟨A1, c1, rfl, hc1, hm1, ho1, hb1⟩
    obtain ⟨hx0, hx1, hx2, hbw1, hsz1⟩ := box3 hb1
    clear ho1 hb1
    go_wp2_with fail
    refine (unhide HC _ (hr.below' hbw1)).mono ?_
    rintro e w3 ⟨A3, c3', rfl, hc3, hm3, ho3, hb3⟩
    have HF := hide (HFAIL.out A3 c3' _ _ w3 hAR.out hc3 hm3 ho3 (below_then hbw1 hb3 hbw1.size) hbw1.size (Nat.le_refl _))
    clear ho3 hb3 hbw1 hr
    go_wp2_with fail
    go_ret2
    exact HF.out
  · have hR := setR_y hv
    have HY2 := hide (HY.out hv)
    have HN2 := hide (HNN.out hv)
    have hvO : vBea (setO l x y z) (setO l x y z).length = true := hv
    rw [hR] at HS
    simp only at HS
    generalize setO l x y z = O at HS HY2 HN2 hvO
    have HVO := hide hvO
    clear hR hv HY HNN HSS hvO
    go_enter Try.func42, Try.ntmps42
    go_wp2_with fail
    refine (unhide HS _ (hr.alloc _)).mono ?_
    rintro e w1 ⟨A1, c1, rfl, hc1, hm1, ho1, hb1⟩
    obtain ⟨hx0, hx1, hx2, hbw1, hsz1⟩ := box3 hb1
    have ho1' := ho1.more (lo' := w.heap.size + 1) (hi' := w1.heap.size) (by simp) (Nat.le_refl _)
    have HR0 := hide (show AdmRel w x y z cap O (.slice A1 O.length c1) w1 from ⟨_, A1, c1, O, rfl, hc1, hm1, hide rfl, HVO, hide rfl, ho1', hbw1, hx0, hx1, hx2, hsz1⟩)
    clear ho1 hb1 ho1' hx0 hx1 hx2 hbw1 hsz1 hc1 hm1
    go_wp2_with fail
    go_loopw [8] (fun q wr => AdmRel w x y z cap O q wr) (fun q _ => sliceN q)
    case atStart => exact HR0.out
    case round =>
      clear HR0
      obtain ⟨m, A', c', L, rfl, hmc, hcm, HL, HVL, HA, hown, hbw, hx0, hx1, hx2, hsz⟩ := hrel
      have hm4 : m ≤ 4 := by have := ((vBea_iff L).1 HVL.out).2.2; have := HL.out; omega
      by_cases hcap : tRate L ≤ cap
      · have hend := HA.out.trans (adm_end hcap)
        have HE := hide (HY2.out L hend)
        have HT := hide (fun W h => iTotalRate_any W A' m c' (w.heap.size + 1) wr.heap.size L h (by omega))
        have HLm := hide HL.out.symm
        have hn1 : ¬ cap < tRate L := by omega
        generalize tRate L = T at HT hn1 hcap
        clear hend HA HVL HL
        go_wp2_with fail
        refine (unhide HT _ hown.rd).mono ?_
        rintro e w2 ⟨rfl, hb2⟩
        have HF := hide (HDONE.out A' c' m _ w2 L HE.out HLm.out hmc hcm (hown.below' hb2) (below_then hbw hb2 hbw.size) hb2.size)
        clear hown hb2 hbw HE HLm
        go_wp2_with fail
        go_ret2
        exact HF.out
      · have hcap' : cap < tRate L := by omega
        have HT := hide (fun W h => iTotalRate_any W A' m c' (w.heap.size + 1) wr.heap.size L h (by omega))
        have HI := hide (fun W h => iPreI_any W A' m c' (w.heap.size + 1) wr.heap.size L h (by omega))
        rcases bst_lt L m with ⟨hm0, hbn⟩ | ⟨hmp, j, hj, hbs⟩
        · rw [bstI_none hbn] at HI
          have hno := HA.out.trans (adm_none hcap' (by rw [HL.out]; exact hbn))
          have HE := hide (HN2.out hno)
          generalize tRate L = T at HT hcap hcap'
          clear hno HA HVL HL hbn hm0
          go_wp2_with fail
          refine (unhide HT _ hown.rd).mono ?_
          rintro e w2 ⟨rfl, hb2⟩
          go_wp2_with fail
          refine (unhide HI _ (hown.rd.below' hb2)).mono ?_
          rintro e w3 ⟨rfl, hb3⟩
          have hbw3 := below_then hbw (below_then hb2 hb3 hb2.size) hbw.size
          clear hown hb2 hb3
          go_wp2_with fail
          go_quiet (fail)
          go_wp2_with fail
          refine (unhide HC _ ((hr.below' hbw3).drewN _)).mono ?_
          rintro e w4 ⟨A4, c4, rfl, hc4, hm4', ho4, hb4⟩
          have HF := hide (HFAIL.out A4 c4 _ _ w4 HE.out hc4 hm4' ho4 (below_then (below_drewN hbw3 _) hb4 hbw3.size) hbw3.size (Nat.le_refl _))
          clear ho4 hb4 hbw3
          go_wp2_with fail
          go_ret2
          exact HF.out
        · rw [bstI_some hbs] at HI
          have hLm := HL.out
          obtain ⟨b, o, p, q, r, rfl, hLj, ha0, ha1, ha2⟩ := hown.rd.at3 hLm hj
          have hbl : b < wr.heap.size := World.block_lt_of_cell? wr _ ha0
          have hbs' : bst L L.length = some j := by rw [hLm]; exact hbs
          by_cases hq : q ≤ y
          · have hno := HA.out.trans (adm_no hcap' hbs' hLj hq)
            have HE := hide (HN2.out hno)
            generalize tRate L = T at HT hcap hcap'
            clear hno HA HVL HL hbs hbs' hLj hLm
            go_wp2_with fail
            refine (unhide HT _ hown.rd).mono ?_
            rintro e w2 ⟨rfl, hb2⟩
            go_wp2_with fail
            refine (unhide HI _ (hown.rd.below' hb2)).mono ?_
            rintro e w3 ⟨rfl, hb3⟩
            have hb23 := below_then hb2 hb3 hb2.size
            have hbw3 := below_then hbw hb23 hbw.size
            have e1 := ((bcell hb23).1 b (o + j * 3 + 1) hbl).trans ha1
            have e0 := ((bcell hb23).1 b (o + j * 3) hbl).trans ha0
            obtain ⟨hy0, hy1, hy2, hsz3⟩ := box3' hb23 hsz hx0 hx1 hx2
            have hjm : (j : Int) < (m : Int) := by omega
            clear hown hb2 hb3 hb23 ha0 ha1 ha2 hx0 hx1 hx2 hbw
            go_wp2_with fail
            go_quiet (fail)
            go_wp2_with fail
            refine (unhide HC _ ((hr.below' hbw3).drewN _)).mono ?_
            rintro e w4 ⟨A4, c4, rfl, hc4, hm4', ho4, hb4⟩
            have HF := hide (HFAIL.out A4 c4 _ _ w4 HE.out hc4 hm4' ho4 (below_then (below_drewN hbw3 _) hb4 hbw3.size) hbw3.size (Nat.le_refl _))
            clear ho4 hb4 hbw3
            go_wp2_with fail
            go_ret2
            exact HF.out
          · have hgo := HA.out.trans (adm_go hcap' hbs' hLj (by omega))
            have HG := hide hgo
            have HVG := hide (vBea_rem p HVL.out)
            have hshort : (L.filterMap (fRem p)).length < m := by have := rem_short (List.mem_of_getElem? hLj); simp only at this; omega
            have HREM := hide (fun W h => iRem_any W (some ⟨b, o, none⟩) m c' (w.heap.size + 1) wr.heap.size L p h (by omega))
            generalize tRate L = T at HT hcap hcap'
            clear hgo HA HVL HL hbs hbs' hLj hLm
            go_wp2_with fail
            refine (unhide HT _ hown.rd).mono ?_
            rintro e w2 ⟨rfl, hb2⟩
            go_wp2_with fail
            refine (unhide HI _ (hown.rd.below' hb2)).mono ?_
            rintro e w3 ⟨rfl, hb3⟩
            have hb23 := below_then hb2 hb3 hb2.size
            have hbw3 := below_then hbw hb23 hbw.size
            have e1 := ((bcell hb23).1 b (o + j * 3 + 1) hbl).trans ha1
            have e0 := ((bcell hb23).1 b (o + j * 3) hbl).trans ha0
            obtain ⟨hy0, hy1, hy2, hsz3⟩ := box3' hb23 hsz hx0 hx1 hx2
            have hrd3 := hown.rd.below' hb23
            have hjm : (j : Int) < (m : Int) := by omega
            clear hown hb2 hb3 hb23 ha0 ha1 ha2 hx0 hx1 hx2 hbw
            go_wp2_with fail
            go_quiet (fail)
            go_wp2_with fail
            refine (unhide HREM _ (hrd3.drewN _)).mono ?_
            rintro e w4 ⟨A4, c4, rfl, hc4, hm4', ho4, hb4⟩
            have hb4' : Below w3.heap.size w3 w4 := below_then (below_drewN (Below.refl _ _) _) hb4 (Nat.le_refl _)
            have HREL := hide (show AdmRel w x y z cap O (.slice A4 (L.filterMap (fRem p)).length c4) w4 from by
              obtain ⟨hz0, hz1, hz2, hsz4⟩ := box3' hb4' hsz3 hy0 hy1 hy2
              exact ⟨_, A4, c4, L.filterMap (fRem p), rfl, hc4, hm4', hide rfl, HVG, HG, ho4.more hsz3 (Nat.le_refl _), below_then hbw3 hb4' hbw3.size, hz0, hz1, hz2, hsz4⟩)
            clear ho4 hb4 hb4' hbw3 hrd3 hy0 hy1 hy2 e0 e1
            go_wp2_with fail
            go_roundw
            case rel => exact HREL.out
            case measure => simp only [sliceN]; exact hshort
set_option maxHeartbeats 2000000 in
set_option maxRecDepth 100000 in
theorem sAdm_any (w : World) (A : Option Addr) (n c lo hi : Nat) (l : List (Int × Int × Int)) (x y z cap : Int) (hr : Rd w lo hi 3 A n (l.flatMap c3)) (hn : n ≤ 1048576) :
    Calls Try.prog 41 #[.slice A n c, .agg #[.int .i64 x, .int .i64 y, .int .i64 z], .int .i64 cap] w (MkV (fun v => .tuple #[v, .bool (admR l x y z cap).2]) w 46 3 (admR l x y z cap).1.length ((admR l x y z cap).1.flatMap c3)) := by
  have hll := hr.len3
  have HC := hide (fun W h => sCopyBe_any W A n c lo hi l h (by omega))
  have HS := hide (fun W h => sSet_any W A n c lo hi l x y z h (by omega))
  have HDONE := hide (fun (A3 : Option Addr) (c3' N hi' : Nat) (w3 : World) (X : List (Int × Int × Int)) (hX : admR l x y z cap = (X, true)) (hN : N = X.length) (h1 : N ≤ c3') (h2 : c3' ≤ maxLen) (h3 : Own w3 (w.heap.size + 1) hi' 46 3 (.slice A3 N c3') N (X.flatMap c3)) (h4 : Below w.heap.size w w3) (h5 : hi' ≤ w3.heap.size) =>
    (show MkV (fun v => .tuple #[v, .bool (admR l x y z cap).2]) w 46 3 (admR l x y z cap).1.length ((admR l x y z cap).1.flatMap c3) (.returned (.tuple #[.slice A3 N c3', .bool true])) w3 from by
      rw [hX]
      subst hN
      exact ⟨A3, c3', rfl, h1, h2, h3.more (by omega) h5, h4⟩))
  have HFAIL := hide (fun (A3 : Option Addr) (c3' lo' hi' : Nat) (w3 : World) (hv : admR l x y z cap = (l, false)) (h1 : n ≤ c3') (h2 : c3' ≤ maxLen) (h3 : Own w3 lo' hi' 46 3 (.slice A3 n c3') n (l.flatMap c3)) (h4 : Below w.heap.size w w3) (h5 : w.heap.size ≤ lo') (h6 : hi' ≤ w3.heap.size) =>
    (show MkV (fun v => .tuple #[v, .bool (admR l x y z cap).2]) w 46 3 (admR l x y z cap).1.length ((admR l x y z cap).1.flatMap c3) (.returned (.tuple #[.slice A3 n c3', .bool false])) w3 from by
      rw [hv]
      simp only [hll]
      exact ⟨A3, c3', rfl, h1, h2, h3.more h5 h6, h4⟩))
  have HY := hide (fun (hv : setV l x y z = true) X h => admR_y (l := l) (x := x) (y := y) (z := z) (cap := cap) (X := X) hv h)
  have HNN := hide (fun (hv : setV l x y z = true) h => admR_n (l := l) (x := x) (y := y) (z := z) (cap := cap) hv h)
  have HSS := hide (fun h => admR_s (l := l) (x := x) (y := y) (z := z) (cap := cap) h)
  generalize admR l x y z cap = R at HDONE HFAIL HY HNN HSS ⊢
  cases hv : setV l x y z
  · have hR := setR_n hv
    have hAR := hide (HSS.out hv)
    rw [hR] at HS
    simp only [hll] at HS
    clear hR hv HY HNN HSS HDONE
    go_enter Try.func41, Try.ntmps41
    go_wp2_with fail
    refine (unhide HS _ (hr.alloc _)).mono ?_
    rintro e w1 ⟨A1, c1, rfl, hc1, hm1, ho1, hb1⟩
    obtain ⟨hx0, hx1, hx2, hbw1, hsz1⟩ := box3 hb1
    have HF := hide (HFAIL.out A1 c1 _ _ w1 hAR.out hc1 hm1 ho1 hbw1 (by simp) (Nat.le_refl _))
    clear ho1 hb1 hbw1 hr hx0 hx1 hx2
    go_wp2_with fail
    go_loop [8] (fun q => q = .slice A1 n c1) (fun _ => 0)
    case atStart => rfl
    case round =>
      subst hrel
      go_wp2_with fail
      go_ret2
      exact HF.out
  · have hR := setR_y hv
    have HY2 := hide (HY.out hv)
    have HN2 := hide (HNN.out hv)
    have hvO : vBea (setO l x y z) (setO l x y z).length = true := hv
    rw [hR] at HS
    simp only at HS
    generalize setO l x y z = O at HS HY2 HN2 hvO
    have HVO := hide hvO
    clear hR hv HY HNN HSS hvO
    go_enter Try.func41, Try.ntmps41
    go_wp2_with fail
    refine (unhide HS _ (hr.alloc _)).mono ?_
    rintro e w1 ⟨A1, c1, rfl, hc1, hm1, ho1, hb1⟩
    obtain ⟨hx0, hx1, hx2, hbw1, hsz1⟩ := box3 hb1
    have ho1' := ho1.more (lo' := w.heap.size + 1) (hi' := w1.heap.size) (by simp) (Nat.le_refl _)
    have HR0 := hide (show AdmRel w x y z cap O (.slice A1 O.length c1) w1 from ⟨_, A1, c1, O, rfl, hc1, hm1, hide rfl, HVO, hide rfl, ho1', hbw1, hx0, hx1, hx2, hsz1⟩)
    clear ho1 hb1 ho1' hx0 hx1 hx2 hbw1 hsz1 hc1 hm1
    go_wp2_with fail
    go_loopw [8] (fun q wr => AdmRel w x y z cap O q wr) (fun q _ => sliceN q)
    case atStart => exact HR0.out
    case round =>
      clear HR0
      obtain ⟨m, A', c', L, rfl, hmc, hcm, HL, HVL, HA, hown, hbw, hx0, hx1, hx2, hsz⟩ := hrel
      have hm4 : m ≤ 4 := by have := ((vBea_iff L).1 HVL.out).2.2; have := HL.out; omega
      by_cases hcap : tRate L ≤ cap
      · have hend := HA.out.trans (adm_end hcap)
        have HE := hide (HY2.out L hend)
        have HT := hide (fun W h => sTotalRate_any W A' m c' (w.heap.size + 1) wr.heap.size L h (by omega))
        have HLm := hide HL.out.symm
        have hn1 : ¬ cap < tRate L := by omega
        generalize tRate L = T at HT hn1 hcap
        clear hend HA HVL HL
        go_wp2_with fail
        refine (unhide HT _ hown.rd).mono ?_
        rintro e w2 ⟨rfl, hb2⟩
        have HF := hide (HDONE.out A' c' m _ w2 L HE.out HLm.out hmc hcm (hown.below' hb2) (below_then hbw hb2 hbw.size) hb2.size)
        clear hown hb2 hbw HE HLm
        go_wp2_with fail
        go_ret2
        exact HF.out
      · have hcap' : cap < tRate L := by omega
        have HT := hide (fun W h => sTotalRate_any W A' m c' (w.heap.size + 1) wr.heap.size L h (by omega))
        have HI := hide (fun W h => sPreC_any W A' m c' (w.heap.size + 1) wr.heap.size L h (by omega))
        have HJ := hide (fun W h => sFindBearer_any W A' m c' (w.heap.size + 1) wr.heap.size L (preC L m) h (by omega))
        rcases bst_lt L m with ⟨hm0, hbn⟩ | ⟨hmp, j, hj, hbs⟩
        · have hpc : preC L m = 0 := by simp [preC, hbn]
          have hfx : fidx (isId 0) 0 L = -1 := by
            have := HL.out
            rw [show L = [] from List.eq_nil_of_length_eq_zero (by omega)]
            rfl
          rw [hpc] at HI HJ
          rw [hfx] at HJ
          have hno := HA.out.trans (adm_none hcap' (by rw [HL.out]; exact hbn))
          have HE := hide (HN2.out hno)
          generalize tRate L = T at HT hcap hcap'
          clear hno HA HVL HL hbn hm0 hpc hfx
          go_wp2_with fail
          refine (unhide HT _ hown.rd).mono ?_
          rintro e w2 ⟨rfl, hb2⟩
          go_wp2_with fail
          refine (unhide HI _ (hown.rd.below' hb2)).mono ?_
          rintro e w3a ⟨rfl, hb3a⟩
          go_wp2_with fail
          refine (unhide HJ _ (hown.rd.below' (below_then hb2 hb3a hb2.size))).mono ?_
          rintro e w3 ⟨rfl, hb3b⟩
          have hb3 := below_then hb3a hb3b hb3a.size
          clear hb3a hb3b
          have hbw3 := below_then hbw (below_then hb2 hb3 hb2.size) hbw.size
          clear hown hb2 hb3
          go_wp2_with fail
          go_quiet (fail)
          go_wp2_with fail
          refine (unhide HC _ ((hr.below' hbw3).drewN _)).mono ?_
          rintro e w4 ⟨A4, c4, rfl, hc4, hm4', ho4, hb4⟩
          have HF := hide (HFAIL.out A4 c4 _ _ w4 HE.out hc4 hm4' ho4 (below_then (below_drewN hbw3 _) hb4 hbw3.size) hbw3.size (Nat.le_refl _))
          clear ho4 hb4 hbw3
          go_wp2_with fail
          go_ret2
          exact HF.out
        · have hLm := HL.out
          obtain ⟨b, o, p, q, r, rfl, hLj, ha0, ha1, ha2⟩ := hown.rd.at3 hLm hj
          have hpc : preC L m = p := by simp [preC, hbs, hLj]
          have hfx := vBea_fidx HVL.out hLj
          rw [hpc] at HI HJ
          rw [hfx] at HJ
          have hbl : b < wr.heap.size := World.block_lt_of_cell? wr _ ha0
          have hbs' : bst L L.length = some j := by rw [hLm]; exact hbs
          by_cases hq : q ≤ y
          · have hno := HA.out.trans (adm_no hcap' hbs' hLj hq)
            have HE := hide (HN2.out hno)
            generalize tRate L = T at HT hcap hcap'
            clear hno HA HVL HL hbs hbs' hLj hLm hpc hfx
            go_wp2_with fail
            refine (unhide HT _ hown.rd).mono ?_
            rintro e w2 ⟨rfl, hb2⟩
            go_wp2_with fail
            refine (unhide HI _ (hown.rd.below' hb2)).mono ?_
            rintro e w3a ⟨rfl, hb3a⟩
            go_wp2_with fail
            refine (unhide HJ _ (hown.rd.below' (below_then hb2 hb3a hb2.size))).mono ?_
            rintro e w3 ⟨rfl, hb3b⟩
            have hb3 := below_then hb3a hb3b hb3a.size
            clear hb3a hb3b
            have hb23 := below_then hb2 hb3 hb2.size
            have hbw3 := below_then hbw hb23 hbw.size
            have e1 := ((bcell hb23).1 b (o + j * 3 + 1) hbl).trans ha1
            have e0 := ((bcell hb23).1 b (o + j * 3) hbl).trans ha0
            obtain ⟨hy0, hy1, hy2, hsz3⟩ := box3' hb23 hsz hx0 hx1 hx2
            have hjm : (j : Int) < (m : Int) := by omega
            clear hown hb2 hb3 hb23 ha0 ha1 ha2 hx0 hx1 hx2 hbw
            go_wp2_with fail
            go_quiet (fail)
            go_wp2_with fail
            refine (unhide HC _ ((hr.below' hbw3).drewN _)).mono ?_
            rintro e w4 ⟨A4, c4, rfl, hc4, hm4', ho4, hb4⟩
            have HF := hide (HFAIL.out A4 c4 _ _ w4 HE.out hc4 hm4' ho4 (below_then (below_drewN hbw3 _) hb4 hbw3.size) hbw3.size (Nat.le_refl _))
            clear ho4 hb4 hbw3
            go_wp2_with fail
            go_ret2
            exact HF.out
          · have hgo := HA.out.trans (adm_go hcap' hbs' hLj (by omega))
            have HG := hide hgo
            have HVG := hide (vBea_rem p HVL.out)
            have hshort : (L.filterMap (fRem p)).length < m := by have := rem_short (List.mem_of_getElem? hLj); simp only at this; omega
            have HREM := hide (fun W h => sRem_any W (some ⟨b, o, none⟩) m c' (w.heap.size + 1) wr.heap.size L p h (by omega))
            generalize tRate L = T at HT hcap hcap'
            clear hgo HA HVL HL hbs hbs' hLj hLm hpc hfx
            go_wp2_with fail
            refine (unhide HT _ hown.rd).mono ?_
            rintro e w2 ⟨rfl, hb2⟩
            go_wp2_with fail
            refine (unhide HI _ (hown.rd.below' hb2)).mono ?_
            rintro e w3a ⟨rfl, hb3a⟩
            go_wp2_with fail
            refine (unhide HJ _ (hown.rd.below' (below_then hb2 hb3a hb2.size))).mono ?_
            rintro e w3 ⟨rfl, hb3b⟩
            have hb3 := below_then hb3a hb3b hb3a.size
            clear hb3a hb3b
            have hb23 := below_then hb2 hb3 hb2.size
            have hbw3 := below_then hbw hb23 hbw.size
            have e1 := ((bcell hb23).1 b (o + j * 3 + 1) hbl).trans ha1
            have e0 := ((bcell hb23).1 b (o + j * 3) hbl).trans ha0
            obtain ⟨hy0, hy1, hy2, hsz3⟩ := box3' hb23 hsz hx0 hx1 hx2
            have hrd3 := hown.rd.below' hb23
            have hjm : (j : Int) < (m : Int) := by omega
            clear hown hb2 hb3 hb23 ha0 ha1 ha2 hx0 hx1 hx2 hbw
            go_wp2_with fail
            go_quiet (fail)
            go_wp2_with fail
            refine (unhide HREM _ (hrd3.drewN _)).mono ?_
            rintro e w4 ⟨A4, c4, rfl, hc4, hm4', ho4, hb4⟩
            have hb4' : Below w3.heap.size w3 w4 := below_then (below_drewN (Below.refl _ _) _) hb4 (Nat.le_refl _)
            have HREL := hide (show AdmRel w x y z cap O (.slice A4 (L.filterMap (fRem p)).length c4) w4 from by
              obtain ⟨hz0, hz1, hz2, hsz4⟩ := box3' hb4' hsz3 hy0 hy1 hy2
              exact ⟨_, A4, c4, L.filterMap (fRem p), rfl, hc4, hm4', hide rfl, HVG, HG, ho4.more hsz3 (Nat.le_refl _), below_then hbw3 hb4' hbw3.size, hz0, hz1, hz2, hsz4⟩)
            clear ho4 hb4 hb4' hbw3 hrd3 hy0 hy1 hy2 e0 e1
            go_wp2_with fail
            go_roundw
            case rel => exact HREL.out
            case measure => simp only [sliceN]; exact hshort
end Go.Proofs.Yticfmkfiibhafaa
