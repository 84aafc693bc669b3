/- The law on PacketsForBearer, walked. -/
import Derived.Test.YticfmkfiibhafaaPkW
import Derived.Test.YticfmkfiibhafaaPkM
namespace Go.Proofs.Yticfmkfiibhafaa
open Go.RowKit Go.Sep

theorem pkF_sz (f : Int → Int) (p : Int) (m : PL) : (pkF f p m).length + ndSum2 (pkF f p m) ≤ m.length + ndSum2 m := by
  induction m with
  | nil => simp [pkF]
  | cons a r ih =>
    have e : ndSum2 (a :: r) = a.2.length + ndSum2 r := by simp [ndSum2]
    unfold pkF at ih ⊢
    by_cases h : (f a.1 == p) = true
    · rw [List.filter_cons_of_pos (by simpa using h)]
      have e2 : ndSum2 (a :: r.filter fun q => f q.1 == p) = a.2.length + ndSum2 (r.filter fun q => f q.1 == p) := by simp [ndSum2]
      simp only [List.length_cons]
      omega
    · rw [List.filter_cons_of_neg (by simpa using h)]
      simp only [List.length_cons]
      omega
theorem pk_both (n0 n1 n : Nat) (l0 l1 : List (Int × Int × Int)) (m : PL) (id : Int) (hn0 : n0 ≤ 1048576) (hn1 : n1 ≤ 1048576) (hn : n + ndSum2 m ≤ 1048576) (hl : m.length = n) : ∃ L : PL, L.length + ndSum2 L ≤ 1048576 ∧
    (∀ (W : World) (A0 : Option Addr) (d0 lo0 hi0 : Nat) (A1 : Option Addr) (d1 lo1 hi1 : Nat) (A : Option Addr) (c lo hi : Nat), Rd W lo0 hi0 3 A0 n0 (l0.flatMap c3) → Rd W lo1 hi1 3 A1 n1 (l1.flatMap c3) → Nd2 .u8 W lo hi A n m → Calls Try.prog 49 #[.slice A0 n0 d0, .slice A1 n1 d1, .slice A n c, .int .i64 id] W (MkP W L)) ∧
    (∀ (W : World) (A0 : Option Addr) (d0 lo0 hi0 : Nat) (A1 : Option Addr) (d1 lo1 hi1 : Nat) (A : Option Addr) (c lo hi : Nat), Rd W lo0 hi0 3 A0 n0 (l0.flatMap c3) → Rd W lo1 hi1 3 A1 n1 (l1.flatMap c3) → Nd2 .u8 W lo hi A n m → Calls Try.prog 51 #[.slice A0 n0 d0, .slice A1 n1 d1, .slice A n c, .int .i64 id] W (MkP W L)) :=
  ⟨pkF (cls l0 l1) id m, by have := pkF_sz (cls l0 l1) id m; omega, fun W A0 d0 lo0 hi0 A1 d1 lo1 hi1 A c lo hi h0 h1 h => sPkB_any W A0 n0 d0 lo0 hi0 l0 A1 n1 d1 lo1 hi1 l1 A n c lo hi m id h0 hn0 h1 hn1 h hn, fun W A0 d0 lo0 hi0 A1 d1 lo1 hi1 A c lo hi h0 h1 h => iPkB_any W A0 n0 d0 lo0 hi0 l0 A1 n1 d1 lo1 hi1 l1 A n c lo hi m id h0 hn0 h1 hn1 h hn⟩
set_option maxHeartbeats 2000000 in
set_option maxRecDepth 100000 in
theorem fnExactPacketsForBearer.walk (A0 : Option Addr) (n0 c0 : Nat) (l0 : List (Int × Int × Int)) (A1 : Option Addr) (n1 c1 : Nat) (l1 : List (Int × Int × Int)) (A2 : Option Addr) (n2 c2 : Nat) (l2 : List (Int × Sl)) (a3 : Int) (w : World) (hl0 : l0.length = n0) (hr0 : Rd w 0 w.heap.size 3 A0 n0 (l0.flatMap c3)) (hc0 : n0 ≤ c0 ∧ c0 ≤ maxLen) (hl1 : l1.length = n1) (hr1 : Rd w 0 w.heap.size 3 A1 n1 (l1.flatMap c3)) (hc1 : n1 ≤ c1 ∧ c1 ≤ maxLen) (_hl2 : l2.length = n2) (hr2 : Rd w 0 w.heap.size 2 A2 n2 (l2.flatMap cs1)) (hs2 : ∀ s ∈ l2, s.2.ok .u8 w 0 w.heap.size) (hc2 : n2 ≤ c2 ∧ c2 ≤ maxLen) :
    Calls Try.prog 14 #[.slice A0 n0 c0, .slice A1 n1 c1, .slice A2 n2 c2, .int .i64 a3] w fun e w' => e = .returned (.bool true) ∧ Below w.heap.size w w' := by
  have hN : Nd2 .u8 w 0 w.heap.size A2 n2 (l2.map (fun s => (s.1, s.2.l))) := ⟨l2, hr2, hs2, rfl⟩
  generalize l2.map (fun s : Int × Sl => (s.1, s.2.l)) = m at hN
  have hml := hN.len
  clear hs2 hr2
  have hn0 : n0 ≤ 9223372036854775807 := by have := hc0.1; have := hc0.2; unfold maxLen at this; omega
  have hn1 : n1 ≤ 9223372036854775807 := by have := hc1.1; have := hc1.2; unfold maxLen at this; omega
  have hn2 : n2 ≤ 9223372036854775807 := by have := hc2.1; have := hc2.2; unfold maxLen at this; omega
  have HS0 := hide (fun W => szPacketFilterS_any W A0 n0 c0 (1048576) hn0 (by omega) (by omega))
  by_cases hbig0 : (1048576 : Int) < n0
  · rw [if_pos hbig0] at HS0
    clear hbig0
    go_enter Try.func14, Try.ntmps14
    go_wp2_with fail; refine (unhide HS0 _).mono ?_; rintro e w' ⟨rfl, rfl⟩
    go_wp2_with fail
    go_ret
    exact ⟨rfl, (by (repeat' (first | (with_reducible exact Below.refl _ _) | (with_reducible assumption) | (with_reducible refine Below.alloc ?_ ?_ _) | (with_reducible refine below_ext ?_ ?_ _ _) | (with_reducible refine Below.setCell ?_ ?_ _) | (with_reducible refine Below.drew ?_) | (with_reducible refine below_drewN ?_ _))); all_goals (first | omega | (simp; done) | (simp; omega)))⟩
  rw [if_neg hbig0] at HS0
  have hm0 : n0 ≤ 1048576 := by omega
  have hleft0 : decide ((1048576 - n0 : Int) < 0) = false := by simp; omega
  have hle0 : (0 : Int) ≤ 1048576 - n0 := by omega
  clear hbig0
  have HS1 := hide (fun W => szBearerS_any W A1 n1 c1 (1048576 - n0) hn1 (by omega) (by omega))
  by_cases hbig1 : (1048576 - n0 : Int) < n1
  · rw [if_pos hbig1] at HS1
    clear hbig1
    go_enter Try.func14, Try.ntmps14
    go_wp2_with fail; refine (unhide HS0 _).mono ?_; rintro e w' ⟨rfl, rfl⟩
    go_wp2_with fail; refine (unhide HS1 _).mono ?_; rintro e w' ⟨rfl, rfl⟩
    go_wp2_with fail
    go_ret
    exact ⟨rfl, (by (repeat' (first | (with_reducible exact Below.refl _ _) | (with_reducible assumption) | (with_reducible refine Below.alloc ?_ ?_ _) | (with_reducible refine below_ext ?_ ?_ _ _) | (with_reducible refine Below.setCell ?_ ?_ _) | (with_reducible refine Below.drew ?_) | (with_reducible refine below_drewN ?_ _))); all_goals (first | omega | (simp; done) | (simp; omega)))⟩
  rw [if_neg hbig1] at HS1
  have hm1 : n1 ≤ 1048576 := by omega
  have hleft1 : decide ((1048576 - n0 - n1 : Int) < 0) = false := by simp; omega
  have hle1 : (0 : Int) ≤ 1048576 - n0 - n1 := by omega
  clear hbig1
  have HS2 := hide (fun W h => szPacketS_any W A2 n2 c2 0 w.heap.size m (1048576 - n0 - n1) h hn2 hle1 (by omega))
  by_cases hbig2 : (1048576 - n0 - n1 : Int) < (n2 : Int) + (ndSum2 m : Nat)
  · rw [show szTot (1048576 - n0 - n1) n2 (ndSum2 m) = -1 from if_pos hbig2] at HS2
    clear hbig2
    go_enter Try.func14, Try.ntmps14
    go_wp2_with fail; refine (unhide HS0 _).mono ?_; rintro e w' ⟨rfl, rfl⟩
    go_wp2_with fail; refine (unhide HS1 _).mono ?_; rintro e w' ⟨rfl, rfl⟩
    go_wp2_with fail; refine (unhide HS2 _ hN).mono ?_; rintro e w' ⟨rfl, hb⟩
    go_wp2_with fail
    go_ret
    exact ⟨rfl, hb⟩
  rw [show szTot (1048576 - n0 - n1) n2 (ndSum2 m) = 1048576 - n0 - n1 - n2 - (ndSum2 m : Nat) from if_neg hbig2] at HS2
  have hz : (0 : Int) ≤ 1048576 - n0 - n1 - n2 - (ndSum2 m : Nat) := by omega
  have hm : n2 + ndSum2 m ≤ 1048576 := by omega
  generalize (1048576 : Int) - n0 - n1 - n2 - (ndSum2 m : Nat) = z at HS2 hz
  have hnz : ¬ z < 0 := by omega
  have hk0 : n0 ≤ 16777216 := by omega
  have hk1 : n1 ≤ 16777216 := by omega
  clear hbig2 hz
  obtain ⟨L, hL, HR, HI⟩ := pk_both n0 n1 n2 l0 l1 m a3 hm0 hm1 hm hml
  have HR := hide HR
  have HI := hide HI
  have hL1 : L.length ≤ 9223372036854775807 := by omega
  have hms : markL 1 L = markL 1 L := rfl
  obtain ⟨hml1, hml2⟩ := markL_sum 1 L
  clear hms hml1 hml2
  go_enter Try.func14, Try.ntmps14
  go_wp2_with fail; refine (unhide HS0 _).mono ?_; rintro e w' ⟨rfl, rfl⟩
  go_wp2_with fail; refine (unhide HS1 _).mono ?_; rintro e w' ⟨rfl, rfl⟩
  go_wp2_with fail; refine (unhide HS2 _ hN).mono ?_; rintro e w1 ⟨rfl, hbel⟩
  have hs1 := hbel.size
  replace hr0 := hr0.below' hbel
  replace hr1 := hr1.below' hbel
  replace hN := hN.below' hbel
  go_wp2_with fail
  refine (toPacketFilterS_any _ _ _ _ _ _ l0 hr0 hk0).mono ?_
  rintro e w2 ⟨Ap, cp, rfl, hcp, hmp, op, hB⟩
  have hs2 := hB.size
  replace hr0 := hr0.below' hB
  replace hr1 := hr1.below' hB
  replace hN := hN.below' hB
  replace hbel := below_then hbel hB (by omega)
  clear hB
  go_wp2_with fail
  refine (toBearerS_any _ _ _ _ _ _ l1 hr1 hk1).mono ?_
  rintro e w3 ⟨Aq, cq, rfl, hcq, hmq, oq, hB⟩
  have hs3 := hB.size
  replace hr0 := hr0.below' hB
  replace hr1 := hr1.below' hB
  replace hN := hN.below' hB
  replace op := op.below' hB
  replace hbel := below_then hbel hB (by omega)
  clear hB
  go_wp2_with fail
  refine (toPacketS_any _ _ _ _ _ _ m hN hm).mono ?_
  rintro e w4 ⟨Ar, cr, rfl, hcr, hmr, or_, hB⟩
  have hs4 := hB.size
  replace hr0 := hr0.below' hB
  replace hr1 := hr1.below' hB
  replace hN := hN.below' hB
  replace op := op.below' hB
  replace oq := oq.below' hB
  replace hbel := below_then hbel hB (by omega)
  clear hB
  replace or_ := NI2.of or_
  go_wp2_with fail
  refine (unhide HR _ _ _ _ _ _ _ _ _ _ _ _ _ op.rd oq.rd or_.nd).mono ?_
  rintro e w5 ⟨As, cs, rfl, hcs, hms, os, hB⟩
  have hs5 := hB.size
  replace hr0 := hr0.below' hB
  replace hr1 := hr1.below' hB
  replace hN := hN.below' hB
  replace op := op.below' hB
  replace oq := oq.below' hB
  replace or_ := or_.below' hB
  replace hbel := below_then hbel hB (by omega)
  clear hB
  clear op
  clear oq
  clear or_
  go_wp2_with fail
  refine (toPacketFilterS_any _ _ _ _ _ _ l0 hr0 hk0).mono ?_
  rintro e w6 ⟨Ax, cx, rfl, hcx, hmx, ox, hB⟩
  have hs6 := hB.size
  replace hr0 := hr0.below' hB
  replace hr1 := hr1.below' hB
  replace hN := hN.below' hB
  replace os := os.below' hB
  replace hbel := below_then hbel hB (by omega)
  clear hB
  go_wp2_with fail
  refine (toBearerS_any _ _ _ _ _ _ l1 hr1 hk1).mono ?_
  rintro e w7 ⟨Ay, cy, rfl, hcy, hmy, oy, hB⟩
  have hs7 := hB.size
  replace hr0 := hr0.below' hB
  replace hr1 := hr1.below' hB
  replace hN := hN.below' hB
  replace os := os.below' hB
  replace ox := ox.below' hB
  replace hbel := below_then hbel hB (by omega)
  clear hB
  go_wp2_with fail
  refine (toPacketS_any _ _ _ _ _ _ m hN hm).mono ?_
  rintro e w8 ⟨Au, cu, rfl, hcu, hmu, ou, hB⟩
  have hs8 := hB.size
  replace hr0 := hr0.below' hB
  replace hr1 := hr1.below' hB
  replace hN := hN.below' hB
  replace os := os.below' hB
  replace ox := ox.below' hB
  replace oy := oy.below' hB
  replace hbel := below_then hbel hB (by omega)
  clear hB
  replace ou := NI2.of ou
  go_wp2_with fail
  refine (unhide HI _ _ _ _ _ _ _ _ _ _ _ _ _ ox.rd oy.rd ou.nd).mono ?_
  rintro e w9 ⟨Ag, cg, rfl, hcg, hmg, og, hB⟩
  have hs9 := hB.size
  replace hr0 := hr0.below' hB
  replace hr1 := hr1.below' hB
  replace hN := hN.below' hB
  replace os := os.below' hB
  replace ox := ox.below' hB
  replace oy := oy.below' hB
  replace ou := ou.below' hB
  replace hbel := below_then hbel hB (by omega)
  clear hB
  go_wp2_with fail
  refine (eqPacketS_yes _ _ _ _ _ _ _ _ _ _ L og.nd os.nd hL1).mono ?_
  rintro e w10 ⟨rfl, hB⟩
  have hs10 := hB.size
  replace hr0 := hr0.below' hB
  replace hr1 := hr1.below' hB
  replace hN := hN.below' hB
  replace os := os.below' hB
  replace ox := ox.below' hB
  replace oy := oy.below' hB
  replace ou := ou.below' hB
  replace og := og.below' hB
  replace hbel := below_then hbel hB (by omega)
  clear hB
  go_wp2_with fail
  refine (toPacketFilterS_any _ _ _ _ _ _ l0 hr0 hk0).mono ?_
  rintro e w11 ⟨Aa, ca, rfl, hca, hma, oa, hB⟩
  have hs11 := hB.size
  replace hr0 := hr0.below' hB
  replace hr1 := hr1.below' hB
  replace hN := hN.below' hB
  replace os := os.below' hB
  replace ox := ox.below' hB
  replace oy := oy.below' hB
  replace ou := ou.below' hB
  replace og := og.below' hB
  replace hbel := below_then hbel hB (by omega)
  clear hB
  go_wp2_with fail
  refine (eqPacketFilterS_yes _ _ _ _ _ _ _ _ _ _ l0 ox.rd oa.rd hn0).mono ?_
  rintro e w12 ⟨rfl, hB⟩
  have hs12 := hB.size
  replace hr0 := hr0.below' hB
  replace hr1 := hr1.below' hB
  replace hN := hN.below' hB
  replace os := os.below' hB
  replace ox := ox.below' hB
  replace oy := oy.below' hB
  replace ou := ou.below' hB
  replace og := og.below' hB
  replace oa := oa.below' hB
  replace hbel := below_then hbel hB (by omega)
  clear hB
  clear oa
  go_wp2_with fail
  refine (toBearerS_any _ _ _ _ _ _ l1 hr1 hk1).mono ?_
  rintro e w13 ⟨Ab, cb, rfl, hcb, hmb, ob, hB⟩
  have hs13 := hB.size
  replace hr0 := hr0.below' hB
  replace hr1 := hr1.below' hB
  replace hN := hN.below' hB
  replace os := os.below' hB
  replace ox := ox.below' hB
  replace oy := oy.below' hB
  replace ou := ou.below' hB
  replace og := og.below' hB
  replace hbel := below_then hbel hB (by omega)
  clear hB
  go_wp2_with fail
  refine (eqBearerS_yes _ _ _ _ _ _ _ _ _ _ l1 oy.rd ob.rd hn1).mono ?_
  rintro e w14 ⟨rfl, hB⟩
  have hs14 := hB.size
  replace hr0 := hr0.below' hB
  replace hr1 := hr1.below' hB
  replace hN := hN.below' hB
  replace os := os.below' hB
  replace ox := ox.below' hB
  replace oy := oy.below' hB
  replace ou := ou.below' hB
  replace og := og.below' hB
  replace ob := ob.below' hB
  replace hbel := below_then hbel hB (by omega)
  clear hB
  clear ob
  go_wp2_with fail
  refine (toPacketS_any _ _ _ _ _ _ m hN hm).mono ?_
  rintro e w15 ⟨Ad, cd, rfl, hcd, hmd, od, hB⟩
  have hs15 := hB.size
  replace hr0 := hr0.below' hB
  replace hr1 := hr1.below' hB
  replace hN := hN.below' hB
  replace os := os.below' hB
  replace ox := ox.below' hB
  replace oy := oy.below' hB
  replace ou := ou.below' hB
  replace og := og.below' hB
  replace hbel := below_then hbel hB (by omega)
  clear hB
  replace od := NI2.of od
  go_wp2_with fail
  refine (eqPacketS_yes _ _ _ _ _ _ _ _ _ _ m ou.nd od.nd hn2).mono ?_
  rintro e w16 ⟨rfl, hB⟩
  have hs16 := hB.size
  replace hr0 := hr0.below' hB
  replace hr1 := hr1.below' hB
  replace hN := hN.below' hB
  replace os := os.below' hB
  replace ox := ox.below' hB
  replace oy := oy.below' hB
  replace ou := ou.below' hB
  replace og := og.below' hB
  replace od := od.below' hB
  replace hbel := below_then hbel hB (by omega)
  clear hB
  clear od
  go_wp2_with fail
  refine (markPacketFilterS_any _ _ _ _ _ _ _ _ ox hk0 (by omega) (by omega)).mono ?_
  rintro e w17 ⟨rfl, ox, hC⟩
  have hs17 := hC.size
  replace hr0 := hr0.chg hC (by omega)
  replace hr1 := hr1.chg hC (by omega)
  replace hN := hN.chg hC (by omega)
  replace os := os.chg hC (by omega)
  replace oy := oy.chg hC (by omega)
  replace ou := ou.chg hC (by omega)
  replace og := og.chg hC (by omega)
  replace hbel := below_then hbel (hC.below (B := w.heap.size) (by omega) (by omega)) (Nat.le_refl _)
  clear hC
  clear ox
  go_wp2_with fail
  refine (markBearerS_any _ _ _ _ _ _ _ _ oy hk1 (by omega) (by omega)).mono ?_
  rintro e w18 ⟨rfl, oy, hC⟩
  have hs18 := hC.size
  replace hr0 := hr0.chg hC (by omega)
  replace hr1 := hr1.chg hC (by omega)
  replace hN := hN.chg hC (by omega)
  replace os := os.chg hC (by omega)
  replace ou := ou.chg hC (by omega)
  replace og := og.chg hC (by omega)
  replace hbel := below_then hbel (hC.below (B := w.heap.size) (by omega) (by omega)) (Nat.le_refl _)
  clear hC
  clear oy
  go_wp2_with fail
  refine (markPacketS_any _ _ _ _ _ _ _ m ou (by omega) (by omega) (by omega)).mono ?_
  rintro e w19 ⟨rfl, ou, hC⟩
  have hs19 := hC.size
  replace hr0 := hr0.chg hC (by omega)
  replace hr1 := hr1.chg hC (by omega)
  replace hN := hN.chg hC (by omega)
  replace os := os.chg hC (by omega)
  replace og := og.chg hC (by omega)
  replace hbel := below_then hbel (hC.below (B := w.heap.size) (by omega) (by omega)) (Nat.le_refl _)
  clear hC
  clear ou
  have hnk : ¬ (1 + (n0 : Int) * 3 + (n1 : Int) * 3 + (n2 : Int) + (ndSum2 m : Nat)) < 0 := by omega
  go_wp2_with fail
  refine (eqPacketS_yes _ _ _ _ _ _ _ _ _ _ L og.nd os.nd hL1).mono ?_
  rintro e w20 ⟨rfl, hB⟩
  have hs20 := hB.size
  replace hr0 := hr0.below' hB
  replace hr1 := hr1.below' hB
  replace hN := hN.below' hB
  replace os := os.below' hB
  replace og := og.below' hB
  replace hbel := below_then hbel hB (by omega)
  clear hB
  go_wp2_with fail
  refine (markPacketS_any _ _ _ _ _ _ _ L og (by omega) (by omega) (by omega)).mono ?_
  rintro e w21 ⟨rfl, og, hC⟩
  have hs21 := hC.size
  replace hr0 := hr0.chg hC (by omega)
  replace hr1 := hr1.chg hC (by omega)
  replace hN := hN.chg hC (by omega)
  replace os := os.chg hC (by omega)
  replace hbel := below_then hbel (hC.below (B := w.heap.size) (by omega) (by omega)) (Nat.le_refl _)
  clear hC
  have hnq : ¬ (1 + (L.length : Int) + (ndSum2 L : Nat)) < 0 := by omega
  go_wp2_with fail
  refine (heldPacketS_any _ _ _ _ _ _ 1 L og.nd (by omega) (by omega) (by omega)).mono ?_
  rintro e w22 ⟨rfl, hB⟩
  have hs22 := hB.size
  replace hr0 := hr0.below' hB
  replace hr1 := hr1.below' hB
  replace hN := hN.below' hB
  replace os := os.below' hB
  replace og := og.below' hB
  replace hbel := below_then hbel hB (by omega)
  clear hB
  go_wp2_with fail
  refine (toPacketFilterS_any _ _ _ _ _ _ l0 hr0 hk0).mono ?_
  rintro e w23 ⟨Ae, ce, rfl, hce, hme, oe, hB⟩
  have hs23 := hB.size
  replace hr0 := hr0.below' hB
  replace hr1 := hr1.below' hB
  replace hN := hN.below' hB
  replace os := os.below' hB
  replace og := og.below' hB
  replace hbel := below_then hbel hB (by omega)
  clear hB
  go_wp2_with fail
  refine (toBearerS_any _ _ _ _ _ _ l1 hr1 hk1).mono ?_
  rintro e w24 ⟨Af, cf, rfl, hcf, hmf, of, hB⟩
  have hs24 := hB.size
  replace hr0 := hr0.below' hB
  replace hr1 := hr1.below' hB
  replace hN := hN.below' hB
  replace os := os.below' hB
  replace og := og.below' hB
  replace oe := oe.below' hB
  replace hbel := below_then hbel hB (by omega)
  clear hB
  go_wp2_with fail
  refine (toPacketS_any _ _ _ _ _ _ m hN hm).mono ?_
  rintro e w25 ⟨Ah, ch, rfl, hch, hmh, oh, hB⟩
  have hs25 := hB.size
  replace hr0 := hr0.below' hB
  replace hr1 := hr1.below' hB
  replace hN := hN.below' hB
  replace os := os.below' hB
  replace og := og.below' hB
  replace oe := oe.below' hB
  replace of := of.below' hB
  replace hbel := below_then hbel hB (by omega)
  clear hB
  replace oh := NI2.of oh
  go_wp2_with fail
  refine (unhide HI _ _ _ _ _ _ _ _ _ _ _ _ _ oe.rd of.rd oh.nd).mono ?_
  rintro e w26 ⟨Ai, ci, rfl, hci, hmi, oi, hB⟩
  have hs26 := hB.size
  replace hr0 := hr0.below' hB
  replace hr1 := hr1.below' hB
  replace hN := hN.below' hB
  replace os := os.below' hB
  replace og := og.below' hB
  replace oe := oe.below' hB
  replace of := of.below' hB
  replace oh := oh.below' hB
  replace hbel := below_then hbel hB (by omega)
  clear hB
  go_wp2_with fail
  refine (eqPacketS_yes _ _ _ _ _ _ _ _ _ _ L oi.nd os.nd hL1).mono ?_
  rintro e w27 ⟨rfl, hB⟩
  have hs27 := hB.size
  replace hr0 := hr0.below' hB
  replace hr1 := hr1.below' hB
  replace hN := hN.below' hB
  replace os := os.below' hB
  replace og := og.below' hB
  replace oe := oe.below' hB
  replace of := of.below' hB
  replace oh := oh.below' hB
  replace oi := oi.below' hB
  replace hbel := below_then hbel hB (by omega)
  clear hB
  go_wp2_with fail
  refine (heldPacketS_any _ _ _ _ _ _ 1 L og.nd (by omega) (by omega) (by omega)).mono ?_
  rintro e w28 ⟨rfl, hB⟩
  have hs28 := hB.size
  replace hr0 := hr0.below' hB
  replace hr1 := hr1.below' hB
  replace hN := hN.below' hB
  replace os := os.below' hB
  replace og := og.below' hB
  replace oe := oe.below' hB
  replace of := of.below' hB
  replace oh := oh.below' hB
  replace oi := oi.below' hB
  replace hbel := below_then hbel hB (by omega)
  clear hB
  go_wp2_with fail
  go_ret
  exact ⟨rfl, hbel⟩
end Go.Proofs.Yticfmkfiibhafaa
