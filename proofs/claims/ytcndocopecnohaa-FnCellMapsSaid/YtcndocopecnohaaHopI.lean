/- HopDistance of the program, walked. -/
import Derived.Test.YtcndocopecnohaaHopM
import Derived.Deep.LoopGhost
namespace Go.Proofs.Ytcndocopecnohaa
open Go.RowKit Go.Sep Go.Hop

theorem zerosI (N : Nat) : (madeCells (Value.int .i64 0).cells (N * 1)).toList = dRow N (fun _ => 0) := by
  rw [Nat.mul_one]
  show (madeCells #[Value.int .i64 0] N).toList = _
  rw [toList_madeCells_one]
  apply List.ext_getElem?
  intro j
  by_cases hj : j < N <;> simp [dRow, hj]
/-- The memory of the search: the distances in block G, the queue behind it, the parameter's box. -/
structure HW (w : World) (G : Nat) (A : Option Addr) (n c : Nat) (wr : World) (D : Nat → Int) (q : Value) (t : Nat) (xs : List Value) : Prop where
  own : Own wr G (G + 1) 3 1 (.slice (some ⟨G, 0, none⟩) n n) n (dRow n D)
  qu : Qu wr (G + 1) wr.heap.size 3 q t xs
  bel : Below w.heap.size w wr
  lt : w.heap.size < G
  sz : G + 1 ≤ wr.heap.size
  box : wr.cell? ⟨w.heap.size, 0, none⟩ = some (.slice A n c)
section
variable {w : World} {G : Nat} {A : Option Addr} {n c : Nat} {wr w' : World} {D : Nat → Int} {q : Value} {t : Nat} {xs : List Value}
theorem HW.below' (h : HW w G A n c wr D q t xs) (hb : Below wr.heap.size wr w') : HW w G A n c w' D q t xs :=
  ⟨h.own.below' hb, (h.qu.below' hb).more (Nat.le_refl _) hb.size, below_then h.bel hb h.bel.size, h.lt, by have := h.sz; have := hb.size; omega, (hb.cell (p := ⟨w.heap.size, 0, none⟩) (by have := h.lt; have := h.sz; show w.heap.size < _; omega)).trans h.box⟩
theorem HW.at_ (h : HW w G A n c wr D q t xs) {v : Nat} (hv : v < n) : wr.cell? ⟨G, v, none⟩ = some (.int .i64 (D v)) ∧ wr.frozen? ⟨G, v, none⟩ = false := by
  refine ⟨?_, h.own.row.frozenAt v⟩
  have := h.own.row.cellAt v (by omega)
  rw [this, dRow_at hv]
theorem HW.set (h : HW w G A n c wr D q t xs) (x : Nat) (e : Int) : HW w G A n c (wr.setCell ⟨G, x, none⟩ (.int .i64 e)) (fun v => if v = x then e else D v) q t xs := by
  obtain ⟨h1, h2⟩ := h.own.stored x (.int .i64 e)
  rw [dRow_set] at h1
  have := h.lt
  refine ⟨h1, (h.qu.chg h2 (.inr (Nat.le_refl _))).more (Nat.le_refl _) h2.size, below_then h.bel (h2.below (B := w.heap.size) (by omega) h.bel.size) (Nat.le_refl _), h.lt, by have := h.sz; have := h2.size; omega, (h2.cell (p := ⟨w.heap.size, 0, none⟩) (by have := h.sz; show w.heap.size < _; omega) (.inl (by show w.heap.size < _; omega))).trans h.box⟩
theorem HW.requ (h : HW w G A n c wr D q t xs) {q' : Value} {t' : Nat} {xs' : List Value} (hq : Qu wr (G + 1) wr.heap.size 3 q' t' xs') : HW w G A n c wr D q' t' xs' :=
  ⟨h.own, hq, h.bel, h.lt, h.sz, h.box⟩
theorem HW.app (h : HW w G A n c wr D q t xs) {q' : Value} {t' : Nat} {xs' : List Value} (hc : Chg (G + 1) wr.heap.size wr w') (hq : Qu w' (G + 1) w'.heap.size 3 q' t' xs') : HW w G A n c w' D q' t' xs' := by
  have := h.lt
  have := h.sz
  exact ⟨h.own.chg hc (.inl (Nat.le_refl _)), hq, below_then h.bel (hc.below (B := w.heap.size) (by omega) h.bel.size) (Nat.le_refl _), h.lt, by have := hc.size; omega, (hc.cell (p := ⟨w.heap.size, 0, none⟩) (by show w.heap.size < _; omega) (.inl (by show w.heap.size < _; omega))).trans h.box⟩
end
theorem BI_norm {m : CM} {a n d : Nat} {D : Nat → Int} {Q1 Q2 : List Nat} (ha : a < m.length) (hn : m.length = n) (h : BI (adjM m) a n D d Q1 Q2 none) :
    ∃ (d' : Nat) (P1 P2 : List Nat), BI (adjM m) a n D d' P1 P2 none ∧ P1 ++ P2 = Q1 ++ Q2 ∧ (P1 = [] → P2 = []) ∧ d' ≤ d + 1 := by
  cases Q1 with
  | nil => exact ⟨d + 1, Q2, [], BI_level (fun u v hu _ => by have := R_lt ha _ _ hu; omega) h, by simp, fun _ => rfl, Nat.le_refl _⟩
  | cons x r => exact ⟨d, x :: r, Q2, h, rfl, (fun h => by cases h), Nat.le_succ _⟩
set_option maxHeartbeats 2000000 in
set_option maxRecDepth 100000 in
theorem iHop_any (w : World) (A : Option Addr) (n c lo hi : Nat) (m : CM) (a b d : Int) (hr : Nd2 .i64 w lo hi A n m) (hn : n ≤ 1048576) (hs0 : ndSum2 m ≤ 1048576) (hd : hopD m a b d) :
    Calls Try.prog 26 #[.agg #[.slice A n c], .int .i64 a, .int .i64 b] w fun e w' => e = .returned (.int .i64 d) ∧ Below w.heap.size w w' := by
  have hl := hr.len
  have HC := hide (fun W => iIsCell_any W A n c a hn)
  rcases cell_cases n a with ⟨h, h'⟩ | ⟨k0, rfl, hk0, h⟩
  · rw [h] at HC
    obtain rfl : d = -1 := hopD_one hd (.inr ⟨by omega, rfl⟩)
    clear h h' hd
    go_enter Try.func26, Try.ntmps26
    go_wp2_with (go_at_call 36; refine (unhide HC _).mono ?_; rintro e w1 ⟨rfl, hb1⟩; obtain ⟨os1, d1, rfl⟩ := ext_of_below hb1; clear hb1)
    go_ret
    exact ⟨rfl, (by (repeat' (first | (with_reducible exact Below.refl _ _) | (with_reducible assumption) | (with_reducible refine Below.alloc ?_ ?_ _) | (with_reducible refine below_ext ?_ ?_ _ _) | (with_reducible refine Below.setCell ?_ ?_ _) | (with_reducible refine Below.drew ?_) | (with_reducible refine below_drewN ?_ _))); all_goals (first | omega | (simp; done) | (simp; omega)))⟩
  rw [h] at HC
  clear h
  have HB := hide (fun W => iIsCell_any W A n c b hn)
  rcases cell_cases n b with ⟨h, h'⟩ | ⟨kb, rfl, hkb, h⟩
  · rw [h] at HB
    obtain rfl : d = -1 := hopD_one hd (hopD_no (by omega) (by omega))
    clear h h' hd
    go_enter Try.func26, Try.ntmps26
    go_wp2_with fail
    refine (unhide HC _).mono ?_
    rintro e w2 ⟨rfl, hb2⟩
    have hbox2 := (hb2.cell (p := ⟨w.heap.size, 0, none⟩) (by simp)).trans (World.cell?_alloc_new w #[.slice A n c] 29 0)
    have hbw2 := below_then (show Below w.heap.size w (w.alloc (.cells #[.slice A n c] 29)) from (by (repeat' (first | (with_reducible exact Below.refl _ _) | (with_reducible assumption) | (with_reducible refine Below.alloc ?_ ?_ _) | (with_reducible refine below_ext ?_ ?_ _ _) | (with_reducible refine Below.setCell ?_ ?_ _) | (with_reducible refine Below.drew ?_) | (with_reducible refine below_drewN ?_ _))); all_goals (first | omega | (simp; done) | (simp; omega)))) hb2 (by simp)
    have hs2 := hb2.size
    simp at hs2 hbox2
    clear hb2
    go_wp2_with fail
    refine (unhide HB _).mono ?_
    rintro e w3 ⟨rfl, hb3⟩
    have hbw3 := below_then hbw2 hb3 (by omega)
    clear hb3
    go_wp2_with fail
    go_ret
    exact ⟨rfl, hbw3⟩
  rw [h] at HB
  clear h
  have htg : tgt m.length (kb : Int) = kb := by unfold tgt; rw [if_pos (by omega)]; rfl
  have HD := hide (show ∀ x, IsD (adjM m) k0 kb x → x = d from fun x hx => hopD_one (.inl ⟨k0, rfl, by omega, by rw [htg]; exact hx⟩) hd)
  clear htg hd
  obtain ⟨i0, hi0, hz0, hz1, hz2⟩ := info_parts infoIntS
  go_enter Try.func26, Try.ntmps26
  go_wp2_with fail
  refine (unhide HC _).mono ?_
  rintro e w2 ⟨rfl, hb2⟩
  have hbox2 := (hb2.cell (p := ⟨w.heap.size, 0, none⟩) (by simp)).trans (World.cell?_alloc_new w #[.slice A n c] 29 0)
  have hbw2 := below_then (show Below w.heap.size w (w.alloc (.cells #[.slice A n c] 29)) from (by (repeat' (first | (with_reducible exact Below.refl _ _) | (with_reducible assumption) | (with_reducible refine Below.alloc ?_ ?_ _) | (with_reducible refine below_ext ?_ ?_ _ _) | (with_reducible refine Below.setCell ?_ ?_ _) | (with_reducible refine Below.drew ?_) | (with_reducible refine below_drewN ?_ _))); all_goals (first | omega | (simp; done) | (simp; omega)))) hb2 (by simp)
  have hs2 := hb2.size
  simp at hs2 hbox2
  clear hb2
  go_wp2_with fail
  refine (unhide HB _).mono ?_
  rintro e w3 ⟨rfl, hb3⟩
  have hbw3 := below_then hbw2 hb3 (by omega)
  have hbox3 := (hb3.cell (p := ⟨w.heap.size, 0, none⟩) (by show w.heap.size < _; omega)).trans hbox2
  have hs3 := hb3.size
  clear hb3 hbox2 hbw2 HC HB
  go_wp2_with (at_make; refine wpList_make_full _ rfl _ _ 35 rfl w3.heap.size 3 i0 (.int .i64 0) 1 Try.underlying35 hi0 hz0 hz1 _ _ _ _ n rfl rfl rfl rfl (by rw [hz2]; omega) (by unfold maxLen; omega) (Nat.le_refl _) ?_; intro w4 hown4 hgrow4)
  rw [zerosI] at hown4
  have hb4 : Below w.heap.size w w4 := below_then hbw3 ((Below.refl _ _).grown hgrow4 (Nat.le_refl w3.heap.size) (by simp)) (by omega)
  have hlt4 := (hown4.lt w3.heap.size (by simp [Value.ownBlock])).2
  have hbox4 : w4.cell? ⟨w.heap.size, 0, none⟩ = some (.slice A n c) := (World.cell?_of_block (a := ⟨w.heap.size, 0, none⟩) (hgrow4.block w.heap.size (by omega) (by simp))).trans hbox3
  have hO4 : Own w4 w3.heap.size (w3.heap.size + 1) 3 1 (.slice (some ⟨w3.heap.size, 0, none⟩) n n) n (dRow n (fun _ => 0)) := ⟨hown4, fun k hk => by simp [Value.ownBlock] at hk; omega⟩
  have hwG : w.heap.size < w3.heap.size := by omega
  clear hown4 hgrow4 hbox3 hbw3 hs2 hs3
  generalize w3.heap.size = G at hlt4 hO4 hwG ⊢
  have HREL0 := hide (And.intro hO4 (And.intro hb4 (And.intro hlt4 hbox4)))
  clear hO4 hb4 hlt4 hbox4
  go_wp2_with fail
  go_loopw [29] (fun i wr => ∃ k : Nat, k ≤ n ∧ i = .int .i64 k ∧ Own wr G (G + 1) 3 1 (.slice (some ⟨G, 0, none⟩) n n) n (dRow n (fun v => if v < k then -1 else 0)) ∧ Below w.heap.size w wr ∧ G < wr.heap.size ∧ wr.cell? ⟨w.heap.size, 0, none⟩ = some (.slice A n c)) (fun i _ => n - (intOf i).toNat)
  case atStart => exact ⟨0, Nat.zero_le _, rfl, by simpa using HREL0.out.1, HREL0.out.2⟩
  case round =>
    clear HREL0
    obtain ⟨k, hk, rfl, hown, hb, hz, hbox⟩ := hrel
    by_cases hlt : k < n
    · have hki : (k : Int) < (n : Int) := by omega
      have hdst := hown.row.cellAt k (by omega)
      rw [dRow_at hlt] at hdst
      have hfr := hown.row.frozenAt k
      obtain ⟨h1, h2⟩ := hown.stored k (.int .i64 (-1))
      rw [dRow_set, dRow_same (E := fun v => if v < k + 1 then -1 else 0) (fun v _ => by
        by_cases h1 : v = k
        · subst h1; simp
        · by_cases h2 : v < k
          · have : v < k + 1 := by omega
            simp [h1, h2, this]
          · have : ¬ v < k + 1 := by omega
            simp [h1, h2, this])] at h1
      have HREL := hide (And.intro h1 (And.intro (below_then hb (h2.below (B := w.heap.size) (by omega) hb.size) (Nat.le_refl _)) (And.intro (Nat.lt_of_lt_of_le hz h2.size) ((h2.cell (p := ⟨w.heap.size, 0, none⟩) (by show w.heap.size < _; omega) (.inl (by show w.heap.size < _; omega))).trans hbox))))
      generalize (if k < k then (-1 : Int) else 0) = old at hdst
      clear h1 h2 hown hb hbox
      go_wp2_with fail
      go_roundw
      case rel => exact ⟨k + 1, by omega, by go_num, HREL.out⟩
      case measure => simp [intOf] <;> omega
    · obtain rfl : k = n := by omega
      have hown2 : Own wr G (G + 1) 3 1 (.slice (some ⟨G, 0, none⟩) k k) k (dRow k (fun _ => -1)) := by
        rw [dRow_same (E := fun _ => -1) (fun v hv => by simp [hv])] at hown
        exact hown
      obtain ⟨hdst, hfr⟩ : wr.cell? ⟨G, k0, none⟩ = some (.int .i64 (-1)) ∧ wr.frozen? ⟨G, k0, none⟩ = false := by
        refine ⟨?_, hown2.row.frozenAt k0⟩
        rw [hown2.row.cellAt k0 (by omega), dRow_at hk0]
      obtain ⟨h1, h2⟩ := hown2.stored k0 (.int .i64 0)
      rw [dRow_set] at h1
      have hb5 := below_then hb (h2.below (B := w.heap.size) (by omega) hb.size) (Nat.le_refl _)
      have hbox5 := (h2.cell (p := ⟨w.heap.size, 0, none⟩) (by show w.heap.size < _; omega) (.inl (by show w.heap.size < _; omega))).trans hbox
      have hz5 := Nat.lt_of_lt_of_le hz h2.size
      have HW0 := hide (show HW w G A k c ((wr.setCell ⟨G, k0, none⟩ (.int .i64 0)).alloc (.cells #[.int .i64 k0] 3)) (fun v => if v = k0 then (0 : Int) else -1) (.slice (some ⟨wr.heap.size, 0, none⟩) 1 1) 1 ([k0].map nI) from
        ⟨h1.alloc _, by simpa [nI] using (Qu.fresh (wr.setCell ⟨G, k0, none⟩ (.int .i64 0)) (.int .i64 k0) 3).more (lo' := G + 1) (by simp; omega) (by simp), hb5.alloc hb5.size _, hwG, by simp; omega, by rw [World.cell?_alloc_past _ _ _ (by simp; omega)]; exact hbox5⟩)
      have HB0 := hide (BI_start (adj := adjM m) (a := k0) (n := k) (D := fun v => if v = k0 then (0 : Int) else -1) hk0 (by simp) (fun v _ hv => by simp [hv]))
      have hk0I : (k0 : Int) < (k : Int) := by omega
      have hkbI : (kb : Int) < (k : Int) := by omega
      clear hown hown2 h1 h2 hb5 hbox5 hz5 hb hbox
      go_wp2_with fail
      clear hdst hfr
      go_loopg [9] (k + 1) (fun gk q wr => ∃ (D : Nat → Int) (d t : Nat) (Q1 Q2 : List Nat), Hid (BI (adjM m) k0 k D d Q1 Q2 none) ∧ Hid (∀ v, -1 ≤ D v) ∧ Hid (Q1 = [] → Q2 = []) ∧ Hid ((Q1 ++ Q2).length = t) ∧ t + undis D k ≤ gk ∧ d + gk ≤ k + 1 ∧ HW w G A k c wr D q t ((Q1 ++ Q2).map nI))
      case atStart =>
        refine ⟨fun v => if v = k0 then (0 : Int) else -1, 0, 1, [k0], [], HB0, hide (fun v => by simp only []; split <;> omega), hide (fun h => by cases h), hide rfl, ?_, by omega, HW0.out⟩
        have := undis_set (D := fun _ => -1) (n := k) (x := k0) (e := 0) hk0 (by omega) (by omega)
        have := undis_le (fun _ => -1) k
        omega
      case round =>
        clear HW0 HB0
        obtain ⟨D, d', t, Q1, Q2, HBI, HM1, HQ, HL, htk, hdk, hW⟩ := hrel
        have hdb := (hW.at_ hkb).1
        have hkbD : D kb < 0 ∨ 0 ≤ D kb := by omega
        obtain ⟨g, off, cap, rfl, htc, hcm, hgl⟩ := hW.qu.slice
        by_cases ht0 : t = 0
        · subst ht0
          have hres := hide (show D kb = d from by
            have hq0 : Q1 ++ Q2 = [] := List.eq_nil_of_length_eq_zero HL.out
            obtain ⟨rfl, rfl⟩ := List.append_eq_nil_iff.1 hq0
            rcases hkbD with h | h
            · have := BI_empty (b := kb) hk0 (fun u v huv => by have := huv.2; omega) HBI.out hkb h
              have h2 := HD.out _ this
              have := HM1.out kb
              omega
            · exact HD.out _ (BI_found HBI.out hkb h))
          have hbel := hide hW.bel
          generalize D kb = x at hdb hres
          clear hW hkbD HBI HM1 HQ HL hgl
          go_wp2_with fail
          go_ret
          exact ⟨ret_int hres.out, hbel.out⟩
        · have ht0I : (0 : Int) < (t : Int) := by omega
          rcases hkbD with hneg | hpos
          · obtain ⟨t, rfl⟩ : ∃ j, t = j + 1 := ⟨t - 1, by omega⟩
            obtain ⟨cc, Q1, rfl⟩ : ∃ x r, Q1 = x :: r := by
              cases Q1 with
              | nil => have := HQ.out rfl; subst this; have := HL.out; simp at this
              | cons x r => exact ⟨x, r, rfl⟩
            obtain ⟨hcn, hDc⟩ := HBI.out.q1 cc (by simp)
            have HB2 := hide (BI_pop HBI.out)
            have hL2 : (Q1 ++ Q2).length = t := by have := HL.out; simp at this ⊢; omega
            have hqh := hW.qu.cells 0 (nI cc) (by simp)
            unfold nI at hqh
            rw [Nat.add_zero] at hqh
            have hcI : (cc : Int) < (k : Int) := by omega
            have hHW := hide hW
            generalize D kb = xb at hdb hneg
            obtain ⟨bm, om, xm, ⟨sA, sn, sc, sl⟩, rfl, hbm, hmx, hm0, hm1, hms⟩ := hr.at_ hcn
            simp only at hmx hm1
            obtain rfl : sl.length = sn := by simpa using hms.1.len
            have hsum := ndSum2_le hmx
            simp only at hsum
            have hm1' := (hW.bel.cell (p := ⟨bm, om + cc * 2 + 1, none⟩) hbm).trans hm1
            have hbx := hW.box
            clear hgl hbm hW hm0 HQ HL HBI hm1
            by_cases hc1 : cap = 1
            · subst hc1
              obtain rfl : t = 0 := by omega
              have HT := hide (hHW.out.requ hHW.out.qu.tail1)
              clear hHW
              clear ht0I ht0 htc hcm
              simp only [Nat.zero_add]
              go_wp2_with fail
              clear hdb hqh hbx hm1' hneg
              go_loopw [9, 63] (fun q i wr => ∃ (D2 : Nat → Int) (j t2 : Nat) (Q3 : List Nat), j ≤ sl.length ∧ i = .int .i64 j ∧ Hid (BI (adjM m) k0 k D2 d' Q1 Q3 (some cc)) ∧ Hid (∀ v, -1 ≤ D2 v) ∧ Hid (∀ i, i < j → ∀ v : Nat, v < k → sl[i]? = some (v : Int) → 0 ≤ D2 v) ∧ Hid ((Q1 ++ Q3).length = t2) ∧ t2 + undis D2 k + 1 ≤ gk ∧ HW w G (some ⟨bm, om, none⟩) k c wr D2 q t2 ((Q1 ++ Q3).map nI)) (fun _ i _ => sl.length - (intOf i).toNat)
              case atStart => exact ⟨D, 0, 0, Q2, Nat.zero_le _, rfl, HB2, HM1, hide (fun i hi => absurd hi (Nat.not_lt_zero _)), hide hL2, by omega, HT.out⟩
              case round =>
                clear HT HB2 HM1 hL2 hDc
                obtain ⟨D2, j, t2, Q3, hj, rfl, HB3, HM3, HN3, HL3, ht3, hW3⟩ := hrel
                by_cases hlt : j < sl.length
                · have hjI : (j : Int) < (sl.length : Int) := by omega
                  obtain ⟨bs, os, hsA, _, _, hcell⟩ := (hms.1.below' hW3.bel).at_ (j := j) (by show j < sl.length * 1; omega)
                  obtain ⟨z, hzg⟩ : ∃ z, sl[j]? = some z := ⟨_, List.getElem?_eq_getElem hlt⟩
                  have hz := hcell j (.int .i64 z) (by simp [hzg])
                  have HZ := hide hzg
                  have hbx3 := hW3.box
                  have hHW3 := hide hW3
                  have HI := hide (fun W => iIsCell_any W (some ⟨bm, om, none⟩) k c z hn)
                  have HMS := hide hms
                  simp only at hsA
                  subst hsA
                  clear hcell hzg hW3 hms
                  rcases cell_cases k z with ⟨h, h'⟩ | ⟨kz, rfl, hkz, h⟩
                  · rw [h] at HI
                    have HN4 := hide (show ∀ i, i < j + 1 → ∀ v : Nat, v < k → sl[i]? = some (v : Int) → 0 ≤ D2 v from fun i hi v hv hs => by
                      by_cases he : i = j
                      · subst he
                        rw [HZ.out] at hs
                        have hs := Option.some.inj hs
                        omega
                      · exact HN3.out i (by omega) v hv hs)
                    clear h h' HN3
                    go_wp2_with fail
                    refine (unhide HI _).mono ?_
                    rintro e w6 ⟨rfl, hb6⟩
                    have HW6 := hide (hHW3.out.below' hb6)
                    clear hb6 hz hbx3 hHW3
                    go_wp2_with fail
                    go_roundw
                    case rel => exact ⟨D2, j + 1, t2, Q3, by omega, by go_num, HB3, HM3, HN4, HL3, ht3, HW6.out⟩
                    case measure => simp [intOf] <;> omega
                  · rw [h] at HI
                    clear h
                    have hkzI : (kz : Int) < (k : Int) := by omega
                    go_wp2_with fail
                    refine (unhide HI _).mono ?_
                    rintro e w6 ⟨rfl, hb6⟩
                    have hW6 := hHW3.out.below' hb6
                    have HW6 := hide hW6
                    clear hb6 hz hbx3 hHW3 HI
                    obtain ⟨hkz1, hkz2⟩ := hW6.at_ hkz
                    have hcd := HB3.out.cur cc rfl
                    have hcc1 := (hW6.at_ hcn).1
                    have hcd2 : D2 cc = d' := hcd.2
                    have hdb0 : (d' : Int) + 1 ≤ 1048577 := by omega
                    generalize D2 cc = e0 at hcc1 hcd2
                    obtain ⟨e1, he1⟩ : ∃ e1 : Int, e1 = (d' : Int) + 1 := ⟨_, rfl⟩
                    have hwd : wrap64 (e0 + 1) = e1 := by rw [he1, hcd2]; exact IntWalk.wrap64_in _ ⟨by omega, by omega⟩
                    by_cases hneg2 : D2 kz < 0
                    · have hund := undis_set (D := D2) (n := k) (x := kz) (e := e1) hkz hneg2 (by omega)
                      have HB4 := (BI_new HB3.out hkz (show adjM m cc kz from ⟨by rw [nbr_yes hmx, hasI_iff]; exact List.mem_of_getElem? HZ.out, by omega⟩) hneg2)
                      rw [← he1] at HB4
                      have HB4 := hide HB4
                      have HM4 := hide (show ∀ v, -1 ≤ (fun v => if v = kz then e1 else D2 v) v from fun v => by
                        simp only []
                        split
                        · omega
                        · exact HM3.out v)
                      have HN4 := hide (show ∀ i, i < j + 1 → ∀ v : Nat, v < k → sl[i]? = some (v : Int) → 0 ≤ (fun v => if v = kz then e1 else D2 v) v from fun i hi v hv hs => by
                        simp only []
                        split
                        · omega
                        · next hne =>
                          by_cases he : i = j
                          · subst he
                            rw [HZ.out] at hs
                            have hs := Option.some.inj hs
                            omega
                          · exact HN3.out i (by omega) v hv hs)
                      have HL4 := hide (show (Q1 ++ (Q3 ++ [kz])).length = t2 + 1 by have := HL3.out; simp at this ⊢; omega)
                      have ht2n : t2 ≤ k + 1 := by omega
                      have hW7 := (hW6.set kz e1).below' (show Below _ _ ((w6.setCell ⟨G, kz, none⟩ (.int .i64 e1)).alloc (.cells #[.int .i64 kz] 3)) from (by (repeat' (first | (with_reducible exact Below.refl _ _) | (with_reducible assumption) | (with_reducible refine Below.alloc ?_ ?_ _) | (with_reducible refine below_ext ?_ ?_ _ _) | (with_reducible refine Below.setCell ?_ ?_ _) | (with_reducible refine Below.drew ?_) | (with_reducible refine below_drewN ?_ _))); all_goals (first | omega | (simp; done) | (simp; omega))))
                      have hszG := hW6.sz
                      have HW7 := hide hW7
                      clear hW6 hW7 HW6
                      generalize D2 kz = x at hkz1 hneg2
                      have HUN := hide hund
                      clear hund
                      clear HB3 HM3 HN3 HL3 hcd hdb0 he1 hcd2
                      go_wp2_with (at_builtin; refine wpList_quapp _ rfl (.tmp 85) (.tmp 87) 35 rfl 3 i0 (.int .i64 0) 8 (G + 1) _ Try.underlying35 hi0 hz0 hz1 hz2 rfl _ t2 _ rfl HW7.out.qu _ 1 (.int .i64 kz) rfl (by go_simp) rfl (by unfold maxLen; omega) (by omega) HW7.out.sz (Nat.le_refl _) ?_; intro q8 w8 hq8 hch8)
                      have HW8 := hide (HW7.out.app hch8 (show Qu w8 (G + 1) w8.heap.size 3 q8 (t2 + 1) ((Q1 ++ (Q3 ++ [kz])).map nI) by simpa [nI] using hq8))
                      clear HW7 hq8 hch8 hszG hkz2 hwd hcc1 hkz1
                      go_wp2_with fail
                      go_roundw
                      case rel => exact ⟨_, j + 1, t2 + 1, Q3 ++ [kz], by omega, by go_num, HB4, HM4, HN4, HL4, by have := HUN.out; omega, HW8.out⟩
                      case measure => simp [intOf] <;> omega
                    · have HN4 := hide (show ∀ i, i < j + 1 → ∀ v : Nat, v < k → sl[i]? = some (v : Int) → 0 ≤ D2 v from fun i hi v hv hs => by
                        by_cases he : i = j
                        · subst he
                          rw [HZ.out] at hs
                          have hs := Option.some.inj hs
                          obtain rfl : kz = v := by omega
                          omega
                        · exact HN3.out i (by omega) v hv hs)
                      generalize D2 kz = x at hkz1 hneg2
                      clear HN3 hcd hcc1 hW6 hdb0 he1 hcd2 hwd
                      go_wp2_with fail
                      go_roundw
                      case rel => exact ⟨D2, j + 1, t2, Q3, by omega, by go_num, HB3, HM3, HN4, HL3, ht3, HW6.out⟩
                      case measure => simp [intOf] <;> omega
                · obtain rfl : j = sl.length := by omega
                  have HB4 := BI_shut HB3.out (fun v hv hadj => by
                    have hm := hadj.1
                    rw [nbr_yes hmx, hasI_iff] at hm
                    obtain ⟨i, hi⟩ := List.mem_iff_getElem?.1 hm
                    exact HN3.out i (List.getElem?_eq_some_iff.1 hi).1 v hv hi)
                  obtain ⟨d2, P1, P2, g1, g2, g3, g4⟩ := BI_norm (by omega) hl HB4
                  have H1 := hide g1
                  have H3 := hide g3
                  rw [← g2] at HL3 hW3
                  clear g1 g2 g3 HB4 HB3 HN3
                  go_wp2_with fail
                  go_roundg (gk - 1)
                  case measure => omega
                  case rel => exact ⟨D2, d2, t2, P1, P2, H1, HM3, H3, HL3, by omega, by omega, hW3⟩
            · obtain ⟨cap, rfl⟩ : ∃ j, cap = j + 1 := ⟨cap - 1, by omega⟩
              have HT := hide (hHW.out.requ hHW.out.qu.tail)
              clear hHW
              go_wp2_with fail
              clear hdb hqh hbx hm1' hneg
              go_loopw [9, 63] (fun q i wr => ∃ (D2 : Nat → Int) (j t2 : Nat) (Q3 : List Nat), j ≤ sl.length ∧ i = .int .i64 j ∧ Hid (BI (adjM m) k0 k D2 d' Q1 Q3 (some cc)) ∧ Hid (∀ v, -1 ≤ D2 v) ∧ Hid (∀ i, i < j → ∀ v : Nat, v < k → sl[i]? = some (v : Int) → 0 ≤ D2 v) ∧ Hid ((Q1 ++ Q3).length = t2) ∧ t2 + undis D2 k + 1 ≤ gk ∧ HW w G (some ⟨bm, om, none⟩) k c wr D2 q t2 ((Q1 ++ Q3).map nI)) (fun _ i _ => sl.length - (intOf i).toNat)
              case atStart => exact ⟨D, 0, t, Q2, Nat.zero_le _, rfl, HB2, HM1, hide (fun i hi => absurd hi (Nat.not_lt_zero _)), hide hL2, by omega, HT.out⟩
              case round =>
                clear HT HB2 HM1 hL2 hDc
                obtain ⟨D2, j, t2, Q3, hj, rfl, HB3, HM3, HN3, HL3, ht3, hW3⟩ := hrel
                by_cases hlt : j < sl.length
                · have hjI : (j : Int) < (sl.length : Int) := by omega
                  obtain ⟨bs, os, hsA, _, _, hcell⟩ := (hms.1.below' hW3.bel).at_ (j := j) (by show j < sl.length * 1; omega)
                  obtain ⟨z, hzg⟩ : ∃ z, sl[j]? = some z := ⟨_, List.getElem?_eq_getElem hlt⟩
                  have hz := hcell j (.int .i64 z) (by simp [hzg])
                  have HZ := hide hzg
                  have hbx3 := hW3.box
                  have hHW3 := hide hW3
                  have HI := hide (fun W => iIsCell_any W (some ⟨bm, om, none⟩) k c z hn)
                  have HMS := hide hms
                  simp only at hsA
                  subst hsA
                  clear hcell hzg hW3 hms
                  rcases cell_cases k z with ⟨h, h'⟩ | ⟨kz, rfl, hkz, h⟩
                  · rw [h] at HI
                    have HN4 := hide (show ∀ i, i < j + 1 → ∀ v : Nat, v < k → sl[i]? = some (v : Int) → 0 ≤ D2 v from fun i hi v hv hs => by
                      by_cases he : i = j
                      · subst he
                        rw [HZ.out] at hs
                        have hs := Option.some.inj hs
                        omega
                      · exact HN3.out i (by omega) v hv hs)
                    clear h h' HN3
                    go_wp2_with fail
                    refine (unhide HI _).mono ?_
                    rintro e w6 ⟨rfl, hb6⟩
                    have HW6 := hide (hHW3.out.below' hb6)
                    clear hb6 hz hbx3 hHW3
                    go_wp2_with fail
                    go_roundw
                    case rel => exact ⟨D2, j + 1, t2, Q3, by omega, by go_num, HB3, HM3, HN4, HL3, ht3, HW6.out⟩
                    case measure => simp [intOf] <;> omega
                  · rw [h] at HI
                    clear h
                    have hkzI : (kz : Int) < (k : Int) := by omega
                    go_wp2_with fail
                    refine (unhide HI _).mono ?_
                    rintro e w6 ⟨rfl, hb6⟩
                    have hW6 := hHW3.out.below' hb6
                    have HW6 := hide hW6
                    clear hb6 hz hbx3 hHW3 HI
                    obtain ⟨hkz1, hkz2⟩ := hW6.at_ hkz
                    have hcd := HB3.out.cur cc rfl
                    have hcc1 := (hW6.at_ hcn).1
                    have hcd2 : D2 cc = d' := hcd.2
                    have hdb0 : (d' : Int) + 1 ≤ 1048577 := by omega
                    generalize D2 cc = e0 at hcc1 hcd2
                    obtain ⟨e1, he1⟩ : ∃ e1 : Int, e1 = (d' : Int) + 1 := ⟨_, rfl⟩
                    have hwd : wrap64 (e0 + 1) = e1 := by rw [he1, hcd2]; exact IntWalk.wrap64_in _ ⟨by omega, by omega⟩
                    by_cases hneg2 : D2 kz < 0
                    · have hund := undis_set (D := D2) (n := k) (x := kz) (e := e1) hkz hneg2 (by omega)
                      have HB4 := (BI_new HB3.out hkz (show adjM m cc kz from ⟨by rw [nbr_yes hmx, hasI_iff]; exact List.mem_of_getElem? HZ.out, by omega⟩) hneg2)
                      rw [← he1] at HB4
                      have HB4 := hide HB4
                      have HM4 := hide (show ∀ v, -1 ≤ (fun v => if v = kz then e1 else D2 v) v from fun v => by
                        simp only []
                        split
                        · omega
                        · exact HM3.out v)
                      have HN4 := hide (show ∀ i, i < j + 1 → ∀ v : Nat, v < k → sl[i]? = some (v : Int) → 0 ≤ (fun v => if v = kz then e1 else D2 v) v from fun i hi v hv hs => by
                        simp only []
                        split
                        · omega
                        · next hne =>
                          by_cases he : i = j
                          · subst he
                            rw [HZ.out] at hs
                            have hs := Option.some.inj hs
                            omega
                          · exact HN3.out i (by omega) v hv hs)
                      have HL4 := hide (show (Q1 ++ (Q3 ++ [kz])).length = t2 + 1 by have := HL3.out; simp at this ⊢; omega)
                      have ht2n : t2 ≤ k + 1 := by omega
                      have hW7 := (hW6.set kz e1).below' (show Below _ _ ((w6.setCell ⟨G, kz, none⟩ (.int .i64 e1)).alloc (.cells #[.int .i64 kz] 3)) from (by (repeat' (first | (with_reducible exact Below.refl _ _) | (with_reducible assumption) | (with_reducible refine Below.alloc ?_ ?_ _) | (with_reducible refine below_ext ?_ ?_ _ _) | (with_reducible refine Below.setCell ?_ ?_ _) | (with_reducible refine Below.drew ?_) | (with_reducible refine below_drewN ?_ _))); all_goals (first | omega | (simp; done) | (simp; omega))))
                      have hszG := hW6.sz
                      have HW7 := hide hW7
                      clear hW6 hW7 HW6
                      generalize D2 kz = x at hkz1 hneg2
                      have HUN := hide hund
                      clear hund
                      clear HB3 HM3 HN3 HL3 hcd hdb0 he1 hcd2
                      go_wp2_with (at_builtin; refine wpList_quapp _ rfl (.tmp 85) (.tmp 87) 35 rfl 3 i0 (.int .i64 0) 8 (G + 1) _ Try.underlying35 hi0 hz0 hz1 hz2 rfl _ t2 _ rfl HW7.out.qu _ 1 (.int .i64 kz) rfl (by go_simp) rfl (by unfold maxLen; omega) (by omega) HW7.out.sz (Nat.le_refl _) ?_; intro q8 w8 hq8 hch8)
                      have HW8 := hide (HW7.out.app hch8 (show Qu w8 (G + 1) w8.heap.size 3 q8 (t2 + 1) ((Q1 ++ (Q3 ++ [kz])).map nI) by simpa [nI] using hq8))
                      clear HW7 hq8 hch8 hszG hkz2 hwd hcc1 hkz1
                      go_wp2_with fail
                      go_roundw
                      case rel => exact ⟨_, j + 1, t2 + 1, Q3 ++ [kz], by omega, by go_num, HB4, HM4, HN4, HL4, by have := HUN.out; omega, HW8.out⟩
                      case measure => simp [intOf] <;> omega
                    · have HN4 := hide (show ∀ i, i < j + 1 → ∀ v : Nat, v < k → sl[i]? = some (v : Int) → 0 ≤ D2 v from fun i hi v hv hs => by
                        by_cases he : i = j
                        · subst he
                          rw [HZ.out] at hs
                          have hs := Option.some.inj hs
                          obtain rfl : kz = v := by omega
                          omega
                        · exact HN3.out i (by omega) v hv hs)
                      generalize D2 kz = x at hkz1 hneg2
                      clear HN3 hcd hcc1 hW6 hdb0 he1 hcd2 hwd
                      go_wp2_with fail
                      go_roundw
                      case rel => exact ⟨D2, j + 1, t2, Q3, by omega, by go_num, HB3, HM3, HN4, HL3, ht3, HW6.out⟩
                      case measure => simp [intOf] <;> omega
                · obtain rfl : j = sl.length := by omega
                  have HB4 := BI_shut HB3.out (fun v hv hadj => by
                    have hm := hadj.1
                    rw [nbr_yes hmx, hasI_iff] at hm
                    obtain ⟨i, hi⟩ := List.mem_iff_getElem?.1 hm
                    exact HN3.out i (List.getElem?_eq_some_iff.1 hi).1 v hv hi)
                  obtain ⟨d2, P1, P2, g1, g2, g3, g4⟩ := BI_norm (by omega) hl HB4
                  have H1 := hide g1
                  have H3 := hide g3
                  rw [← g2] at HL3 hW3
                  clear g1 g2 g3 HB4 HB3 HN3
                  go_wp2_with fail
                  go_roundg (gk - 1)
                  case measure => omega
                  case rel => exact ⟨D2, d2, t2, P1, P2, H1, HM3, H3, HL3, by omega, by omega, hW3⟩
          · have hres := hide (show D kb = d from HD.out _ (BI_found HBI.out hkb hpos))
            have hbel := hide hW.bel
            generalize D kb = x at hdb hres hpos
            have hnl : ¬ x < 0 := by omega
            clear hW HBI HM1 HQ HL hgl hpos
            go_wp2_with fail
            go_ret
            exact ⟨ret_int hres.out, hbel.out⟩
end Go.Proofs.Ytcndocopecnohaa
