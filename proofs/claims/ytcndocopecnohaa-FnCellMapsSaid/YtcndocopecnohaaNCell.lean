/- The laws' helpers on slices of Cell: a copy, a comparison, the size. -/
import Derived.Test.YtcndocopecnohaaRecCell
import Derived.Test.YtcndocopecnohaaNest2
import Derived.Deep.RegionHeld3
namespace Go.Proofs.Ytcndocopecnohaa
open Go.RowKit Go.Sep

theorem infoCell : (Try.prog.info? 51).map (fun i => (i.zero, i.size, i.bytes)) = some (some (.agg #[.int .i64 0, .slice none 0 0]), 2, 32) := by kernel_rfl
theorem szCellS_any (w : World) (A : Option Addr) (n c lo hi : Nat) (l : List (Int × List Int)) (left : Int) (hr : Nd2 .i64 w lo hi A n l) (hn : n ≤ 9223372036854775807) (h0 : 0 ≤ left) (h1 : left ≤ 1048576) :
    Calls Try.prog 33 #[.slice A n c, .int .i64 left] w fun e w' => e = .returned (.int .i64 (szTot left n (ndSum2 l))) ∧ Below w.heap.size w w' := by
  have hll := hr.len
  by_cases hln : left < (n : Int)
  · rw [show szTot left n (ndSum2 l) = -1 from if_pos (by omega)]
    go_enter Try.func33, Try.ntmps33
    go_wp2_with fail
    go_ret
    exact ⟨rfl, (by (repeat' (first | (with_reducible exact Below.refl _ _) | (with_reducible assumption) | (with_reducible refine Below.alloc ?_ ?_ _) | (with_reducible refine below_ext ?_ ?_ _ _) | (with_reducible refine Below.setCell ?_ ?_ _) | (with_reducible refine Below.drew ?_) | (with_reducible refine below_drewN ?_ _))); all_goals (first | omega | (simp; done) | (simp; omega)))⟩
  · have hln2 : ¬ left - (n : Int) < 0 := by omega
    go_enter Try.func33, Try.ntmps33
    go_wp2_with fail
    go_loopw [1, 5] (fun q i wr => ∃ (k : Nat) (lf : Int), k ≤ n ∧ i = .int .i64 k ∧ q = .int .i64 lf ∧ 0 ≤ lf ∧ lf ≤ 1048576 ∧ Hid (lf - (ndSum2 (l.drop k) : Nat) = left - n - (ndSum2 l : Nat)) ∧ Below w.heap.size w wr) (fun _ i _ => n - (intOf i).toNat)
    case atStart => exact ⟨0, left - n, Nat.zero_le _, rfl, rfl, by omega, by omega, hide (by simp), Below.refl _ _⟩
    case round =>
      obtain ⟨k, lf, hk, rfl, rfl, hlf0, hlf1, HF, hb⟩ := hrel
      by_cases hlt : k < n
      · obtain ⟨b, o, x, ⟨sA, sn, sc, sl⟩, rfl, hbl, hx, hx0, hx1, hs⟩ := (hr.below' hb).at_ hlt
        obtain rfl : sl.length = sn := by simpa using hs.1.len
        have HD := hide (ndSum2_at hx)
        have hsc : sl.length ≤ sc ∧ sc ≤ maxLen := hs.2
        have hsn : sl.length ≤ 9223372036854775807 := by have := hsc.2; unfold maxLen at this; omega
        have HZ := hide (fun W => szCell_any W x sA sl.length sc lf hsn hlf0 hlf1)
        clear hr hx hs
        by_cases hz : lf < (sl.length : Int)
        · rw [if_pos hz] at HZ
          have HR := hide (show szTot left n (ndSum2 l) = -1 by
            unfold szTot
            have e1 := HF.out
            have e2 := HD.out
            rw [if_pos]
            simp only at e2
            omega)
          clear HF HD
          go_wp2_with (go_at_call 49; refine (unhide HZ _).mono ?_; rintro e w1 ⟨rfl, hb1⟩; obtain ⟨os1, d1, rfl⟩ := ext_of_below hb1; clear hb1)
          go_ret
          exact ⟨ret_int HR.out.symm, below_then (B' := wr.heap.size) hb (by (repeat' (first | (with_reducible exact Below.refl _ _) | (with_reducible assumption) | (with_reducible refine Below.alloc ?_ ?_ _) | (with_reducible refine below_ext ?_ ?_ _ _) | (with_reducible refine Below.setCell ?_ ?_ _) | (with_reducible refine Below.drew ?_) | (with_reducible refine below_drewN ?_ _))); all_goals (first | omega | (simp; done) | (simp; omega))) hb.size⟩
        · rw [if_neg hz] at HZ
          have hz2 : ¬ lf - (sl.length : Int) < 0 := by omega
          have HR := hide (show lf - (sl.length : Int) - (ndSum2 (l.drop (k + 1)) : Nat) = left - n - (ndSum2 l : Nat) by
            have e1 := HF.out
            have e2 := HD.out
            simp only at e2
            omega)
          clear HF HD
          go_wp2_with (go_at_call 49; refine (unhide HZ _).mono ?_; rintro e w1 ⟨rfl, hb1⟩; obtain ⟨os1, d1, rfl⟩ := ext_of_below hb1; clear hb1)
          go_roundw
          case rel => exact ⟨k + 1, lf - sl.length, by omega, by go_num, rfl, by omega, by omega, HR, below_then (B' := wr.heap.size) hb (by (repeat' (first | (with_reducible exact Below.refl _ _) | (with_reducible assumption) | (with_reducible refine Below.alloc ?_ ?_ _) | (with_reducible refine below_ext ?_ ?_ _ _) | (with_reducible refine Below.setCell ?_ ?_ _) | (with_reducible refine Below.drew ?_) | (with_reducible refine below_drewN ?_ _))); all_goals (first | omega | (simp; done) | (simp; omega))) hb.size⟩
          case measure => simp [intOf] <;> omega
      · obtain rfl : k = n := by omega
        have HR := hide (show szTot left k (ndSum2 l) = lf by
          unfold szTot
          have e1 := HF.out
          have e2 := ndSum2_end (l := l) hll
          rw [if_neg (by omega)]
          omega)
        clear HF
        go_wp2_with fail
        go_ret
        exact ⟨ret_int HR.out.symm, hb⟩
theorem pushCell {wr : World} {lo hi n c g k : Nat} {e : TypeId} {pre zs : List Value} {u0 u1 : Value} (h : Own wr lo hi e 2 (.slice (some ⟨g, 0, none⟩) n c) n (pre ++ zs.drop (k * 2))) (hp : pre.length = k * 2) (hz : zs.length = n * 2) (hk : k < n) :
    Own ((wr.setCell ⟨g, k * 2, none⟩ u0).setCell ⟨g, k * 2 + 1, none⟩ u1) lo hi e 2 (.slice (some ⟨g, 0, none⟩) n c) n ((pre ++ [u0, u1]) ++ zs.drop ((k + 1) * 2)) ∧ Chg lo hi wr ((wr.setCell ⟨g, k * 2, none⟩ u0).setCell ⟨g, k * 2 + 1, none⟩ u1) := by
  obtain ⟨a, b⟩ := h.stored (k * 2) u0
  rw [push1_2 hp (by omega)] at a
  obtain ⟨a', b'⟩ := a.stored (k * 2 + 1) u1
  rw [push1_2 (by simp [hp]) (by omega), List.append_assoc, List.append_assoc] at a'
  rw [Nat.succ_mul, List.append_assoc]
  exact ⟨a', b.trans b'⟩
set_option maxRecDepth 100000 in
theorem toCellS_any (w : World) (A : Option Addr) (n c lo hi : Nat) (l : List (Int × List Int)) (hr : Nd2 .i64 w lo hi A n l) (hn : n + ndSum2 l ≤ 1048576) :
    Calls Try.prog 35 #[.slice A n c] w (MkN2 (fun v => v) w 51 .i64 3 n l) := by
  obtain ⟨i0, hi0, hz0, hz1, hz2⟩ := info_parts infoCell
  have hll := hr.len
  go_enter Try.func35, Try.ntmps35
  go_wp2_with (at_make; refine wpList_make_full _ rfl _ _ 27 rfl w.heap.size 51 i0 (.agg #[.int .i64 0, .slice none 0 0]) 2 Try.underlying27 hi0 hz0 hz1 _ _ _ _ n rfl rfl rfl rfl (by rw [hz2]; omega) (by unfold maxLen; omega) (Nat.le_refl _) ?_; intro w1 hown1 hgrow1)
  have hb1 : Below w.heap.size w w1 := (Below.refl _ _).grown hgrow1 (Nat.le_refl _) (by simp)
  have hzl : (madeCells (Value.cells (.agg #[.int .i64 0, .slice none 0 0])) (n * 2)).toList.length = n * 2 := zeros_len _ _
  have ho1 := Own.of_row hown1
  clear hown1 hgrow1
  generalize (madeCells (Value.cells (.agg #[.int .i64 0, .slice none 0 0])) (n * 2)).toList = zs at ho1 hzl
  go_loopw [4] (fun i wr => ∃ (k : Nat) (ss : List (Int × Sl)), k ≤ n ∧ i = .int .i64 k ∧ Hid (ss.length = k) ∧ Hid (ss.map (fun s : Int × Sl => (s.1, s.2.l)) = l.take k) ∧ Own wr w.heap.size w1.heap.size 51 2 (.slice (some ⟨w.heap.size, 0, none⟩) n n) n (ss.flatMap cs1 ++ zs.drop (k * 2)) ∧ NL2 wr .i64 3 w1.heap.size wr.heap.size ss ∧ Below w.heap.size w wr) (fun i _ => n - (intOf i).toNat)
  case atStart => exact ⟨0, [], Nat.zero_le _, rfl, hide rfl, hide (by simp), by simpa using ho1, Nat.le_refl _, hb1⟩
  case round =>
    obtain ⟨k, ss, hk, rfl, HL, HM, hown, hnl, hb⟩ := hrel
    have hnle := hnl.le
    by_cases hlt : k < n
    · obtain ⟨b, o, x, ⟨sA, sn, sc, sl⟩, rfl, hbl, hx, hx0, hx1, hs⟩ := (hr.below' hb).at_ hlt
      obtain rfl : sl.length = sn := by simpa using hs.1.len
      have hsum := ndSum2_le hx
      simp only at hsum
      have hpl : (ss.flatMap cs1).length = k * 2 := by rw [flat_len cs1 2 cs1_len, HL.out]
      have HT := hide (fun W h => toCell_any W x sA sl.length sc lo hi sl h (by omega))
      have HX := hide hx
      have HRd := hide hs.1
      clear hr hx hs
      go_wp2_with (go_at_call 50; refine (unhide HT _ HRd.out).mono ?_; rintro e w2 ⟨A2, c2, rfl, hc2, hm2, ho2, hb2⟩; obtain ⟨od0, od1, oc0, oc1, of0, of1⟩ := (hown.below' hb2).olds2 (k * 2) (by rw [List.length_append, List.length_drop, hpl]; omega))
      have HP := pushCell (u0 := .int .i64 x) (u1 := .slice A2 sl.length c2) (hown.below' hb2) hpl hzl hlt
      have hnl2 := (hnl.below' hb2).snoc (s := (x, Sl.mk A2 sl.length c2 sl)) ho2 hc2 hm2 hb2.size
      have hd2 : (ss ++ [(x, Sl.mk A2 sl.length c2 sl)]).map (fun s : Int × Sl => (s.1, s.2.l)) = l.take (k + 1) := by
        obtain ⟨hkl, hxe⟩ := List.getElem?_eq_some_iff.1 HX.out
        rw [List.map_append, HM.out, List.take_succ_eq_append_getElem hkl, hxe]
        rfl
      have hb3 := hb.trans (hb2.mono hb.size)
      have hfl : (ss ++ [(x, Sl.mk A2 sl.length c2 sl)]).flatMap cs1 = ss.flatMap cs1 ++ [.int .i64 x, .slice A2 sl.length c2] := by simp [cs1, Sl.v]
      go_roundw
      case rel => exact ⟨k + 1, ss ++ [(x, Sl.mk A2 sl.length c2 sl)], by omega, by go_num, hide (by simp [HL.out]), hide hd2, by rw [hfl]; exact HP.1, (hnl2.chg HP.2 (.inr (Nat.le_refl _))).up HP.2.size, hb3.trans (HP.2.below (B := w.heap.size) (Nat.le_refl _) hb3.size)⟩
      case measure => simp [intOf] <;> omega
    · obtain rfl : k = n := by omega
      go_wp2_with fail
      go_ret
      have hd : ss.map (fun s : Int × Sl => (s.1, s.2.l)) = l := by rw [HM.out, List.take_of_length_le (by omega)]
      rw [List.drop_eq_nil_of_le (by omega), List.append_nil] at hown
      exact ⟨_, _, rfl, Nat.le_refl _, by unfold maxLen; omega, ⟨w1.heap.size, ss, hb1.size, hown, hnl, hd⟩, hb⟩
set_option maxRecDepth 100000 in
theorem eqCellS_yes (w : World) (A B : Option Addr) (n c c' lo hi lo' hi' : Nat) (l : List (Int × List Int)) (hr : Nd2 .i64 w lo hi A n l) (hr' : Nd2 .i64 w lo' hi' B n l) (hn : n ≤ 9223372036854775807) :
    Calls Try.prog 37 #[.slice A n c, .slice B n c'] w fun e w' => e = .returned (.bool true) ∧ Below w.heap.size w w' := by
  go_enter Try.func37, Try.ntmps37
  go_wp2_with fail
  go_loopw [5] (fun i wr => ∃ k : Nat, k ≤ n ∧ i = .int .i64 k ∧ Below w.heap.size w wr) (fun i _ => n - (intOf i).toNat)
  case atStart => exact ⟨0, Nat.zero_le _, rfl, Below.refl _ _⟩
  case round =>
    obtain ⟨k, hk, rfl, hb⟩ := hrel
    by_cases hlt : k < n
    · obtain ⟨b, o, x, ⟨sA, sn, sc, sl⟩, rfl, hbl, hx, hx0, hx1, hs⟩ := (hr.below' hb).at_ hlt
      obtain ⟨b', o', x', ⟨tA, tn, tc, tl⟩, rfl, hbl', hy, hy0, hy1, ht⟩ := (hr'.below' hb).at_ hlt
      rw [hx] at hy
      injection hy with hy
      obtain ⟨rfl, rfl⟩ : x = x' ∧ sl = tl := by simpa using hy
      obtain rfl : sl.length = sn := by simpa using hs.1.len
      obtain rfl : sl.length = tn := by simpa using ht.1.len
      have hsc : sl.length ≤ sc ∧ sc ≤ maxLen := hs.2
      have hsn : sl.length ≤ 9223372036854775807 := by have := hsc.1; have := hsc.2; unfold maxLen at this; omega
      have HS := hide hs.1
      have HT := hide ht.1
      clear hr hr' hy hx hs ht
      go_wp2_with fail
      go_region_held3 (fun w' => w'.cell? ⟨b, o + k * 2, none⟩ = some (.int .i64 x) ∧ w'.cell? ⟨b, o + k * 2 + 1, none⟩ = some (.slice sA sl.length sc) ∧ w'.cell? ⟨b', o' + k * 2, none⟩ = some (.int .i64 x) ∧ w'.cell? ⟨b', o' + k * 2 + 1, none⟩ = some (.slice tA sl.length tc)) (first | (go_simp; done) | go_keep)
        (first | (go_at_call 51; refine (eqCell_yes _ _ _ _ _ _ _ _ _ _ _ sl (HS.out.below' (by (repeat' (first | (with_reducible exact Below.refl _ _) | (with_reducible assumption) | (with_reducible refine Below.alloc ?_ ?_ _) | (with_reducible refine below_ext ?_ ?_ _ _) | (with_reducible refine Below.setCell ?_ ?_ _) | (with_reducible refine Below.drew ?_) | (with_reducible refine below_drewN ?_ _))); all_goals (first | omega | (simp; done) | (simp; omega)))) (HT.out.below' (by (repeat' (first | (with_reducible exact Below.refl _ _) | (with_reducible assumption) | (with_reducible refine Below.alloc ?_ ?_ _) | (with_reducible refine below_ext ?_ ?_ _ _) | (with_reducible refine Below.setCell ?_ ?_ _) | (with_reducible refine Below.drew ?_) | (with_reducible refine below_drewN ?_ _))); all_goals (first | omega | (simp; done) | (simp; omega)))) hsn).mono ?_; rintro e w1 ⟨rfl, hb1⟩; obtain ⟨os1, d1, rfl⟩ := ext_of_below hb1; clear hb1))
      all_goals
        go_wp2_with fail
        go_roundw
        case rel => exact ⟨k + 1, by omega, by go_num, below_then (B' := wr.heap.size) hb (by (repeat' (first | (with_reducible exact Below.refl _ _) | (with_reducible assumption) | (with_reducible refine Below.alloc ?_ ?_ _) | (with_reducible refine below_ext ?_ ?_ _ _) | (with_reducible refine Below.setCell ?_ ?_ _) | (with_reducible refine Below.drew ?_) | (with_reducible refine below_drewN ?_ _))); all_goals (first | omega | (simp; done) | (simp; omega))) hb.size⟩
        case measure => simp [intOf] <;> omega
    · go_wp2_with fail
      go_ret
      exact ⟨rfl, hb⟩
theorem szCellMap_any (w : World) (A : Option Addr) (n c lo hi : Nat) (l : List (Int × List Int)) (left : Int) (hr : Nd2 .i64 w lo hi A n l) (hn : n ≤ 9223372036854775807) (h0 : 0 ≤ left) (h1 : left ≤ 1048576) :
    Calls Try.prog 10 #[.agg #[.slice A n c], .int .i64 left] w fun e w' => e = .returned (.int .i64 (szTot left n (ndSum2 l))) ∧ Below w.heap.size w w' := by
  have HZ := hide (fun W h => szCellS_any W A n c lo hi l left h hn h0 h1)
  by_cases h : left < (n : Int) + (ndSum2 l : Nat)
  · rw [show szTot left n (ndSum2 l) = -1 from if_pos h] at HZ ⊢
    clear h
    go_enter Try.func10, Try.ntmps10
    go_wp2_with (go_at_call 33; refine (unhide HZ _ (hr.below' (by (repeat' (first | (with_reducible exact Below.refl _ _) | (with_reducible assumption) | (with_reducible refine Below.alloc ?_ ?_ _) | (with_reducible refine below_ext ?_ ?_ _ _) | (with_reducible refine Below.setCell ?_ ?_ _) | (with_reducible refine Below.drew ?_) | (with_reducible refine below_drewN ?_ _))); all_goals (first | omega | (simp; done) | (simp; omega))))).mono ?_; rintro e w1 ⟨rfl, hb1⟩; obtain ⟨os1, d1, rfl⟩ := ext_of_below hb1; clear hb1)
    go_ret
    exact ⟨rfl, (by (repeat' (first | (with_reducible exact Below.refl _ _) | (with_reducible assumption) | (with_reducible refine Below.alloc ?_ ?_ _) | (with_reducible refine below_ext ?_ ?_ _ _) | (with_reducible refine Below.setCell ?_ ?_ _) | (with_reducible refine Below.drew ?_) | (with_reducible refine below_drewN ?_ _))); all_goals (first | omega | (simp; done) | (simp; omega)))⟩
  · rw [show szTot left n (ndSum2 l) = left - n - (ndSum2 l : Nat) from if_neg h] at HZ ⊢
    have h2 : 0 ≤ left - n - (ndSum2 l : Nat) := by omega
    generalize left - n - (ndSum2 l : Nat) = z at HZ h2 ⊢
    clear h
    go_enter Try.func10, Try.ntmps10
    go_wp2_with (go_at_call 33; refine (unhide HZ _ (hr.below' (by (repeat' (first | (with_reducible exact Below.refl _ _) | (with_reducible assumption) | (with_reducible refine Below.alloc ?_ ?_ _) | (with_reducible refine below_ext ?_ ?_ _ _) | (with_reducible refine Below.setCell ?_ ?_ _) | (with_reducible refine Below.drew ?_) | (with_reducible refine below_drewN ?_ _))); all_goals (first | omega | (simp; done) | (simp; omega))))).mono ?_; rintro e w1 ⟨rfl, hb1⟩; obtain ⟨os1, d1, rfl⟩ := ext_of_below hb1; clear hb1)
    go_ret
    exact ⟨rfl, (by (repeat' (first | (with_reducible exact Below.refl _ _) | (with_reducible assumption) | (with_reducible refine Below.alloc ?_ ?_ _) | (with_reducible refine below_ext ?_ ?_ _ _) | (with_reducible refine Below.setCell ?_ ?_ _) | (with_reducible refine Below.drew ?_) | (with_reducible refine below_drewN ?_ _))); all_goals (first | omega | (simp; done) | (simp; omega)))⟩
theorem nown_swap {wA wB : World} {os : Array Obj} {d d' lo hi n c : Nat} {E E2 : TypeId} {kd : IntKind} {A : Option Addr} {l : List (Int × List Int)} (h : NOwn2 (ext wA os d) lo hi E kd E2 A n c l) (hs : wB.heap.size = wA.heap.size) (hlo : wA.heap.size ≤ lo) : NOwn2 (ext wB os d') lo hi E kd E2 A n c l := by
  obtain ⟨m, ss, h1, h2, h3, h4⟩ := h
  refine ⟨m, ss, h1, h2.swap hs hlo, ?_, h4⟩
  have hm : wA.heap.size ≤ m := by omega
  clear h1 h2 h4
  induction ss generalizing m with
  | nil => exact h3
  | cons s r ih => obtain ⟨m', g1, g2, g3, g4, g5⟩ := h3; exact ⟨m', g1, g2.swap hs hm, g3, g4, ih m' g5 (by omega)⟩
theorem toCellMap_any (w : World) (A : Option Addr) (n c lo hi : Nat) (l : List (Int × List Int)) (hr : Nd2 .i64 w lo hi A n l) (hn : n + ndSum2 l ≤ 1048576) :
    Calls Try.prog 12 #[.agg #[.slice A n c]] w (MkN2 (fun v => .agg #[v]) w 51 .i64 3 n l) := by
  go_enter Try.func12, Try.ntmps12
  go_wp2_with (go_at_call 35; refine (toCellS_any _ _ _ _ _ _ l (hr.below' (by (repeat' (first | (with_reducible exact Below.refl _ _) | (with_reducible assumption) | (with_reducible refine Below.alloc ?_ ?_ _) | (with_reducible refine below_ext ?_ ?_ _ _) | (with_reducible refine Below.setCell ?_ ?_ _) | (with_reducible refine Below.drew ?_) | (with_reducible refine below_drewN ?_ _))); all_goals (first | omega | (simp; done) | (simp; omega)))) hn).mono ?_; rintro e w1 ⟨A1, c1, rfl, hc1, hm1, ho1, hb1⟩; obtain ⟨os1, d1, rfl⟩ := ext_of_below hb1; clear hb1; try simp only [ext_drew] at ho1; try simp only [ext_drewN] at ho1)
  exact bodyPost_ret (v := .agg #[.slice A1 n c1]) (by simp only [results, Try.results12]; go_simp) rfl ⟨A1, c1, rfl, hc1, hm1, (nown_swap ho1 (by simp) (by simp)).more (by simp <;> omega) (by simp), (by (repeat' (first | (with_reducible exact Below.refl _ _) | (with_reducible assumption) | (with_reducible refine Below.alloc ?_ ?_ _) | (with_reducible refine below_ext ?_ ?_ _ _) | (with_reducible refine Below.setCell ?_ ?_ _) | (with_reducible refine Below.drew ?_) | (with_reducible refine below_drewN ?_ _))); all_goals (first | omega | (simp; done) | (simp; omega)))⟩
theorem eqCellMap_yes (w : World) (A B : Option Addr) (n c c' lo hi lo' hi' : Nat) (l : List (Int × List Int)) (hr : Nd2 .i64 w lo hi A n l) (hr' : Nd2 .i64 w lo' hi' B n l) (hn : n ≤ 9223372036854775807) :
    Calls Try.prog 14 #[.agg #[.slice A n c], .agg #[.slice B n c']] w fun e w' => e = .returned (.bool true) ∧ Below w.heap.size w w' := by
  go_enter Try.func14, Try.ntmps14
  go_wp2_with (go_at_call 37; refine (eqCellS_yes _ _ _ _ _ _ _ _ _ _ l (hr.below' (by (repeat' (first | (with_reducible exact Below.refl _ _) | (with_reducible assumption) | (with_reducible refine Below.alloc ?_ ?_ _) | (with_reducible refine below_ext ?_ ?_ _ _) | (with_reducible refine Below.setCell ?_ ?_ _) | (with_reducible refine Below.drew ?_) | (with_reducible refine below_drewN ?_ _))); all_goals (first | omega | (simp; done) | (simp; omega)))) (hr'.below' (by (repeat' (first | (with_reducible exact Below.refl _ _) | (with_reducible assumption) | (with_reducible refine Below.alloc ?_ ?_ _) | (with_reducible refine below_ext ?_ ?_ _ _) | (with_reducible refine Below.setCell ?_ ?_ _) | (with_reducible refine Below.drew ?_) | (with_reducible refine below_drewN ?_ _))); all_goals (first | omega | (simp; done) | (simp; omega)))) hn).mono ?_; rintro e w1 ⟨rfl, hb1⟩; obtain ⟨os1, d1, rfl⟩ := ext_of_below hb1; clear hb1)
  go_ret
  exact ⟨rfl, (by (repeat' (first | (with_reducible exact Below.refl _ _) | (with_reducible assumption) | (with_reducible refine Below.alloc ?_ ?_ _) | (with_reducible refine below_ext ?_ ?_ _ _) | (with_reducible refine Below.setCell ?_ ?_ _) | (with_reducible refine Below.drew ?_) | (with_reducible refine below_drewN ?_ _))); all_goals (first | omega | (simp; done) | (simp; omega)))⟩
end Go.Proofs.Ytcndocopecnohaa
