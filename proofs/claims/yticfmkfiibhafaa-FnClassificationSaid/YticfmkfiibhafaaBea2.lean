/- RemoveBearer and ClassifyPort. -/
import Derived.Test.YticfmkfiibhafaaBea
import Derived.Test.YticfmkfiibhafaaApp
namespace Go.Proofs.Yticfmkfiibhafaa
open Go.RowKit Go.Sep

def fRem (id : Int) : Int × Int × Int → Option (Int × Int × Int) := fun t => if (t.1 == id) = true then none else some t
theorem fRem_1 {x0 x1 x2 id : Int} (h : (x0 == id) = true) : fRem id (x0, x1, x2) = none := by simp [fRem, h]
theorem fRem_2 {x0 x1 x2 id : Int} (h : (x0 == id) = false) : fRem id (x0, x1, x2) = some (x0, x1, x2) := by simp [fRem, h]
set_option maxRecDepth 100000 in
theorem iRem_any (w : World) (A : Option Addr) (n c lo hi : Nat) (l : List (Int × Int × Int)) (id : Int) (hr : Rd w lo hi 3 A n (l.flatMap c3)) (hn : n ≤ 1048576) :
    Calls Try.prog 35 #[.slice A n c, .int .i64 id] w (Mk w 46 3 (l.filterMap (fRem id)).length ((l.filterMap (fRem id)).flatMap c3)) := by
  have hll := hr.len3
  obtain ⟨i0, hi0, hz0, hz1, hz2⟩ := info_parts infoBearer
  have hown : Own (w.alloc (.cells #[] 46)) w.heap.size (w.alloc (.cells #[] 46)).heap.size 46 3 (.slice (some ⟨w.heap.size, 0, none⟩) 0 0) 0 ([].flatMap c3) := by
    simpa using Own.fresh w #[] 46 3 0 rfl (by unfold maxLen; omega)
  go_enter Try.func35, Try.ntmps35
  go_wp2_with fail
  go_loopw [5, 11] (fun q i wr => ∃ (k m : Nat) (A' : Option Addr) (c' : Nat) (acc : List (Int × Int × Int)), k ≤ n ∧ m ≤ k ∧ i = .int .i64 k ∧ q = .slice A' m c' ∧ Hid (acc.length = m) ∧ Hid (l.filterMap (fRem id) = acc ++ (l.drop k).filterMap (fRem id)) ∧ Own wr w.heap.size wr.heap.size 46 3 (.slice A' m c') m (acc.flatMap c3) ∧ Below w.heap.size w wr) (fun _ i _ => n - (intOf i).toNat)
  case atStart => exact ⟨0, 0, _, 0, [], Nat.zero_le _, Nat.le_refl _, rfl, rfl, hide rfl, hide (by simp), hown, (by (repeat' (first | (with_reducible exact Below.refl _ _) | (with_reducible assumption) | (with_reducible refine Below.alloc ?_ ?_ _) | (with_reducible refine below_ext ?_ ?_ _ _) | (with_reducible refine Below.setCell ?_ ?_ _) | (with_reducible refine Below.drew ?_) | (with_reducible refine below_drewN ?_ _))); all_goals (first | omega | (simp; done) | (simp; omega)))⟩
  case round =>
    obtain ⟨k, m, A', c', acc, hk, hmk, rfl, rfl, HL, HF, hown, hb⟩ := hrel
    by_cases hlt : k < n
    · obtain ⟨b, o, x0, x1, x2, rfl, hx, hc0, hc1, hc2⟩ := (hr.below' hb).at3 hll hlt
      have hbl : b < wr.heap.size := World.block_lt_of_cell? wr _ hc0
      cases he : (x0 == id)
      case true =>
        have HG := hide (HF.out.trans (by rw [fm_miss hx (fRem_1 he)]))
        clear hr HF hx
        have hne : (x0 != id) = false := by simpa using he
        go_wp2_with fail
        go_roundw
        case rel => exact ⟨k + 1, m, A', c', acc, by omega, by omega, by go_num, rfl, HL, HG, (hown.below' (by (repeat' (first | (with_reducible exact Below.refl _ _) | (with_reducible assumption) | (with_reducible refine Below.alloc ?_ ?_ _) | (with_reducible refine below_ext ?_ ?_ _ _) | (with_reducible refine Below.setCell ?_ ?_ _) | (with_reducible refine Below.drew ?_) | (with_reducible refine below_drewN ?_ _))); all_goals (first | omega | (simp; done) | (simp; omega)))).more (Nat.le_refl _) (by first | omega | (simp <;> omega)), below_then (B' := wr.heap.size) hb (by (repeat' (first | (with_reducible exact Below.refl _ _) | (with_reducible assumption) | (with_reducible refine Below.alloc ?_ ?_ _) | (with_reducible refine below_ext ?_ ?_ _ _) | (with_reducible refine Below.setCell ?_ ?_ _) | (with_reducible refine Below.drew ?_) | (with_reducible refine below_drewN ?_ _))); all_goals (first | omega | (simp; done) | (simp; omega))) hb.size⟩
        case measure => simp [intOf] <;> omega
      case false =>
        have HG := hide (HF.out.trans (by rw [fm_hit hx (fRem_2 he)]; simp : _ = (acc ++ [(x0, x1, x2)]) ++ (l.drop (k + 1)).filterMap (fRem id)))
        clear hr HF hx
        have hne : (x0 != id) = true := by simpa using he
        have hfr : Rd ((wr.alloc (.cells #[.int .i64 x0, .int .i64 x1, .int .i64 x2] 46)).alloc (.cells #[.int .i64 x0, .int .i64 x1, .int .i64 x2] 46)) (wr.heap.size + 1) (wr.heap.size + 1 + 1) 3 (some ⟨wr.heap.size + 1, 0, none⟩) 1 [.int .i64 x0, .int .i64 x1, .int .i64 x2] := by simpa using Rd.fresh (wr.alloc (.cells #[.int .i64 x0, .int .i64 x1, .int .i64 x2] 46)) #[.int .i64 x0, .int .i64 x1, .int .i64 x2] 46 3 1 rfl
        go_wp2_with (at_builtin; refine wpList_app _ rfl (.tmp 19) (.tmp 21) 25 rfl 46 i0 (.agg #[.int .i64 0, .int .i64 0, .int .i64 0]) 3 24 w.heap.size wr.heap.size (wr.heap.size + 1) (wr.heap.size + 1 + 1) Try.underlying25 hi0 hz0 hz1 hz2 rfl (by omega) _ m _ rfl ((hown.alloc _).alloc _) _ 1 1 _ rfl hfr (by simp [Value.oneCell']) (by unfold maxLen; omega) (by omega) (by have := hb.size; simp; omega) (by simp <;> omega) ?_; intro A4 c4 w4 hown4 hc4 hm4 hch4)
        have hb4 : Below w.heap.size w w4 := below_then hb (((((Chg.refl w.heap.size wr.heap.size wr).alloc _).alloc _).trans hch4).below (Nat.le_refl _) hb.size) (Nat.le_refl _)
        have hown5 : Own w4 w.heap.size w4.heap.size 46 3 (.slice A4 (m + 1) c4) (m + 1) ((acc ++ [(x0, x1, x2)]).flatMap c3) := by simpa [c2, c3] using hown4
        clear hown hown4 hch4 hb hfr
        go_wp2_with fail
        go_roundw
        case rel => exact ⟨k + 1, m + 1, _, _, acc ++ [(x0, x1, x2)], by omega, by omega, by go_num, rfl, hide (by simp [HL.out]), HG, hown5, hb4⟩
        case measure => simp [intOf] <;> omega
    · obtain rfl : k = n := by omega
      have HG := hide (HF.out.trans (by rw [List.drop_eq_nil_of_le (by omega)]; simp : _ = acc))
      clear HF
      go_wp2_with fail
      go_ret
      rw [HG.out, HL.out]
      exact Mk.of_own hown hb (Nat.le_refl _)
set_option maxRecDepth 100000 in
theorem sRem_any (w : World) (A : Option Addr) (n c lo hi : Nat) (l : List (Int × Int × Int)) (id : Int) (hr : Rd w lo hi 3 A n (l.flatMap c3)) (hn : n ≤ 1048576) :
    Calls Try.prog 34 #[.slice A n c, .int .i64 id] w (Mk w 46 3 (l.filterMap (fRem id)).length ((l.filterMap (fRem id)).flatMap c3)) := by
  have hll := hr.len3
  obtain ⟨i0, hi0, hz0, hz1, hz2⟩ := info_parts infoBearer
  have hown : Own (w.alloc (.cells #[] 46)) w.heap.size (w.alloc (.cells #[] 46)).heap.size 46 3 (.slice (some ⟨w.heap.size, 0, none⟩) 0 0) 0 ([].flatMap c3) := by
    simpa using Own.fresh w #[] 46 3 0 rfl (by unfold maxLen; omega)
  go_enter Try.func34, Try.ntmps34
  go_wp2_with fail
  go_loopw [5, 6] (fun q i wr => ∃ (k m : Nat) (A' : Option Addr) (c' : Nat) (acc : List (Int × Int × Int)), k ≤ n ∧ m ≤ k ∧ i = .int .i64 k ∧ q = .slice A' m c' ∧ Hid (acc.length = m) ∧ Hid (l.filterMap (fRem id) = acc ++ (l.drop k).filterMap (fRem id)) ∧ Own wr w.heap.size wr.heap.size 46 3 (.slice A' m c') m (acc.flatMap c3) ∧ Below w.heap.size w wr) (fun _ i _ => n - (intOf i).toNat)
  case atStart => exact ⟨0, 0, _, 0, [], Nat.zero_le _, Nat.le_refl _, rfl, rfl, hide rfl, hide (by simp), hown, (by (repeat' (first | (with_reducible exact Below.refl _ _) | (with_reducible assumption) | (with_reducible refine Below.alloc ?_ ?_ _) | (with_reducible refine below_ext ?_ ?_ _ _) | (with_reducible refine Below.setCell ?_ ?_ _) | (with_reducible refine Below.drew ?_) | (with_reducible refine below_drewN ?_ _))); all_goals (first | omega | (simp; done) | (simp; omega)))⟩
  case round =>
    obtain ⟨k, m, A', c', acc, hk, hmk, rfl, rfl, HL, HF, hown, hb⟩ := hrel
    by_cases hlt : k < n
    · obtain ⟨b, o, x0, x1, x2, rfl, hx, hc0, hc1, hc2⟩ := (hr.below' hb).at3 hll hlt
      have hbl : b < wr.heap.size := World.block_lt_of_cell? wr _ hc0
      cases he : (x0 == id)
      case true =>
        have HG := hide (HF.out.trans (by rw [fm_miss hx (fRem_1 he)]))
        clear hr HF hx
        have hne : (x0 != id) = false := by simpa using he
        go_wp2_with fail
        go_roundw
        case rel => exact ⟨k + 1, m, A', c', acc, by omega, by omega, by go_num, rfl, HL, HG, (hown.below' (by (repeat' (first | (with_reducible exact Below.refl _ _) | (with_reducible assumption) | (with_reducible refine Below.alloc ?_ ?_ _) | (with_reducible refine below_ext ?_ ?_ _ _) | (with_reducible refine Below.setCell ?_ ?_ _) | (with_reducible refine Below.drew ?_) | (with_reducible refine below_drewN ?_ _))); all_goals (first | omega | (simp; done) | (simp; omega)))).more (Nat.le_refl _) (by first | omega | (simp <;> omega)), below_then (B' := wr.heap.size) hb (by (repeat' (first | (with_reducible exact Below.refl _ _) | (with_reducible assumption) | (with_reducible refine Below.alloc ?_ ?_ _) | (with_reducible refine below_ext ?_ ?_ _ _) | (with_reducible refine Below.setCell ?_ ?_ _) | (with_reducible refine Below.drew ?_) | (with_reducible refine below_drewN ?_ _))); all_goals (first | omega | (simp; done) | (simp; omega))) hb.size⟩
        case measure => simp [intOf] <;> omega
      case false =>
        have HG := hide (HF.out.trans (by rw [fm_hit hx (fRem_2 he)]; simp : _ = (acc ++ [(x0, x1, x2)]) ++ (l.drop (k + 1)).filterMap (fRem id)))
        clear hr HF hx
        have hne : (x0 != id) = true := by simpa using he
        have hfr : Rd (wr.alloc (.cells #[.int .i64 x0, .int .i64 x1, .int .i64 x2] 46)) (wr.heap.size) (wr.heap.size + 1) 3 (some ⟨wr.heap.size, 0, none⟩) 1 [.int .i64 x0, .int .i64 x1, .int .i64 x2] := by simpa using Rd.fresh wr #[.int .i64 x0, .int .i64 x1, .int .i64 x2] 46 3 1 rfl
        go_wp2_with (at_builtin; refine wpList_app _ rfl (.tmp 21) (.tmp 26) 25 rfl 46 i0 (.agg #[.int .i64 0, .int .i64 0, .int .i64 0]) 3 24 w.heap.size wr.heap.size (wr.heap.size) (wr.heap.size + 1) Try.underlying25 hi0 hz0 hz1 hz2 rfl (by omega) _ m _ rfl (hown.alloc _) _ 1 1 _ rfl hfr (by simp [Value.oneCell']) (by unfold maxLen; omega) (by omega) (by have := hb.size; simp; omega) (by simp <;> omega) ?_; intro A4 c4 w4 hown4 hc4 hm4 hch4)
        have hb4 : Below w.heap.size w w4 := below_then hb ((((Chg.refl w.heap.size wr.heap.size wr).alloc _).trans hch4).below (Nat.le_refl _) hb.size) (Nat.le_refl _)
        have hown5 : Own w4 w.heap.size w4.heap.size 46 3 (.slice A4 (m + 1) c4) (m + 1) ((acc ++ [(x0, x1, x2)]).flatMap c3) := by simpa [c2, c3] using hown4
        clear hown hown4 hch4 hb hfr
        go_wp2_with fail
        go_roundw
        case rel => exact ⟨k + 1, m + 1, _, _, acc ++ [(x0, x1, x2)], by omega, by omega, by go_num, rfl, hide (by simp [HL.out]), HG, hown5, hb4⟩
        case measure => simp [intOf] <;> omega
    · obtain rfl : k = n := by omega
      have HG := hide (HF.out.trans (by rw [List.drop_eq_nil_of_le (by omega)]; simp : _ = acc))
      clear HF
      go_wp2_with fail
      go_ret
      rw [HG.out, HL.out]
      exact Mk.of_own hown hb (Nat.le_refl _)
theorem fm_len {α β : Type} (f : α → Option β) (l : List α) : (l.filterMap f).length ≤ l.length := List.length_filterMap_le f l
theorem rem_both (n0 : Nat) (l0 : List (Int × Int × Int)) (a1 : Int) (hm : n0 ≤ 1048576) (hl : l0.length = n0) : ∃ (N : Nat) (e : List (Int × Int × Int)), N ≤ 1048576 ∧
    (∀ (W : World) (A : Option Addr) (c lo hi : Nat), Rd W lo hi 3 A n0 (l0.flatMap c3) → Calls Try.prog 34 #[.slice A n0 c, .int .i64 a1] W (Mk W 46 3 N (e.flatMap c3))) ∧
    (∀ (W : World) (A : Option Addr) (c lo hi : Nat), Rd W lo hi 3 A n0 (l0.flatMap c3) → Calls Try.prog 35 #[.slice A n0 c, .int .i64 a1] W (Mk W 46 3 N (e.flatMap c3))) :=
  ⟨_, l0.filterMap (fRem a1), by have := fm_len (fRem a1) l0; omega, fun W A c lo hi h => sRem_any W A n0 c lo hi l0 a1 h hm, fun W A c lo hi h => iRem_any W A n0 c lo hi l0 a1 h hm⟩
/-- The bearer of a packet that no filter names. -/
def fb (lb : List (Int × Int × Int)) : Int := match lb[0]? with
  | none => 0
  | some x => x.1
def cls (lf lb : List (Int × Int × Int)) (p : Int) : Int := if fidx (inF p) 0 lf = -1 then fb lb else match lf[(fidx (inF p) 0 lf).toNat]? with
  | none => fb lb
  | some f => if fidx (isId f.2.2) 0 lb = -1 then fb lb else f.2.2
theorem cls_0 {lf lb : List (Int × Int × Int)} {p : Int} (h : fidx (inF p) 0 lf = -1) : cls lf lb p = fb lb := by rw [cls, if_pos h]
theorem cls_1 {lf lb : List (Int × Int × Int)} {p : Int} {i : Nat} {x y z : Int} (h : fidx (inF p) 0 lf = (i : Int)) (hx : lf[i]? = some (x, y, z)) (h2 : fidx (isId z) 0 lb = -1) : cls lf lb p = fb lb := by
  rw [cls, if_neg (by omega), h, Int.toNat_natCast, hx]; simp only; rw [if_pos h2]
theorem cls_2 {lf lb : List (Int × Int × Int)} {p : Int} {i j : Nat} {x y z : Int} (h : fidx (inF p) 0 lf = (i : Int)) (hx : lf[i]? = some (x, y, z)) (h2 : fidx (isId z) 0 lb = (j : Int)) : cls lf lb p = z := by
  rw [cls, if_neg (by omega), h, Int.toNat_natCast, hx]; simp only; rw [if_neg (by omega)]
theorem fidx0 {α : Type} (p : α → Bool) (l : List α) : fidx p 0 l = -1 ∨ ∃ (i : Nat) (x : α), fidx p 0 l = (i : Int) ∧ l[i]? = some x := by
  rcases fidx_cases p l 0 with h | ⟨i, x, h1, h2, _⟩
  · exact .inl h
  · exact .inr ⟨i, x, by rw [h1, Nat.zero_add], h2⟩
theorem fb_0 {lb : List (Int × Int × Int)} (h : lb.length = 0) : fb lb = 0 := by rw [fb, List.getElem?_eq_none (by omega)]
theorem fb_1 {lb : List (Int × Int × Int)} {x y z : Int} (h : lb[0]? = some (x, y, z)) : fb lb = x := by rw [fb, h]
set_option maxRecDepth 100000 in
theorem iClassifyPort_any (w : World) (A0 : Option Addr) (n0 d0 lo0 hi0 : Nat) (l0 : List (Int × Int × Int)) (A1 : Option Addr) (n1 d1 lo1 hi1 : Nat) (l1 : List (Int × Int × Int)) (p : Int) (hr0 : Rd w lo0 hi0 3 A0 n0 (l0.flatMap c3)) (hn0 : n0 ≤ 1048576) (hr1 : Rd w lo1 hi1 3 A1 n1 (l1.flatMap c3)) (hn1 : n1 ≤ 1048576) :
    Calls Try.prog 47 #[.slice A0 n0 d0, .slice A1 n1 d1, .int .i64 p] w fun e w' => e = .returned (.int .i64 (cls l0 l1 p)) ∧ Below w.heap.size w w' := by
  have hl0 := hr0.len3
  have hl1 := hr1.len3
  have HM := hide (fun W h => iMatchFilter_any W A0 n0 d0 lo0 hi0 l0 p h hn0)
  rcases fidx0 (inF p) l0 with h0 | ⟨i, ⟨x, y, z⟩, h0, hx⟩
  · have HR := hide (cls_0 (lb := l1) h0)
    rw [h0] at HM
    clear h0
    by_cases hz : n1 = 0
    · subst hz
      have HR2 := hide (HR.out.trans (fb_0 hl1))
      clear hl1
      go_enter Try.func47, Try.ntmps47
      go_wp2_with (go_at_call 26; refine (unhide HM _ (hr0.below' (by (repeat' (first | (with_reducible exact Below.refl _ _) | (with_reducible assumption) | (with_reducible refine Below.alloc ?_ ?_ _) | (with_reducible refine below_ext ?_ ?_ _ _) | (with_reducible refine Below.setCell ?_ ?_ _) | (with_reducible refine Below.drew ?_) | (with_reducible refine below_drewN ?_ _))); all_goals (first | omega | (simp; done) | (simp; omega))))).mono ?_; rintro e w1 ⟨rfl, hb1⟩; obtain ⟨os1, d1, rfl⟩ := ext_of_below hb1; clear hb1)
      go_ret
      exact ⟨ret_int HR2.out.symm, (by (repeat' (first | (with_reducible exact Below.refl _ _) | (with_reducible assumption) | (with_reducible refine Below.alloc ?_ ?_ _) | (with_reducible refine below_ext ?_ ?_ _ _) | (with_reducible refine Below.setCell ?_ ?_ _) | (with_reducible refine Below.drew ?_) | (with_reducible refine below_drewN ?_ _))); all_goals (first | omega | (simp; done) | (simp; omega)))⟩
    · obtain ⟨b1, o1, u0, u1, u2, rfl, hu, g0, g1, g2⟩ := hr1.at3 hl1 (show 0 < n1 by omega)
      have HR2 := hide (HR.out.trans (fb_1 hu))
      have hz1 : ((n1 : Int) == 0) = false := by simp; omega
      have hz2 : (0 : Int) < (n1 : Int) := by omega
      have hbl1 : b1 < w.heap.size := World.block_lt_of_cell? w _ g0
      simp only [Nat.zero_mul, Nat.add_zero] at g0 g1 g2
      clear hu hl1 hz
      go_enter Try.func47, Try.ntmps47
      go_wp2_with (go_at_call 26; refine (unhide HM _ (hr0.below' (by (repeat' (first | (with_reducible exact Below.refl _ _) | (with_reducible assumption) | (with_reducible refine Below.alloc ?_ ?_ _) | (with_reducible refine below_ext ?_ ?_ _ _) | (with_reducible refine Below.setCell ?_ ?_ _) | (with_reducible refine Below.drew ?_) | (with_reducible refine below_drewN ?_ _))); all_goals (first | omega | (simp; done) | (simp; omega))))).mono ?_; rintro e w1 ⟨rfl, hb1⟩; obtain ⟨os1, d1, rfl⟩ := ext_of_below hb1; clear hb1)
      go_ret
      exact ⟨ret_int HR2.out.symm, (by (repeat' (first | (with_reducible exact Below.refl _ _) | (with_reducible assumption) | (with_reducible refine Below.alloc ?_ ?_ _) | (with_reducible refine below_ext ?_ ?_ _ _) | (with_reducible refine Below.setCell ?_ ?_ _) | (with_reducible refine Below.drew ?_) | (with_reducible refine below_drewN ?_ _))); all_goals (first | omega | (simp; done) | (simp; omega)))⟩
  · have hi : i < n0 := by have := (List.getElem?_eq_some_iff.1 hx).1; omega
    have hi2 : (i : Int) < (n0 : Int) := by omega
    have hi3 : decide ((0 : Int) ≤ (i : Int)) = true := by simp
    obtain ⟨b0, o0, x', y', z', hA0, hx', hc0, hc1, hc2⟩ := hr0.at3 hl0 hi
    rw [hx] at hx'
    obtain ⟨rfl, rfl, rfl⟩ : x = x' ∧ y = y' ∧ z = z' := by simpa using hx'
    subst hA0
    have hbl0 : b0 < w.heap.size := World.block_lt_of_cell? w _ hc0
    have HB := hide (fun W h => iFindBearer_any W A1 n1 d1 lo1 hi1 l1 z h hn1)
    rw [h0] at HM
    rcases fidx0 (isId z) l1 with h1 | ⟨j, u, h1, hu⟩
    · have HR := hide (cls_1 h0 hx h1)
      rw [h1] at HB
      clear h0 h1 hx hx'
      by_cases hz : n1 = 0
      · subst hz
        have HR2 := hide (HR.out.trans (fb_0 hl1))
        clear hl1
        go_enter Try.func47, Try.ntmps47
        go_wp2_with (first | (go_at_call 26; refine (unhide HM _ (hr0.below' (by (repeat' (first | (with_reducible exact Below.refl _ _) | (with_reducible assumption) | (with_reducible refine Below.alloc ?_ ?_ _) | (with_reducible refine below_ext ?_ ?_ _ _) | (with_reducible refine Below.setCell ?_ ?_ _) | (with_reducible refine Below.drew ?_) | (with_reducible refine below_drewN ?_ _))); all_goals (first | omega | (simp; done) | (simp; omega))))).mono ?_; rintro e w1 ⟨rfl, hb1⟩; obtain ⟨os1, d1, rfl⟩ := ext_of_below hb1; clear hb1) | (go_at_call 22; refine (unhide HB _ (hr1.below' (by (repeat' (first | (with_reducible exact Below.refl _ _) | (with_reducible assumption) | (with_reducible refine Below.alloc ?_ ?_ _) | (with_reducible refine below_ext ?_ ?_ _ _) | (with_reducible refine Below.setCell ?_ ?_ _) | (with_reducible refine Below.drew ?_) | (with_reducible refine below_drewN ?_ _))); all_goals (first | omega | (simp; done) | (simp; omega))))).mono ?_; rintro e w2 ⟨rfl, hb2⟩; obtain ⟨os2, d2, rfl⟩ := ext_of_below hb2; clear hb2))
        go_ret
        exact ⟨ret_int HR2.out.symm, (by (repeat' (first | (with_reducible exact Below.refl _ _) | (with_reducible assumption) | (with_reducible refine Below.alloc ?_ ?_ _) | (with_reducible refine below_ext ?_ ?_ _ _) | (with_reducible refine Below.setCell ?_ ?_ _) | (with_reducible refine Below.drew ?_) | (with_reducible refine below_drewN ?_ _))); all_goals (first | omega | (simp; done) | (simp; omega)))⟩
      · obtain ⟨b1, o1, u0, u1, u2, rfl, hu, g0, g1, g2⟩ := hr1.at3 hl1 (show 0 < n1 by omega)
        have HR2 := hide (HR.out.trans (fb_1 hu))
        have hz1 : ((n1 : Int) == 0) = false := by simp; omega
        have hz2 : (0 : Int) < (n1 : Int) := by omega
        have hbl1 : b1 < w.heap.size := World.block_lt_of_cell? w _ g0
        simp only [Nat.zero_mul, Nat.add_zero] at g0 g1 g2
        clear hu hl1 hz
        go_enter Try.func47, Try.ntmps47
        go_wp2_with (first | (go_at_call 26; refine (unhide HM _ (hr0.below' (by (repeat' (first | (with_reducible exact Below.refl _ _) | (with_reducible assumption) | (with_reducible refine Below.alloc ?_ ?_ _) | (with_reducible refine below_ext ?_ ?_ _ _) | (with_reducible refine Below.setCell ?_ ?_ _) | (with_reducible refine Below.drew ?_) | (with_reducible refine below_drewN ?_ _))); all_goals (first | omega | (simp; done) | (simp; omega))))).mono ?_; rintro e w1 ⟨rfl, hb1⟩; obtain ⟨os1, d1, rfl⟩ := ext_of_below hb1; clear hb1) | (go_at_call 22; refine (unhide HB _ (hr1.below' (by (repeat' (first | (with_reducible exact Below.refl _ _) | (with_reducible assumption) | (with_reducible refine Below.alloc ?_ ?_ _) | (with_reducible refine below_ext ?_ ?_ _ _) | (with_reducible refine Below.setCell ?_ ?_ _) | (with_reducible refine Below.drew ?_) | (with_reducible refine below_drewN ?_ _))); all_goals (first | omega | (simp; done) | (simp; omega))))).mono ?_; rintro e w2 ⟨rfl, hb2⟩; obtain ⟨os2, d2, rfl⟩ := ext_of_below hb2; clear hb2))
        go_ret
        exact ⟨ret_int HR2.out.symm, (by (repeat' (first | (with_reducible exact Below.refl _ _) | (with_reducible assumption) | (with_reducible refine Below.alloc ?_ ?_ _) | (with_reducible refine below_ext ?_ ?_ _ _) | (with_reducible refine Below.setCell ?_ ?_ _) | (with_reducible refine Below.drew ?_) | (with_reducible refine below_drewN ?_ _))); all_goals (first | omega | (simp; done) | (simp; omega)))⟩
    · have HR := hide (cls_2 h0 hx h1)
      have hj3 : decide ((0 : Int) ≤ (j : Int)) = true := by simp
      rw [h1] at HB
      clear h0 h1 hx hx' hu
      go_enter Try.func47, Try.ntmps47
      go_wp2_with (first | (go_at_call 26; refine (unhide HM _ (hr0.below' (by (repeat' (first | (with_reducible exact Below.refl _ _) | (with_reducible assumption) | (with_reducible refine Below.alloc ?_ ?_ _) | (with_reducible refine below_ext ?_ ?_ _ _) | (with_reducible refine Below.setCell ?_ ?_ _) | (with_reducible refine Below.drew ?_) | (with_reducible refine below_drewN ?_ _))); all_goals (first | omega | (simp; done) | (simp; omega))))).mono ?_; rintro e w1 ⟨rfl, hb1⟩; obtain ⟨os1, d1, rfl⟩ := ext_of_below hb1; clear hb1) | (go_at_call 22; refine (unhide HB _ (hr1.below' (by (repeat' (first | (with_reducible exact Below.refl _ _) | (with_reducible assumption) | (with_reducible refine Below.alloc ?_ ?_ _) | (with_reducible refine below_ext ?_ ?_ _ _) | (with_reducible refine Below.setCell ?_ ?_ _) | (with_reducible refine Below.drew ?_) | (with_reducible refine below_drewN ?_ _))); all_goals (first | omega | (simp; done) | (simp; omega))))).mono ?_; rintro e w2 ⟨rfl, hb2⟩; obtain ⟨os2, d2, rfl⟩ := ext_of_below hb2; clear hb2))
      go_ret
      exact ⟨ret_int HR.out.symm, (by (repeat' (first | (with_reducible exact Below.refl _ _) | (with_reducible assumption) | (with_reducible refine Below.alloc ?_ ?_ _) | (with_reducible refine below_ext ?_ ?_ _ _) | (with_reducible refine Below.setCell ?_ ?_ _) | (with_reducible refine Below.drew ?_) | (with_reducible refine below_drewN ?_ _))); all_goals (first | omega | (simp; done) | (simp; omega)))⟩
set_option maxRecDepth 100000 in
theorem sClassifyPort_any (w : World) (A0 : Option Addr) (n0 d0 lo0 hi0 : Nat) (l0 : List (Int × Int × Int)) (A1 : Option Addr) (n1 d1 lo1 hi1 : Nat) (l1 : List (Int × Int × Int)) (p : Int) (hr0 : Rd w lo0 hi0 3 A0 n0 (l0.flatMap c3)) (hn0 : n0 ≤ 1048576) (hr1 : Rd w lo1 hi1 3 A1 n1 (l1.flatMap c3)) (hn1 : n1 ≤ 1048576) :
    Calls Try.prog 46 #[.slice A0 n0 d0, .slice A1 n1 d1, .int .i64 p] w fun e w' => e = .returned (.int .i64 (cls l0 l1 p)) ∧ Below w.heap.size w w' := by
  have hl0 := hr0.len3
  have hl1 := hr1.len3
  have HM := hide (fun W h => sMatchFilter_any W A0 n0 d0 lo0 hi0 l0 p h hn0)
  rcases fidx0 (inF p) l0 with h0 | ⟨i, ⟨x, y, z⟩, h0, hx⟩
  · have HR := hide (cls_0 (lb := l1) h0)
    rw [h0] at HM
    clear h0
    by_cases hz : n1 = 0
    · subst hz
      have HR2 := hide (HR.out.trans (fb_0 hl1))
      clear hl1
      go_enter Try.func46, Try.ntmps46
      go_wp2_with (go_at_call 24; refine (unhide HM _ (hr0.below' (by (repeat' (first | (with_reducible exact Below.refl _ _) | (with_reducible assumption) | (with_reducible refine Below.alloc ?_ ?_ _) | (with_reducible refine below_ext ?_ ?_ _ _) | (with_reducible refine Below.setCell ?_ ?_ _) | (with_reducible refine Below.drew ?_) | (with_reducible refine below_drewN ?_ _))); all_goals (first | omega | (simp; done) | (simp; omega))))).mono ?_; rintro e w1 ⟨rfl, hb1⟩; obtain ⟨os1, d1, rfl⟩ := ext_of_below hb1; clear hb1)
      go_ret
      exact ⟨ret_int HR2.out.symm, (by (repeat' (first | (with_reducible exact Below.refl _ _) | (with_reducible assumption) | (with_reducible refine Below.alloc ?_ ?_ _) | (with_reducible refine below_ext ?_ ?_ _ _) | (with_reducible refine Below.setCell ?_ ?_ _) | (with_reducible refine Below.drew ?_) | (with_reducible refine below_drewN ?_ _))); all_goals (first | omega | (simp; done) | (simp; omega)))⟩
    · obtain ⟨b1, o1, u0, u1, u2, rfl, hu, g0, g1, g2⟩ := hr1.at3 hl1 (show 0 < n1 by omega)
      have HR2 := hide (HR.out.trans (fb_1 hu))
      have hz1 : ((n1 : Int) == 0) = false := by simp; omega
      have hz2 : (0 : Int) < (n1 : Int) := by omega
      have hbl1 : b1 < w.heap.size := World.block_lt_of_cell? w _ g0
      simp only [Nat.zero_mul, Nat.add_zero] at g0 g1 g2
      clear hu hl1 hz
      go_enter Try.func46, Try.ntmps46
      go_wp2_with (go_at_call 24; refine (unhide HM _ (hr0.below' (by (repeat' (first | (with_reducible exact Below.refl _ _) | (with_reducible assumption) | (with_reducible refine Below.alloc ?_ ?_ _) | (with_reducible refine below_ext ?_ ?_ _ _) | (with_reducible refine Below.setCell ?_ ?_ _) | (with_reducible refine Below.drew ?_) | (with_reducible refine below_drewN ?_ _))); all_goals (first | omega | (simp; done) | (simp; omega))))).mono ?_; rintro e w1 ⟨rfl, hb1⟩; obtain ⟨os1, d1, rfl⟩ := ext_of_below hb1; clear hb1)
      go_ret
      exact ⟨ret_int HR2.out.symm, (by (repeat' (first | (with_reducible exact Below.refl _ _) | (with_reducible assumption) | (with_reducible refine Below.alloc ?_ ?_ _) | (with_reducible refine below_ext ?_ ?_ _ _) | (with_reducible refine Below.setCell ?_ ?_ _) | (with_reducible refine Below.drew ?_) | (with_reducible refine below_drewN ?_ _))); all_goals (first | omega | (simp; done) | (simp; omega)))⟩
  · have hi : i < n0 := by have := (List.getElem?_eq_some_iff.1 hx).1; omega
    have hi2 : (i : Int) < (n0 : Int) := by omega
    have hi3 : decide ((0 : Int) ≤ (i : Int)) = true := by simp
    obtain ⟨b0, o0, x', y', z', hA0, hx', hc0, hc1, hc2⟩ := hr0.at3 hl0 hi
    rw [hx] at hx'
    obtain ⟨rfl, rfl, rfl⟩ : x = x' ∧ y = y' ∧ z = z' := by simpa using hx'
    subst hA0
    have hbl0 : b0 < w.heap.size := World.block_lt_of_cell? w _ hc0
    have HB := hide (fun W h => sFindBearer_any W A1 n1 d1 lo1 hi1 l1 z h hn1)
    rw [h0] at HM
    rcases fidx0 (isId z) l1 with h1 | ⟨j, u, h1, hu⟩
    · have HR := hide (cls_1 h0 hx h1)
      rw [h1] at HB
      clear h0 h1 hx hx'
      by_cases hz : n1 = 0
      · subst hz
        have HR2 := hide (HR.out.trans (fb_0 hl1))
        clear hl1
        go_enter Try.func46, Try.ntmps46
        go_wp2_with (first | (go_at_call 24; refine (unhide HM _ (hr0.below' (by (repeat' (first | (with_reducible exact Below.refl _ _) | (with_reducible assumption) | (with_reducible refine Below.alloc ?_ ?_ _) | (with_reducible refine below_ext ?_ ?_ _ _) | (with_reducible refine Below.setCell ?_ ?_ _) | (with_reducible refine Below.drew ?_) | (with_reducible refine below_drewN ?_ _))); all_goals (first | omega | (simp; done) | (simp; omega))))).mono ?_; rintro e w1 ⟨rfl, hb1⟩; obtain ⟨os1, d1, rfl⟩ := ext_of_below hb1; clear hb1) | (go_at_call 21; refine (unhide HB _ (hr1.below' (by (repeat' (first | (with_reducible exact Below.refl _ _) | (with_reducible assumption) | (with_reducible refine Below.alloc ?_ ?_ _) | (with_reducible refine below_ext ?_ ?_ _ _) | (with_reducible refine Below.setCell ?_ ?_ _) | (with_reducible refine Below.drew ?_) | (with_reducible refine below_drewN ?_ _))); all_goals (first | omega | (simp; done) | (simp; omega))))).mono ?_; rintro e w2 ⟨rfl, hb2⟩; obtain ⟨os2, d2, rfl⟩ := ext_of_below hb2; clear hb2))
        go_ret
        exact ⟨ret_int HR2.out.symm, (by (repeat' (first | (with_reducible exact Below.refl _ _) | (with_reducible assumption) | (with_reducible refine Below.alloc ?_ ?_ _) | (with_reducible refine below_ext ?_ ?_ _ _) | (with_reducible refine Below.setCell ?_ ?_ _) | (with_reducible refine Below.drew ?_) | (with_reducible refine below_drewN ?_ _))); all_goals (first | omega | (simp; done) | (simp; omega)))⟩
      · obtain ⟨b1, o1, u0, u1, u2, rfl, hu, g0, g1, g2⟩ := hr1.at3 hl1 (show 0 < n1 by omega)
        have HR2 := hide (HR.out.trans (fb_1 hu))
        have hz1 : ((n1 : Int) == 0) = false := by simp; omega
        have hz2 : (0 : Int) < (n1 : Int) := by omega
        have hbl1 : b1 < w.heap.size := World.block_lt_of_cell? w _ g0
        simp only [Nat.zero_mul, Nat.add_zero] at g0 g1 g2
        clear hu hl1 hz
        go_enter Try.func46, Try.ntmps46
        go_wp2_with (first | (go_at_call 24; refine (unhide HM _ (hr0.below' (by (repeat' (first | (with_reducible exact Below.refl _ _) | (with_reducible assumption) | (with_reducible refine Below.alloc ?_ ?_ _) | (with_reducible refine below_ext ?_ ?_ _ _) | (with_reducible refine Below.setCell ?_ ?_ _) | (with_reducible refine Below.drew ?_) | (with_reducible refine below_drewN ?_ _))); all_goals (first | omega | (simp; done) | (simp; omega))))).mono ?_; rintro e w1 ⟨rfl, hb1⟩; obtain ⟨os1, d1, rfl⟩ := ext_of_below hb1; clear hb1) | (go_at_call 21; refine (unhide HB _ (hr1.below' (by (repeat' (first | (with_reducible exact Below.refl _ _) | (with_reducible assumption) | (with_reducible refine Below.alloc ?_ ?_ _) | (with_reducible refine below_ext ?_ ?_ _ _) | (with_reducible refine Below.setCell ?_ ?_ _) | (with_reducible refine Below.drew ?_) | (with_reducible refine below_drewN ?_ _))); all_goals (first | omega | (simp; done) | (simp; omega))))).mono ?_; rintro e w2 ⟨rfl, hb2⟩; obtain ⟨os2, d2, rfl⟩ := ext_of_below hb2; clear hb2))
        go_ret
        exact ⟨ret_int HR2.out.symm, (by (repeat' (first | (with_reducible exact Below.refl _ _) | (with_reducible assumption) | (with_reducible refine Below.alloc ?_ ?_ _) | (with_reducible refine below_ext ?_ ?_ _ _) | (with_reducible refine Below.setCell ?_ ?_ _) | (with_reducible refine Below.drew ?_) | (with_reducible refine below_drewN ?_ _))); all_goals (first | omega | (simp; done) | (simp; omega)))⟩
    · have HR := hide (cls_2 h0 hx h1)
      have hj3 : decide ((0 : Int) ≤ (j : Int)) = true := by simp
      rw [h1] at HB
      clear h0 h1 hx hx' hu
      go_enter Try.func46, Try.ntmps46
      go_wp2_with (first | (go_at_call 24; refine (unhide HM _ (hr0.below' (by (repeat' (first | (with_reducible exact Below.refl _ _) | (with_reducible assumption) | (with_reducible refine Below.alloc ?_ ?_ _) | (with_reducible refine below_ext ?_ ?_ _ _) | (with_reducible refine Below.setCell ?_ ?_ _) | (with_reducible refine Below.drew ?_) | (with_reducible refine below_drewN ?_ _))); all_goals (first | omega | (simp; done) | (simp; omega))))).mono ?_; rintro e w1 ⟨rfl, hb1⟩; obtain ⟨os1, d1, rfl⟩ := ext_of_below hb1; clear hb1) | (go_at_call 21; refine (unhide HB _ (hr1.below' (by (repeat' (first | (with_reducible exact Below.refl _ _) | (with_reducible assumption) | (with_reducible refine Below.alloc ?_ ?_ _) | (with_reducible refine below_ext ?_ ?_ _ _) | (with_reducible refine Below.setCell ?_ ?_ _) | (with_reducible refine Below.drew ?_) | (with_reducible refine below_drewN ?_ _))); all_goals (first | omega | (simp; done) | (simp; omega))))).mono ?_; rintro e w2 ⟨rfl, hb2⟩; obtain ⟨os2, d2, rfl⟩ := ext_of_below hb2; clear hb2))
      go_ret
      exact ⟨ret_int HR.out.symm, (by (repeat' (first | (with_reducible exact Below.refl _ _) | (with_reducible assumption) | (with_reducible refine Below.alloc ?_ ?_ _) | (with_reducible refine below_ext ?_ ?_ _ _) | (with_reducible refine Below.setCell ?_ ?_ _) | (with_reducible refine Below.drew ?_) | (with_reducible refine below_drewN ?_ _))); all_goals (first | omega | (simp; done) | (simp; omega)))⟩
end Go.Proofs.Yticfmkfiibhafaa
