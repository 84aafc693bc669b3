/- Cell maps: isCell, AreaOf, AreNeighbors. -/
import Derived.Test.YtcndocopecnohaaNCell
import Derived.Test.YtcndocopecnohaaInt
import Derived.IntWalk
namespace Go.Proofs.Ytcndocopecnohaa
open Go.RowKit Go.Sep

abbrev CM := List (Int × List Int)
/-- The place of a cell, if it is one. -/
theorem cell_cases (n : Nat) (i : Int) : (inR i 0 ((n : Int) - 1) = false ∧ ¬ (0 ≤ i ∧ i < n)) ∨ (∃ k : Nat, i = (k : Int) ∧ k < n ∧ inR i 0 ((n : Int) - 1) = true) := by
  cases h : inR i 0 ((n : Int) - 1)
  · have := inR_false h
    exact .inl ⟨rfl, by omega⟩
  · have := inR_true h
    exact .inr ⟨i.toNat, by omega, by omega, rfl⟩
def areaO (m : CM) (i : Int) : Int := if i < 0 then -1 else match m[i.toNat]? with
  | none => -1
  | some x => x.1
theorem areaO_no {m : CM} {i : Int} {n : Nat} (hl : m.length = n) (h : ¬ (0 ≤ i ∧ i < n)) : areaO m i = -1 := by
  unfold areaO
  split
  · rfl
  · rw [List.getElem?_eq_none (by omega)]
theorem areaO_yes {m : CM} {k : Nat} {x : Int} {s : List Int} (h : m[k]? = some (x, s)) : areaO m (k : Int) = x := by
  unfold areaO
  rw [if_neg (by omega), Int.toNat_natCast, h]
def hasP (b : Int) : Int → Bool := fun x => x == b
def hasI (l : List Int) (b : Int) : Bool := decide (0 ≤ fidx (hasP b) 0 l)
def nbr (m : CM) (a b : Int) : Bool := if a < 0 then false else match m[a.toNat]? with
  | none => false
  | some x => hasI x.2 b
theorem nbr_no {m : CM} {i b : Int} {n : Nat} (hl : m.length = n) (h : ¬ (0 ≤ i ∧ i < n)) : nbr m i b = false := by
  unfold nbr
  split
  · rfl
  · rw [List.getElem?_eq_none (by omega)]
theorem nbr_yes {m : CM} {k : Nat} {x b : Int} {s : List Int} (h : m[k]? = some (x, s)) : nbr m (k : Int) b = hasI s b := by
  unfold nbr
  rw [if_neg (by omega), Int.toNat_natCast, h]
theorem iIsCell_any (w : World) (A : Option Addr) (n c : Nat) (i : Int) (hn : n ≤ 1048576) :
    Calls Try.prog 36 #[.agg #[.slice A n c], .int .i64 i] w fun e w' => e = .returned (.bool (inR i 0 ((n : Int) - 1))) ∧ Below w.heap.size w w' := by
  have HI := hide (fun W => inRange_any i 0 ((n : Int) - 1) W)
  generalize inR i 0 ((n : Int) - 1) = r at HI
  go_enter Try.func36, Try.ntmps36
  go_wp2_with (go_at_call 45; refine (unhide HI _).mono ?_; rintro e w' ⟨rfl, rfl⟩)
  go_ret
  exact ⟨rfl, (by (repeat' (first | (with_reducible exact Below.refl _ _) | (with_reducible assumption) | (with_reducible refine Below.alloc ?_ ?_ _) | (with_reducible refine below_ext ?_ ?_ _ _) | (with_reducible refine Below.setCell ?_ ?_ _) | (with_reducible refine Below.drew ?_) | (with_reducible refine below_drewN ?_ _))); all_goals (first | omega | (simp; done) | (simp; omega)))⟩
theorem iAreaOf_any (w : World) (A : Option Addr) (n c lo hi : Nat) (m : CM) (i : Int) (hr : Nd2 .i64 w lo hi A n m) (hn : n ≤ 1048576) :
    Calls Try.prog 13 #[.agg #[.slice A n c], .int .i64 i] w fun e w' => e = .returned (.int .i64 (areaO m i)) ∧ Below w.heap.size w w' := by
  have hl := hr.len
  have HC := hide (fun W => iIsCell_any W A n c i hn)
  rcases cell_cases n i with ⟨h, h'⟩ | ⟨k, rfl, hk, h⟩
  · rw [h] at HC
    rw [areaO_no hl h']
    clear h h'
    go_enter Try.func13, Try.ntmps13
    go_wp2_with (go_at_call 36; refine (unhide HC _).mono ?_; rintro e w1 ⟨rfl, hb1⟩; obtain ⟨os1, d1, rfl⟩ := ext_of_below hb1; clear hb1)
    go_ret
    exact ⟨rfl, (by (repeat' (first | (with_reducible exact Below.refl _ _) | (with_reducible assumption) | (with_reducible refine Below.alloc ?_ ?_ _) | (with_reducible refine below_ext ?_ ?_ _ _) | (with_reducible refine Below.setCell ?_ ?_ _) | (with_reducible refine Below.drew ?_) | (with_reducible refine below_drewN ?_ _))); all_goals (first | omega | (simp; done) | (simp; omega)))⟩
  · obtain ⟨b, o, x, ⟨sA, sn, sc, sl⟩, rfl, hbl, hx, hx0, hx1, hs⟩ := hr.at_ hk
    rw [h] at HC
    rw [areaO_yes hx]
    have hkn : (k : Int) < (n : Int) := by omega
    clear h hx hr hs
    go_enter Try.func13, Try.ntmps13
    go_wp2_with (go_at_call 36; refine (unhide HC _).mono ?_; rintro e w1 ⟨rfl, hb1⟩; obtain ⟨os1, d1, rfl⟩ := ext_of_below hb1; clear hb1)
    go_ret
    exact ⟨rfl, (by (repeat' (first | (with_reducible exact Below.refl _ _) | (with_reducible assumption) | (with_reducible refine Below.alloc ?_ ?_ _) | (with_reducible refine below_ext ?_ ?_ _ _) | (with_reducible refine Below.setCell ?_ ?_ _) | (with_reducible refine Below.drew ?_) | (with_reducible refine below_drewN ?_ _))); all_goals (first | omega | (simp; done) | (simp; omega)))⟩
theorem sAreaOf_any (w : World) (A : Option Addr) (n c lo hi : Nat) (m : CM) (i : Int) (hr : Nd2 .i64 w lo hi A n m) (hn : n ≤ 1048576) :
    Calls Try.prog 11 #[.agg #[.slice A n c], .int .i64 i] w fun e w' => e = .returned (.int .i64 (areaO m i)) ∧ Below w.heap.size w w' := by
  have hl := hr.len
  have HC := hide (fun W => l1In_any i 0 ((n : Int) - 1) W)
  rcases cell_cases n i with ⟨h, h'⟩ | ⟨k, rfl, hk, h⟩
  · rw [h] at HC
    rw [areaO_no hl h']
    clear h h'
    go_enter Try.func11, Try.ntmps11
    go_wp2_with (go_at_call 34; refine (unhide HC _).mono ?_; rintro e w' ⟨rfl, rfl⟩)
    go_ret
    exact ⟨rfl, (by (repeat' (first | (with_reducible exact Below.refl _ _) | (with_reducible assumption) | (with_reducible refine Below.alloc ?_ ?_ _) | (with_reducible refine below_ext ?_ ?_ _ _) | (with_reducible refine Below.setCell ?_ ?_ _) | (with_reducible refine Below.drew ?_) | (with_reducible refine below_drewN ?_ _))); all_goals (first | omega | (simp; done) | (simp; omega)))⟩
  · obtain ⟨b, o, x, ⟨sA, sn, sc, sl⟩, rfl, hbl, hx, hx0, hx1, hs⟩ := hr.at_ hk
    rw [h] at HC
    rw [areaO_yes hx]
    have hkn : (k : Int) < (n : Int) := by omega
    clear h hx hr hs
    go_enter Try.func11, Try.ntmps11
    go_wp2_with (go_at_call 34; refine (unhide HC _).mono ?_; rintro e w' ⟨rfl, rfl⟩)
    go_ret
    exact ⟨rfl, (by (repeat' (first | (with_reducible exact Below.refl _ _) | (with_reducible assumption) | (with_reducible refine Below.alloc ?_ ?_ _) | (with_reducible refine below_ext ?_ ?_ _ _) | (with_reducible refine Below.setCell ?_ ?_ _) | (with_reducible refine Below.drew ?_) | (with_reducible refine below_drewN ?_ _))); all_goals (first | omega | (simp; done) | (simp; omega)))⟩
/-! ### what a slice holds -/
theorem slIndex_any (w : World) (A : Option Addr) (n c lo hi : Nat) (l : List Int) (v : Int) (hr : Rd w lo hi 1 A n (l.map (.int .i64))) (hn : n ≤ 1048576) :
    Calls Try.prog 52 #[.slice A n c, .int .i64 v] w fun e w' => e = .returned (.int .i64 (fidx (hasP v) 0 l)) ∧ w = w' := by
  have hll : l.length = n := by simpa using hr.len
  go_enter Try.func52, Try.ntmps52
  go_wp2_with fail
  go_loop [8] (fun i => ∃ k : Nat, k ≤ n ∧ i = .int .i64 k ∧ Hid (fidx (hasP v) 0 l = fidx (hasP v) k (l.drop k))) (fun i => n - (intOf i).toNat)
  case atStart => exact ⟨0, Nat.zero_le _, rfl, hide (by simp)⟩
  case round =>
    obtain ⟨k, hk, rfl, HF⟩ := hrel
    by_cases hlt : k < n
    · obtain ⟨b, o, rfl, _, _, hcell⟩ := hr.at_ (j := k) (by omega)
      have hkl : k < l.length := by omega
      have hx := hcell k (.int .i64 l[k]) (by simp [hkl])
      have hg : l[k]? = some l[k] := List.getElem?_eq_getElem hkl
      generalize l[k] = z at hx hg
      clear hcell hr
      cases he : (v == z)
      · have HG := hide (HF.out.trans (fidx_miss hg (by simp [hasP]; intro hh; subst hh; simp at he)))
        clear HF hg
        go_wp2_with fail
        go_round
        case rel => exact ⟨k + 1, by omega, by go_num, HG⟩
        case measure => simp [intOf] <;> omega
      · have HG := hide (HF.out.trans (fidx_hit hg (by simp [hasP]; simp at he; exact he.symm)))
        clear HF hg
        go_wp2_with fail
        go_ret
        exact ⟨ret_int HG.out.symm, rfl⟩
    · obtain rfl : k = n := by omega
      have HG := hide (HF.out.trans (fidx_end hll))
      clear HF
      go_wp2_with fail
      go_ret
      exact ⟨ret_int HG.out.symm, rfl⟩
theorem slContains_any (w : World) (A : Option Addr) (n c lo hi : Nat) (l : List Int) (v : Int) (hr : Rd w lo hi 1 A n (l.map (.int .i64))) (hn : n ≤ 1048576) :
    Calls Try.prog 39 #[.slice A n c, .int .i64 v] w fun e w' => e = .returned (.bool (hasI l v)) ∧ w = w' := by
  have HX := hide (fun W h => slIndex_any W A n c lo hi l v h hn)
  unfold hasI
  generalize fidx (hasP v) 0 l = r at HX
  go_enter Try.func39, Try.ntmps39
  go_wp2_with (go_at_call 52; refine (unhide HX _ hr).mono ?_; rintro e w' ⟨rfl, rfl⟩)
  go_ret
  exact ⟨rfl, rfl⟩
theorem sHas_any (w : World) (A : Option Addr) (n c lo hi : Nat) (l : List Int) (v : Int) (hr : Rd w lo hi 1 A n (l.map (.int .i64))) (hn : n ≤ 1048576) :
    Calls Try.prog 38 #[.slice A n c, .int .i64 v] w fun e w' => e = .returned (.bool (hasI l v)) ∧ w = w' := by
  have hll : l.length = n := by simpa using hr.len
  unfold hasI
  go_enter Try.func38, Try.ntmps38
  go_wp2_with fail
  go_loop [5] (fun i => ∃ k : Nat, k ≤ n ∧ i = .int .i64 k ∧ Hid (fidx (hasP v) 0 l = fidx (hasP v) k (l.drop k))) (fun i => n - (intOf i).toNat)
  case atStart => exact ⟨0, Nat.zero_le _, rfl, hide (by simp)⟩
  case round =>
    obtain ⟨k, hk, rfl, HF⟩ := hrel
    by_cases hlt : k < n
    · obtain ⟨b, o, rfl, _, _, hcell⟩ := hr.at_ (j := k) (by omega)
      have hkl : k < l.length := by omega
      have hx := hcell k (.int .i64 l[k]) (by simp [hkl])
      have hg : l[k]? = some l[k] := List.getElem?_eq_getElem hkl
      generalize l[k] = z at hx hg
      clear hcell hr
      cases he : (z == v)
      · have HG := hide (HF.out.trans (fidx_miss hg he))
        clear HF hg
        go_wp2_with fail
        go_round
        case rel => exact ⟨k + 1, by omega, by go_num, HG⟩
        case measure => simp [intOf] <;> omega
      · have HG := hide (HF.out.trans (fidx_hit hg he))
        clear HF hg
        go_wp2_with fail
        go_ret
        exact ⟨ret_bool (by rw [HG.out]; simp), rfl⟩
    · obtain rfl : k = n := by omega
      have HG := hide (HF.out.trans (fidx_end hll))
      clear HF
      go_wp2_with fail
      go_ret
      exact ⟨ret_bool (by rw [HG.out]; rfl), rfl⟩
set_option maxRecDepth 100000 in
theorem iAreNeighbors_any (w : World) (A : Option Addr) (n c lo hi : Nat) (m : CM) (i b0 : Int) (hr : Nd2 .i64 w lo hi A n m) (hn : n ≤ 1048576) (hs0 : ndSum2 m ≤ 1048576) :
    Calls Try.prog 16 #[.agg #[.slice A n c], .int .i64 i, .int .i64 b0] w fun e w' => e = .returned (.bool (nbr m i b0)) ∧ Below w.heap.size w w' := by
  have hl := hr.len
  have HC := hide (fun W => iIsCell_any W A n c i hn)
  rcases cell_cases n i with ⟨h, h'⟩ | ⟨k, rfl, hk, h⟩
  · rw [h] at HC
    rw [nbr_no hl h']
    clear h h'
    go_enter Try.func16, Try.ntmps16
    go_wp2_with (go_at_call 36; refine (unhide HC _).mono ?_; rintro e w1 ⟨rfl, hb1⟩; obtain ⟨os1, d1, rfl⟩ := ext_of_below hb1; clear hb1)
    go_ret
    exact ⟨rfl, (by (repeat' (first | (with_reducible exact Below.refl _ _) | (with_reducible assumption) | (with_reducible refine Below.alloc ?_ ?_ _) | (with_reducible refine below_ext ?_ ?_ _ _) | (with_reducible refine Below.setCell ?_ ?_ _) | (with_reducible refine Below.drew ?_) | (with_reducible refine below_drewN ?_ _))); all_goals (first | omega | (simp; done) | (simp; omega)))⟩
  · obtain ⟨b, o, x, ⟨sA, sn, sc, sl⟩, rfl, hbl, hx, hx0, hx1, hs⟩ := hr.at_ hk
    obtain rfl : sl.length = sn := by simpa using hs.1.len
    have hsum := ndSum2_le hx
    simp only at hsum
    have HX := hide (fun W h => slContains_any W sA sl.length sc lo hi sl b0 h (by omega))
    rw [h] at HC
    rw [nbr_yes hx]
    generalize hasI sl b0 = r at HX ⊢
    have HRd := hide hs.1
    have hkn : (k : Int) < (n : Int) := by omega
    clear h hx hr hs
    go_enter Try.func16, Try.ntmps16
    go_wp2_with (first | (go_at_call 36; refine (unhide HC _).mono ?_; rintro e w1 ⟨rfl, hb1⟩; obtain ⟨os1, d1, rfl⟩ := ext_of_below hb1; clear hb1) | (go_at_call 39; refine (unhide HX _ (HRd.out.below' (by (repeat' (first | (with_reducible exact Below.refl _ _) | (with_reducible assumption) | (with_reducible refine Below.alloc ?_ ?_ _) | (with_reducible refine below_ext ?_ ?_ _ _) | (with_reducible refine Below.setCell ?_ ?_ _) | (with_reducible refine Below.drew ?_) | (with_reducible refine below_drewN ?_ _))); all_goals (first | omega | (simp; done) | (simp; omega))))).mono ?_; rintro e w' ⟨rfl, rfl⟩))
    go_ret
    exact ⟨rfl, (by (repeat' (first | (with_reducible exact Below.refl _ _) | (with_reducible assumption) | (with_reducible refine Below.alloc ?_ ?_ _) | (with_reducible refine below_ext ?_ ?_ _ _) | (with_reducible refine Below.setCell ?_ ?_ _) | (with_reducible refine Below.drew ?_) | (with_reducible refine below_drewN ?_ _))); all_goals (first | omega | (simp; done) | (simp; omega)))⟩
set_option maxRecDepth 100000 in
theorem sAreNeighbors_any (w : World) (A : Option Addr) (n c lo hi : Nat) (m : CM) (i b0 : Int) (hr : Nd2 .i64 w lo hi A n m) (hn : n ≤ 1048576) (hs0 : ndSum2 m ≤ 1048576) :
    Calls Try.prog 15 #[.agg #[.slice A n c], .int .i64 i, .int .i64 b0] w fun e w' => e = .returned (.bool (nbr m i b0)) ∧ Below w.heap.size w w' := by
  have hl := hr.len
  have HC := hide (fun W => l1In_any i 0 ((n : Int) - 1) W)
  rcases cell_cases n i with ⟨h, h'⟩ | ⟨k, rfl, hk, h⟩
  · rw [h] at HC
    rw [nbr_no hl h']
    clear h h'
    go_enter Try.func15, Try.ntmps15
    go_wp2_with (go_at_call 34; refine (unhide HC _).mono ?_; rintro e w' ⟨rfl, rfl⟩)
    go_ret
    exact ⟨rfl, (by (repeat' (first | (with_reducible exact Below.refl _ _) | (with_reducible assumption) | (with_reducible refine Below.alloc ?_ ?_ _) | (with_reducible refine below_ext ?_ ?_ _ _) | (with_reducible refine Below.setCell ?_ ?_ _) | (with_reducible refine Below.drew ?_) | (with_reducible refine below_drewN ?_ _))); all_goals (first | omega | (simp; done) | (simp; omega)))⟩
  · obtain ⟨b, o, x, ⟨sA, sn, sc, sl⟩, rfl, hbl, hx, hx0, hx1, hs⟩ := hr.at_ hk
    obtain rfl : sl.length = sn := by simpa using hs.1.len
    have hsum := ndSum2_le hx
    simp only at hsum
    have HX := hide (fun W h => sHas_any W sA sl.length sc lo hi sl b0 h (by omega))
    rw [h] at HC
    rw [nbr_yes hx]
    generalize hasI sl b0 = r at HX ⊢
    have HRd := hide hs.1
    have hkn : (k : Int) < (n : Int) := by omega
    clear h hx hr hs
    go_enter Try.func15, Try.ntmps15
    go_wp2_with (first | (go_at_call 34; refine (unhide HC _).mono ?_; rintro e w' ⟨rfl, rfl⟩) | (go_at_call 38; refine (unhide HX _ (HRd.out.below' (by (repeat' (first | (with_reducible exact Below.refl _ _) | (with_reducible assumption) | (with_reducible refine Below.alloc ?_ ?_ _) | (with_reducible refine below_ext ?_ ?_ _ _) | (with_reducible refine Below.setCell ?_ ?_ _) | (with_reducible refine Below.drew ?_) | (with_reducible refine below_drewN ?_ _))); all_goals (first | omega | (simp; done) | (simp; omega))))).mono ?_; rintro e w' ⟨rfl, rfl⟩))
    go_ret
    exact ⟨rfl, (by (repeat' (first | (with_reducible exact Below.refl _ _) | (with_reducible assumption) | (with_reducible refine Below.alloc ?_ ?_ _) | (with_reducible refine below_ext ?_ ?_ _ _) | (with_reducible refine Below.setCell ?_ ?_ _) | (with_reducible refine Below.drew ?_) | (with_reducible refine below_drewN ?_ _))); all_goals (first | omega | (simp; done) | (simp; omega)))⟩
end Go.Proofs.Ytcndocopecnohaa
