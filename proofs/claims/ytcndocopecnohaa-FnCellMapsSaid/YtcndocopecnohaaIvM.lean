/- IsValidMap. -/
import Derived.Test.YtcndocopecnohaaMap
namespace Go.Proofs.Ytcndocopecnohaa
open Go.RowKit Go.Sep

def ascAt (s : List Int) (k : Nat) : Bool := match k with
  | 0 => true
  | j + 1 => match s[j]?, s[j + 1]? with
    | some p, some q => !decide (q ≤ p)
    | _, _ => true
theorem asc_first {s : List Int} : ∀ t, t < 0 + 1 → ascAt s t = true := fun t ht => by
  obtain rfl : t = 0 := by omega
  rfl
def nbI (m : CM) (n : Nat) (i : Int) (s : List Int) (k : Nat) : Bool := match s[k]? with
  | none => true
  | some v => inR v 0 ((n : Int) - 1) && (!(v == i) && nbr m v i)
def nbS (m : CM) (n : Nat) (i : Int) (s : List Int) (k : Nat) : Bool := match s[k]? with
  | none => true
  | some v => inR v 0 ((n : Int) - 1) && (!(v == i) && (ascAt s k && nbr m v i))
def cellOk (m : CM) (n k : Nat) : Bool := match m[k]? with
  | none => true
  | some (x, s) => inR x 0 2 && allOk (nbS m n k s) s.length
def vMap (m : CM) (n : Nat) : Bool := allOk (cellOk m n) n && inR (n : Int) 1 6
section
variable {m : CM} {n k j : Nat} {i x v p q : Int} {s : List Int}
theorem ascAt_s (h : s[j]? = some p) (h' : s[j + 1]? = some q) : ascAt s (j + 1) = !decide (q ≤ p) := by simp only [ascAt, h, h']
theorem nbI_v (h : s[k]? = some v) : nbI m n i s k = (inR v 0 ((n : Int) - 1) && (!(v == i) && nbr m v i)) := by simp only [nbI, h]
theorem nbS_v (h : s[k]? = some v) : nbS m n i s k = (inR v 0 ((n : Int) - 1) && (!(v == i) && (ascAt s k && nbr m v i))) := by simp only [nbS, h]
theorem nbS_eq (m : CM) (n : Nat) (i : Int) (s : List Int) (k : Nat) : nbS m n i s k = (ascAt s k && nbI m n i s k) := by
  unfold nbS nbI
  cases h : s[k]? with
  | none =>
    have ha : ascAt s k = true := by
      rcases k with _ | j
      · rfl
      · unfold ascAt
        simp only [h]
        split <;> simp_all
    simp [ha]
  | some v => cases ascAt s k <;> cases inR v 0 ((n : Int) - 1) <;> cases (v == i) <;> simp
theorem allOk_and (f g : Nat → Bool) (n : Nat) : allOk (fun k => f k && g k) n = (allOk f n && allOk g n) := by
  rw [Bool.eq_iff_iff]
  simp only [allOk, List.all_eq_true, Bool.and_eq_true]
  constructor
  · intro h; exact ⟨fun x hx => (h x hx).1, fun x hx => (h x hx).2⟩
  · rintro ⟨h1, h2⟩ x hx; exact ⟨h1 x hx, h2 x hx⟩
theorem cellOk_s (h : m[k]? = some (x, s)) : cellOk m n k = (inR x 0 2 && allOk (nbS m n k s) s.length) := by simp only [cellOk, h]
theorem cellOk_i (h : m[k]? = some (x, s)) : cellOk m n k = (inR x 0 2 && (allOk (ascAt s) s.length && allOk (nbI m n k s) s.length)) := by
  rw [cellOk_s h, ← allOk_and]
  have e : nbS m n (k : Int) s = fun j => ascAt s j && nbI m n k s j := funext fun j => nbS_eq _ _ _ _ _
  rw [e]
end
set_option maxRecDepth 100000 in
theorem sIsValidMap_any (w : World) (A : Option Addr) (n c lo hi : Nat) (m : CM) (hr : Nd2 .i64 w lo hi A n m) (hn : n ≤ 1048576) (hs0 : ndSum2 m ≤ 1048576) :
    Calls Try.prog 27 #[.agg #[.slice A n c]] w fun e w' => e = .returned (.bool (vMap m n)) ∧ Below w.heap.size w w' := by
  have hl := hr.len
  go_enter Try.func27, Try.ntmps27
  go_wp2_with fail
  go_loopw [3] (fun i wr => ∃ k : Nat, k ≤ n ∧ i = .int .i64 k ∧ Hid (∀ j, j < k → cellOk m n j = true) ∧ Below w.heap.size w wr ∧ w.heap.size < wr.heap.size ∧ wr.cell? ⟨w.heap.size, 0, none⟩ = some (.slice A n c)) (fun i _ => n - (intOf i).toNat)
  case atStart => exact ⟨0, Nat.zero_le _, rfl, hide (fun j hj => absurd hj (by omega)), (by (repeat' (first | (with_reducible exact Below.refl _ _) | (with_reducible assumption) | (with_reducible refine Below.alloc ?_ ?_ _) | (with_reducible refine below_ext ?_ ?_ _ _) | (with_reducible refine Below.setCell ?_ ?_ _) | (with_reducible refine Below.drew ?_) | (with_reducible refine below_drewN ?_ _))); all_goals (first | omega | (simp; done) | (simp; omega))), by simp, World.cell?_alloc_new _ _ _ _⟩
  case round =>
    obtain ⟨k, hk, rfl, HF, hb, hz, hbox⟩ := hrel
    obtain ⟨wo, hwo⟩ : ∃ wo, wo = wr := ⟨_, rfl⟩
    subst hwo
    by_cases hlt : k < n
    · obtain ⟨b, o, x, ⟨sA, sn, sc, sl⟩, rfl, hbl, hx, hx0, hx1, hs⟩ := (hr.below' hb).at_ hlt
      obtain rfl : sl.length = sn := by simpa using hs.1.len
      have hsum := ndSum2_le hx
      simp only at hsum
      have hkn : (k : Int) < (n : Int) := by omega
      have HN := hide (fun h : cellOk m n k = false => show vMap m n = false by unfold vMap; rw [allOk_no hlt h, Bool.false_and])
      have HY := hide (fun h : cellOk m n k = true => lt_next HF.out h)
      have hv := cellOk_s (n := n) hx
      have HS := hide hs.1
      have HI := hide (fun W => l1In_any x 0 2 W)
      clear hs hx HF
      cases hA : inR x 0 2
      · rw [hA] at HI hv
        have HR := hide (HN.out (by rw [hv]; rfl))
        clear HN HY hv hA hr
        go_wp2_with (go_at_call 34; refine (unhide HI _).mono ?_; rintro e w' ⟨rfl, rfl⟩)
        go_ret
        exact ⟨ret_bool HR.out.symm, (by (repeat' (first | (with_reducible exact Below.refl _ _) | (with_reducible assumption) | (with_reducible refine Below.alloc ?_ ?_ _) | (with_reducible refine below_ext ?_ ?_ _ _) | (with_reducible refine Below.setCell ?_ ?_ _) | (with_reducible refine Below.drew ?_) | (with_reducible refine below_drewN ?_ _))); all_goals (first | omega | (simp; done) | (simp; omega)))⟩
      · rw [hA] at HI hv
        rw [Bool.true_and] at hv
        have HV := hide hv
        have HRR := hide hr
        clear hA hv hr
        go_wp2_with (go_at_call 34; refine (unhide HI _).mono ?_; rintro e w' ⟨rfl, rfl⟩)
        clear HI
        go_loopw [5] (fun i wr => ∃ q : Nat, q ≤ sl.length ∧ i = .int .i64 q ∧ Hid (∀ j, j < q → nbS m n k sl j = true) ∧ Below wo.heap.size wo wr ∧ wo.heap.size < wr.heap.size ∧ wr.cell? ⟨wo.heap.size, 0, none⟩ = some (.int .i64 x) ∧ wr.cell? ⟨wo.heap.size, 1, none⟩ = some (.slice sA sl.length sc)) (fun i _ => sl.length - (intOf i).toNat)
        case atStart => exact ⟨0, Nat.zero_le _, rfl, hide (fun j hj => absurd hj (by omega)), (by (repeat' (first | (with_reducible exact Below.refl _ _) | (with_reducible assumption) | (with_reducible refine Below.alloc ?_ ?_ _) | (with_reducible refine below_ext ?_ ?_ _ _) | (with_reducible refine Below.setCell ?_ ?_ _) | (with_reducible refine Below.drew ?_) | (with_reducible refine below_drewN ?_ _))); all_goals (first | omega | (simp; done) | (simp; omega))), by simp, by go_simp, by go_simp⟩
        case round =>
          obtain ⟨q, hq, rfl, HG, hb2, hz2, hc0, hc1⟩ := hrel
          have hbox2 := ((bcell hb2).1 _ 0 hz).trans hbox
          have hb3 : Below w.heap.size w wr := below_then hb hb2 hb.size
          have hsz := hb3.size
          by_cases hqlt : q < sl.length
          · obtain ⟨b2, o2, rfl, _, _, hcell⟩ := (HS.out.below' hb2).at_ (j := q) (by omega)
            have hvq := hcell q (.int .i64 sl[q]) (by simp [hqlt])
            have hg : sl[q]? = some sl[q] := List.getElem?_eq_getElem hqlt
            generalize sl[q] = v at hvq hg
            have hql : (q : Int) < (sl.length : Int) := by omega
            have HN2 := hide (fun h : nbS m n k sl q = false => HN.out (by rw [HV.out, allOk_no hqlt h]))
            have HY2 := hide (fun h : nbS m n k sl q = true => lt_next HG.out h)
            have hw2 := nbS_v (m := m) (n := n) (i := k) hg
            clear HN HY HV HG
            rcases cell_cases n v with ⟨h, h'⟩ | ⟨t, rfl, ht, h⟩
            · have HR := hide (HN2.out (by rw [hw2, h]; rfl))
              have HC := hide (fun W => l1In_any v 0 ((n : Int) - 1) W)
              rw [h] at HC
              clear HN2 HY2 hw2 h h' hcell hg HRR HS
              go_wp2_with (go_at_call 34; refine (unhide HC _).mono ?_; rintro e w' ⟨rfl, rfl⟩)
              go_ret
              exact ⟨ret_bool HR.out.symm, (by (repeat' (first | (with_reducible exact Below.refl _ _) | (with_reducible assumption) | (with_reducible refine Below.alloc ?_ ?_ _) | (with_reducible refine below_ext ?_ ?_ _ _) | (with_reducible refine Below.setCell ?_ ?_ _) | (with_reducible refine Below.drew ?_) | (with_reducible refine below_drewN ?_ _))); all_goals (first | omega | (simp; done) | (simp; omega)))⟩
            · have HC := hide (fun W => l1In_any (t : Int) 0 ((n : Int) - 1) W)
              rw [h] at HC hw2
              rw [Bool.true_and] at hw2
              cases he : ((t : Int) == (k : Int))
              · obtain ⟨b3, o3, x3, ⟨tA, tn, tc, tl⟩, hbo, hbl3, hx3, hy0, hy1, hs3⟩ := (HRR.out.below' hb3).at_ ht
                injection hbo with hbo
                injection hbo with hbo1 hbo2
                subst hbo1 hbo2
                obtain rfl : tl.length = tn := by simpa using hs3.1.len
                have hsum3 := ndSum2_le hx3
                simp only at hsum3
                have HH := hide (sHas_any wr tA tl.length tc lo hi tl k hs3.1 (by omega))
                rw [he, nbr_yes hx3] at hw2
                have htn : (t : Int) < (n : Int) := by omega
                clear h hs3 hx3 HRR HS
                rcases q with _ | j
                · rw [show ascAt sl 0 = true from rfl] at hw2
                  simp only [Nat.add_zero] at hvq
                  clear hcell hg
                  cases hB : hasI tl k
                  all_goals
                    rw [hB] at HH hw2
                    clear hB
                    go_wp2_with (first | (go_at_call 34; refine (unhide HC _).mono ?_; rintro e w' ⟨rfl, rfl⟩) | (go_at_call 38; refine (unhide HH).mono ?_; rintro e w' ⟨rfl, rfl⟩))
                    first
                    | (go_ret; exact ⟨ret_bool (HN2.out (by rw [hw2]; rfl)).symm, (by (repeat' (first | (with_reducible exact Below.refl _ _) | (with_reducible assumption) | (with_reducible refine Below.alloc ?_ ?_ _) | (with_reducible refine below_ext ?_ ?_ _ _) | (with_reducible refine Below.setCell ?_ ?_ _) | (with_reducible refine Below.drew ?_) | (with_reducible refine below_drewN ?_ _))); all_goals (first | omega | (simp; done) | (simp; omega)))⟩)
                    | (go_roundw; (case rel => exact ⟨0 + 1, by omega, by go_num, hide (HY2.out (by rw [hw2]; rfl)), hb2, hz2, hc0, hc1⟩); (case measure => simp [intOf] <;> omega))
                · have hp := hcell j (.int .i64 (sl[j]'(by omega))) (by simp [show j < sl.length by omega])
                  have hgp : sl[j]? = some (sl[j]'(by omega)) := List.getElem?_eq_getElem (by omega)
                  generalize sl[j]'(by omega) = p at hp hgp
                  rw [ascAt_s hgp hg] at hw2
                  have hwj := IntWalk.i64_in (j : Int) (by omega)
                  have hjn : (j : Int) < (sl.length : Int) := by omega
                  clear hcell hg hgp
                  cases hD : decide ((t : Int) ≤ p) <;> cases hB : hasI tl k
                  all_goals
                    rw [hB] at HH
                    rw [hD, hB] at hw2
                    clear hB
                    go_wp2_with (first | (go_at_call 34; refine (unhide HC _).mono ?_; rintro e w' ⟨rfl, rfl⟩) | (go_at_call 38; refine (unhide HH).mono ?_; rintro e w' ⟨rfl, rfl⟩))
                    first
                    | (go_ret; exact ⟨ret_bool (HN2.out (by rw [hw2]; rfl)).symm, (by (repeat' (first | (with_reducible exact Below.refl _ _) | (with_reducible assumption) | (with_reducible refine Below.alloc ?_ ?_ _) | (with_reducible refine below_ext ?_ ?_ _ _) | (with_reducible refine Below.setCell ?_ ?_ _) | (with_reducible refine Below.drew ?_) | (with_reducible refine below_drewN ?_ _))); all_goals (first | omega | (simp; done) | (simp; omega)))⟩)
                    | (go_roundw; (case rel => exact ⟨j + 1 + 1, by omega, by go_num, hide (HY2.out (by rw [hw2]; rfl)), hb2, hz2, hc0, hc1⟩); (case measure => simp [intOf] <;> omega))
              · have HR := hide (HN2.out (by rw [hw2, he]; rfl))
                have hkt : k = t := by simp at he; omega
                subst hkt
                clear HN2 HY2 hw2 h he hcell hg HRR HS
                go_wp2_with (go_at_call 34; refine (unhide HC _).mono ?_; rintro e w' ⟨rfl, rfl⟩)
                go_ret
                exact ⟨ret_bool HR.out.symm, (by (repeat' (first | (with_reducible exact Below.refl _ _) | (with_reducible assumption) | (with_reducible refine Below.alloc ?_ ?_ _) | (with_reducible refine below_ext ?_ ?_ _ _) | (with_reducible refine Below.setCell ?_ ?_ _) | (with_reducible refine Below.drew ?_) | (with_reducible refine below_drewN ?_ _))); all_goals (first | omega | (simp; done) | (simp; omega)))⟩
          · obtain rfl : q = sl.length := by omega
            have HR := hide (HY.out (by rw [HV.out, allOk_yes HG.out]))
            clear HN HY HV HG HRR HS
            go_wp2_with fail
            go_roundw
            case rel => exact ⟨k + 1, by omega, by go_num, hide HR.out, hb3, by omega, hbox2⟩
            case measure => simp [intOf] <;> omega
    · obtain rfl : k = n := by omega
      have HG := hide (show inR (k : Int) 1 6 = vMap m k by unfold vMap; rw [allOk_yes HF.out, Bool.true_and])
      have HI := hide (fun W => l1In_any (k : Int) 1 6 W)
      generalize inR (k : Int) 1 6 = r at HI HG
      clear HF hr
      go_wp2_with (go_at_call 34; refine (unhide HI _).mono ?_; rintro e w' ⟨rfl, rfl⟩)
      go_ret
      exact ⟨ret_bool HG.out, (by (repeat' (first | (with_reducible exact Below.refl _ _) | (with_reducible assumption) | (with_reducible refine Below.alloc ?_ ?_ _) | (with_reducible refine below_ext ?_ ?_ _ _) | (with_reducible refine Below.setCell ?_ ?_ _) | (with_reducible refine Below.drew ?_) | (with_reducible refine below_drewN ?_ _))); all_goals (first | omega | (simp; done) | (simp; omega)))⟩
theorem iAsc_any (w : World) (A : Option Addr) (n c lo hi : Nat) (l : List Int) (hr : Rd w lo hi 1 A n (l.map (.int .i64))) (hn : n ≤ 1048576) :
    Calls Try.prog 46 #[.slice A n c] w fun e w' => e = .returned (.bool (allOk (ascAt l) n)) ∧ ∃ d, w' = w.drewN d := by
  have hll : l.length = n := by simpa using hr.len
  go_enter Try.func46, Try.ntmps46
  go_wp2_with fail
  go_loopw [3] (fun i wr => ∃ j : Nat, (j = 0 ∨ j + 1 ≤ n) ∧ i = .int .i64 ((j + 1 : Nat) : Int) ∧ Hid (∀ t, t < j + 1 → ascAt l t = true) ∧ ∃ d, wr = w.drewN d) (fun i _ => n - (intOf i).toNat)
  case atStart => exact ⟨0, .inl rfl, rfl, hide asc_first, 0, rfl⟩
  case round =>
    obtain ⟨j, hk, rfl, HE, d, rfl⟩ := hrel
    by_cases hlt : j + 1 < n
    · obtain ⟨b, o, rfl, _, _, hcell⟩ := hr.at_ (j := j) (by omega)
      have hp := hcell j (.int .i64 (l[j]'(by omega))) (by simp [show j < l.length by omega])
      have hgp : l[j]? = some (l[j]'(by omega)) := List.getElem?_eq_getElem (by omega)
      generalize l[j]'(by omega) = p at hp hgp
      have hv := hcell (j + 1) (.int .i64 (l[j + 1]'(by omega))) (by simp [show j + 1 < l.length by omega])
      have hgv : l[j + 1]? = some (l[j + 1]'(by omega)) := List.getElem?_eq_getElem (by omega)
      generalize l[j + 1]'(by omega) = v at hv hgv
      have HN := hide (fun h : ascAt l (j + 1) = false => allOk_no (n := n) (by omega) h)
      have HY := hide (fun h : ascAt l (j + 1) = true => lt_next HE.out h)
      rw [ascAt_s hgp hgv] at HN HY
      have hjn : (j : Int) < (n : Int) := by omega
      have hjn1 : (j : Int) + 1 < (n : Int) := by omega
      have HW := hide (IntWalk.i64_in (j : Int) (by omega))
      clear hcell hgp hgv hr HE
      cases hD : decide (v ≤ p)
      all_goals
        rw [hD] at HN HY
        go_wp2_with fail
        have hwj : IntKind.i64.wrap (j : Int) = j := HW.out
        go_quiet (fail)
        clear hwj
        go_wp2_with fail
        first
        | (go_ret; exact ⟨ret_bool (HN.out rfl).symm, (by first | exact ⟨_, rfl⟩ | exact ⟨_, World.drewN_drewN _ _ _⟩)⟩)
        | (go_roundw; (case rel => exact ⟨j + 1, .inr (by omega), by go_num, hide (HY.out rfl), (by first | exact ⟨_, rfl⟩ | exact ⟨_, World.drewN_drewN _ _ _⟩)⟩); (case measure => simp [intOf] <;> omega))
    · have HG := hide (allOk_yes (f := ascAt l) (n := n) (fun t ht => HE.out t (by omega)))
      have hjn : ¬ (j : Int) + 1 < (n : Int) := by omega
      clear HE hr
      go_wp2_with fail
      go_ret
      exact ⟨ret_bool HG.out.symm, _, rfl⟩
end Go.Proofs.Ytcndocopecnohaa
