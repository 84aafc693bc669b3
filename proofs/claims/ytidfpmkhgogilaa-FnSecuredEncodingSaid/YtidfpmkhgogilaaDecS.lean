/- readSecured and DecodeSecured: what they return. -/
import Derived.Test.YtidfpmkhgogilaaDecI
import Derived.Test.YtidfpmkhgogilaaSVal
import Derived.Deep.RegionHeld3
namespace Go.Proofs.Ytidfpmkhgogilaa
open Go.RowKit Go.Sep

theorem own_ext' {w : World} {lo hi size n : Nat} {e : TypeId} {v : Value} {xs : List Value} (h : Own w lo hi e size v n xs) (os : Array Obj) (d : Nat) : Own (ext w os d) lo hi e size v n xs := h.below' (below_ext (Below.refl _ _) (Nat.le_refl _) _ _)
theorem diO_two {l : List Int} {vs : List Int} {e : Nat} (h8 : B8 l) (h : diO l 2 0 [] = some (vs, e)) : ∃ d c, vs = [d, c] ∧ e ≤ l.length := by
  cases h1 : rdF l 0 6 0 0 with
  | none => rw [diO, h1] at h; cases h
  | some ve =>
    obtain ⟨v, e1⟩ := ve
    rw [diO, h1] at h
    simp only at h
    cases h2 : rdF l e1 6 0 0 with
    | none => rw [diO, h2] at h; cases h
    | some ve2 =>
      obtain ⟨v2, e2⟩ := ve2
      rw [diO, h2] at h
      simp only [diO] at h
      injection h with h
      injection h with h3 h4
      have := rdF_bd h8 h2
      exact ⟨v, v2, by rw [← h3]; rfl, by omega⟩
def rsO (l : List Int) : Option (Int × Int × Int × List Int × Nat) := match diO l 2 0 [] with
  | none => none
  | some (vs, e) => match rbO l e 60 with
    | none => none
    | some (v, e2) => match rdF l (e2 + v) 6 0 0 with
      | none => none
      | some (m, e3) => if vS (vs.getD 0 0) (vs.getD 1 0) v m = true then some (vs.getD 0 0, vs.getD 1 0, m, (l.drop e2).take v, e3) else none
theorem rsO_no {l : List Int} (h : rsO l = none) : diO l 2 0 [] = none ∨ (∃ vs e, diO l 2 0 [] = some (vs, e) ∧ rbO l e 60 = none) ∨ (∃ vs e v e2, diO l 2 0 [] = some (vs, e) ∧ rbO l e 60 = some (v, e2) ∧ rdF l (e2 + v) 6 0 0 = none) ∨
    (∃ vs e v e2 m e3, diO l 2 0 [] = some (vs, e) ∧ rbO l e 60 = some (v, e2) ∧ rdF l (e2 + v) 6 0 0 = some (m, e3) ∧ vS (vs.getD 0 0) (vs.getD 1 0) v m = false) := by
  cases h0 : diO l 2 0 [] with
  | none => exact .inl rfl
  | some ve =>
    obtain ⟨vs, e⟩ := ve
    right
    cases h1 : rbO l e 60 with
    | none => exact .inl ⟨vs, e, rfl, h1⟩
    | some ve =>
      obtain ⟨v, e2⟩ := ve
      right
      cases h2 : rdF l (e2 + v) 6 0 0 with
      | none => exact .inl ⟨vs, e, v, e2, rfl, h1, h2⟩
      | some me =>
        obtain ⟨m, e3⟩ := me
        right
        cases h3 : vS (vs.getD 0 0) (vs.getD 1 0) v m
        · exact ⟨vs, e, v, e2, m, e3, rfl, h1, h2, h3⟩
        · simp only [rsO, h0, h1, h2, h3, if_true] at h
          cases h
theorem rsO_yes {l : List Int} {d c m : Int} {s : List Int} {e3 : Nat} (h8 : B8 l) (h : rsO l = some (d, c, m, s, e3)) : ∃ e v e2, diO l 2 0 [] = some ([d, c], e) ∧ rbO l e 60 = some (v, e2) ∧ rdF l (e2 + v) 6 0 0 = some (m, e3) ∧ vS d c v m = true ∧ (l.drop e2).take v = s := by
  cases h0 : diO l 2 0 [] with
  | none => simp only [rsO, h0] at h; cases h
  | some ve =>
    obtain ⟨vs, e⟩ := ve
    obtain ⟨d', c', rfl, he⟩ := diO_two h8 h0
    cases h1 : rbO l e 60 with
    | none => simp only [rsO, h0, h1] at h; cases h
    | some ve =>
      obtain ⟨v, e2⟩ := ve
      cases h2 : rdF l (e2 + v) 6 0 0 with
      | none => simp only [rsO, h0, h1, h2] at h; cases h
      | some me =>
        obtain ⟨m', e3'⟩ := me
        cases h3 : vS d' c' v m'
        · have h3' : vS ([d', c'].getD 0 0) ([d', c'].getD 1 0) v m' = false := h3
          simp only [rsO, h0, h1, h2, h3', Bool.false_eq_true, if_false] at h
          cases h
        · have h3' : vS ([d', c'].getD 0 0) ([d', c'].getD 1 0) v m' = true := h3
          simp only [rsO, h0, h1, h2, h3', if_true] at h
          injection h with h
          injection h with g1 h
          injection h with g2 h
          injection h with g3 h
          injection h with g4 g5
          simp at g1 g2
          subst g1 g2 g3 g5
          exact ⟨e, v, e2, rfl, h1, h2, h3, g4⟩
def dsO (l : List Int) : Option (Int × Int × Int × List Int) := match rsO l with
  | none => none
  | some (d, c, m, s, e3) => if e3 = l.length then some (d, c, m, s) else none
theorem dsO_yes {l : List Int} {d c m : Int} {s : List Int} (h : dsO l = some (d, c, m, s)) : ∃ e3, rsO l = some (d, c, m, s, e3) ∧ e3 = l.length := by
  cases h0 : rsO l with
  | none => simp only [dsO, h0] at h; cases h
  | some r =>
    obtain ⟨d', c', m', s', e3⟩ := r
    by_cases h1 : e3 = l.length
    · simp only [dsO, h0] at h
      rw [if_pos h1] at h
      injection h with h
      injection h with g1 h
      injection h with g2 h
      injection h with g3 g4
      subst g1 g2 g3 g4
      exact ⟨e3, rfl, h1⟩
    · simp only [dsO, h0] at h
      rw [if_neg h1] at h
      cases h
theorem dsO_no {l : List Int} (_h8 : B8 l) (h : dsO l = none) : diO l 2 0 [] = none ∨ (∃ vs e, diO l 2 0 [] = some (vs, e) ∧ rbO l e 60 = none) ∨ (∃ vs e v e2, diO l 2 0 [] = some (vs, e) ∧ rbO l e 60 = some (v, e2) ∧ rdF l (e2 + v) 6 0 0 = none) ∨
    (∃ vs e v e2 m e3, diO l 2 0 [] = some (vs, e) ∧ rbO l e 60 = some (v, e2) ∧ rdF l (e2 + v) 6 0 0 = some (m, e3) ∧ e3 ≠ l.length) ∨
    (∃ vs e v e2 m e3, diO l 2 0 [] = some (vs, e) ∧ rbO l e 60 = some (v, e2) ∧ rdF l (e2 + v) 6 0 0 = some (m, e3) ∧ e3 = l.length ∧ vS (vs.getD 0 0) (vs.getD 1 0) v m = false) := by
  cases h0 : diO l 2 0 [] with
  | none => exact .inl rfl
  | some ve =>
    obtain ⟨vs, e⟩ := ve
    right
    cases h1 : rbO l e 60 with
    | none => exact .inl ⟨vs, e, rfl, h1⟩
    | some ve =>
      obtain ⟨v, e2⟩ := ve
      right
      cases h2 : rdF l (e2 + v) 6 0 0 with
      | none => exact .inl ⟨vs, e, v, e2, rfl, h1, h2⟩
      | some me =>
        obtain ⟨m, e3⟩ := me
        right
        by_cases h4 : e3 = l.length
        · right
          cases h3 : vS (vs.getD 0 0) (vs.getD 1 0) v m
          · exact ⟨vs, e, v, e2, m, e3, rfl, h1, h2, h4, h3⟩
          · simp only [dsO, rsO, h0, h1, h2, h3, if_true] at h
            rw [if_pos h4] at h
            cases h
        · exact .inl ⟨vs, e, v, e2, m, e3, rfl, h1, h2, h4⟩
set_option maxRecDepth 100000 in
theorem iRS_no (w : World) (A : Option Addr) (n c lo hi : Nat) (l : List Int) (hr : Rd w lo hi 1 A n (l.map (.int .u8))) (hn : n ≤ 1048576) (h8 : B8 l) (hc : n ≤ c) (h : rsO l = none) :
    Calls Try.prog 70 #[.slice A n c, .int .i64 0] w (MkV (fun x => .tuple #[.agg #[.int .i64 0, .int .i64 0, x, .int .i64 0], .int .i64 0, .bool false]) w 5 1 0 []) := by
  have hll : l.length = n := by simpa using hr.len
  have hz : ∀ X : World, Own X w.heap.size X.heap.size 5 1 (.slice none 0 0) 0 [] := fun X => Own.nil_ _ _ _ _ _
  rcases rsO_no h with h0 | ⟨vs, e, h0, h1⟩ | ⟨vs, e, v, e2, h0, h1, h2⟩ | ⟨vs, e, v, e2, m, e3, h0, h1, h2, h3⟩
  · have HD := hide (fun W h => (iDI_any W A n c lo hi l 0 2 h hn h8 (by omega) (by omega) : Calls Try.prog 82 #[.slice A n c, .int .i64 0, .int .i64 2] W _))
    rw [h0] at HD
    clear h h0
    go_enter Try.func70, Try.ntmps70
    go_wp2_with (first
        | (go_at_call 82; refine (unhide HD _ (hr.below' (by (repeat' (first | (with_reducible exact Below.refl _ _) | (with_reducible assumption) | (with_reducible refine Below.alloc ?_ ?_ _) | (with_reducible refine below_ext ?_ ?_ _ _) | (with_reducible refine Below.setCell ?_ ?_ _) | (with_reducible refine Below.drew ?_) | (with_reducible refine below_drewN ?_ _))); all_goals (first | omega | (simp; done) | (simp; omega))))).mono ?_; rintro x w1 ⟨A1, c1, rfl, ho1, hb1⟩; obtain ⟨os1, d1, rfl⟩ := ext_of_below hb1; clear hb1 ho1))
    exact bodyPost_ret (v := .tuple #[.agg #[.int .i64 0, .int .i64 0, .slice none 0 0, .int .i64 0], .int .i64 0, .bool false]) (by simp only [results, Try.results70]; go_simp) rfl ⟨_, _, rfl, Nat.le_refl _, by unfold maxLen; omega, hz _, (by (repeat' (first | (with_reducible exact Below.refl _ _) | (with_reducible assumption) | (with_reducible refine Below.alloc ?_ ?_ _) | (with_reducible refine below_ext ?_ ?_ _ _) | (with_reducible refine Below.setCell ?_ ?_ _) | (with_reducible refine Below.drew ?_) | (with_reducible refine below_drewN ?_ _))); all_goals (first | omega | (simp; done) | (simp; omega)))⟩
  · obtain ⟨d, c0, rfl, he0⟩ := diO_two h8 h0
    have HD := hide (fun W h => (iDI_any W A n c lo hi l 0 2 h hn h8 (by omega) (by omega) : Calls Try.prog 82 #[.slice A n c, .int .i64 0, .int .i64 2] W _))
    rw [h0] at HD
    have HB := hide (fun W h => iRdB_no W A n c lo hi l e 60 h (by omega) h8 (by omega) h1)
    clear h h0 h1
    go_enter Try.func70, Try.ntmps70
    go_wp2_with (first
        | (go_at_call 82; refine (unhide HD _ (hr.below' (by (repeat' (first | (with_reducible exact Below.refl _ _) | (with_reducible assumption) | (with_reducible refine Below.alloc ?_ ?_ _) | (with_reducible refine below_ext ?_ ?_ _ _) | (with_reducible refine Below.setCell ?_ ?_ _) | (with_reducible refine Below.drew ?_) | (with_reducible refine below_drewN ?_ _))); all_goals (first | omega | (simp; done) | (simp; omega))))).mono ?_; rintro x w1 ⟨A1, c1, rfl, hv1, ho1, hb1⟩; obtain ⟨g1, rfl, hg1a, hg1b, hg1c, _, _⟩ := own_open ho1 (by omega); obtain ⟨os1, d1, rfl⟩ := ext_of_below hb1; clear hb1; have hq0 := ho1.row.cellAt 0 (by omega); have hq1 := ho1.row.cellAt 1 (by omega); simp only [List.map_cons, List.map_nil, List.getElem?_cons_zero, List.getElem?_cons_succ] at hq0 hq1; have hg1 : g1 < w.heap.size + 1 + os1.size := (by simpa using hg1c); clear ho1 hg1a hg1b hg1c hv1)
        | (go_at_call 76; refine (unhide HB _ (hr.below' (by (repeat' (first | (with_reducible exact Below.refl _ _) | (with_reducible assumption) | (with_reducible refine Below.alloc ?_ ?_ _) | (with_reducible refine below_ext ?_ ?_ _ _) | (with_reducible refine Below.setCell ?_ ?_ _) | (with_reducible refine Below.drew ?_) | (with_reducible refine below_drewN ?_ _))); all_goals (first | omega | (simp; done) | (simp; omega))))).mono ?_; rintro e w2 ⟨A2, c2, rfl, hc2, hm2, ho2, hb2⟩; obtain ⟨os2, d2, rfl⟩ := ext_of_below hb2; clear hb2; try simp only [ext_drew] at ho2; try simp only [ext_drewN] at ho2))
    exact bodyPost_ret (v := .tuple #[.agg #[.int .i64 0, .int .i64 0, .slice none 0 0, .int .i64 0], .int .i64 0, .bool false]) (by simp only [results, Try.results70]; go_simp) rfl ⟨_, _, rfl, Nat.le_refl _, by unfold maxLen; omega, hz _, (by (repeat' (first | (with_reducible exact Below.refl _ _) | (with_reducible assumption) | (with_reducible refine Below.alloc ?_ ?_ _) | (with_reducible refine below_ext ?_ ?_ _ _) | (with_reducible refine Below.setCell ?_ ?_ _) | (with_reducible refine Below.drew ?_) | (with_reducible refine below_drewN ?_ _))); all_goals (first | omega | (simp; done) | (simp; omega)))⟩
  · obtain ⟨d, c0, rfl, he0⟩ := diO_two h8 h0
    have HD := hide (fun W h => (iDI_any W A n c lo hi l 0 2 h hn h8 (by omega) (by omega) : Calls Try.prog 82 #[.slice A n c, .int .i64 0, .int .i64 2] W _))
    rw [h0] at HD
    obtain ⟨_, hv60, hev, _⟩ := rbO_inv h8 h1
    have HB := hide (fun W h => iRdB_yes W A n c lo hi l e v e2 60 h (by omega) h8 (by omega) hc h1)
    have HM := hide (fun W h => (iRdU_no W A n c lo hi l (e2 + v) h (by omega) h8 (by omega) h2 : Calls Try.prog 75 #[.slice A n c, .int .i64 ((e2 : Int) + (v : Int))] W _))
    clear h h0 h1 h2
    generalize (l.drop e2).take v = s at HB
    go_enter Try.func70, Try.ntmps70
    go_wp2_with (first
        | (go_at_call 82; refine (unhide HD _ (hr.below' (by (repeat' (first | (with_reducible exact Below.refl _ _) | (with_reducible assumption) | (with_reducible refine Below.alloc ?_ ?_ _) | (with_reducible refine below_ext ?_ ?_ _ _) | (with_reducible refine Below.setCell ?_ ?_ _) | (with_reducible refine Below.drew ?_) | (with_reducible refine below_drewN ?_ _))); all_goals (first | omega | (simp; done) | (simp; omega))))).mono ?_; rintro x w1 ⟨A1, c1, rfl, hv1, ho1, hb1⟩; obtain ⟨g1, rfl, hg1a, hg1b, hg1c, _, _⟩ := own_open ho1 (by omega); obtain ⟨os1, d1, rfl⟩ := ext_of_below hb1; clear hb1; have hq0 := ho1.row.cellAt 0 (by omega); have hq1 := ho1.row.cellAt 1 (by omega); simp only [List.map_cons, List.map_nil, List.getElem?_cons_zero, List.getElem?_cons_succ] at hq0 hq1; have hg1 : g1 < w.heap.size + 1 + os1.size := (by simpa using hg1c); clear ho1 hg1a hg1b hg1c hv1)
        | (go_at_call 76; refine (unhide HB _ (hr.below' (by (repeat' (first | (with_reducible exact Below.refl _ _) | (with_reducible assumption) | (with_reducible refine Below.alloc ?_ ?_ _) | (with_reducible refine below_ext ?_ ?_ _ _) | (with_reducible refine Below.setCell ?_ ?_ _) | (with_reducible refine Below.drew ?_) | (with_reducible refine below_drewN ?_ _))); all_goals (first | omega | (simp; done) | (simp; omega))))).mono ?_; rintro e w2 ⟨A2, c2, rfl, hc2, hm2, ho2, hb2⟩; obtain ⟨os2, d2, rfl⟩ := ext_of_below hb2; clear hb2; try simp only [ext_drew] at ho2; try simp only [ext_drewN] at ho2)
        | (go_at_call 75; refine (unhide HM _ (hr.below' (by (repeat' (first | (with_reducible exact Below.refl _ _) | (with_reducible assumption) | (with_reducible refine Below.alloc ?_ ?_ _) | (with_reducible refine below_ext ?_ ?_ _ _) | (with_reducible refine Below.setCell ?_ ?_ _) | (with_reducible refine Below.drew ?_) | (with_reducible refine below_drewN ?_ _))); all_goals (first | omega | (simp; done) | (simp; omega))))).mono ?_; rintro e w3 ⟨rfl, hb3⟩; obtain ⟨os3, d3, rfl⟩ := ext_of_below hb3; clear hb3))
    exact bodyPost_ret (v := .tuple #[.agg #[.int .i64 0, .int .i64 0, .slice none 0 0, .int .i64 0], .int .i64 0, .bool false]) (by simp only [results, Try.results70]; go_simp) rfl ⟨_, _, rfl, Nat.le_refl _, by unfold maxLen; omega, hz _, (by (repeat' (first | (with_reducible exact Below.refl _ _) | (with_reducible assumption) | (with_reducible refine Below.alloc ?_ ?_ _) | (with_reducible refine below_ext ?_ ?_ _ _) | (with_reducible refine Below.setCell ?_ ?_ _) | (with_reducible refine Below.drew ?_) | (with_reducible refine below_drewN ?_ _))); all_goals (first | omega | (simp; done) | (simp; omega)))⟩
  · obtain ⟨d, c0, rfl, he0⟩ := diO_two h8 h0
    have HD := hide (fun W h => (iDI_any W A n c lo hi l 0 2 h hn h8 (by omega) (by omega) : Calls Try.prog 82 #[.slice A n c, .int .i64 0, .int .i64 2] W _))
    rw [h0] at HD
    obtain ⟨_, hv60, hev, _⟩ := rbO_inv h8 h1
    have HB := hide (fun W h => iRdB_yes W A n c lo hi l e v e2 60 h (by omega) h8 (by omega) hc h1)
    have HM := hide (fun W h => (iRdU_yes W A n c lo hi l (e2 + v) h (by omega) h8 (by omega) h2 : Calls Try.prog 75 #[.slice A n c, .int .i64 ((e2 : Int) + (v : Int))] W _))
    have HV := hide (fun W A2 c2 => iVS_any d c0 A2 v c2 m W)
    rw [show vS d c0 v m = false from h3] at HV
    clear h h0 h1 h2 h3
    generalize (l.drop e2).take v = s at HB
    go_enter Try.func70, Try.ntmps70
    go_wp2_with (first
        | (go_at_call 82; refine (unhide HD _ (hr.below' (by (repeat' (first | (with_reducible exact Below.refl _ _) | (with_reducible assumption) | (with_reducible refine Below.alloc ?_ ?_ _) | (with_reducible refine below_ext ?_ ?_ _ _) | (with_reducible refine Below.setCell ?_ ?_ _) | (with_reducible refine Below.drew ?_) | (with_reducible refine below_drewN ?_ _))); all_goals (first | omega | (simp; done) | (simp; omega))))).mono ?_; rintro x w1 ⟨A1, c1, rfl, hv1, ho1, hb1⟩; obtain ⟨g1, rfl, hg1a, hg1b, hg1c, _, _⟩ := own_open ho1 (by omega); obtain ⟨os1, d1, rfl⟩ := ext_of_below hb1; clear hb1; have hq0 := ho1.row.cellAt 0 (by omega); have hq1 := ho1.row.cellAt 1 (by omega); simp only [List.map_cons, List.map_nil, List.getElem?_cons_zero, List.getElem?_cons_succ] at hq0 hq1; have hg1 : g1 < w.heap.size + 1 + os1.size := (by simpa using hg1c); clear ho1 hg1a hg1b hg1c hv1)
        | (go_at_call 76; refine (unhide HB _ (hr.below' (by (repeat' (first | (with_reducible exact Below.refl _ _) | (with_reducible assumption) | (with_reducible refine Below.alloc ?_ ?_ _) | (with_reducible refine below_ext ?_ ?_ _ _) | (with_reducible refine Below.setCell ?_ ?_ _) | (with_reducible refine Below.drew ?_) | (with_reducible refine below_drewN ?_ _))); all_goals (first | omega | (simp; done) | (simp; omega))))).mono ?_; rintro e w2 ⟨A2, c2, rfl, hc2, hm2, ho2, hb2⟩; obtain ⟨os2, d2, rfl⟩ := ext_of_below hb2; clear hb2; try simp only [ext_drew] at ho2; try simp only [ext_drewN] at ho2)
        | (go_at_call 75; refine (unhide HM _ (hr.below' (by (repeat' (first | (with_reducible exact Below.refl _ _) | (with_reducible assumption) | (with_reducible refine Below.alloc ?_ ?_ _) | (with_reducible refine below_ext ?_ ?_ _ _) | (with_reducible refine Below.setCell ?_ ?_ _) | (with_reducible refine Below.drew ?_) | (with_reducible refine below_drewN ?_ _))); all_goals (first | omega | (simp; done) | (simp; omega))))).mono ?_; rintro e w3 ⟨rfl, hb3⟩; obtain ⟨os3, d3, rfl⟩ := ext_of_below hb3; clear hb3))
    go_region_held3 (fun w' => w'.cell? ⟨g1, 0, none⟩ = some (.int .i64 d) ∧ w'.cell? ⟨g1, 1, none⟩ = some (.int .i64 c0)) (first | (go_simp; done) | go_keep) (fail)
    all_goals
      go_wp2_with (go_at_call 18; refine (unhide HV _ _ _).mono ?_; rintro e w4 ⟨rfl, hb4⟩; obtain ⟨os4, d4, rfl⟩ := ext_of_below hb4; clear hb4)
      exact bodyPost_ret (v := .tuple #[.agg #[.int .i64 0, .int .i64 0, .slice none 0 0, .int .i64 0], .int .i64 0, .bool false]) (by simp only [results, Try.results70]; go_simp) rfl ⟨_, _, rfl, Nat.le_refl _, by unfold maxLen; omega, hz _, (by (repeat' (first | (with_reducible exact Below.refl _ _) | (with_reducible assumption) | (with_reducible refine Below.alloc ?_ ?_ _) | (with_reducible refine below_ext ?_ ?_ _ _) | (with_reducible refine Below.setCell ?_ ?_ _) | (with_reducible refine Below.drew ?_) | (with_reducible refine below_drewN ?_ _))); all_goals (first | omega | (simp; done) | (simp; omega)))⟩
set_option maxRecDepth 100000 in
theorem iRS_yes (w : World) (A : Option Addr) (n c lo hi : Nat) (l : List Int) (hr : Rd w lo hi 1 A n (l.map (.int .u8))) (hn : n ≤ 1048576) (h8 : B8 l) (hc : n ≤ c) {d c0 m : Int} {s : List Int} {e3 : Nat} (h : rsO l = some (d, c0, m, s, e3)) :
    Calls Try.prog 70 #[.slice A n c, .int .i64 0] w (MkV (fun x => .tuple #[.agg #[.int .i64 d, .int .i64 c0, x, .int .i64 m], .int .i64 e3, .bool true]) w 5 1 s.length (s.map (.int .u8))) := by
  have hll : l.length = n := by simpa using hr.len
  obtain ⟨e, v, e2, h0, h1, h2, h3, rfl⟩ := rsO_yes h8 h
  obtain ⟨_, _, _, he0⟩ := diO_two h8 h0
  have HD := hide (fun W h => (iDI_any W A n c lo hi l 0 2 h hn h8 (by omega) (by omega) : Calls Try.prog 82 #[.slice A n c, .int .i64 0, .int .i64 2] W _))
  rw [h0] at HD
  obtain ⟨_, hv60, hev, _⟩ := rbO_inv h8 h1
  have HB := hide (fun W h => iRdB_yes W A n c lo hi l e v e2 60 h (by omega) h8 (by omega) hc h1)
  have HM := hide (fun W h => (iRdU_yes W A n c lo hi l (e2 + v) h (by omega) h8 (by omega) h2 : Calls Try.prog 75 #[.slice A n c, .int .i64 ((e2 : Int) + (v : Int))] W _))
  have HV := hide (fun W A2 c2 => iVS_any d c0 A2 v c2 m W)
  rw [h3] at HV
  have hsl : ((l.drop e2).take v).length = v := by rw [List.length_take, List.length_drop]; omega
  rw [hsl]
  clear h h0 h1 h2 h3 hsl
  generalize (l.drop e2).take v = s at HB ⊢
  go_enter Try.func70, Try.ntmps70
  go_wp2_with (first
      | (go_at_call 82; refine (unhide HD _ (hr.below' (by (repeat' (first | (with_reducible exact Below.refl _ _) | (with_reducible assumption) | (with_reducible refine Below.alloc ?_ ?_ _) | (with_reducible refine below_ext ?_ ?_ _ _) | (with_reducible refine Below.setCell ?_ ?_ _) | (with_reducible refine Below.drew ?_) | (with_reducible refine below_drewN ?_ _))); all_goals (first | omega | (simp; done) | (simp; omega))))).mono ?_; rintro x w1 ⟨A1, c1, rfl, hv1, ho1, hb1⟩; obtain ⟨g1, rfl, hg1a, hg1b, hg1c, _, _⟩ := own_open ho1 (by omega); obtain ⟨os1, d1, rfl⟩ := ext_of_below hb1; clear hb1; have hq0 := ho1.row.cellAt 0 (by omega); have hq1 := ho1.row.cellAt 1 (by omega); simp only [List.map_cons, List.map_nil, List.getElem?_cons_zero, List.getElem?_cons_succ] at hq0 hq1; have hg1 : g1 < w.heap.size + 1 + os1.size := (by simpa using hg1c); clear ho1 hg1a hg1b hg1c hv1)
      | (go_at_call 76; refine (unhide HB _ (hr.below' (by (repeat' (first | (with_reducible exact Below.refl _ _) | (with_reducible assumption) | (with_reducible refine Below.alloc ?_ ?_ _) | (with_reducible refine below_ext ?_ ?_ _ _) | (with_reducible refine Below.setCell ?_ ?_ _) | (with_reducible refine Below.drew ?_) | (with_reducible refine below_drewN ?_ _))); all_goals (first | omega | (simp; done) | (simp; omega))))).mono ?_; rintro e w2 ⟨A2, c2, rfl, hc2, hm2, ho2, hb2⟩; obtain ⟨os2, d2, rfl⟩ := ext_of_below hb2; clear hb2; try simp only [ext_drew] at ho2; try simp only [ext_drewN] at ho2)
      | (go_at_call 75; refine (unhide HM _ (hr.below' (by (repeat' (first | (with_reducible exact Below.refl _ _) | (with_reducible assumption) | (with_reducible refine Below.alloc ?_ ?_ _) | (with_reducible refine below_ext ?_ ?_ _ _) | (with_reducible refine Below.setCell ?_ ?_ _) | (with_reducible refine Below.drew ?_) | (with_reducible refine below_drewN ?_ _))); all_goals (first | omega | (simp; done) | (simp; omega))))).mono ?_; rintro e w3 ⟨rfl, hb3⟩; obtain ⟨os3, d3, rfl⟩ := ext_of_below hb3; clear hb3))
  go_region_held3 (fun w' => w'.cell? ⟨g1, 0, none⟩ = some (.int .i64 d) ∧ w'.cell? ⟨g1, 1, none⟩ = some (.int .i64 c0)) (first | (go_simp; done) | go_keep) (fail)
  all_goals
    go_wp2_with (go_at_call 18; refine (unhide HV _ _ _).mono ?_; rintro e w4 ⟨rfl, hb4⟩; obtain ⟨os4, d4, rfl⟩ := ext_of_below hb4; clear hb4)
    exact bodyPost_ret (v := .tuple #[.agg #[.int .i64 d, .int .i64 c0, .slice A2 v c2, .int .i64 m], .int .i64 e3, .bool true]) (by simp only [results, Try.results70]; go_simp) rfl ⟨A2, c2, rfl, hc2, hm2, Own.more (own_ext' (Own.alloc (own_ext' (Own.swap ho2 (by simp) (Nat.le_refl _)) _ _) _) _ _) (by first | omega | (simp <;> omega)) (by first | omega | (simp <;> omega)), (by (repeat' (first | (with_reducible exact Below.refl _ _) | (with_reducible assumption) | (with_reducible refine Below.alloc ?_ ?_ _) | (with_reducible refine below_ext ?_ ?_ _ _) | (with_reducible refine Below.setCell ?_ ?_ _) | (with_reducible refine Below.drew ?_) | (with_reducible refine below_drewN ?_ _))); all_goals (first | omega | (simp; done) | (simp; omega)))⟩
set_option maxRecDepth 100000 in
theorem iDS_no (w : World) (A : Option Addr) (n c lo hi : Nat) (l : List Int) (hr : Rd w lo hi 1 A n (l.map (.int .u8))) (hn : n ≤ 1048576) (h8 : B8 l) (hc : n ≤ c) (h : dsO l = none) :
    Calls Try.prog 30 #[.slice A n c] w (MkV (fun x => .tuple #[.agg #[.int .i64 0, .int .i64 0, x, .int .i64 0], .bool false]) w 5 1 0 []) := by
  have hll : l.length = n := by simpa using hr.len
  have hz : ∀ X : World, Own X w.heap.size X.heap.size 5 1 (.slice none 0 0) 0 [] := fun X => Own.nil_ _ _ _ _ _
  cases h0 : rsO l with
  | none =>
    have HR := hide (fun W h => iRS_no W A n c lo hi l h hn h8 hc h0)
    clear h h0
    go_enter Try.func30, Try.ntmps30
    go_wp2_with (go_at_call 70; refine (unhide HR _ (hr.below' (by (repeat' (first | (with_reducible exact Below.refl _ _) | (with_reducible assumption) | (with_reducible refine Below.alloc ?_ ?_ _) | (with_reducible refine below_ext ?_ ?_ _ _) | (with_reducible refine Below.setCell ?_ ?_ _) | (with_reducible refine Below.drew ?_) | (with_reducible refine below_drewN ?_ _))); all_goals (first | omega | (simp; done) | (simp; omega))))).mono ?_; rintro e w1 ⟨A1, c1, rfl, hc1, hm1, ho1, hb1⟩; obtain ⟨os1, d1, rfl⟩ := ext_of_below hb1; clear hb1; try simp only [ext_drew] at ho1; try simp only [ext_drewN] at ho1)
    exact bodyPost_ret (v := .tuple #[.agg #[.int .i64 0, .int .i64 0, .slice none 0 0, .int .i64 0], .bool false]) (by simp only [results, Try.results30]; go_simp) rfl ⟨_, _, rfl, Nat.le_refl _, by unfold maxLen; omega, hz _, (by (repeat' (first | (with_reducible exact Below.refl _ _) | (with_reducible assumption) | (with_reducible refine Below.alloc ?_ ?_ _) | (with_reducible refine below_ext ?_ ?_ _ _) | (with_reducible refine Below.setCell ?_ ?_ _) | (with_reducible refine Below.drew ?_) | (with_reducible refine below_drewN ?_ _))); all_goals (first | omega | (simp; done) | (simp; omega)))⟩
  | some r =>
    obtain ⟨d, c0, m, s, e3⟩ := r
    have hne0 : e3 ≠ n := by
      intro hh
      simp only [dsO, h0] at h
      rw [if_pos (by omega)] at h
      cases h
    have hne : ((e3 : Int) != (n : Int)) = true := by simp; omega
    have HR := hide (fun W h => iRS_yes W A n c lo hi l h hn h8 hc h0)
    clear h h0 hne0
    go_enter Try.func30, Try.ntmps30
    go_wp2_with (go_at_call 70; refine (unhide HR _ (hr.below' (by (repeat' (first | (with_reducible exact Below.refl _ _) | (with_reducible assumption) | (with_reducible refine Below.alloc ?_ ?_ _) | (with_reducible refine below_ext ?_ ?_ _ _) | (with_reducible refine Below.setCell ?_ ?_ _) | (with_reducible refine Below.drew ?_) | (with_reducible refine below_drewN ?_ _))); all_goals (first | omega | (simp; done) | (simp; omega))))).mono ?_; rintro e w1 ⟨A1, c1, rfl, hc1, hm1, ho1, hb1⟩; obtain ⟨os1, d1, rfl⟩ := ext_of_below hb1; clear hb1; try simp only [ext_drew] at ho1; try simp only [ext_drewN] at ho1)
    exact bodyPost_ret (v := .tuple #[.agg #[.int .i64 0, .int .i64 0, .slice none 0 0, .int .i64 0], .bool false]) (by simp only [results, Try.results30]; go_simp) rfl ⟨_, _, rfl, Nat.le_refl _, by unfold maxLen; omega, hz _, (by (repeat' (first | (with_reducible exact Below.refl _ _) | (with_reducible assumption) | (with_reducible refine Below.alloc ?_ ?_ _) | (with_reducible refine below_ext ?_ ?_ _ _) | (with_reducible refine Below.setCell ?_ ?_ _) | (with_reducible refine Below.drew ?_) | (with_reducible refine below_drewN ?_ _))); all_goals (first | omega | (simp; done) | (simp; omega)))⟩
set_option maxRecDepth 100000 in
theorem iDS_yes (w : World) (A : Option Addr) (n c lo hi : Nat) (l : List Int) (hr : Rd w lo hi 1 A n (l.map (.int .u8))) (hn : n ≤ 1048576) (h8 : B8 l) (hc : n ≤ c) {d c0 m : Int} {s : List Int} (h : dsO l = some (d, c0, m, s)) :
    Calls Try.prog 30 #[.slice A n c] w (MkV (fun x => .tuple #[.agg #[.int .i64 d, .int .i64 c0, x, .int .i64 m], .bool true]) w 5 1 s.length (s.map (.int .u8))) := by
  have hll : l.length = n := by simpa using hr.len
  obtain ⟨e3, h0, h1⟩ := dsO_yes h
  have hne : ((e3 : Int) != (n : Int)) = false := by simp; omega
  have HR := hide (fun W h => iRS_yes W A n c lo hi l h hn h8 hc h0)
  clear h h0 h1
  go_enter Try.func30, Try.ntmps30
  go_wp2_with (go_at_call 70; refine (unhide HR _ (hr.below' (by (repeat' (first | (with_reducible exact Below.refl _ _) | (with_reducible assumption) | (with_reducible refine Below.alloc ?_ ?_ _) | (with_reducible refine below_ext ?_ ?_ _ _) | (with_reducible refine Below.setCell ?_ ?_ _) | (with_reducible refine Below.drew ?_) | (with_reducible refine below_drewN ?_ _))); all_goals (first | omega | (simp; done) | (simp; omega))))).mono ?_; rintro e w1 ⟨A1, c1, rfl, hc1, hm1, ho1, hb1⟩; obtain ⟨os1, d1, rfl⟩ := ext_of_below hb1; clear hb1; try simp only [ext_drew] at ho1; try simp only [ext_drewN] at ho1)
  exact bodyPost_ret (v := .tuple #[.agg #[.int .i64 d, .int .i64 c0, .slice A1 s.length c1, .int .i64 m], .bool true]) (by simp only [results, Try.results30]; go_simp) rfl ⟨A1, c1, rfl, hc1, hm1, Own.more (Own.alloc (Own.swap ho1 (by simp) (by simp)) _) (by first | omega | (simp <;> omega)) (by first | omega | (simp <;> omega)), (by (repeat' (first | (with_reducible exact Below.refl _ _) | (with_reducible assumption) | (with_reducible refine Below.alloc ?_ ?_ _) | (with_reducible refine below_ext ?_ ?_ _ _) | (with_reducible refine Below.setCell ?_ ?_ _) | (with_reducible refine Below.drew ?_) | (with_reducible refine below_drewN ?_ _))); all_goals (first | omega | (simp; done) | (simp; omega)))⟩
set_option maxRecDepth 100000 in
theorem sDS_no (w : World) (A : Option Addr) (n c lo hi : Nat) (l : List Int) (hr : Rd w lo hi 1 A n (l.map (.int .u8))) (hn : n ≤ 1048576) (h8 : B8 l) (hc : n ≤ c) (h : dsO l = none) :
    Calls Try.prog 28 #[.slice A n c] w (MkV (fun x => .tuple #[.agg #[.int .i64 0, .int .i64 0, x, .int .i64 0], .bool false]) w 5 1 0 []) := by
  have hll : l.length = n := by simpa using hr.len
  have hz : ∀ X : World, Own X w.heap.size X.heap.size 5 1 (.slice none 0 0) 0 [] := fun X => Own.nil_ _ _ _ _ _
  rcases dsO_no h8 h with h0 | ⟨vs, e, h0, h1⟩ | ⟨vs, e, v, e2, h0, h1, h2⟩ | ⟨vs, e, v, e2, m, e3, h0, h1, h2, h3⟩ | ⟨vs, e, v, e2, m, e3, h0, h1, h2, h3, h4⟩
  · have HD := hide (fun W h => (sDI_any W A n c lo hi l 0 2 h hn h8 (by omega) (by omega) : Calls Try.prog 67 #[.slice A n c, .int .i64 0, .int .i64 2] W _))
    rw [h0] at HD
    clear h h0
    go_enter Try.func28, Try.ntmps28
    go_wp2_with (first
        | (go_at_call 67; refine (unhide HD _ (hr.below' (by (repeat' (first | (with_reducible exact Below.refl _ _) | (with_reducible assumption) | (with_reducible refine Below.alloc ?_ ?_ _) | (with_reducible refine below_ext ?_ ?_ _ _) | (with_reducible refine Below.setCell ?_ ?_ _) | (with_reducible refine Below.drew ?_) | (with_reducible refine below_drewN ?_ _))); all_goals (first | omega | (simp; done) | (simp; omega))))).mono ?_; rintro x w1 ⟨A1, c1, rfl, ho1, hb1⟩; obtain ⟨os1, d1, rfl⟩ := ext_of_below hb1; clear hb1 ho1))
    exact bodyPost_ret (v := .tuple #[.agg #[.int .i64 0, .int .i64 0, .slice none 0 0, .int .i64 0], .bool false]) (by simp only [results, Try.results28]; go_simp) rfl ⟨_, _, rfl, Nat.le_refl _, by unfold maxLen; omega, hz _, (by (repeat' (first | (with_reducible exact Below.refl _ _) | (with_reducible assumption) | (with_reducible refine Below.alloc ?_ ?_ _) | (with_reducible refine below_ext ?_ ?_ _ _) | (with_reducible refine Below.setCell ?_ ?_ _) | (with_reducible refine Below.drew ?_) | (with_reducible refine below_drewN ?_ _))); all_goals (first | omega | (simp; done) | (simp; omega)))⟩
  · obtain ⟨d, c0, rfl, he0⟩ := diO_two h8 h0
    have HD := hide (fun W h => (sDI_any W A n c lo hi l 0 2 h hn h8 (by omega) (by omega) : Calls Try.prog 67 #[.slice A n c, .int .i64 0, .int .i64 2] W _))
    rw [h0] at HD
    have HB := hide (fun W h => sRdB_no W A n c lo hi l e 60 h (by omega) h8 (by omega) h1)
    clear h h0 h1
    go_enter Try.func28, Try.ntmps28
    go_wp2_with (first
        | (go_at_call 67; refine (unhide HD _ (hr.below' (by (repeat' (first | (with_reducible exact Below.refl _ _) | (with_reducible assumption) | (with_reducible refine Below.alloc ?_ ?_ _) | (with_reducible refine below_ext ?_ ?_ _ _) | (with_reducible refine Below.setCell ?_ ?_ _) | (with_reducible refine Below.drew ?_) | (with_reducible refine below_drewN ?_ _))); all_goals (first | omega | (simp; done) | (simp; omega))))).mono ?_; rintro x w1 ⟨A1, c1, rfl, hv1, ho1, hb1⟩; obtain ⟨g1, rfl, hg1a, hg1b, hg1c, _, _⟩ := own_open ho1 (by omega); obtain ⟨os1, d1, rfl⟩ := ext_of_below hb1; clear hb1; have hq0 := ho1.row.cellAt 0 (by omega); have hq1 := ho1.row.cellAt 1 (by omega); simp only [List.map_cons, List.map_nil, List.getElem?_cons_zero, List.getElem?_cons_succ] at hq0 hq1; have hg1 : g1 < w.heap.size + 1 + os1.size := (by simpa using hg1c); clear ho1 hg1a hg1b hg1c hv1)
        | (go_at_call 68; refine (unhide HB _ (hr.below' (by (repeat' (first | (with_reducible exact Below.refl _ _) | (with_reducible assumption) | (with_reducible refine Below.alloc ?_ ?_ _) | (with_reducible refine below_ext ?_ ?_ _ _) | (with_reducible refine Below.setCell ?_ ?_ _) | (with_reducible refine Below.drew ?_) | (with_reducible refine below_drewN ?_ _))); all_goals (first | omega | (simp; done) | (simp; omega))))).mono ?_; rintro e w2 ⟨A2, c2, rfl, hc2, hm2, ho2, hb2⟩; obtain ⟨os2, d2, rfl⟩ := ext_of_below hb2; clear hb2; try simp only [ext_drew] at ho2; try simp only [ext_drewN] at ho2))
    exact bodyPost_ret (v := .tuple #[.agg #[.int .i64 0, .int .i64 0, .slice none 0 0, .int .i64 0], .bool false]) (by simp only [results, Try.results28]; go_simp) rfl ⟨_, _, rfl, Nat.le_refl _, by unfold maxLen; omega, hz _, (by (repeat' (first | (with_reducible exact Below.refl _ _) | (with_reducible assumption) | (with_reducible refine Below.alloc ?_ ?_ _) | (with_reducible refine below_ext ?_ ?_ _ _) | (with_reducible refine Below.setCell ?_ ?_ _) | (with_reducible refine Below.drew ?_) | (with_reducible refine below_drewN ?_ _))); all_goals (first | omega | (simp; done) | (simp; omega)))⟩
  · obtain ⟨d, c0, rfl, he0⟩ := diO_two h8 h0
    have HD := hide (fun W h => (sDI_any W A n c lo hi l 0 2 h hn h8 (by omega) (by omega) : Calls Try.prog 67 #[.slice A n c, .int .i64 0, .int .i64 2] W _))
    rw [h0] at HD
    obtain ⟨_, hv60, hev, _⟩ := rbO_inv h8 h1
    have HB := hide (fun W h => sRdB_yes W A n c lo hi l e v e2 60 h (by omega) h8 (by omega) hc h1)
    have HM := hide (fun W h => (sRdU_no W A n c lo hi l (e2 + v) h (by omega) h8 (by omega) h2 : Calls Try.prog 69 #[.slice A n c, .int .i64 ((e2 : Int) + (v : Int))] W _))
    clear h h0 h1 h2
    generalize (l.drop e2).take v = s at HB
    go_enter Try.func28, Try.ntmps28
    go_wp2_with (first
        | (go_at_call 67; refine (unhide HD _ (hr.below' (by (repeat' (first | (with_reducible exact Below.refl _ _) | (with_reducible assumption) | (with_reducible refine Below.alloc ?_ ?_ _) | (with_reducible refine below_ext ?_ ?_ _ _) | (with_reducible refine Below.setCell ?_ ?_ _) | (with_reducible refine Below.drew ?_) | (with_reducible refine below_drewN ?_ _))); all_goals (first | omega | (simp; done) | (simp; omega))))).mono ?_; rintro x w1 ⟨A1, c1, rfl, hv1, ho1, hb1⟩; obtain ⟨g1, rfl, hg1a, hg1b, hg1c, _, _⟩ := own_open ho1 (by omega); obtain ⟨os1, d1, rfl⟩ := ext_of_below hb1; clear hb1; have hq0 := ho1.row.cellAt 0 (by omega); have hq1 := ho1.row.cellAt 1 (by omega); simp only [List.map_cons, List.map_nil, List.getElem?_cons_zero, List.getElem?_cons_succ] at hq0 hq1; have hg1 : g1 < w.heap.size + 1 + os1.size := (by simpa using hg1c); clear ho1 hg1a hg1b hg1c hv1)
        | (go_at_call 68; refine (unhide HB _ (hr.below' (by (repeat' (first | (with_reducible exact Below.refl _ _) | (with_reducible assumption) | (with_reducible refine Below.alloc ?_ ?_ _) | (with_reducible refine below_ext ?_ ?_ _ _) | (with_reducible refine Below.setCell ?_ ?_ _) | (with_reducible refine Below.drew ?_) | (with_reducible refine below_drewN ?_ _))); all_goals (first | omega | (simp; done) | (simp; omega))))).mono ?_; rintro e w2 ⟨A2, c2, rfl, hc2, hm2, ho2, hb2⟩; obtain ⟨os2, d2, rfl⟩ := ext_of_below hb2; clear hb2; try simp only [ext_drew] at ho2; try simp only [ext_drewN] at ho2)
        | (go_at_call 69; refine (unhide HM _ (hr.below' (by (repeat' (first | (with_reducible exact Below.refl _ _) | (with_reducible assumption) | (with_reducible refine Below.alloc ?_ ?_ _) | (with_reducible refine below_ext ?_ ?_ _ _) | (with_reducible refine Below.setCell ?_ ?_ _) | (with_reducible refine Below.drew ?_) | (with_reducible refine below_drewN ?_ _))); all_goals (first | omega | (simp; done) | (simp; omega))))).mono ?_; rintro e w3 ⟨rfl, hb3⟩; obtain ⟨os3, d3, rfl⟩ := ext_of_below hb3; clear hb3))
    go_region_held3 (fun w' => w'.cell? ⟨g1, 0, none⟩ = some (.int .i64 d) ∧ w'.cell? ⟨g1, 1, none⟩ = some (.int .i64 c0)) (first | (go_simp; done) | go_keep) (fail)
    all_goals
      go_wp2_with fail
      exact bodyPost_ret (v := .tuple #[.agg #[.int .i64 0, .int .i64 0, .slice none 0 0, .int .i64 0], .bool false]) (by simp only [results, Try.results28]; go_simp) rfl ⟨_, _, rfl, Nat.le_refl _, by unfold maxLen; omega, hz _, (by (repeat' (first | (with_reducible exact Below.refl _ _) | (with_reducible assumption) | (with_reducible refine Below.alloc ?_ ?_ _) | (with_reducible refine below_ext ?_ ?_ _ _) | (with_reducible refine Below.setCell ?_ ?_ _) | (with_reducible refine Below.drew ?_) | (with_reducible refine below_drewN ?_ _))); all_goals (first | omega | (simp; done) | (simp; omega)))⟩
  · obtain ⟨d, c0, rfl, he0⟩ := diO_two h8 h0
    have HD := hide (fun W h => (sDI_any W A n c lo hi l 0 2 h hn h8 (by omega) (by omega) : Calls Try.prog 67 #[.slice A n c, .int .i64 0, .int .i64 2] W _))
    rw [h0] at HD
    obtain ⟨_, hv60, hev, _⟩ := rbO_inv h8 h1
    have HB := hide (fun W h => sRdB_yes W A n c lo hi l e v e2 60 h (by omega) h8 (by omega) hc h1)
    have HM := hide (fun W h => (sRdU_yes W A n c lo hi l (e2 + v) h (by omega) h8 (by omega) h2 : Calls Try.prog 69 #[.slice A n c, .int .i64 ((e2 : Int) + (v : Int))] W _))
    have hne : ((e3 : Int) != (n : Int)) = true := by simp; omega
    clear h h0 h1 h2 h3
    generalize (l.drop e2).take v = s at HB
    go_enter Try.func28, Try.ntmps28
    go_wp2_with (first
        | (go_at_call 67; refine (unhide HD _ (hr.below' (by (repeat' (first | (with_reducible exact Below.refl _ _) | (with_reducible assumption) | (with_reducible refine Below.alloc ?_ ?_ _) | (with_reducible refine below_ext ?_ ?_ _ _) | (with_reducible refine Below.setCell ?_ ?_ _) | (with_reducible refine Below.drew ?_) | (with_reducible refine below_drewN ?_ _))); all_goals (first | omega | (simp; done) | (simp; omega))))).mono ?_; rintro x w1 ⟨A1, c1, rfl, hv1, ho1, hb1⟩; obtain ⟨g1, rfl, hg1a, hg1b, hg1c, _, _⟩ := own_open ho1 (by omega); obtain ⟨os1, d1, rfl⟩ := ext_of_below hb1; clear hb1; have hq0 := ho1.row.cellAt 0 (by omega); have hq1 := ho1.row.cellAt 1 (by omega); simp only [List.map_cons, List.map_nil, List.getElem?_cons_zero, List.getElem?_cons_succ] at hq0 hq1; have hg1 : g1 < w.heap.size + 1 + os1.size := (by simpa using hg1c); clear ho1 hg1a hg1b hg1c hv1)
        | (go_at_call 68; refine (unhide HB _ (hr.below' (by (repeat' (first | (with_reducible exact Below.refl _ _) | (with_reducible assumption) | (with_reducible refine Below.alloc ?_ ?_ _) | (with_reducible refine below_ext ?_ ?_ _ _) | (with_reducible refine Below.setCell ?_ ?_ _) | (with_reducible refine Below.drew ?_) | (with_reducible refine below_drewN ?_ _))); all_goals (first | omega | (simp; done) | (simp; omega))))).mono ?_; rintro e w2 ⟨A2, c2, rfl, hc2, hm2, ho2, hb2⟩; obtain ⟨os2, d2, rfl⟩ := ext_of_below hb2; clear hb2; try simp only [ext_drew] at ho2; try simp only [ext_drewN] at ho2)
        | (go_at_call 69; refine (unhide HM _ (hr.below' (by (repeat' (first | (with_reducible exact Below.refl _ _) | (with_reducible assumption) | (with_reducible refine Below.alloc ?_ ?_ _) | (with_reducible refine below_ext ?_ ?_ _ _) | (with_reducible refine Below.setCell ?_ ?_ _) | (with_reducible refine Below.drew ?_) | (with_reducible refine below_drewN ?_ _))); all_goals (first | omega | (simp; done) | (simp; omega))))).mono ?_; rintro e w3 ⟨rfl, hb3⟩; obtain ⟨os3, d3, rfl⟩ := ext_of_below hb3; clear hb3))
    go_region_held3 (fun w' => w'.cell? ⟨g1, 0, none⟩ = some (.int .i64 d) ∧ w'.cell? ⟨g1, 1, none⟩ = some (.int .i64 c0)) (first | (go_simp; done) | go_keep) (fail)
    all_goals
      go_wp2_with fail
      exact bodyPost_ret (v := .tuple #[.agg #[.int .i64 0, .int .i64 0, .slice none 0 0, .int .i64 0], .bool false]) (by simp only [results, Try.results28]; go_simp) rfl ⟨_, _, rfl, Nat.le_refl _, by unfold maxLen; omega, hz _, (by (repeat' (first | (with_reducible exact Below.refl _ _) | (with_reducible assumption) | (with_reducible refine Below.alloc ?_ ?_ _) | (with_reducible refine below_ext ?_ ?_ _ _) | (with_reducible refine Below.setCell ?_ ?_ _) | (with_reducible refine Below.drew ?_) | (with_reducible refine below_drewN ?_ _))); all_goals (first | omega | (simp; done) | (simp; omega)))⟩
  · obtain ⟨d, c0, rfl, he0⟩ := diO_two h8 h0
    have HD := hide (fun W h => (sDI_any W A n c lo hi l 0 2 h hn h8 (by omega) (by omega) : Calls Try.prog 67 #[.slice A n c, .int .i64 0, .int .i64 2] W _))
    rw [h0] at HD
    obtain ⟨_, hv60, hev, _⟩ := rbO_inv h8 h1
    have HB := hide (fun W h => sRdB_yes W A n c lo hi l e v e2 60 h (by omega) h8 (by omega) hc h1)
    have HM := hide (fun W h => (sRdU_yes W A n c lo hi l (e2 + v) h (by omega) h8 (by omega) h2 : Calls Try.prog 69 #[.slice A n c, .int .i64 ((e2 : Int) + (v : Int))] W _))
    have hne : ((e3 : Int) != (n : Int)) = false := by simp; omega
    have HV := hide (fun W A2 c2 => sVS_any d c0 A2 v c2 m W)
    rw [show vS d c0 v m = false from h4] at HV
    clear h h0 h1 h2 h3 h4
    generalize (l.drop e2).take v = s at HB
    go_enter Try.func28, Try.ntmps28
    go_wp2_with (first
        | (go_at_call 67; refine (unhide HD _ (hr.below' (by (repeat' (first | (with_reducible exact Below.refl _ _) | (with_reducible assumption) | (with_reducible refine Below.alloc ?_ ?_ _) | (with_reducible refine below_ext ?_ ?_ _ _) | (with_reducible refine Below.setCell ?_ ?_ _) | (with_reducible refine Below.drew ?_) | (with_reducible refine below_drewN ?_ _))); all_goals (first | omega | (simp; done) | (simp; omega))))).mono ?_; rintro x w1 ⟨A1, c1, rfl, hv1, ho1, hb1⟩; obtain ⟨g1, rfl, hg1a, hg1b, hg1c, _, _⟩ := own_open ho1 (by omega); obtain ⟨os1, d1, rfl⟩ := ext_of_below hb1; clear hb1; have hq0 := ho1.row.cellAt 0 (by omega); have hq1 := ho1.row.cellAt 1 (by omega); simp only [List.map_cons, List.map_nil, List.getElem?_cons_zero, List.getElem?_cons_succ] at hq0 hq1; have hg1 : g1 < w.heap.size + 1 + os1.size := (by simpa using hg1c); clear ho1 hg1a hg1b hg1c hv1)
        | (go_at_call 68; refine (unhide HB _ (hr.below' (by (repeat' (first | (with_reducible exact Below.refl _ _) | (with_reducible assumption) | (with_reducible refine Below.alloc ?_ ?_ _) | (with_reducible refine below_ext ?_ ?_ _ _) | (with_reducible refine Below.setCell ?_ ?_ _) | (with_reducible refine Below.drew ?_) | (with_reducible refine below_drewN ?_ _))); all_goals (first | omega | (simp; done) | (simp; omega))))).mono ?_; rintro e w2 ⟨A2, c2, rfl, hc2, hm2, ho2, hb2⟩; obtain ⟨os2, d2, rfl⟩ := ext_of_below hb2; clear hb2; try simp only [ext_drew] at ho2; try simp only [ext_drewN] at ho2)
        | (go_at_call 69; refine (unhide HM _ (hr.below' (by (repeat' (first | (with_reducible exact Below.refl _ _) | (with_reducible assumption) | (with_reducible refine Below.alloc ?_ ?_ _) | (with_reducible refine below_ext ?_ ?_ _ _) | (with_reducible refine Below.setCell ?_ ?_ _) | (with_reducible refine Below.drew ?_) | (with_reducible refine below_drewN ?_ _))); all_goals (first | omega | (simp; done) | (simp; omega))))).mono ?_; rintro e w3 ⟨rfl, hb3⟩; obtain ⟨os3, d3, rfl⟩ := ext_of_below hb3; clear hb3))
    go_region_held3 (fun w' => w'.cell? ⟨g1, 0, none⟩ = some (.int .i64 d) ∧ w'.cell? ⟨g1, 1, none⟩ = some (.int .i64 c0)) (first | (go_simp; done) | go_keep) (fail)
    all_goals
      go_wp2_with (go_at_call 16; refine (unhide HV _ _ _).mono ?_; rintro e w4 ⟨rfl, hb4⟩; obtain ⟨os4, d4, rfl⟩ := ext_of_below hb4; clear hb4)
      exact bodyPost_ret (v := .tuple #[.agg #[.int .i64 0, .int .i64 0, .slice none 0 0, .int .i64 0], .bool false]) (by simp only [results, Try.results28]; go_simp) rfl ⟨_, _, rfl, Nat.le_refl _, by unfold maxLen; omega, hz _, (by (repeat' (first | (with_reducible exact Below.refl _ _) | (with_reducible assumption) | (with_reducible refine Below.alloc ?_ ?_ _) | (with_reducible refine below_ext ?_ ?_ _ _) | (with_reducible refine Below.setCell ?_ ?_ _) | (with_reducible refine Below.drew ?_) | (with_reducible refine below_drewN ?_ _))); all_goals (first | omega | (simp; done) | (simp; omega)))⟩
set_option maxRecDepth 100000 in
theorem sDS_yes (w : World) (A : Option Addr) (n c lo hi : Nat) (l : List Int) (hr : Rd w lo hi 1 A n (l.map (.int .u8))) (hn : n ≤ 1048576) (h8 : B8 l) (hc : n ≤ c) {d c0 m : Int} {s : List Int} (h : dsO l = some (d, c0, m, s)) :
    Calls Try.prog 28 #[.slice A n c] w (MkV (fun x => .tuple #[.agg #[.int .i64 d, .int .i64 c0, x, .int .i64 m], .bool true]) w 5 1 s.length (s.map (.int .u8))) := by
  have hll : l.length = n := by simpa using hr.len
  obtain ⟨e3, h5, h6⟩ := dsO_yes h
  obtain ⟨e, v, e2, h0, h1, h2, h3, rfl⟩ := rsO_yes h8 h5
  obtain ⟨_, _, _, he0⟩ := diO_two h8 h0
  have HD := hide (fun W h => (sDI_any W A n c lo hi l 0 2 h hn h8 (by omega) (by omega) : Calls Try.prog 67 #[.slice A n c, .int .i64 0, .int .i64 2] W _))
  rw [h0] at HD
  obtain ⟨_, hv60, hev, _⟩ := rbO_inv h8 h1
  have HB := hide (fun W h => sRdB_yes W A n c lo hi l e v e2 60 h (by omega) h8 (by omega) hc h1)
  have HM := hide (fun W h => (sRdU_yes W A n c lo hi l (e2 + v) h (by omega) h8 (by omega) h2 : Calls Try.prog 69 #[.slice A n c, .int .i64 ((e2 : Int) + (v : Int))] W _))
  have hne : ((e3 : Int) != (n : Int)) = false := by simp; omega
  have HV := hide (fun W A2 c2 => sVS_any d c0 A2 v c2 m W)
  rw [h3] at HV
  have hsl : ((l.drop e2).take v).length = v := by rw [List.length_take, List.length_drop]; omega
  rw [hsl]
  clear h h0 h1 h2 h3 h5 h6 hsl
  generalize (l.drop e2).take v = s at HB ⊢
  go_enter Try.func28, Try.ntmps28
  go_wp2_with (first
      | (go_at_call 67; refine (unhide HD _ (hr.below' (by (repeat' (first | (with_reducible exact Below.refl _ _) | (with_reducible assumption) | (with_reducible refine Below.alloc ?_ ?_ _) | (with_reducible refine below_ext ?_ ?_ _ _) | (with_reducible refine Below.setCell ?_ ?_ _) | (with_reducible refine Below.drew ?_) | (with_reducible refine below_drewN ?_ _))); all_goals (first | omega | (simp; done) | (simp; omega))))).mono ?_; rintro x w1 ⟨A1, c1, rfl, hv1, ho1, hb1⟩; obtain ⟨g1, rfl, hg1a, hg1b, hg1c, _, _⟩ := own_open ho1 (by omega); obtain ⟨os1, d1, rfl⟩ := ext_of_below hb1; clear hb1; have hq0 := ho1.row.cellAt 0 (by omega); have hq1 := ho1.row.cellAt 1 (by omega); simp only [List.map_cons, List.map_nil, List.getElem?_cons_zero, List.getElem?_cons_succ] at hq0 hq1; have hg1 : g1 < w.heap.size + 1 + os1.size := (by simpa using hg1c); clear ho1 hg1a hg1b hg1c hv1)
      | (go_at_call 68; refine (unhide HB _ (hr.below' (by (repeat' (first | (with_reducible exact Below.refl _ _) | (with_reducible assumption) | (with_reducible refine Below.alloc ?_ ?_ _) | (with_reducible refine below_ext ?_ ?_ _ _) | (with_reducible refine Below.setCell ?_ ?_ _) | (with_reducible refine Below.drew ?_) | (with_reducible refine below_drewN ?_ _))); all_goals (first | omega | (simp; done) | (simp; omega))))).mono ?_; rintro e w2 ⟨A2, c2, rfl, hc2, hm2, ho2, hb2⟩; obtain ⟨os2, d2, rfl⟩ := ext_of_below hb2; clear hb2; try simp only [ext_drew] at ho2; try simp only [ext_drewN] at ho2)
      | (go_at_call 69; refine (unhide HM _ (hr.below' (by (repeat' (first | (with_reducible exact Below.refl _ _) | (with_reducible assumption) | (with_reducible refine Below.alloc ?_ ?_ _) | (with_reducible refine below_ext ?_ ?_ _ _) | (with_reducible refine Below.setCell ?_ ?_ _) | (with_reducible refine Below.drew ?_) | (with_reducible refine below_drewN ?_ _))); all_goals (first | omega | (simp; done) | (simp; omega))))).mono ?_; rintro e w3 ⟨rfl, hb3⟩; obtain ⟨os3, d3, rfl⟩ := ext_of_below hb3; clear hb3))
  go_region_held3 (fun w' => w'.cell? ⟨g1, 0, none⟩ = some (.int .i64 d) ∧ w'.cell? ⟨g1, 1, none⟩ = some (.int .i64 c0)) (first | (go_simp; done) | go_keep) (fail)
  all_goals
    go_wp2_with (go_at_call 16; refine (unhide HV _ _ _).mono ?_; rintro e w4 ⟨rfl, hb4⟩; obtain ⟨os4, d4, rfl⟩ := ext_of_below hb4; clear hb4)
    exact bodyPost_ret (v := .tuple #[.agg #[.int .i64 d, .int .i64 c0, .slice A2 v c2, .int .i64 m], .bool true]) (by simp only [results, Try.results28]; go_simp) rfl ⟨A2, c2, rfl, hc2, hm2, Own.more (own_ext' (Own.alloc (own_ext' (Own.swap ho2 (by simp) (Nat.le_refl _)) _ _) _) _ _) (by first | omega | (simp <;> omega)) (by first | omega | (simp <;> omega)), (by (repeat' (first | (with_reducible exact Below.refl _ _) | (with_reducible assumption) | (with_reducible refine Below.alloc ?_ ?_ _) | (with_reducible refine below_ext ?_ ?_ _ _) | (with_reducible refine Below.setCell ?_ ?_ _) | (with_reducible refine Below.drew ?_) | (with_reducible refine below_drewN ?_ _))); all_goals (first | omega | (simp; done) | (simp; omega)))⟩
end Go.Proofs.Ytidfpmkhgogilaa
