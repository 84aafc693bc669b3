/- DecodePacket: what it returns, on both sides. -/
import Derived.Test.YtidfpmkhgogilaaPkt
import Derived.Test.YtidfpmkhgogilaaRdB
namespace Go.Proofs.Ytidfpmkhgogilaa
open Go.RowKit Go.Sep

def dpO (l : List Int) : Option (Int × List Int) := match rdF l 0 6 0 0 with
  | none => none
  | some (p, e) => match rbO l e 60 with
    | none => none
    | some (v, e2) => if e2 + v = l.length ∧ vP p v = true then some (p, (l.drop e2).take v) else none
theorem dpO_no {l : List Int} (h : dpO l = none) : rdF l 0 6 0 0 = none ∨ (∃ p e, rdF l 0 6 0 0 = some (p, e) ∧ rbO l e 60 = none) ∨ (∃ p e v e2, rdF l 0 6 0 0 = some (p, e) ∧ rbO l e 60 = some (v, e2) ∧ e2 + v ≠ l.length) ∨
    (∃ p e v e2, rdF l 0 6 0 0 = some (p, e) ∧ rbO l e 60 = some (v, e2) ∧ e2 + v = l.length ∧ vP p v = false) := by
  cases h0 : rdF l 0 6 0 0 with
  | none => exact .inl rfl
  | some pe =>
    obtain ⟨p, e⟩ := pe
    right
    cases h1 : rbO l e 60 with
    | none => exact .inl ⟨p, e, rfl, h1⟩
    | some ve =>
      obtain ⟨v, e2⟩ := ve
      right
      by_cases h2 : e2 + v = l.length
      · right
        cases h3 : vP p v
        · exact ⟨p, e, v, e2, rfl, h1, h2, h3⟩
        · simp [dpO, h0, h1, h2, h3] at h
      · exact .inl ⟨p, e, v, e2, rfl, h1, h2⟩
theorem dpO_yes {l : List Int} {p : Int} {s : List Int} (h : dpO l = some (p, s)) : ∃ e v e2, rdF l 0 6 0 0 = some (p, e) ∧ rbO l e 60 = some (v, e2) ∧ e2 + v = l.length ∧ vP p v = true ∧ (l.drop e2).take v = s := by
  cases h0 : rdF l 0 6 0 0 with
  | none => simp [dpO, h0] at h
  | some pe =>
    obtain ⟨p', e⟩ := pe
    cases h1 : rbO l e 60 with
    | none => simp [dpO, h0, h1] at h
    | some ve =>
      obtain ⟨v, e2⟩ := ve
      by_cases h2 : e2 + v = l.length ∧ vP p' v = true
      · simp only [dpO, h0, h1, h2, and_self, if_true] at h
        injection h with h
        injection h with h3 h4
        subst h3
        exact ⟨e, v, e2, rfl, h1, h2.1, h2.2, h4⟩
      · simp only [dpO, h0, h1, h2, if_false] at h
        cases h
set_option maxRecDepth 100000 in
theorem iDP_no (w : World) (A : Option Addr) (n c lo hi : Nat) (l : List Int) (hr : Rd w lo hi 1 A n (l.map (.int .u8))) (hn : n ≤ 1048576) (h8 : B8 l) (hc : n ≤ c) (h : dpO l = none) :
    Calls Try.prog 46 #[.slice A n c] w (MkV (fun x => .tuple #[.agg #[.int .i64 0, x], .bool false]) w 5 1 0 []) := by
  have hll : l.length = n := by simpa using hr.len
  have hz : ∀ X : World, Own X w.heap.size X.heap.size 5 1 (.slice none 0 0) 0 [] := fun X => Own.nil_ _ _ _ _ _
  rcases dpO_no h with h0 | ⟨p, e, h0, h1⟩ | ⟨p, e, v, e2, h0, h1, h2⟩ | ⟨p, e, v, e2, h0, h1, h2, h3⟩
  · have HR := hide (fun W h => (iRdU_no W A n c lo hi l 0 h (by omega) h8 (by omega) h0 : Calls Try.prog 75 #[.slice A n c, .int .i64 0] W _))
    clear h0 h
    go_enter Try.func46, Try.ntmps46
    go_wp2_with (go_at_call 75; refine (unhide HR _ (hr.below' (by (repeat' (first | (with_reducible exact Below.refl _ _) | (with_reducible assumption) | (with_reducible refine Below.alloc ?_ ?_ _) | (with_reducible refine below_ext ?_ ?_ _ _) | (with_reducible refine Below.setCell ?_ ?_ _) | (with_reducible refine Below.drew ?_) | (with_reducible refine below_drewN ?_ _))); all_goals (first | omega | (simp; done) | (simp; omega))))).mono ?_; rintro e w1 ⟨rfl, hb1⟩; obtain ⟨os1, d1, rfl⟩ := ext_of_below hb1; clear hb1)
    exact bodyPost_ret (v := .tuple #[.agg #[.int .i64 0, .slice none 0 0], .bool false]) (by simp only [results, Try.results46]; go_simp) rfl ⟨_, _, rfl, Nat.le_refl _, by unfold maxLen; omega, hz _, (by (repeat' (first | (with_reducible exact Below.refl _ _) | (with_reducible assumption) | (with_reducible refine Below.alloc ?_ ?_ _) | (with_reducible refine below_ext ?_ ?_ _ _) | (with_reducible refine Below.setCell ?_ ?_ _) | (with_reducible refine Below.drew ?_) | (with_reducible refine below_drewN ?_ _))); all_goals (first | omega | (simp; done) | (simp; omega)))⟩
  · obtain ⟨_, _, he0, he1⟩ := rdF_bd h8 h0
    have HR := hide (fun W h => (iRdU_yes W A n c lo hi l 0 h (by omega) h8 (by omega) h0 : Calls Try.prog 75 #[.slice A n c, .int .i64 0] W _))
    have HB := hide (fun W h => iRdB_no W A n c lo hi l e 60 h (by omega) h8 (by omega) h1)
    clear h0 h1 h
    go_enter Try.func46, Try.ntmps46
    go_wp2_with (first | (go_at_call 75; refine (unhide HR _ (hr.below' (by (repeat' (first | (with_reducible exact Below.refl _ _) | (with_reducible assumption) | (with_reducible refine Below.alloc ?_ ?_ _) | (with_reducible refine below_ext ?_ ?_ _ _) | (with_reducible refine Below.setCell ?_ ?_ _) | (with_reducible refine Below.drew ?_) | (with_reducible refine below_drewN ?_ _))); all_goals (first | omega | (simp; done) | (simp; omega))))).mono ?_; rintro e w1 ⟨rfl, hb1⟩; obtain ⟨os1, d1, rfl⟩ := ext_of_below hb1; clear hb1) | (go_at_call 76; refine (unhide HB _ (hr.below' (by (repeat' (first | (with_reducible exact Below.refl _ _) | (with_reducible assumption) | (with_reducible refine Below.alloc ?_ ?_ _) | (with_reducible refine below_ext ?_ ?_ _ _) | (with_reducible refine Below.setCell ?_ ?_ _) | (with_reducible refine Below.drew ?_) | (with_reducible refine below_drewN ?_ _))); all_goals (first | omega | (simp; done) | (simp; omega))))).mono ?_; rintro e w2 ⟨A2, c2, rfl, hc2, hm2, ho2, hb2⟩; obtain ⟨os2, d2, rfl⟩ := ext_of_below hb2; clear hb2; try simp only [ext_drew] at ho2; try simp only [ext_drewN] at ho2))
    exact bodyPost_ret (v := .tuple #[.agg #[.int .i64 0, .slice none 0 0], .bool false]) (by simp only [results, Try.results46]; go_simp) rfl ⟨_, _, rfl, Nat.le_refl _, by unfold maxLen; omega, hz _, (by (repeat' (first | (with_reducible exact Below.refl _ _) | (with_reducible assumption) | (with_reducible refine Below.alloc ?_ ?_ _) | (with_reducible refine below_ext ?_ ?_ _ _) | (with_reducible refine Below.setCell ?_ ?_ _) | (with_reducible refine Below.drew ?_) | (with_reducible refine below_drewN ?_ _))); all_goals (first | omega | (simp; done) | (simp; omega)))⟩
  · obtain ⟨_, _, he0, he1⟩ := rdF_bd h8 h0
    obtain ⟨_, hv60, hev, _⟩ := rbO_inv h8 h1
    have HR := hide (fun W h => (iRdU_yes W A n c lo hi l 0 h (by omega) h8 (by omega) h0 : Calls Try.prog 75 #[.slice A n c, .int .i64 0] W _))
    have HB := hide (fun W h => iRdB_yes W A n c lo hi l e v e2 60 h (by omega) h8 (by omega) hc h1)
    have hne : ((e2 : Int) + (v : Int) != (n : Int)) = true := by simp; omega
    clear h0 h1 h2 h
    generalize (l.drop e2).take v = s at HB
    go_enter Try.func46, Try.ntmps46
    go_wp2_with (first | (go_at_call 75; refine (unhide HR _ (hr.below' (by (repeat' (first | (with_reducible exact Below.refl _ _) | (with_reducible assumption) | (with_reducible refine Below.alloc ?_ ?_ _) | (with_reducible refine below_ext ?_ ?_ _ _) | (with_reducible refine Below.setCell ?_ ?_ _) | (with_reducible refine Below.drew ?_) | (with_reducible refine below_drewN ?_ _))); all_goals (first | omega | (simp; done) | (simp; omega))))).mono ?_; rintro e w1 ⟨rfl, hb1⟩; obtain ⟨os1, d1, rfl⟩ := ext_of_below hb1; clear hb1) | (go_at_call 76; refine (unhide HB _ (hr.below' (by (repeat' (first | (with_reducible exact Below.refl _ _) | (with_reducible assumption) | (with_reducible refine Below.alloc ?_ ?_ _) | (with_reducible refine below_ext ?_ ?_ _ _) | (with_reducible refine Below.setCell ?_ ?_ _) | (with_reducible refine Below.drew ?_) | (with_reducible refine below_drewN ?_ _))); all_goals (first | omega | (simp; done) | (simp; omega))))).mono ?_; rintro e w2 ⟨A2, c2, rfl, hc2, hm2, ho2, hb2⟩; obtain ⟨os2, d2, rfl⟩ := ext_of_below hb2; clear hb2; try simp only [ext_drew] at ho2; try simp only [ext_drewN] at ho2))
    exact bodyPost_ret (v := .tuple #[.agg #[.int .i64 0, .slice none 0 0], .bool false]) (by simp only [results, Try.results46]; go_simp) rfl ⟨_, _, rfl, Nat.le_refl _, by unfold maxLen; omega, hz _, (by (repeat' (first | (with_reducible exact Below.refl _ _) | (with_reducible assumption) | (with_reducible refine Below.alloc ?_ ?_ _) | (with_reducible refine below_ext ?_ ?_ _ _) | (with_reducible refine Below.setCell ?_ ?_ _) | (with_reducible refine Below.drew ?_) | (with_reducible refine below_drewN ?_ _))); all_goals (first | omega | (simp; done) | (simp; omega)))⟩
  · obtain ⟨_, _, he0, he1⟩ := rdF_bd h8 h0
    obtain ⟨_, hv60, hev, _⟩ := rbO_inv h8 h1
    have HR := hide (fun W h => (iRdU_yes W A n c lo hi l 0 h (by omega) h8 (by omega) h0 : Calls Try.prog 75 #[.slice A n c, .int .i64 0] W _))
    have HB := hide (fun W h => iRdB_yes W A n c lo hi l e v e2 60 h (by omega) h8 (by omega) hc h1)
    have hsl : ((l.drop e2).take v).length = v := by rw [List.length_take, List.length_drop]; omega
    have hsB : B8 ((l.drop e2).take v) := fun x hx => h8 x (List.mem_of_mem_drop (List.mem_of_mem_take hx))
    have HV := hide (fun W A2 c2 lo2 hi2 h => iIsValidPacket_any W p A2 v c2 lo2 hi2 ((l.drop e2).take v) h (by omega) hsB)
    rw [h3] at HV
    have hne : ((e2 : Int) + (v : Int) != (n : Int)) = false := by simp; omega
    clear h0 h1 h2 h3 h hsl hsB
    generalize (l.drop e2).take v = s at HB HV
    go_enter Try.func46, Try.ntmps46
    go_wp2_with (first | (go_at_call 75; refine (unhide HR _ (hr.below' (by (repeat' (first | (with_reducible exact Below.refl _ _) | (with_reducible assumption) | (with_reducible refine Below.alloc ?_ ?_ _) | (with_reducible refine below_ext ?_ ?_ _ _) | (with_reducible refine Below.setCell ?_ ?_ _) | (with_reducible refine Below.drew ?_) | (with_reducible refine below_drewN ?_ _))); all_goals (first | omega | (simp; done) | (simp; omega))))).mono ?_; rintro e w1 ⟨rfl, hb1⟩; obtain ⟨os1, d1, rfl⟩ := ext_of_below hb1; clear hb1) | (go_at_call 76; refine (unhide HB _ (hr.below' (by (repeat' (first | (with_reducible exact Below.refl _ _) | (with_reducible assumption) | (with_reducible refine Below.alloc ?_ ?_ _) | (with_reducible refine below_ext ?_ ?_ _ _) | (with_reducible refine Below.setCell ?_ ?_ _) | (with_reducible refine Below.drew ?_) | (with_reducible refine below_drewN ?_ _))); all_goals (first | omega | (simp; done) | (simp; omega))))).mono ?_; rintro e w2 ⟨A2, c2, rfl, hc2, hm2, ho2, hb2⟩; obtain ⟨os2, d2, rfl⟩ := ext_of_below hb2; clear hb2; try simp only [ext_drew] at ho2; try simp only [ext_drewN] at ho2) | (go_at_call 40; refine (unhide HV _ _ _ _ _ (ho2.rd.below' (by (repeat' (first | (with_reducible exact Below.refl _ _) | (with_reducible assumption) | (with_reducible refine Below.alloc ?_ ?_ _) | (with_reducible refine below_ext ?_ ?_ _ _) | (with_reducible refine Below.setCell ?_ ?_ _) | (with_reducible refine Below.drew ?_) | (with_reducible refine below_drewN ?_ _))); all_goals (first | omega | (simp; done) | (simp; omega))))).mono ?_; rintro e w3 ⟨rfl, hb3⟩; obtain ⟨os3, d3, rfl⟩ := ext_of_below hb3; clear hb3))
    exact bodyPost_ret (v := .tuple #[.agg #[.int .i64 0, .slice none 0 0], .bool false]) (by simp only [results, Try.results46]; go_simp) rfl ⟨_, _, rfl, Nat.le_refl _, by unfold maxLen; omega, hz _, (by (repeat' (first | (with_reducible exact Below.refl _ _) | (with_reducible assumption) | (with_reducible refine Below.alloc ?_ ?_ _) | (with_reducible refine below_ext ?_ ?_ _ _) | (with_reducible refine Below.setCell ?_ ?_ _) | (with_reducible refine Below.drew ?_) | (with_reducible refine below_drewN ?_ _))); all_goals (first | omega | (simp; done) | (simp; omega)))⟩
set_option maxRecDepth 100000 in
theorem iDP_yes (w : World) (A : Option Addr) (n c lo hi : Nat) (l : List Int) (hr : Rd w lo hi 1 A n (l.map (.int .u8))) (hn : n ≤ 1048576) (h8 : B8 l) (hc : n ≤ c) {p : Int} {s : List Int} (h : dpO l = some (p, s)) :
    Calls Try.prog 46 #[.slice A n c] w (MkV (fun x => .tuple #[.agg #[.int .i64 p, x], .bool true]) w 5 1 s.length (s.map (.int .u8))) := by
  have hll : l.length = n := by simpa using hr.len
  obtain ⟨e, v, e2, h0, h1, h2, h3, h4⟩ := dpO_yes h
  obtain ⟨_, _, he0, he1⟩ := rdF_bd h8 h0
  obtain ⟨_, hv60, hev, _⟩ := rbO_inv h8 h1
  have HR := hide (fun W h => (iRdU_yes W A n c lo hi l 0 h (by omega) h8 (by omega) h0 : Calls Try.prog 75 #[.slice A n c, .int .i64 0] W _))
  have HB := hide (fun W h => iRdB_yes W A n c lo hi l e v e2 60 h (by omega) h8 (by omega) hc h1)
  have hsl : ((l.drop e2).take v).length = v := by rw [List.length_take, List.length_drop]; omega
  have hsB : B8 ((l.drop e2).take v) := fun x hx => h8 x (List.mem_of_mem_drop (List.mem_of_mem_take hx))
  have HV := hide (fun W A2 c2 lo2 hi2 h => iIsValidPacket_any W p A2 v c2 lo2 hi2 ((l.drop e2).take v) h (by omega) hsB)
  rw [h3] at HV
  have hne : ((e2 : Int) + (v : Int) != (n : Int)) = false := by simp; omega
  rw [← h4, hsl]
  clear h0 h1 h2 h3 h hsl hsB h4
  generalize (l.drop e2).take v = s at HB HV ⊢
  go_enter Try.func46, Try.ntmps46
  go_wp2_with (first | (go_at_call 75; refine (unhide HR _ (hr.below' (by (repeat' (first | (with_reducible exact Below.refl _ _) | (with_reducible assumption) | (with_reducible refine Below.alloc ?_ ?_ _) | (with_reducible refine below_ext ?_ ?_ _ _) | (with_reducible refine Below.setCell ?_ ?_ _) | (with_reducible refine Below.drew ?_) | (with_reducible refine below_drewN ?_ _))); all_goals (first | omega | (simp; done) | (simp; omega))))).mono ?_; rintro e w1 ⟨rfl, hb1⟩; obtain ⟨os1, d1, rfl⟩ := ext_of_below hb1; clear hb1) | (go_at_call 76; refine (unhide HB _ (hr.below' (by (repeat' (first | (with_reducible exact Below.refl _ _) | (with_reducible assumption) | (with_reducible refine Below.alloc ?_ ?_ _) | (with_reducible refine below_ext ?_ ?_ _ _) | (with_reducible refine Below.setCell ?_ ?_ _) | (with_reducible refine Below.drew ?_) | (with_reducible refine below_drewN ?_ _))); all_goals (first | omega | (simp; done) | (simp; omega))))).mono ?_; rintro e w2 ⟨A2, c2, rfl, hc2, hm2, ho2, hb2⟩; obtain ⟨os2, d2, rfl⟩ := ext_of_below hb2; clear hb2; try simp only [ext_drew] at ho2; try simp only [ext_drewN] at ho2) | (go_at_call 40; refine (unhide HV _ _ _ _ _ (ho2.rd.below' (by (repeat' (first | (with_reducible exact Below.refl _ _) | (with_reducible assumption) | (with_reducible refine Below.alloc ?_ ?_ _) | (with_reducible refine below_ext ?_ ?_ _ _) | (with_reducible refine Below.setCell ?_ ?_ _) | (with_reducible refine Below.drew ?_) | (with_reducible refine below_drewN ?_ _))); all_goals (first | omega | (simp; done) | (simp; omega))))).mono ?_; rintro e w3 ⟨rfl, hb3⟩; obtain ⟨os3, d3, rfl⟩ := ext_of_below hb3; clear hb3))
  exact bodyPost_ret (v := .tuple #[.agg #[.int .i64 p, .slice A2 v c2], .bool true]) (by simp only [results, Try.results46]; go_simp) rfl ⟨A2, c2, rfl, hc2, hm2, Own.more (own_ext (Own.alloc (Own.swap ho2 (by simp) (Nat.le_refl _)) _) _ _) (by first | omega | (simp <;> omega)) (by first | omega | (simp <;> omega)), (by (repeat' (first | (with_reducible exact Below.refl _ _) | (with_reducible assumption) | (with_reducible refine Below.alloc ?_ ?_ _) | (with_reducible refine below_ext ?_ ?_ _ _) | (with_reducible refine Below.setCell ?_ ?_ _) | (with_reducible refine Below.drew ?_) | (with_reducible refine below_drewN ?_ _))); all_goals (first | omega | (simp; done) | (simp; omega)))⟩
set_option maxRecDepth 100000 in
theorem sDP_no (w : World) (A : Option Addr) (n c lo hi : Nat) (l : List Int) (hr : Rd w lo hi 1 A n (l.map (.int .u8))) (hn : n ≤ 1048576) (h8 : B8 l) (hc : n ≤ c) (h : dpO l = none) :
    Calls Try.prog 45 #[.slice A n c] w (MkV (fun x => .tuple #[.agg #[.int .i64 0, x], .bool false]) w 5 1 0 []) := by
  have hll : l.length = n := by simpa using hr.len
  have hz : ∀ X : World, Own X w.heap.size X.heap.size 5 1 (.slice none 0 0) 0 [] := fun X => Own.nil_ _ _ _ _ _
  rcases dpO_no h with h0 | ⟨p, e, h0, h1⟩ | ⟨p, e, v, e2, h0, h1, h2⟩ | ⟨p, e, v, e2, h0, h1, h2, h3⟩
  · have HR := hide (fun W h => (sRdU_no W A n c lo hi l 0 h (by omega) h8 (by omega) h0 : Calls Try.prog 69 #[.slice A n c, .int .i64 0] W _))
    clear h0 h
    go_enter Try.func45, Try.ntmps45
    go_wp2_with (go_at_call 69; refine (unhide HR _ (hr.below' (by (repeat' (first | (with_reducible exact Below.refl _ _) | (with_reducible assumption) | (with_reducible refine Below.alloc ?_ ?_ _) | (with_reducible refine below_ext ?_ ?_ _ _) | (with_reducible refine Below.setCell ?_ ?_ _) | (with_reducible refine Below.drew ?_) | (with_reducible refine below_drewN ?_ _))); all_goals (first | omega | (simp; done) | (simp; omega))))).mono ?_; rintro e w1 ⟨rfl, hb1⟩; obtain ⟨os1, d1, rfl⟩ := ext_of_below hb1; clear hb1)
    exact bodyPost_ret (v := .tuple #[.agg #[.int .i64 0, .slice none 0 0], .bool false]) (by simp only [results, Try.results45]; go_simp) rfl ⟨_, _, rfl, Nat.le_refl _, by unfold maxLen; omega, hz _, (by (repeat' (first | (with_reducible exact Below.refl _ _) | (with_reducible assumption) | (with_reducible refine Below.alloc ?_ ?_ _) | (with_reducible refine below_ext ?_ ?_ _ _) | (with_reducible refine Below.setCell ?_ ?_ _) | (with_reducible refine Below.drew ?_) | (with_reducible refine below_drewN ?_ _))); all_goals (first | omega | (simp; done) | (simp; omega)))⟩
  · obtain ⟨_, _, he0, he1⟩ := rdF_bd h8 h0
    have HR := hide (fun W h => (sRdU_yes W A n c lo hi l 0 h (by omega) h8 (by omega) h0 : Calls Try.prog 69 #[.slice A n c, .int .i64 0] W _))
    have HB := hide (fun W h => sRdB_no W A n c lo hi l e 60 h (by omega) h8 (by omega) h1)
    clear h0 h1 h
    go_enter Try.func45, Try.ntmps45
    go_wp2_with (first | (go_at_call 69; refine (unhide HR _ (hr.below' (by (repeat' (first | (with_reducible exact Below.refl _ _) | (with_reducible assumption) | (with_reducible refine Below.alloc ?_ ?_ _) | (with_reducible refine below_ext ?_ ?_ _ _) | (with_reducible refine Below.setCell ?_ ?_ _) | (with_reducible refine Below.drew ?_) | (with_reducible refine below_drewN ?_ _))); all_goals (first | omega | (simp; done) | (simp; omega))))).mono ?_; rintro e w1 ⟨rfl, hb1⟩; obtain ⟨os1, d1, rfl⟩ := ext_of_below hb1; clear hb1) | (go_at_call 68; refine (unhide HB _ (hr.below' (by (repeat' (first | (with_reducible exact Below.refl _ _) | (with_reducible assumption) | (with_reducible refine Below.alloc ?_ ?_ _) | (with_reducible refine below_ext ?_ ?_ _ _) | (with_reducible refine Below.setCell ?_ ?_ _) | (with_reducible refine Below.drew ?_) | (with_reducible refine below_drewN ?_ _))); all_goals (first | omega | (simp; done) | (simp; omega))))).mono ?_; rintro e w2 ⟨A2, c2, rfl, hc2, hm2, ho2, hb2⟩; obtain ⟨os2, d2, rfl⟩ := ext_of_below hb2; clear hb2; try simp only [ext_drew] at ho2; try simp only [ext_drewN] at ho2))
    exact bodyPost_ret (v := .tuple #[.agg #[.int .i64 0, .slice none 0 0], .bool false]) (by simp only [results, Try.results45]; go_simp) rfl ⟨_, _, rfl, Nat.le_refl _, by unfold maxLen; omega, hz _, (by (repeat' (first | (with_reducible exact Below.refl _ _) | (with_reducible assumption) | (with_reducible refine Below.alloc ?_ ?_ _) | (with_reducible refine below_ext ?_ ?_ _ _) | (with_reducible refine Below.setCell ?_ ?_ _) | (with_reducible refine Below.drew ?_) | (with_reducible refine below_drewN ?_ _))); all_goals (first | omega | (simp; done) | (simp; omega)))⟩
  · obtain ⟨_, _, he0, he1⟩ := rdF_bd h8 h0
    obtain ⟨_, hv60, hev, _⟩ := rbO_inv h8 h1
    have HR := hide (fun W h => (sRdU_yes W A n c lo hi l 0 h (by omega) h8 (by omega) h0 : Calls Try.prog 69 #[.slice A n c, .int .i64 0] W _))
    have HB := hide (fun W h => sRdB_yes W A n c lo hi l e v e2 60 h (by omega) h8 (by omega) hc h1)
    have hne : ((e2 : Int) + (v : Int) != (n : Int)) = true := by simp; omega
    clear h0 h1 h2 h
    generalize (l.drop e2).take v = s at HB
    go_enter Try.func45, Try.ntmps45
    go_wp2_with (first | (go_at_call 69; refine (unhide HR _ (hr.below' (by (repeat' (first | (with_reducible exact Below.refl _ _) | (with_reducible assumption) | (with_reducible refine Below.alloc ?_ ?_ _) | (with_reducible refine below_ext ?_ ?_ _ _) | (with_reducible refine Below.setCell ?_ ?_ _) | (with_reducible refine Below.drew ?_) | (with_reducible refine below_drewN ?_ _))); all_goals (first | omega | (simp; done) | (simp; omega))))).mono ?_; rintro e w1 ⟨rfl, hb1⟩; obtain ⟨os1, d1, rfl⟩ := ext_of_below hb1; clear hb1) | (go_at_call 68; refine (unhide HB _ (hr.below' (by (repeat' (first | (with_reducible exact Below.refl _ _) | (with_reducible assumption) | (with_reducible refine Below.alloc ?_ ?_ _) | (with_reducible refine below_ext ?_ ?_ _ _) | (with_reducible refine Below.setCell ?_ ?_ _) | (with_reducible refine Below.drew ?_) | (with_reducible refine below_drewN ?_ _))); all_goals (first | omega | (simp; done) | (simp; omega))))).mono ?_; rintro e w2 ⟨A2, c2, rfl, hc2, hm2, ho2, hb2⟩; obtain ⟨os2, d2, rfl⟩ := ext_of_below hb2; clear hb2; try simp only [ext_drew] at ho2; try simp only [ext_drewN] at ho2))
    exact bodyPost_ret (v := .tuple #[.agg #[.int .i64 0, .slice none 0 0], .bool false]) (by simp only [results, Try.results45]; go_simp) rfl ⟨_, _, rfl, Nat.le_refl _, by unfold maxLen; omega, hz _, (by (repeat' (first | (with_reducible exact Below.refl _ _) | (with_reducible assumption) | (with_reducible refine Below.alloc ?_ ?_ _) | (with_reducible refine below_ext ?_ ?_ _ _) | (with_reducible refine Below.setCell ?_ ?_ _) | (with_reducible refine Below.drew ?_) | (with_reducible refine below_drewN ?_ _))); all_goals (first | omega | (simp; done) | (simp; omega)))⟩
  · obtain ⟨_, _, he0, he1⟩ := rdF_bd h8 h0
    obtain ⟨_, hv60, hev, _⟩ := rbO_inv h8 h1
    have HR := hide (fun W h => (sRdU_yes W A n c lo hi l 0 h (by omega) h8 (by omega) h0 : Calls Try.prog 69 #[.slice A n c, .int .i64 0] W _))
    have HB := hide (fun W h => sRdB_yes W A n c lo hi l e v e2 60 h (by omega) h8 (by omega) hc h1)
    have hsl : ((l.drop e2).take v).length = v := by rw [List.length_take, List.length_drop]; omega
    have hsB : B8 ((l.drop e2).take v) := fun x hx => h8 x (List.mem_of_mem_drop (List.mem_of_mem_take hx))
    have HV := hide (fun W A2 c2 lo2 hi2 h => sIsValidPacket_any W p A2 v c2 lo2 hi2 ((l.drop e2).take v) h (by omega) hsB)
    rw [h3] at HV
    have hne : ((e2 : Int) + (v : Int) != (n : Int)) = false := by simp; omega
    clear h0 h1 h2 h3 h hsl hsB
    generalize (l.drop e2).take v = s at HB HV
    go_enter Try.func45, Try.ntmps45
    go_wp2_with (first | (go_at_call 69; refine (unhide HR _ (hr.below' (by (repeat' (first | (with_reducible exact Below.refl _ _) | (with_reducible assumption) | (with_reducible refine Below.alloc ?_ ?_ _) | (with_reducible refine below_ext ?_ ?_ _ _) | (with_reducible refine Below.setCell ?_ ?_ _) | (with_reducible refine Below.drew ?_) | (with_reducible refine below_drewN ?_ _))); all_goals (first | omega | (simp; done) | (simp; omega))))).mono ?_; rintro e w1 ⟨rfl, hb1⟩; obtain ⟨os1, d1, rfl⟩ := ext_of_below hb1; clear hb1) | (go_at_call 68; refine (unhide HB _ (hr.below' (by (repeat' (first | (with_reducible exact Below.refl _ _) | (with_reducible assumption) | (with_reducible refine Below.alloc ?_ ?_ _) | (with_reducible refine below_ext ?_ ?_ _ _) | (with_reducible refine Below.setCell ?_ ?_ _) | (with_reducible refine Below.drew ?_) | (with_reducible refine below_drewN ?_ _))); all_goals (first | omega | (simp; done) | (simp; omega))))).mono ?_; rintro e w2 ⟨A2, c2, rfl, hc2, hm2, ho2, hb2⟩; obtain ⟨os2, d2, rfl⟩ := ext_of_below hb2; clear hb2; try simp only [ext_drew] at ho2; try simp only [ext_drewN] at ho2) | (go_at_call 38; refine (unhide HV _ _ _ _ _ (ho2.rd.below' (by (repeat' (first | (with_reducible exact Below.refl _ _) | (with_reducible assumption) | (with_reducible refine Below.alloc ?_ ?_ _) | (with_reducible refine below_ext ?_ ?_ _ _) | (with_reducible refine Below.setCell ?_ ?_ _) | (with_reducible refine Below.drew ?_) | (with_reducible refine below_drewN ?_ _))); all_goals (first | omega | (simp; done) | (simp; omega))))).mono ?_; rintro e w3 ⟨rfl, hb3⟩; obtain ⟨os3, d3, rfl⟩ := ext_of_below hb3; clear hb3))
    exact bodyPost_ret (v := .tuple #[.agg #[.int .i64 0, .slice none 0 0], .bool false]) (by simp only [results, Try.results45]; go_simp) rfl ⟨_, _, rfl, Nat.le_refl _, by unfold maxLen; omega, hz _, (by (repeat' (first | (with_reducible exact Below.refl _ _) | (with_reducible assumption) | (with_reducible refine Below.alloc ?_ ?_ _) | (with_reducible refine below_ext ?_ ?_ _ _) | (with_reducible refine Below.setCell ?_ ?_ _) | (with_reducible refine Below.drew ?_) | (with_reducible refine below_drewN ?_ _))); all_goals (first | omega | (simp; done) | (simp; omega)))⟩
set_option maxRecDepth 100000 in
theorem sDP_yes (w : World) (A : Option Addr) (n c lo hi : Nat) (l : List Int) (hr : Rd w lo hi 1 A n (l.map (.int .u8))) (hn : n ≤ 1048576) (h8 : B8 l) (hc : n ≤ c) {p : Int} {s : List Int} (h : dpO l = some (p, s)) :
    Calls Try.prog 45 #[.slice A n c] w (MkV (fun x => .tuple #[.agg #[.int .i64 p, x], .bool true]) w 5 1 s.length (s.map (.int .u8))) := by
  have hll : l.length = n := by simpa using hr.len
  obtain ⟨e, v, e2, h0, h1, h2, h3, h4⟩ := dpO_yes h
  obtain ⟨_, _, he0, he1⟩ := rdF_bd h8 h0
  obtain ⟨_, hv60, hev, _⟩ := rbO_inv h8 h1
  have HR := hide (fun W h => (sRdU_yes W A n c lo hi l 0 h (by omega) h8 (by omega) h0 : Calls Try.prog 69 #[.slice A n c, .int .i64 0] W _))
  have HB := hide (fun W h => sRdB_yes W A n c lo hi l e v e2 60 h (by omega) h8 (by omega) hc h1)
  have hsl : ((l.drop e2).take v).length = v := by rw [List.length_take, List.length_drop]; omega
  have hsB : B8 ((l.drop e2).take v) := fun x hx => h8 x (List.mem_of_mem_drop (List.mem_of_mem_take hx))
  have HV := hide (fun W A2 c2 lo2 hi2 h => sIsValidPacket_any W p A2 v c2 lo2 hi2 ((l.drop e2).take v) h (by omega) hsB)
  rw [h3] at HV
  have hne : ((e2 : Int) + (v : Int) != (n : Int)) = false := by simp; omega
  rw [← h4, hsl]
  clear h0 h1 h2 h3 h hsl hsB h4
  generalize (l.drop e2).take v = s at HB HV ⊢
  go_enter Try.func45, Try.ntmps45
  go_wp2_with (first | (go_at_call 69; refine (unhide HR _ (hr.below' (by (repeat' (first | (with_reducible exact Below.refl _ _) | (with_reducible assumption) | (with_reducible refine Below.alloc ?_ ?_ _) | (with_reducible refine below_ext ?_ ?_ _ _) | (with_reducible refine Below.setCell ?_ ?_ _) | (with_reducible refine Below.drew ?_) | (with_reducible refine below_drewN ?_ _))); all_goals (first | omega | (simp; done) | (simp; omega))))).mono ?_; rintro e w1 ⟨rfl, hb1⟩; obtain ⟨os1, d1, rfl⟩ := ext_of_below hb1; clear hb1) | (go_at_call 68; refine (unhide HB _ (hr.below' (by (repeat' (first | (with_reducible exact Below.refl _ _) | (with_reducible assumption) | (with_reducible refine Below.alloc ?_ ?_ _) | (with_reducible refine below_ext ?_ ?_ _ _) | (with_reducible refine Below.setCell ?_ ?_ _) | (with_reducible refine Below.drew ?_) | (with_reducible refine below_drewN ?_ _))); all_goals (first | omega | (simp; done) | (simp; omega))))).mono ?_; rintro e w2 ⟨A2, c2, rfl, hc2, hm2, ho2, hb2⟩; obtain ⟨os2, d2, rfl⟩ := ext_of_below hb2; clear hb2; try simp only [ext_drew] at ho2; try simp only [ext_drewN] at ho2) | (go_at_call 38; refine (unhide HV _ _ _ _ _ (ho2.rd.below' (by (repeat' (first | (with_reducible exact Below.refl _ _) | (with_reducible assumption) | (with_reducible refine Below.alloc ?_ ?_ _) | (with_reducible refine below_ext ?_ ?_ _ _) | (with_reducible refine Below.setCell ?_ ?_ _) | (with_reducible refine Below.drew ?_) | (with_reducible refine below_drewN ?_ _))); all_goals (first | omega | (simp; done) | (simp; omega))))).mono ?_; rintro e w3 ⟨rfl, hb3⟩; obtain ⟨os3, d3, rfl⟩ := ext_of_below hb3; clear hb3))
  exact bodyPost_ret (v := .tuple #[.agg #[.int .i64 p, .slice A2 v c2], .bool true]) (by simp only [results, Try.results45]; go_simp) rfl ⟨A2, c2, rfl, hc2, hm2, Own.more (own_ext (Own.alloc (Own.swap ho2 (by simp) (Nat.le_refl _)) _) _ _) (by first | omega | (simp <;> omega)) (by first | omega | (simp <;> omega)), (by (repeat' (first | (with_reducible exact Below.refl _ _) | (with_reducible assumption) | (with_reducible refine Below.alloc ?_ ?_ _) | (with_reducible refine below_ext ?_ ?_ _ _) | (with_reducible refine Below.setCell ?_ ?_ _) | (with_reducible refine Below.drew ?_) | (with_reducible refine below_drewN ?_ _))); all_goals (first | omega | (simp; done) | (simp; omega)))⟩
end Go.Proofs.Ytidfpmkhgogilaa
