/- ReadBytes: what it returns, on both sides. -/
import Derived.Test.YtidfpmkhgogilaaUvR
namespace Go.Proofs.Ytidfpmkhgogilaa
open Go.RowKit Go.Sep

theorem rdF_bd {l : List Int} {off e : Nat} {v : Int} (h8 : B8 l) (h : rdF l off 6 0 0 = some (v, e)) : 0 ≤ v ∧ v ≤ 1000000000000 ∧ off < e ∧ e ≤ l.length := by
  obtain ⟨m, g1, g2, g3, g4, g5, g6, g7⟩ := uvF_rd l off 5 0 0 v e h8 h
  have hl := uvF_len 5 m
  have h1 := g7 ((uvF 5 m).length - 1) (by omega)
  rw [List.getElem?_eq_getElem (show (uvF 5 m).length - 1 < (uvF 5 m).length by omega)] at h1
  have h2 := (List.getElem?_eq_some_iff.1 h1).1
  simp at g3
  exact ⟨by omega, g5, by omega, by omega⟩
def rbO (l : List Int) (off : Nat) (mx : Int) : Option (Nat × Nat) := match rdF l off 6 0 0 with
  | none => none
  | some (v, e) => if mx < v ∨ (l.length : Int) - e < v then none else some (v.toNat, e)
theorem rbO_0 {l : List Int} {off : Nat} {mx : Int} (h : rdF l off 6 0 0 = none) : rbO l off mx = none := by rw [rbO, h]
theorem rbO_1 {l : List Int} {off e : Nat} {mx v : Int} (h : rdF l off 6 0 0 = some (v, e)) (h2 : mx < v) : rbO l off mx = none := by rw [rbO, h]; simp only; rw [if_pos (.inl h2)]
theorem rbO_2 {l : List Int} {off e : Nat} {mx v : Int} (h : rdF l off 6 0 0 = some (v, e)) (h2 : (l.length : Int) - e < v) : rbO l off mx = none := by rw [rbO, h]; simp only; rw [if_pos (.inr h2)]
theorem rbO_3 {l : List Int} {off e : Nat} {mx v : Int} (h : rdF l off 6 0 0 = some (v, e)) (h2 : ¬ mx < v) (h3 : ¬ (l.length : Int) - e < v) : rbO l off mx = some (v.toNat, e) := by rw [rbO, h]; simp only; rw [if_neg (by intro hh; rcases hh with hh | hh; exact h2 hh; exact h3 hh)]
theorem rbO_inv {l : List Int} {off e v : Nat} {mx : Int} (h8 : B8 l) (h : rbO l off mx = some (v, e)) : rdF l off 6 0 0 = some ((v : Int), e) ∧ (v : Int) ≤ mx ∧ e + v ≤ l.length ∧ off < e := by
  rw [rbO] at h
  split at h
  · cases h
  · rename_i v' e' hr
    obtain ⟨g1, g2, g3, g4⟩ := rdF_bd h8 hr
    split at h
    · cases h
    · rename_i hn
      injection h with h
      injection h with h1 h2
      subst h1 h2
      have : ¬ mx < v' := fun hh => hn (.inl hh)
      have : ¬ (l.length : Int) - e' < v' := fun hh => hn (.inr hh)
      exact ⟨by rw [hr]; congr 2; omega, by omega, by omega, g3⟩
theorem fresh0 (X : World) (k : Nat) (hk : X.heap.size = k) : Own (X.alloc (.cells #[] 5)) k (k + 1) 5 1 (.slice (some ⟨k, 0, none⟩) 0 0) 0 [] := by
  subst hk
  simpa using Own.fresh X #[] 5 1 0 rfl (by unfold maxLen; omega)
set_option maxRecDepth 100000 in
theorem iRdB_no (w : World) (A : Option Addr) (n c lo hi : Nat) (l : List Int) (off : Nat) (mx : Int) (hr : Rd w lo hi 1 A n (l.map (.int .u8))) (hn : n ≤ 8388608) (h8 : B8 l) (ho : off ≤ 9223372036854775000) (h : rbO l off mx = none) :
    Calls Try.prog 76 #[.slice A n c, .int .i64 off, .int .i64 mx] w (MkV (fun v => .tuple #[v, .int .i64 0, .bool false]) w 5 1 0 []) := by
  have hll : l.length = n := by simpa using hr.len
  cases hrd : rdF l off 6 0 0 with
  | none =>
    have HR := hide (fun W h => iRdU_no W A n c lo hi l off h (by omega) h8 ho hrd)
    clear hrd h
    go_enter Try.func76, Try.ntmps76
    go_wp2_with (go_at_call 75; refine (unhide HR _ (hr.below' (by (repeat' (first | (with_reducible exact Below.refl _ _) | (with_reducible assumption) | (with_reducible refine Below.alloc ?_ ?_ _) | (with_reducible refine below_ext ?_ ?_ _ _) | (with_reducible refine Below.setCell ?_ ?_ _) | (with_reducible refine Below.drew ?_) | (with_reducible refine below_drewN ?_ _))); all_goals (first | omega | (simp; done) | (simp; omega))))).mono ?_; rintro e w1 ⟨rfl, hb1⟩; obtain ⟨os1, d1, rfl⟩ := ext_of_below hb1; clear hb1)
    go_ret3
    exact ⟨_, _, rfl, Nat.le_refl _, by unfold maxLen; omega, (fresh0 _ _ (by simp)).more (by first | omega | (simp <;> omega)) (by first | omega | (simp <;> omega)), (by (repeat' (first | (with_reducible exact Below.refl _ _) | (with_reducible assumption) | (with_reducible refine Below.alloc ?_ ?_ _) | (with_reducible refine below_ext ?_ ?_ _ _) | (with_reducible refine Below.setCell ?_ ?_ _) | (with_reducible refine Below.drew ?_) | (with_reducible refine below_drewN ?_ _))); all_goals (first | omega | (simp; done) | (simp; omega)))⟩
  | some ve =>
    obtain ⟨v, e⟩ := ve
    obtain ⟨hv0, hv1, he0, he1⟩ := rdF_bd h8 hrd
    have HR := hide (fun W h => iRdU_yes W A n c lo hi l off h (by omega) h8 ho hrd)
    by_cases hm : mx < v
    · clear hrd h
      go_enter Try.func76, Try.ntmps76
      go_wp2_with (go_at_call 75; refine (unhide HR _ (hr.below' (by (repeat' (first | (with_reducible exact Below.refl _ _) | (with_reducible assumption) | (with_reducible refine Below.alloc ?_ ?_ _) | (with_reducible refine below_ext ?_ ?_ _ _) | (with_reducible refine Below.setCell ?_ ?_ _) | (with_reducible refine Below.drew ?_) | (with_reducible refine below_drewN ?_ _))); all_goals (first | omega | (simp; done) | (simp; omega))))).mono ?_; rintro e w1 ⟨rfl, hb1⟩; obtain ⟨os1, d1, rfl⟩ := ext_of_below hb1; clear hb1)
      go_ret3
      exact ⟨_, _, rfl, Nat.le_refl _, by unfold maxLen; omega, (fresh0 _ _ (by simp)).more (by first | omega | (simp <;> omega)) (by first | omega | (simp <;> omega)), (by (repeat' (first | (with_reducible exact Below.refl _ _) | (with_reducible assumption) | (with_reducible refine Below.alloc ?_ ?_ _) | (with_reducible refine below_ext ?_ ?_ _ _) | (with_reducible refine Below.setCell ?_ ?_ _) | (with_reducible refine Below.drew ?_) | (with_reducible refine below_drewN ?_ _))); all_goals (first | omega | (simp; done) | (simp; omega)))⟩
    · have hm2 : (n : Int) - (e : Int) < v := by
        by_cases hh : (l.length : Int) - e < v
        · omega
        · rw [rbO_3 hrd hm hh] at h; cases h
      clear hrd h
      go_enter Try.func76, Try.ntmps76
      go_wp2_with (go_at_call 75; refine (unhide HR _ (hr.below' (by (repeat' (first | (with_reducible exact Below.refl _ _) | (with_reducible assumption) | (with_reducible refine Below.alloc ?_ ?_ _) | (with_reducible refine below_ext ?_ ?_ _ _) | (with_reducible refine Below.setCell ?_ ?_ _) | (with_reducible refine Below.drew ?_) | (with_reducible refine below_drewN ?_ _))); all_goals (first | omega | (simp; done) | (simp; omega))))).mono ?_; rintro e w1 ⟨rfl, hb1⟩; obtain ⟨os1, d1, rfl⟩ := ext_of_below hb1; clear hb1)
      go_ret3
      exact ⟨_, _, rfl, Nat.le_refl _, by unfold maxLen; omega, (fresh0 _ _ (by simp)).more (by first | omega | (simp <;> omega)) (by first | omega | (simp <;> omega)), (by (repeat' (first | (with_reducible exact Below.refl _ _) | (with_reducible assumption) | (with_reducible refine Below.alloc ?_ ?_ _) | (with_reducible refine below_ext ?_ ?_ _ _) | (with_reducible refine Below.setCell ?_ ?_ _) | (with_reducible refine Below.drew ?_) | (with_reducible refine below_drewN ?_ _))); all_goals (first | omega | (simp; done) | (simp; omega)))⟩
set_option maxRecDepth 100000 in
theorem iRdB_yes (w : World) (A : Option Addr) (n c lo hi : Nat) (l : List Int) (off v e : Nat) (mx : Int) (hr : Rd w lo hi 1 A n (l.map (.int .u8))) (hn : n ≤ 8388608) (h8 : B8 l) (ho : off ≤ 9223372036854775000) (hc : n ≤ c) (h : rbO l off mx = some (v, e)) :
    Calls Try.prog 76 #[.slice A n c, .int .i64 off, .int .i64 mx] w (MkV (fun x => .tuple #[x, .int .i64 ((e : Int) + (v : Int)), .bool true]) w 5 1 v (((l.drop e).take v).map (.int .u8))) := by
  have hll : l.length = n := by simpa using hr.len
  obtain ⟨hrd, hmx, hev, hoe⟩ := rbO_inv h8 h
  have HR := hide (fun W h => iRdU_yes W A n c lo hi l off h (by omega) h8 ho hrd)
  have hm1 : ¬ mx < (v : Int) := by omega
  have hm2 : ¬ (n : Int) - (e : Int) < (v : Int) := by omega
  have hec : (e : Int) ≤ (c : Int) := by omega
  have hec2 : (e : Int) + (v : Int) ≤ (c : Int) := by omega
  clear hrd h
  by_cases hce : c = e
  · subst hce
    obtain rfl : v = 0 := by omega
    rw [List.take_zero]
    have HC := hide (fun W c' => iCopyB_any W A 0 c' 0 0 [] (Rd.nil_ W 0 0 1 A) (by omega))
    go_enter Try.func76, Try.ntmps76
    go_wp2_with (first | (go_at_call 75; refine (unhide HR _ (hr.below' (by (repeat' (first | (with_reducible exact Below.refl _ _) | (with_reducible assumption) | (with_reducible refine Below.alloc ?_ ?_ _) | (with_reducible refine below_ext ?_ ?_ _ _) | (with_reducible refine Below.setCell ?_ ?_ _) | (with_reducible refine Below.drew ?_) | (with_reducible refine below_drewN ?_ _))); all_goals (first | omega | (simp; done) | (simp; omega))))).mono ?_; rintro e w1 ⟨rfl, hb1⟩; obtain ⟨os1, d1, rfl⟩ := ext_of_below hb1; clear hb1) | (go_at_call 78; refine (unhide HC _ _).mono ?_; rintro e w2 ⟨A2, c2, rfl, hc2, hm2, ho2, hb2⟩; obtain ⟨os2, d2, rfl⟩ := ext_of_below hb2; clear hb2; try simp only [ext_drew] at ho2; try simp only [ext_drewN] at ho2))
    go_ret3
    exact ⟨_, _, rfl, hc2, hm2, ho2.more (by simp <;> omega) (by simp), (by (repeat' (first | (with_reducible exact Below.refl _ _) | (with_reducible assumption) | (with_reducible refine Below.alloc ?_ ?_ _) | (with_reducible refine below_ext ?_ ?_ _ _) | (with_reducible refine Below.setCell ?_ ?_ _) | (with_reducible refine Below.drew ?_) | (with_reducible refine below_drewN ?_ _))); all_goals (first | omega | (simp; done) | (simp; omega)))⟩
  · have HC := hide (fun W c' h => iCopyB_any W (A.map (fun x => x.add e)) v c' lo hi ((l.drop e).take v) (takeL (by omega) (cutN (by omega) hc hce h)) (by omega))
    have hvv : e + v - e = v := by omega
    go_enter Try.func76, Try.ntmps76
    go_wp2_with (first | (go_at_call 75; refine (unhide HR _ (hr.below' (by (repeat' (first | (with_reducible exact Below.refl _ _) | (with_reducible assumption) | (with_reducible refine Below.alloc ?_ ?_ _) | (with_reducible refine below_ext ?_ ?_ _ _) | (with_reducible refine Below.setCell ?_ ?_ _) | (with_reducible refine Below.drew ?_) | (with_reducible refine below_drewN ?_ _))); all_goals (first | omega | (simp; done) | (simp; omega))))).mono ?_; rintro e w1 ⟨rfl, hb1⟩; obtain ⟨os1, d1, rfl⟩ := ext_of_below hb1; clear hb1) | (go_at_call 78; refine (unhide HC _ _ (hr.below' (by (repeat' (first | (with_reducible exact Below.refl _ _) | (with_reducible assumption) | (with_reducible refine Below.alloc ?_ ?_ _) | (with_reducible refine below_ext ?_ ?_ _ _) | (with_reducible refine Below.setCell ?_ ?_ _) | (with_reducible refine Below.drew ?_) | (with_reducible refine below_drewN ?_ _))); all_goals (first | omega | (simp; done) | (simp; omega))))).mono ?_; rintro e w2 ⟨A2, c2, rfl, hc2, hm2, ho2, hb2⟩; obtain ⟨os2, d2, rfl⟩ := ext_of_below hb2; clear hb2; try simp only [ext_drew] at ho2; try simp only [ext_drewN] at ho2))
    go_ret3
    exact ⟨_, _, rfl, hc2, hm2, ho2.more (by simp <;> omega) (by simp), (by (repeat' (first | (with_reducible exact Below.refl _ _) | (with_reducible assumption) | (with_reducible refine Below.alloc ?_ ?_ _) | (with_reducible refine below_ext ?_ ?_ _ _) | (with_reducible refine Below.setCell ?_ ?_ _) | (with_reducible refine Below.drew ?_) | (with_reducible refine below_drewN ?_ _))); all_goals (first | omega | (simp; done) | (simp; omega)))⟩
set_option maxRecDepth 100000 in
theorem sRdB_no (w : World) (A : Option Addr) (n c lo hi : Nat) (l : List Int) (off : Nat) (mx : Int) (hr : Rd w lo hi 1 A n (l.map (.int .u8))) (hn : n ≤ 8388608) (h8 : B8 l) (ho : off ≤ 9223372036854775000) (h : rbO l off mx = none) :
    Calls Try.prog 68 #[.slice A n c, .int .i64 off, .int .i64 mx] w (MkV (fun v => .tuple #[v, .int .i64 0, .bool false]) w 5 1 0 []) := by
  have hll : l.length = n := by simpa using hr.len
  cases hrd : rdF l off 6 0 0 with
  | none =>
    have HR := hide (fun W h => sRdU_no W A n c lo hi l off h (by omega) h8 ho hrd)
    clear hrd h
    go_enter Try.func68, Try.ntmps68
    go_wp2_with (go_at_call 69; refine (unhide HR _ (hr.below' (by (repeat' (first | (with_reducible exact Below.refl _ _) | (with_reducible assumption) | (with_reducible refine Below.alloc ?_ ?_ _) | (with_reducible refine below_ext ?_ ?_ _ _) | (with_reducible refine Below.setCell ?_ ?_ _) | (with_reducible refine Below.drew ?_) | (with_reducible refine below_drewN ?_ _))); all_goals (first | omega | (simp; done) | (simp; omega))))).mono ?_; rintro e w1 ⟨rfl, hb1⟩; obtain ⟨os1, d1, rfl⟩ := ext_of_below hb1; clear hb1)
    go_ret3
    exact ⟨_, _, rfl, Nat.le_refl _, by unfold maxLen; omega, (fresh0 _ _ (by simp)).more (by first | omega | (simp <;> omega)) (by first | omega | (simp <;> omega)), (by (repeat' (first | (with_reducible exact Below.refl _ _) | (with_reducible assumption) | (with_reducible refine Below.alloc ?_ ?_ _) | (with_reducible refine below_ext ?_ ?_ _ _) | (with_reducible refine Below.setCell ?_ ?_ _) | (with_reducible refine Below.drew ?_) | (with_reducible refine below_drewN ?_ _))); all_goals (first | omega | (simp; done) | (simp; omega)))⟩
  | some ve =>
    obtain ⟨v, e⟩ := ve
    obtain ⟨hv0, hv1, he0, he1⟩ := rdF_bd h8 hrd
    have HR := hide (fun W h => sRdU_yes W A n c lo hi l off h (by omega) h8 ho hrd)
    by_cases hm : mx < v
    · clear hrd h
      go_enter Try.func68, Try.ntmps68
      go_wp2_with (go_at_call 69; refine (unhide HR _ (hr.below' (by (repeat' (first | (with_reducible exact Below.refl _ _) | (with_reducible assumption) | (with_reducible refine Below.alloc ?_ ?_ _) | (with_reducible refine below_ext ?_ ?_ _ _) | (with_reducible refine Below.setCell ?_ ?_ _) | (with_reducible refine Below.drew ?_) | (with_reducible refine below_drewN ?_ _))); all_goals (first | omega | (simp; done) | (simp; omega))))).mono ?_; rintro e w1 ⟨rfl, hb1⟩; obtain ⟨os1, d1, rfl⟩ := ext_of_below hb1; clear hb1)
      go_ret3
      exact ⟨_, _, rfl, Nat.le_refl _, by unfold maxLen; omega, (fresh0 _ _ (by simp)).more (by first | omega | (simp <;> omega)) (by first | omega | (simp <;> omega)), (by (repeat' (first | (with_reducible exact Below.refl _ _) | (with_reducible assumption) | (with_reducible refine Below.alloc ?_ ?_ _) | (with_reducible refine below_ext ?_ ?_ _ _) | (with_reducible refine Below.setCell ?_ ?_ _) | (with_reducible refine Below.drew ?_) | (with_reducible refine below_drewN ?_ _))); all_goals (first | omega | (simp; done) | (simp; omega)))⟩
    · have hm2 : (n : Int) - (e : Int) < v := by
        by_cases hh : (l.length : Int) - e < v
        · omega
        · rw [rbO_3 hrd hm hh] at h; cases h
      clear hrd h
      go_enter Try.func68, Try.ntmps68
      go_wp2_with (go_at_call 69; refine (unhide HR _ (hr.below' (by (repeat' (first | (with_reducible exact Below.refl _ _) | (with_reducible assumption) | (with_reducible refine Below.alloc ?_ ?_ _) | (with_reducible refine below_ext ?_ ?_ _ _) | (with_reducible refine Below.setCell ?_ ?_ _) | (with_reducible refine Below.drew ?_) | (with_reducible refine below_drewN ?_ _))); all_goals (first | omega | (simp; done) | (simp; omega))))).mono ?_; rintro e w1 ⟨rfl, hb1⟩; obtain ⟨os1, d1, rfl⟩ := ext_of_below hb1; clear hb1)
      go_ret3
      exact ⟨_, _, rfl, Nat.le_refl _, by unfold maxLen; omega, (fresh0 _ _ (by simp)).more (by first | omega | (simp <;> omega)) (by first | omega | (simp <;> omega)), (by (repeat' (first | (with_reducible exact Below.refl _ _) | (with_reducible assumption) | (with_reducible refine Below.alloc ?_ ?_ _) | (with_reducible refine below_ext ?_ ?_ _ _) | (with_reducible refine Below.setCell ?_ ?_ _) | (with_reducible refine Below.drew ?_) | (with_reducible refine below_drewN ?_ _))); all_goals (first | omega | (simp; done) | (simp; omega)))⟩
set_option maxRecDepth 100000 in
theorem sRdB_yes (w : World) (A : Option Addr) (n c lo hi : Nat) (l : List Int) (off v e : Nat) (mx : Int) (hr : Rd w lo hi 1 A n (l.map (.int .u8))) (hn : n ≤ 8388608) (h8 : B8 l) (ho : off ≤ 9223372036854775000) (hc : n ≤ c) (h : rbO l off mx = some (v, e)) :
    Calls Try.prog 68 #[.slice A n c, .int .i64 off, .int .i64 mx] w (MkV (fun x => .tuple #[x, .int .i64 ((e : Int) + (v : Int)), .bool true]) w 5 1 v (((l.drop e).take v).map (.int .u8))) := by
  have hll : l.length = n := by simpa using hr.len
  obtain ⟨hrd, hmx, hev, hoe⟩ := rbO_inv h8 h
  have HR := hide (fun W h => sRdU_yes W A n c lo hi l off h (by omega) h8 ho hrd)
  have hm1 : ¬ mx < (v : Int) := by omega
  have hm2 : ¬ (n : Int) - (e : Int) < (v : Int) := by omega
  have hec : (e : Int) ≤ (c : Int) := by omega
  have hec2 : (e : Int) + (v : Int) ≤ (c : Int) := by omega
  clear hrd h
  obtain ⟨i0, hi0, hz0, hz1, hz2⟩ := info_parts infoByteS
  by_cases hce : c = e
  · subst hce
    obtain rfl : v = 0 := by omega
    rw [List.take_zero]
    go_enter Try.func68, Try.ntmps68
    go_wp2_with (first
      | (go_at_call 69; refine (unhide HR _ (hr.below' (by (repeat' (first | (with_reducible exact Below.refl _ _) | (with_reducible assumption) | (with_reducible refine Below.alloc ?_ ?_ _) | (with_reducible refine below_ext ?_ ?_ _ _) | (with_reducible refine Below.setCell ?_ ?_ _) | (with_reducible refine Below.drew ?_) | (with_reducible refine below_drewN ?_ _))); all_goals (first | omega | (simp; done) | (simp; omega))))).mono ?_; rintro e w1 ⟨rfl, hb1⟩; obtain ⟨os1, d1, rfl⟩ := ext_of_below hb1; clear hb1)
      | (at_builtin; refine wpList_app _ rfl (.tmp 35) (.tmp 41) 22 rfl 5 i0 (.int .u8 0) 1 1 (w.heap.size + os1.size) (w.heap.size + os1.size + 1) 0 0 Try.underlying22 hi0 hz0 hz1 hz2 rfl (by omega) _ 0 [] rfl (fresh0 _ _ (by simp)) A 0 _ [] rfl (Rd.nil_ _ 0 0 1 A) (by simp) (by unfold maxLen; omega) (by omega) (by simp) (by simp) ?_; intro A2 c2 w2 hown2 hc2 hm2 hch2))
    have hb2 : Below w.heap.size w w2 := below_then (by (repeat' (first | (with_reducible exact Below.refl _ _) | (with_reducible assumption) | (with_reducible refine Below.alloc ?_ ?_ _) | (with_reducible refine below_ext ?_ ?_ _ _) | (with_reducible refine Below.setCell ?_ ?_ _) | (with_reducible refine Below.drew ?_) | (with_reducible refine below_drewN ?_ _))); all_goals (first | omega | (simp; done) | (simp; omega))) (hch2.below (B := w.heap.size) (by omega) (by simp; omega)) (Nat.le_refl _)
    clear hch2
    go_ret3
    exact ⟨_, _, rfl, by omega, hm2, by simpa using hown2.more (lo' := w.heap.size) (by omega) (Nat.le_refl _), hb2⟩
  · have hvv : e + v - e = v := by omega
    have HT := hide (fun (W : World) (h : Rd W lo hi 1 A n (l.map (.int .u8))) => (by rw [hvv]; exact takeL (by omega) (cutN (by omega) hc hce h) : Rd W lo hi 1 (A.map (fun x => x.add e)) (e + v - e) (((l.drop e).take v).map (.int .u8))))
    go_enter Try.func68, Try.ntmps68
    go_wp2_with (first
      | (go_at_call 69; refine (unhide HR _ (hr.below' (by (repeat' (first | (with_reducible exact Below.refl _ _) | (with_reducible assumption) | (with_reducible refine Below.alloc ?_ ?_ _) | (with_reducible refine below_ext ?_ ?_ _ _) | (with_reducible refine Below.setCell ?_ ?_ _) | (with_reducible refine Below.drew ?_) | (with_reducible refine below_drewN ?_ _))); all_goals (first | omega | (simp; done) | (simp; omega))))).mono ?_; rintro e w1 ⟨rfl, hb1⟩; obtain ⟨os1, d1, rfl⟩ := ext_of_below hb1; clear hb1)
      | (at_builtin; refine wpList_app _ rfl (.tmp 35) (.tmp 41) 22 rfl 5 i0 (.int .u8 0) 1 1 (w.heap.size + os1.size) (w.heap.size + os1.size + 1) lo hi Try.underlying22 hi0 hz0 hz1 hz2 rfl (by omega) _ 0 [] rfl (fresh0 _ _ (by simp)) (A.map (fun x => x.add e)) (e + v - e) _ _ rfl ((unhide HT _ hr).below' (by (repeat' (first | (with_reducible exact Below.refl _ _) | (with_reducible assumption) | (with_reducible refine Below.alloc ?_ ?_ _) | (with_reducible refine below_ext ?_ ?_ _ _) | (with_reducible refine Below.setCell ?_ ?_ _) | (with_reducible refine Below.drew ?_) | (with_reducible refine below_drewN ?_ _))); all_goals (first | omega | (simp; done) | (simp; omega)))) (ints_one _ _) (by unfold maxLen; omega) (by omega) (by simp) (by simp) ?_; intro A2 c2 w2 hown2 hc2 hm2 hch2))
    have hb2 : Below w.heap.size w w2 := below_then (by (repeat' (first | (with_reducible exact Below.refl _ _) | (with_reducible assumption) | (with_reducible refine Below.alloc ?_ ?_ _) | (with_reducible refine below_ext ?_ ?_ _ _) | (with_reducible refine Below.setCell ?_ ?_ _) | (with_reducible refine Below.drew ?_) | (with_reducible refine below_drewN ?_ _))); all_goals (first | omega | (simp; done) | (simp; omega))) (hch2.below (B := w.heap.size) (by omega) (by simp; omega)) (Nat.le_refl _)
    clear hch2
    go_ret3
    exact ⟨A2, c2, by simp, by omega, hm2, by simpa [hvv] using hown2.more (lo' := w.heap.size) (by omega) (Nat.le_refl _), hb2⟩
end Go.Proofs.Ytidfpmkhgogilaa
