/- Encapsulate and Decapsulate. -/
import Derived.Test.YtidfpmkhgogilaaUvR
namespace Go.Proofs.Ytidfpmkhgogilaa
open Go.RowKit Go.Sep

def capL (id : Int) (l : List Int) : List Int := if inR id 1 20 = true then uv id ++ l else []
theorem capL_no {id : Int} {l : List Int} (h : inR id 1 20 = false) : capL id l = [] := by simp [capL, h]
theorem capL_yes {id : Int} {l : List Int} (h : inR id 1 20 = true) : capL id l = apU [] id ++ l := by
  have := inR_true h
  rw [capL, if_pos h, apU_yes (inR_mk (by omega) (by omega))]
  rfl
theorem rdF_bounds {l : List Int} {off e : Nat} {v : Int} (h8 : B8 l) (h : rdF l off 6 0 0 = some (v, e)) : 0 ≤ v ∧ v ≤ 1000000000000 ∧ off < e ∧ e ≤ l.length := by
  obtain ⟨m, g1, g2, g3, g4, g5, g6, g7⟩ := uvF_rd l off 5 0 0 v e h8 h
  have hl := uvF_len 5 m
  have h1 := g7 ((uvF 5 m).length - 1) (by omega)
  rw [List.getElem?_eq_getElem (show (uvF 5 m).length - 1 < (uvF 5 m).length by omega)] at h1
  have h2 := (List.getElem?_eq_some_iff.1 h1).1
  simp at g3
  exact ⟨by omega, g5, by omega, by omega⟩
def dcL (l : List Int) : Int × List Int × Bool := match rdF l 0 6 0 0 with
  | none => (0, [], false)
  | some (v, e) => if inR v 1 20 = true then (v, l.drop e, true) else (0, [], false)
theorem dcL_0 {l : List Int} (h : rdF l 0 6 0 0 = none) : dcL l = (0, [], false) := by rw [dcL, h]
theorem dcL_1 {l : List Int} {v : Int} {e : Nat} (h : rdF l 0 6 0 0 = some (v, e)) (h2 : inR v 1 20 = false) : dcL l = (0, [], false) := by rw [dcL, h]; simp only; rw [if_neg (by simp [h2])]
theorem dcL_2 {l : List Int} {v : Int} {e : Nat} (h : rdF l 0 6 0 0 = some (v, e)) (h2 : inR v 1 20 = true) : dcL l = (v, l.drop e, true) := by rw [dcL, h]; simp only; rw [if_pos h2]
theorem fresh0 (X : World) (k : Nat) (hk : X.heap.size = k) : Own (X.alloc (.cells #[] 5)) k (k + 1) 5 1 (.slice (some ⟨k, 0, none⟩) 0 0) 0 [] := by
  subst hk
  simpa using Own.fresh X #[] 5 1 0 rfl (by unfold maxLen; omega)

theorem iEncap_any (w : World) (id : Int) (A : Option Addr) (n c lo hi : Nat) (l : List Int) (hr : Rd w lo hi 1 A n (l.map (.int .u8))) (hn : n ≤ 8388000) :
    Calls Try.prog 51 #[.int .i64 id, .slice A n c] w (Mk w 5 1 (capL id l).length ((capL id l).map (.int .u8))) := by
  obtain ⟨i0, hi0, hz0, hz1, hz2⟩ := info_parts infoByteS
  have hll : l.length = n := by simpa using hr.len
  have HI := hide (fun W => inRange_any id 1 20 W)
  cases hv : inR id 1 20
  · rw [hv] at HI
    have HC := hide (capL_no (l := l) hv)
    clear hv
    go_enter Try.func51, Try.ntmps51
    go_wp2_with (go_at_call 58; refine (unhide HI _).mono ?_; rintro e w' ⟨rfl, rfl⟩)
    go_ret
    rw [HC.out]
    exact Mk.of_own (fresh0 w _ rfl) (by (repeat' (first | (with_reducible exact Below.refl _ _) | (with_reducible assumption) | (with_reducible refine Below.alloc ?_ ?_ _) | (with_reducible refine below_ext ?_ ?_ _ _) | (with_reducible refine Below.setCell ?_ ?_ _) | (with_reducible refine Below.drew ?_) | (with_reducible refine below_drewN ?_ _))); all_goals (first | omega | (simp; done) | (simp; omega))) (by simp)
  · rw [hv] at HI
    have HC := hide (capL_yes (l := l) hv)
    have HU := hide (fun W => iAppU_any W none 0 0 0 0 [] id (Rd.nil_ W 0 0 1 none) (by omega))
    have hlu := apU_len [] id
    generalize apU [] id = u at HC HU hlu
    clear hv
    go_enter Try.func51, Try.ntmps51
    go_wp2_with (first
      | (go_at_call 58; refine (unhide HI _).mono ?_; rintro e w' ⟨rfl, rfl⟩)
      | (go_at_call 66; refine (unhide HU _).mono ?_; rintro e w1 ⟨A1, c1, rfl, hc1, hm1, ho1, hb1⟩; have hr1 := hr.below' hb1)
      | (at_builtin; refine wpList_app _ rfl (.tmp 10) (.tmp 11) 22 rfl 5 i0 (.int .u8 0) 1 1 w.heap.size w1.heap.size lo hi Try.underlying22 hi0 hz0 hz1 hz2 rfl (by omega) _ u.length _ rfl ho1 A n c _ rfl hr1 (ints_one _ _) (by unfold maxLen; simp at hlu; omega) (by simp at hlu; omega) hb1.size (Nat.le_refl _) ?_; intro A2 c2 w2 hown2 hc2 hm2 hch2))
    have hb2 : Below w.heap.size w w2 := below_then hb1 (hch2.below (B := w.heap.size) (Nat.le_refl _) hb1.size) (Nat.le_refl _)
    clear hch2 ho1 hb1 hr1
    go_ret
    rw [HC.out, show (u ++ l).length = u.length + n by rw [List.length_append, hll], List.map_append]
    exact Mk.of_own hown2 hb2 (Nat.le_refl _)
theorem sEncap_any (w : World) (id : Int) (A : Option Addr) (n c lo hi : Nat) (l : List Int) (hr : Rd w lo hi 1 A n (l.map (.int .u8))) (hn : n ≤ 8388000) :
    Calls Try.prog 50 #[.int .i64 id, .slice A n c] w (Mk w 5 1 (capL id l).length ((capL id l).map (.int .u8))) := by
  obtain ⟨i0, hi0, hz0, hz1, hz2⟩ := info_parts infoByteS
  have hll : l.length = n := by simpa using hr.len
  have HI := hide (fun W => l1In_any id 1 20 W)
  cases hv : inR id 1 20
  · rw [hv] at HI
    have HC := hide (capL_no (l := l) hv)
    clear hv
    go_enter Try.func50, Try.ntmps50
    go_wp2_with (go_at_call 57; refine (unhide HI _).mono ?_; rintro e w' ⟨rfl, rfl⟩)
    go_ret
    rw [HC.out]
    exact Mk.of_own (fresh0 w _ rfl) (by (repeat' (first | (with_reducible exact Below.refl _ _) | (with_reducible assumption) | (with_reducible refine Below.alloc ?_ ?_ _) | (with_reducible refine below_ext ?_ ?_ _ _) | (with_reducible refine Below.setCell ?_ ?_ _) | (with_reducible refine Below.drew ?_) | (with_reducible refine below_drewN ?_ _))); all_goals (first | omega | (simp; done) | (simp; omega))) (by simp)
  · rw [hv] at HI
    have HC := hide (capL_yes (l := l) hv)
    have HU := hide (fun W A' => sAppU_any W A' 0 0 0 0 [] id (Rd.nil_ W 0 0 1 A') (by omega))
    have hlu := apU_len [] id
    generalize apU [] id = u at HC HU hlu
    clear hv
    go_enter Try.func50, Try.ntmps50
    go_wp2_with (first
      | (go_at_call 57; refine (unhide HI _).mono ?_; rintro e w' ⟨rfl, rfl⟩)
      | (go_at_call 63; refine (unhide HU _ _).mono ?_; rintro e w1 ⟨A1, c1, rfl, hc1, hm1, ho1, hb1⟩; have hr1 := (hr.alloc _).below' hb1; have hb0 : Below w.heap.size w w1 := below_then ((Below.refl _ _).alloc (Nat.le_refl _) _) hb1 (by simp); have ho0 := ho1.more (lo' := w.heap.size) (by simp) (Nat.le_refl _); clear ho1 hb1)
      | (at_builtin; refine wpList_app _ rfl (.tmp 11) (.tmp 12) 22 rfl 5 i0 (.int .u8 0) 1 1 w.heap.size w1.heap.size lo hi Try.underlying22 hi0 hz0 hz1 hz2 rfl (by omega) _ u.length _ rfl ho0 A n c _ rfl hr1 (ints_one _ _) (by unfold maxLen; simp at hlu; omega) (by simp at hlu; omega) hb0.size (Nat.le_refl _) ?_; intro A2 c2 w2 hown2 hc2 hm2 hch2))
    have hb2 : Below w.heap.size w w2 := below_then hb0 (hch2.below (B := w.heap.size) (Nat.le_refl _) hb0.size) (Nat.le_refl _)
    clear hch2 ho0 hb0 hr1
    go_ret
    rw [HC.out, show (u ++ l).length = u.length + n by rw [List.length_append, hll], List.map_append]
    exact Mk.of_own hown2 hb2 (Nat.le_refl _)
theorem iDecap_big (w : World) (A : Option Addr) (n c lo hi : Nat) (l : List Int) (hr : Rd w lo hi 1 A n (l.map (.int .u8))) (hn : n ≤ 1048600) (h8 : B8 l) (hc : n ≤ c) :
    Calls Try.prog 53 #[.slice A n c] w (MkV (fun v => .tuple #[.int .i64 (dcL l).1, v, .bool (dcL l).2.2]) w 5 1 (dcL l).2.1.length ((dcL l).2.1.map (.int .u8))) := by
  have hll : l.length = n := by simpa using hr.len
  cases hrd : rdF l 0 6 0 0 with
  | none =>
    have HR := hide (fun W h => (iRdU_no W A n c lo hi l 0 h (by omega) h8 (by omega) hrd : Calls Try.prog 75 #[.slice A n c, .int .i64 0] W _))
    rw [dcL_0 hrd]
    clear hrd
    go_enter Try.func53, Try.ntmps53
    go_wp2_with (go_at_call 75; refine (unhide HR _ (hr.below' (by (repeat' (first | (with_reducible exact Below.refl _ _) | (with_reducible assumption) | (with_reducible refine Below.alloc ?_ ?_ _) | (with_reducible refine below_ext ?_ ?_ _ _) | (with_reducible refine Below.setCell ?_ ?_ _) | (with_reducible refine Below.drew ?_) | (with_reducible refine below_drewN ?_ _))); all_goals (first | omega | (simp; done) | (simp; omega))))).mono ?_; rintro e w1 ⟨rfl, hb1⟩; obtain ⟨os1, d1, rfl⟩ := ext_of_below hb1; clear hb1)
    go_ret3
    exact ⟨_, _, rfl, Nat.le_refl _, by unfold maxLen; omega, (fresh0 _ _ (by simp)).more (by first | omega | (simp <;> omega)) (by first | omega | (simp <;> omega)), (by (repeat' (first | (with_reducible exact Below.refl _ _) | (with_reducible assumption) | (with_reducible refine Below.alloc ?_ ?_ _) | (with_reducible refine below_ext ?_ ?_ _ _) | (with_reducible refine Below.setCell ?_ ?_ _) | (with_reducible refine Below.drew ?_) | (with_reducible refine below_drewN ?_ _))); all_goals (first | omega | (simp; done) | (simp; omega)))⟩
  | some ve =>
    obtain ⟨v, e⟩ := ve
    obtain ⟨hv0, hv1, he0, he1⟩ := rdF_bounds h8 hrd
    have HR := hide (fun W h => (iRdU_yes W A n c lo hi l 0 h (by omega) h8 (by omega) hrd : Calls Try.prog 75 #[.slice A n c, .int .i64 0] W _))
    have HI := hide (fun W => inRange_any v 1 20 W)
    cases hv : inR v 1 20
    · rw [dcL_1 hrd hv]
      rw [hv] at HI
      clear hrd hv
      go_enter Try.func53, Try.ntmps53
      go_wp2_with (first | (go_at_call 75; refine (unhide HR _ (hr.below' (by (repeat' (first | (with_reducible exact Below.refl _ _) | (with_reducible assumption) | (with_reducible refine Below.alloc ?_ ?_ _) | (with_reducible refine below_ext ?_ ?_ _ _) | (with_reducible refine Below.setCell ?_ ?_ _) | (with_reducible refine Below.drew ?_) | (with_reducible refine below_drewN ?_ _))); all_goals (first | omega | (simp; done) | (simp; omega))))).mono ?_; rintro e w1 ⟨rfl, hb1⟩; obtain ⟨os1, d1, rfl⟩ := ext_of_below hb1; clear hb1) | (go_at_call 58; refine (unhide HI _).mono ?_; rintro e w' ⟨rfl, rfl⟩))
      go_ret3
      exact ⟨_, _, rfl, Nat.le_refl _, by unfold maxLen; omega, (fresh0 _ _ (by simp)).more (by first | omega | (simp <;> omega)) (by first | omega | (simp <;> omega)), (by (repeat' (first | (with_reducible exact Below.refl _ _) | (with_reducible assumption) | (with_reducible refine Below.alloc ?_ ?_ _) | (with_reducible refine below_ext ?_ ?_ _ _) | (with_reducible refine Below.setCell ?_ ?_ _) | (with_reducible refine Below.drew ?_) | (with_reducible refine below_drewN ?_ _))); all_goals (first | omega | (simp; done) | (simp; omega)))⟩
    · rw [dcL_2 hrd hv]
      rw [hv] at HI
      have hlen : (l.drop e).length = n - e := by rw [List.length_drop, hll]
      have hen : (e : Int) ≤ (n : Int) := by omega
      have hec : (e : Int) ≤ (c : Int) := by omega
      show Calls _ _ _ w (MkV (fun v' => .tuple #[.int .i64 v, v', .bool true]) w 5 1 (l.drop e).length ((l.drop e).map (.int .u8)))
      rw [hlen]
      clear hrd hv
      by_cases hce : c = e
      · subst hce
        obtain rfl : n = c := by omega
        rw [List.drop_eq_nil_of_le (by omega), Nat.sub_self]
        have HC := hide (fun W c' => iCopyB_any W A 0 c' 0 0 [] (Rd.nil_ W 0 0 1 A) (by omega))
        go_enter Try.func53, Try.ntmps53
        go_wp2_with (first | (go_at_call 75; refine (unhide HR _ (hr.below' (by (repeat' (first | (with_reducible exact Below.refl _ _) | (with_reducible assumption) | (with_reducible refine Below.alloc ?_ ?_ _) | (with_reducible refine below_ext ?_ ?_ _ _) | (with_reducible refine Below.setCell ?_ ?_ _) | (with_reducible refine Below.drew ?_) | (with_reducible refine below_drewN ?_ _))); all_goals (first | omega | (simp; done) | (simp; omega))))).mono ?_; rintro e w1 ⟨rfl, hb1⟩; obtain ⟨os1, d1, rfl⟩ := ext_of_below hb1; clear hb1) | (go_at_call 58; refine (unhide HI _).mono ?_; rintro e w' ⟨rfl, rfl⟩) | (go_at_call 78; refine (unhide HC _ _).mono ?_; rintro e w2 ⟨A2, c2, rfl, hc2, hm2, ho2, hb2⟩; obtain ⟨os2, d2, rfl⟩ := ext_of_below hb2; clear hb2; try simp only [ext_drew] at ho2; try simp only [ext_drewN] at ho2))
        go_ret3
        exact ⟨_, _, rfl, hc2, hm2, ho2.more (by simp <;> omega) (by simp), (by (repeat' (first | (with_reducible exact Below.refl _ _) | (with_reducible assumption) | (with_reducible refine Below.alloc ?_ ?_ _) | (with_reducible refine below_ext ?_ ?_ _ _) | (with_reducible refine Below.setCell ?_ ?_ _) | (with_reducible refine Below.drew ?_) | (with_reducible refine below_drewN ?_ _))); all_goals (first | omega | (simp; done) | (simp; omega)))⟩
      · have HC := hide (fun W h => iCopyB_any W (A.map (fun x => x.add e)) (n - e) (c - e) lo hi (l.drop e) (cutN (by omega) hc hce h) (by omega))
        go_enter Try.func53, Try.ntmps53
        go_wp2_with (first | (go_at_call 75; refine (unhide HR _ (hr.below' (by (repeat' (first | (with_reducible exact Below.refl _ _) | (with_reducible assumption) | (with_reducible refine Below.alloc ?_ ?_ _) | (with_reducible refine below_ext ?_ ?_ _ _) | (with_reducible refine Below.setCell ?_ ?_ _) | (with_reducible refine Below.drew ?_) | (with_reducible refine below_drewN ?_ _))); all_goals (first | omega | (simp; done) | (simp; omega))))).mono ?_; rintro e w1 ⟨rfl, hb1⟩; obtain ⟨os1, d1, rfl⟩ := ext_of_below hb1; clear hb1) | (go_at_call 58; refine (unhide HI _).mono ?_; rintro e w' ⟨rfl, rfl⟩) | (go_at_call 78; refine (unhide HC _ (hr.below' (by (repeat' (first | (with_reducible exact Below.refl _ _) | (with_reducible assumption) | (with_reducible refine Below.alloc ?_ ?_ _) | (with_reducible refine below_ext ?_ ?_ _ _) | (with_reducible refine Below.setCell ?_ ?_ _) | (with_reducible refine Below.drew ?_) | (with_reducible refine below_drewN ?_ _))); all_goals (first | omega | (simp; done) | (simp; omega))))).mono ?_; rintro e w2 ⟨A2, c2, rfl, hc2, hm2, ho2, hb2⟩; obtain ⟨os2, d2, rfl⟩ := ext_of_below hb2; clear hb2; try simp only [ext_drew] at ho2; try simp only [ext_drewN] at ho2))
        go_ret3
        exact ⟨_, _, rfl, hc2, hm2, ho2.more (by simp <;> omega) (by simp), (by (repeat' (first | (with_reducible exact Below.refl _ _) | (with_reducible assumption) | (with_reducible refine Below.alloc ?_ ?_ _) | (with_reducible refine below_ext ?_ ?_ _ _) | (with_reducible refine Below.setCell ?_ ?_ _) | (with_reducible refine Below.drew ?_) | (with_reducible refine below_drewN ?_ _))); all_goals (first | omega | (simp; done) | (simp; omega)))⟩
theorem sDecap_big (w : World) (A : Option Addr) (n c lo hi : Nat) (l : List Int) (hr : Rd w lo hi 1 A n (l.map (.int .u8))) (hn : n ≤ 1048600) (h8 : B8 l) (hc : n ≤ c) :
    Calls Try.prog 52 #[.slice A n c] w (MkV (fun v => .tuple #[.int .i64 (dcL l).1, v, .bool (dcL l).2.2]) w 5 1 (dcL l).2.1.length ((dcL l).2.1.map (.int .u8))) := by
  obtain ⟨i0, hi0, hz0, hz1, hz2⟩ := info_parts infoByteS
  have hll : l.length = n := by simpa using hr.len
  cases hrd : rdF l 0 6 0 0 with
  | none =>
    have HR := hide (fun W h => (sRdU_no W A n c lo hi l 0 h (by omega) h8 (by omega) hrd : Calls Try.prog 69 #[.slice A n c, .int .i64 0] W _))
    rw [dcL_0 hrd]
    clear hrd
    go_enter Try.func52, Try.ntmps52
    go_wp2_with (go_at_call 69; refine (unhide HR _ (hr.below' (by (repeat' (first | (with_reducible exact Below.refl _ _) | (with_reducible assumption) | (with_reducible refine Below.alloc ?_ ?_ _) | (with_reducible refine below_ext ?_ ?_ _ _) | (with_reducible refine Below.setCell ?_ ?_ _) | (with_reducible refine Below.drew ?_) | (with_reducible refine below_drewN ?_ _))); all_goals (first | omega | (simp; done) | (simp; omega))))).mono ?_; rintro e w1 ⟨rfl, hb1⟩; obtain ⟨os1, d1, rfl⟩ := ext_of_below hb1; clear hb1)
    go_ret3
    exact ⟨_, _, rfl, Nat.le_refl _, by unfold maxLen; omega, (fresh0 _ _ (by simp)).more (by first | omega | (simp <;> omega)) (by first | omega | (simp <;> omega)), (by (repeat' (first | (with_reducible exact Below.refl _ _) | (with_reducible assumption) | (with_reducible refine Below.alloc ?_ ?_ _) | (with_reducible refine below_ext ?_ ?_ _ _) | (with_reducible refine Below.setCell ?_ ?_ _) | (with_reducible refine Below.drew ?_) | (with_reducible refine below_drewN ?_ _))); all_goals (first | omega | (simp; done) | (simp; omega)))⟩
  | some ve =>
    obtain ⟨v, e⟩ := ve
    obtain ⟨hv0, hv1, he0, he1⟩ := rdF_bounds h8 hrd
    have HR := hide (fun W h => (sRdU_yes W A n c lo hi l 0 h (by omega) h8 (by omega) hrd : Calls Try.prog 69 #[.slice A n c, .int .i64 0] W _))
    have HI := hide (fun W => l1In_any v 1 20 W)
    cases hv : inR v 1 20
    · rw [dcL_1 hrd hv]
      rw [hv] at HI
      clear hrd hv
      go_enter Try.func52, Try.ntmps52
      go_wp2_with (first | (go_at_call 69; refine (unhide HR _ (hr.below' (by (repeat' (first | (with_reducible exact Below.refl _ _) | (with_reducible assumption) | (with_reducible refine Below.alloc ?_ ?_ _) | (with_reducible refine below_ext ?_ ?_ _ _) | (with_reducible refine Below.setCell ?_ ?_ _) | (with_reducible refine Below.drew ?_) | (with_reducible refine below_drewN ?_ _))); all_goals (first | omega | (simp; done) | (simp; omega))))).mono ?_; rintro e w1 ⟨rfl, hb1⟩; obtain ⟨os1, d1, rfl⟩ := ext_of_below hb1; clear hb1) | (go_at_call 57; refine (unhide HI _).mono ?_; rintro e w' ⟨rfl, rfl⟩))
      go_ret3
      exact ⟨_, _, rfl, Nat.le_refl _, by unfold maxLen; omega, (fresh0 _ _ (by simp)).more (by first | omega | (simp <;> omega)) (by first | omega | (simp <;> omega)), (by (repeat' (first | (with_reducible exact Below.refl _ _) | (with_reducible assumption) | (with_reducible refine Below.alloc ?_ ?_ _) | (with_reducible refine below_ext ?_ ?_ _ _) | (with_reducible refine Below.setCell ?_ ?_ _) | (with_reducible refine Below.drew ?_) | (with_reducible refine below_drewN ?_ _))); all_goals (first | omega | (simp; done) | (simp; omega)))⟩
    · rw [dcL_2 hrd hv]
      rw [hv] at HI
      have hlen : (l.drop e).length = n - e := by rw [List.length_drop, hll]
      have hen : (e : Int) ≤ (n : Int) := by omega
      have hec : (e : Int) ≤ (c : Int) := by omega
      show Calls _ _ _ w (MkV (fun v' => .tuple #[.int .i64 v, v', .bool true]) w 5 1 (l.drop e).length ((l.drop e).map (.int .u8)))
      rw [hlen]
      clear hrd hv
      by_cases hce : c = e
      · subst hce
        obtain rfl : n = c := by omega
        rw [List.drop_eq_nil_of_le (by omega), Nat.sub_self]
        go_enter Try.func52, Try.ntmps52
        go_wp2_with (first
          | (go_at_call 69; refine (unhide HR _ (hr.below' (by (repeat' (first | (with_reducible exact Below.refl _ _) | (with_reducible assumption) | (with_reducible refine Below.alloc ?_ ?_ _) | (with_reducible refine below_ext ?_ ?_ _ _) | (with_reducible refine Below.setCell ?_ ?_ _) | (with_reducible refine Below.drew ?_) | (with_reducible refine below_drewN ?_ _))); all_goals (first | omega | (simp; done) | (simp; omega))))).mono ?_; rintro e w1 ⟨rfl, hb1⟩; obtain ⟨os1, d1, rfl⟩ := ext_of_below hb1; clear hb1)
          | (go_at_call 57; refine (unhide HI _).mono ?_; rintro e w' ⟨rfl, rfl⟩)
          | (at_builtin; refine wpList_app _ rfl (.tmp 23) (.tmp 26) 22 rfl 5 i0 (.int .u8 0) 1 1 (w.heap.size + os1.size) (w.heap.size + os1.size + 1) 0 0 Try.underlying22 hi0 hz0 hz1 hz2 rfl (by omega) _ 0 [] rfl (fresh0 _ _ (by simp)) A 0 _ [] rfl (Rd.nil_ _ 0 0 1 A) (by simp) (by unfold maxLen; omega) (by omega) (by simp) (by simp) ?_; intro A2 c2 w2 hown2 hc2 hm2 hch2))
        have hb2 : Below w.heap.size w w2 := below_then (by (repeat' (first | (with_reducible exact Below.refl _ _) | (with_reducible assumption) | (with_reducible refine Below.alloc ?_ ?_ _) | (with_reducible refine below_ext ?_ ?_ _ _) | (with_reducible refine Below.setCell ?_ ?_ _) | (with_reducible refine Below.drew ?_) | (with_reducible refine below_drewN ?_ _))); all_goals (first | omega | (simp; done) | (simp; omega))) (hch2.below (B := w.heap.size) (by omega) (by simp; omega)) (Nat.le_refl _)
        clear hch2
        go_ret3
        exact ⟨_, _, rfl, by omega, hm2, by simpa using hown2.more (lo' := w.heap.size) (by omega) (Nat.le_refl _), hb2⟩
      · go_enter Try.func52, Try.ntmps52
        go_wp2_with (first
          | (go_at_call 69; refine (unhide HR _ (hr.below' (by (repeat' (first | (with_reducible exact Below.refl _ _) | (with_reducible assumption) | (with_reducible refine Below.alloc ?_ ?_ _) | (with_reducible refine below_ext ?_ ?_ _ _) | (with_reducible refine Below.setCell ?_ ?_ _) | (with_reducible refine Below.drew ?_) | (with_reducible refine below_drewN ?_ _))); all_goals (first | omega | (simp; done) | (simp; omega))))).mono ?_; rintro e w1 ⟨rfl, hb1⟩; obtain ⟨os1, d1, rfl⟩ := ext_of_below hb1; clear hb1)
          | (go_at_call 57; refine (unhide HI _).mono ?_; rintro e w' ⟨rfl, rfl⟩)
          | (at_builtin; refine wpList_app _ rfl (.tmp 23) (.tmp 26) 22 rfl 5 i0 (.int .u8 0) 1 1 (w.heap.size + os1.size) (w.heap.size + os1.size + 1) lo hi Try.underlying22 hi0 hz0 hz1 hz2 rfl (by omega) _ 0 [] rfl (fresh0 _ _ (by simp)) (A.map (fun x => x.add e)) (n - e) (c - e) _ rfl (cutN (by omega) hc hce (hr.below' (by (repeat' (first | (with_reducible exact Below.refl _ _) | (with_reducible assumption) | (with_reducible refine Below.alloc ?_ ?_ _) | (with_reducible refine below_ext ?_ ?_ _ _) | (with_reducible refine Below.setCell ?_ ?_ _) | (with_reducible refine Below.drew ?_) | (with_reducible refine below_drewN ?_ _))); all_goals (first | omega | (simp; done) | (simp; omega))))) (ints_one _ _) (by unfold maxLen; omega) (by omega) (by simp) (by simp) ?_; intro A2 c2 w2 hown2 hc2 hm2 hch2))
        have hb2 : Below w.heap.size w w2 := below_then (by (repeat' (first | (with_reducible exact Below.refl _ _) | (with_reducible assumption) | (with_reducible refine Below.alloc ?_ ?_ _) | (with_reducible refine below_ext ?_ ?_ _ _) | (with_reducible refine Below.setCell ?_ ?_ _) | (with_reducible refine Below.drew ?_) | (with_reducible refine below_drewN ?_ _))); all_goals (first | omega | (simp; done) | (simp; omega))) (hch2.below (B := w.heap.size) (by omega) (by simp; omega)) (Nat.le_refl _)
        clear hch2
        go_ret3
        exact ⟨_, _, rfl, by omega, hm2, by simpa using hown2.more (lo' := w.heap.size) (by omega) (Nat.le_refl _), hb2⟩
theorem iDecap_any (w : World) (A : Option Addr) (n c lo hi : Nat) (l : List Int) (hr : Rd w lo hi 1 A n (l.map (.int .u8))) (hn : n ≤ 1048576) (h8 : B8 l) (hc : n ≤ c) :
    Calls Try.prog 53 #[.slice A n c] w (MkV (fun v => .tuple #[.int .i64 (dcL l).1, v, .bool (dcL l).2.2]) w 5 1 (dcL l).2.1.length ((dcL l).2.1.map (.int .u8))) := iDecap_big w A n c lo hi l hr (by omega) h8 hc
theorem sDecap_any (w : World) (A : Option Addr) (n c lo hi : Nat) (l : List Int) (hr : Rd w lo hi 1 A n (l.map (.int .u8))) (hn : n ≤ 1048576) (h8 : B8 l) (hc : n ≤ c) :
    Calls Try.prog 52 #[.slice A n c] w (MkV (fun v => .tuple #[.int .i64 (dcL l).1, v, .bool (dcL l).2.2]) w 5 1 (dcL l).2.1.length ((dcL l).2.1.map (.int .u8))) := sDecap_big w A n c lo hi l hr (by omega) h8 hc
end Go.Proofs.Ytidfpmkhgogilaa
