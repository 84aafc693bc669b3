/- Prefixes of key paths: the reference's IsPrefixPath, and DeriveFrom. -/
import Derived.Test.YtbfmdnlfbadokaaPre
namespace Go.Proofs.Ytbfmdnlfbadokaa
open Go.RowKit Go.Sep

theorem sPre_any (w : World) (A B : Option Addr) (n m c c' lo hi lo' hi' : Nat) (l l' : List Int) (hr : Rd w lo hi 1 A n (l.map (.int .i64))) (hr' : Rd w lo' hi' 1 B m (l'.map (.int .i64))) (hn : n ≤ 9223372036854775807) (_hm : m ≤ 9223372036854775807) :
    Calls Try.prog 77 #[.agg #[.slice A n c], .agg #[.slice B m c']] w fun e w' => e = .returned (.bool (pre l l')) ∧ Below w.heap.size w w' := by
  have hlen : l.length = n := by simpa using hr.len
  have hlen' : l'.length = m := by simpa using hr'.len
  by_cases hnm : m < n
  · have HF := hide (show pre l l' = false by
      simp only [pre, decide_eq_false_iff_not]
      intro e
      have := congrArg List.length e
      simp at this
      omega)
    have g1 : (m : Int) < (n : Int) := by omega
    clear hnm
    go_enter Try.func77, Try.ntmps77
    go_wp2_with fail
    go_ret
    exact ⟨ret_bool HF.out.symm, (by (repeat' (first | (with_reducible exact Below.refl _ _) | (with_reducible assumption) | (with_reducible refine Below.alloc ?_ ?_ _) | (with_reducible refine below_ext ?_ ?_ _ _) | (with_reducible refine Below.setCell ?_ ?_ _) | (with_reducible refine Below.drew ?_) | (with_reducible refine below_drewN ?_ _))); all_goals (first | omega | (simp; done) | (simp; omega)))⟩
  have g1 : ¬ (m : Int) < (n : Int) := by omega
  have HNM := hide hnm
  clear hnm
  go_enter Try.func77, Try.ntmps77
  go_wp2_with fail
  clear g1
  go_loopw [5] (fun i wr => ∃ k : Nat, k ≤ n ∧ i = .int .i64 k ∧ Hid (l.take k = l'.take k) ∧ ∃ d, wr = ((w.alloc (.cells #[.slice A n c] 45)).alloc (.cells #[.slice B m c'] 45)).drewN d) (fun i _ => n - (intOf i).toNat)
  case atStart => exact ⟨0, Nat.zero_le _, rfl, hide rfl, 0, rfl⟩
  case round =>
    obtain ⟨k, hk, rfl, HE, d, rfl⟩ := hrel
    have hnm := HNM.out
    by_cases hlt : k < n
    · obtain ⟨b, o, rfl, _, _, hcell⟩ := hr.at_ (j := k) (by omega)
      obtain ⟨b', o', rfl, _, _, hcell'⟩ := hr'.at_ (j := k) (by omega)
      have hx := hcell k (.int .i64 (l[k]'(by omega))) (by simp [show k < l.length by omega])
      have hx' := hcell' k (.int .i64 (l'[k]'(by omega))) (by simp [show k < l'.length by omega])
      have HS := hide (show l[k]'(by omega) = l'[k]'(by omega) → l.take (k + 1) = l'.take (k + 1) from fun hz => take_succ_eq (List.getElem?_eq_getElem (show k < l.length by omega)) (List.getElem?_eq_getElem (show k < l'.length by omega)) HE.out hz)
      have HN := hide (show l[k]'(by omega) ≠ l'[k]'(by omega) → pre l l' = false from fun hne => by
        simp only [pre, decide_eq_false_iff_not]
        intro e
        have h2 := congrArg (fun q => q[k]?) e
        simp [show k < l.length by omega, show k < l'.length by omega] at h2
        exact hne h2)
      generalize l[k]'(by omega) = z at hx HS HN
      generalize l'[k]'(by omega) = z' at hx' HS HN
      have hbl := World.block_lt_of_cell? w _ hx
      have hbl' := World.block_lt_of_cell? w _ hx'
      simp only at hbl hbl'
      have hlt' : (k : Int) < (n : Int) := by omega
      have hltm : (k : Int) < (m : Int) := by omega
      clear hcell hcell' hr hr' HE hnm
      by_cases hz : z = z'
      · subst hz
        go_wp2_with fail
        go_quiet (fail)
        go_wp2_with fail
        go_roundw
        case rel => exact ⟨k + 1, by omega, by go_num, hide (by simpa using HS.out), (by first | exact ⟨_, rfl⟩ | exact ⟨_, World.drewN_drewN _ _ _⟩)⟩
        case measure => simp [intOf] <;> omega
      · have HF := hide (HN.out hz)
        have hne : (z != z') = true := by simpa using hz
        have hne2 : (z == z') = false := by simpa using hz
        clear hz
        go_wp2_with fail
        go_quiet (fail)
        go_wp2_with fail
        go_ret
        exact ⟨ret_bool HF.out.symm, (by (repeat' (first | (with_reducible exact Below.refl _ _) | (with_reducible assumption) | (with_reducible refine Below.alloc ?_ ?_ _) | (with_reducible refine below_ext ?_ ?_ _ _) | (with_reducible refine Below.setCell ?_ ?_ _) | (with_reducible refine Below.drew ?_) | (with_reducible refine below_drewN ?_ _))); all_goals (first | omega | (simp; done) | (simp; omega)))⟩
    · have HF := hide (show pre l l' = true by
        simp only [pre, decide_eq_true_eq]
        have := HE.out
        rw [List.take_of_length_le (by omega)] at this
        rw [this, List.length_take, Nat.min_eq_left (by omega)])
      go_wp2_with fail
      go_ret
      exact ⟨ret_bool HF.out.symm, (by (repeat' (first | (with_reducible exact Below.refl _ _) | (with_reducible assumption) | (with_reducible refine Below.alloc ?_ ?_ _) | (with_reducible refine below_ext ?_ ?_ _ _) | (with_reducible refine Below.setCell ?_ ?_ _) | (with_reducible refine Below.drew ?_) | (with_reducible refine below_drewN ?_ _))); all_goals (first | omega | (simp; done) | (simp; omega)))⟩
theorem cutEI {l : List Int} {lo hi n c e : Nat} {A : Option Addr} (he : e ≤ n) (hc : n ≤ c) (hce : ¬ c = e) {W : World} (h : Rd W lo hi 1 A n (l.map (.int .i64))) : Rd W lo hi 1 (A.map (fun x => x.add e)) (n - e) ((l.drop e).map (.int .i64)) := by
  have := h.cut he hc
  rw [if_neg hce, Nat.mul_one, List.map_drop.symm] at this
  exact this
def dfR (root : Int) (l l' : List Int) : Int := if pre l l' = true then (l'.drop l.length).foldl dk (l.foldl dk root) else 0
theorem pre_len {l l' : List Int} (h : pre l l' = true) : l.length ≤ l'.length := by
  simp only [pre, decide_eq_true_eq] at h
  have := congrArg List.length h
  simp at this
  omega
set_option maxRecDepth 100000 in
theorem sDF_any (w : World) (root : Int) (A B : Option Addr) (n m c c' lo hi lo' hi' : Nat) (l l' : List Int) (hr : Rd w lo hi 1 A n (l.map (.int .i64))) (hr' : Rd w lo' hi' 1 B m (l'.map (.int .i64))) (hn : n ≤ 9223372036854775807) (hm : m ≤ c') (hc : c' ≤ 9223372036854775807) :
    Calls Try.prog 39 #[.int .i64 root, .agg #[.slice A n c], .agg #[.slice B m c']] w fun e w' => e = .returned (.tuple #[.int .i64 (dfR root l l'), .bool (pre l l')]) ∧ Below w.heap.size w w' := by
  have hlen : l.length = n := by simpa using hr.len
  have hlen' : l'.length = m := by simpa using hr'.len
  have HP := hide (fun W h h' => sPre_any W A B n m c c' lo hi lo' hi' l l' h h' hn (by omega))
  cases hp : pre l l'
  · rw [hp] at HP
    rw [show dfR root l l' = 0 by simp [dfR, hp]]
    clear hp
    go_enter Try.func39, Try.ntmps39
    go_wp2_with (go_at_call 77; refine (unhide HP _ (hr.below' (by (repeat' (first | (with_reducible exact Below.refl _ _) | (with_reducible assumption) | (with_reducible refine Below.alloc ?_ ?_ _) | (with_reducible refine below_ext ?_ ?_ _ _) | (with_reducible refine Below.setCell ?_ ?_ _) | (with_reducible refine Below.drew ?_) | (with_reducible refine below_drewN ?_ _))); all_goals (first | omega | (simp; done) | (simp; omega)))) (hr'.below' (by (repeat' (first | (with_reducible exact Below.refl _ _) | (with_reducible assumption) | (with_reducible refine Below.alloc ?_ ?_ _) | (with_reducible refine below_ext ?_ ?_ _ _) | (with_reducible refine Below.setCell ?_ ?_ _) | (with_reducible refine Below.drew ?_) | (with_reducible refine below_drewN ?_ _))); all_goals (first | omega | (simp; done) | (simp; omega))))).mono ?_; rintro e w1 ⟨rfl, hb1⟩; obtain ⟨os1, d1, rfl⟩ := ext_of_below hb1; clear hb1)
    go_ret2
    exact ⟨rfl, (by (repeat' (first | (with_reducible exact Below.refl _ _) | (with_reducible assumption) | (with_reducible refine Below.alloc ?_ ?_ _) | (with_reducible refine below_ext ?_ ?_ _ _) | (with_reducible refine Below.setCell ?_ ?_ _) | (with_reducible refine Below.drew ?_) | (with_reducible refine below_drewN ?_ _))); all_goals (first | omega | (simp; done) | (simp; omega)))⟩
  · rw [hp] at HP
    have hnm := pre_len hp
    rw [hlen, hlen'] at hnm
    have hdf : dfR root l l' = (l'.drop n).foldl dk (l.foldl dk root) := by simp only [dfR, hp, if_true, hlen]
    have HK := hide (fun W h => sKFP_any W root A n c lo hi l h hn)
    generalize l.foldl dk root = r1 at HK hdf
    have g1 : (n : Int) ≤ (m : Int) := by omega
    have g2 : (n : Int) ≤ (c' : Int) := by omega
    have g3 : ¬ (n : Int) < 0 := by omega
    clear hp
    by_cases hce : c' = n
    · subst hce
      obtain rfl : m = c' := by omega
      rw [List.drop_eq_nil_of_le (by omega)] at hdf
      have HK2 := hide (fun W => sKFP_any W r1 B 0 0 0 0 [] (Rd.nil_ W 0 0 1 B) (by omega))
      rw [hdf]
      simp only [List.foldl_nil] at HK2 ⊢
      go_enter Try.func39, Try.ntmps39
      go_wp2_with (go_at_call 77; refine (unhide HP _ (hr.below' (by (repeat' (first | (with_reducible exact Below.refl _ _) | (with_reducible assumption) | (with_reducible refine Below.alloc ?_ ?_ _) | (with_reducible refine below_ext ?_ ?_ _ _) | (with_reducible refine Below.setCell ?_ ?_ _) | (with_reducible refine Below.drew ?_) | (with_reducible refine below_drewN ?_ _))); all_goals (first | omega | (simp; done) | (simp; omega)))) (hr'.below' (by (repeat' (first | (with_reducible exact Below.refl _ _) | (with_reducible assumption) | (with_reducible refine Below.alloc ?_ ?_ _) | (with_reducible refine below_ext ?_ ?_ _ _) | (with_reducible refine Below.setCell ?_ ?_ _) | (with_reducible refine Below.drew ?_) | (with_reducible refine below_drewN ?_ _))); all_goals (first | omega | (simp; done) | (simp; omega))))).mono ?_; rintro e w1 ⟨rfl, hb1⟩; obtain ⟨os1, d1, rfl⟩ := ext_of_below hb1; clear hb1)
      go_region_held3 (fun w' => w'.cell? ⟨w.heap.size, 0, none⟩ = some (.slice A m c) ∧ w'.cell? ⟨w.heap.size + 1, 0, none⟩ = some (.slice B m m)) (first | (go_simp; done) | go_keep)
        (first | (go_at_call 30; (with_reducible refine (unhide HK _ (hr.below' (by (repeat' (first | (with_reducible exact Below.refl _ _) | (with_reducible assumption) | (with_reducible refine Below.alloc ?_ ?_ _) | (with_reducible refine below_ext ?_ ?_ _ _) | (with_reducible refine Below.setCell ?_ ?_ _) | (with_reducible refine Below.drew ?_) | (with_reducible refine below_drewN ?_ _))); all_goals (first | omega | (simp; done) | (simp; omega))))).mono ?_); rintro e w2 ⟨rfl, hb2⟩; obtain ⟨os2, d2, rfl⟩ := ext_of_below hb2; clear hb2) | (go_at_call 30; refine (unhide HK2 _).mono ?_; rintro e w3 ⟨rfl, hb3⟩; obtain ⟨os3, d3, rfl⟩ := ext_of_below hb3; clear hb3))
      all_goals
        go_wp2_with fail
        go_ret2
        exact ⟨rfl, (by (repeat' (first | (with_reducible exact Below.refl _ _) | (with_reducible assumption) | (with_reducible refine Below.alloc ?_ ?_ _) | (with_reducible refine below_ext ?_ ?_ _ _) | (with_reducible refine Below.setCell ?_ ?_ _) | (with_reducible refine Below.drew ?_) | (with_reducible refine below_drewN ?_ _))); all_goals (first | omega | (simp; done) | (simp; omega)))⟩
    · have HK2 := hide (fun W h => sKFP_any W r1 (B.map (fun x => x.add n)) (m - n) (c' - n) lo' hi' (l'.drop n) (cutEI (by omega) hm hce h) (by omega))
      rw [hdf]
      generalize (l'.drop n).foldl dk r1 = r2 at HK2 ⊢
      go_enter Try.func39, Try.ntmps39
      go_wp2_with (go_at_call 77; refine (unhide HP _ (hr.below' (by (repeat' (first | (with_reducible exact Below.refl _ _) | (with_reducible assumption) | (with_reducible refine Below.alloc ?_ ?_ _) | (with_reducible refine below_ext ?_ ?_ _ _) | (with_reducible refine Below.setCell ?_ ?_ _) | (with_reducible refine Below.drew ?_) | (with_reducible refine below_drewN ?_ _))); all_goals (first | omega | (simp; done) | (simp; omega)))) (hr'.below' (by (repeat' (first | (with_reducible exact Below.refl _ _) | (with_reducible assumption) | (with_reducible refine Below.alloc ?_ ?_ _) | (with_reducible refine below_ext ?_ ?_ _ _) | (with_reducible refine Below.setCell ?_ ?_ _) | (with_reducible refine Below.drew ?_) | (with_reducible refine below_drewN ?_ _))); all_goals (first | omega | (simp; done) | (simp; omega))))).mono ?_; rintro e w1 ⟨rfl, hb1⟩; obtain ⟨os1, d1, rfl⟩ := ext_of_below hb1; clear hb1)
      go_region_held3 (fun w' => w'.cell? ⟨w.heap.size, 0, none⟩ = some (.slice A n c) ∧ w'.cell? ⟨w.heap.size + 1, 0, none⟩ = some (.slice B m c')) (first | (go_simp; done) | go_keep)
        (first | (go_at_call 30; (with_reducible refine (unhide HK _ (hr.below' (by (repeat' (first | (with_reducible exact Below.refl _ _) | (with_reducible assumption) | (with_reducible refine Below.alloc ?_ ?_ _) | (with_reducible refine below_ext ?_ ?_ _ _) | (with_reducible refine Below.setCell ?_ ?_ _) | (with_reducible refine Below.drew ?_) | (with_reducible refine below_drewN ?_ _))); all_goals (first | omega | (simp; done) | (simp; omega))))).mono ?_); rintro e w2 ⟨rfl, hb2⟩; obtain ⟨os2, d2, rfl⟩ := ext_of_below hb2; clear hb2) | (go_at_call 30; refine (unhide HK2 _ (hr'.below' (by (repeat' (first | (with_reducible exact Below.refl _ _) | (with_reducible assumption) | (with_reducible refine Below.alloc ?_ ?_ _) | (with_reducible refine below_ext ?_ ?_ _ _) | (with_reducible refine Below.setCell ?_ ?_ _) | (with_reducible refine Below.drew ?_) | (with_reducible refine below_drewN ?_ _))); all_goals (first | omega | (simp; done) | (simp; omega))))).mono ?_; rintro e w3 ⟨rfl, hb3⟩; obtain ⟨os3, d3, rfl⟩ := ext_of_below hb3; clear hb3))
      all_goals
        go_wp2_with fail
        go_ret2
        exact ⟨rfl, (by (repeat' (first | (with_reducible exact Below.refl _ _) | (with_reducible assumption) | (with_reducible refine Below.alloc ?_ ?_ _) | (with_reducible refine below_ext ?_ ?_ _ _) | (with_reducible refine Below.setCell ?_ ?_ _) | (with_reducible refine Below.drew ?_) | (with_reducible refine below_drewN ?_ _))); all_goals (first | omega | (simp; done) | (simp; omega)))⟩
set_option maxRecDepth 100000 in
theorem iDF_any (w : World) (root : Int) (A B : Option Addr) (n m c c' lo hi lo' hi' : Nat) (l l' : List Int) (hr : Rd w lo hi 1 A n (l.map (.int .i64))) (hr' : Rd w lo' hi' 1 B m (l'.map (.int .i64))) (hn : n ≤ 9223372036854775807) (hm : m ≤ c') (hc : c' ≤ 9223372036854775807) :
    Calls Try.prog 40 #[.int .i64 root, .agg #[.slice A n c], .agg #[.slice B m c']] w fun e w' => e = .returned (.tuple #[.int .i64 (dfR root l l'), .bool (pre l l')]) ∧ Below w.heap.size w w' := by
  have hlen : l.length = n := by simpa using hr.len
  have hlen' : l'.length = m := by simpa using hr'.len
  have HP := hide (fun W h h' => iPre_any W A B n m c c' lo hi lo' hi' l l' h h' hn hm hc)
  cases hp : pre l l'
  · rw [hp] at HP
    rw [show dfR root l l' = 0 by simp [dfR, hp]]
    clear hp
    go_enter Try.func40, Try.ntmps40
    go_wp2_with (go_at_call 43; refine (unhide HP _ (hr.below' (by (repeat' (first | (with_reducible exact Below.refl _ _) | (with_reducible assumption) | (with_reducible refine Below.alloc ?_ ?_ _) | (with_reducible refine below_ext ?_ ?_ _ _) | (with_reducible refine Below.setCell ?_ ?_ _) | (with_reducible refine Below.drew ?_) | (with_reducible refine below_drewN ?_ _))); all_goals (first | omega | (simp; done) | (simp; omega)))) (hr'.below' (by (repeat' (first | (with_reducible exact Below.refl _ _) | (with_reducible assumption) | (with_reducible refine Below.alloc ?_ ?_ _) | (with_reducible refine below_ext ?_ ?_ _ _) | (with_reducible refine Below.setCell ?_ ?_ _) | (with_reducible refine Below.drew ?_) | (with_reducible refine below_drewN ?_ _))); all_goals (first | omega | (simp; done) | (simp; omega))))).mono ?_; rintro e w1 ⟨rfl, hb1⟩; obtain ⟨os1, d1, rfl⟩ := ext_of_below hb1; clear hb1)
    go_ret2
    exact ⟨rfl, (by (repeat' (first | (with_reducible exact Below.refl _ _) | (with_reducible assumption) | (with_reducible refine Below.alloc ?_ ?_ _) | (with_reducible refine below_ext ?_ ?_ _ _) | (with_reducible refine Below.setCell ?_ ?_ _) | (with_reducible refine Below.drew ?_) | (with_reducible refine below_drewN ?_ _))); all_goals (first | omega | (simp; done) | (simp; omega)))⟩
  · rw [hp] at HP
    have hnm := pre_len hp
    rw [hlen, hlen'] at hnm
    have hdf : dfR root l l' = (l'.drop n).foldl dk (l.foldl dk root) := by simp only [dfR, hp, if_true, hlen]
    have HK := hide (fun W h => iKFP_any W root A n c lo hi l h hn)
    generalize l.foldl dk root = r1 at HK hdf
    have g1 : (n : Int) ≤ (m : Int) := by omega
    have g2 : (n : Int) ≤ (c' : Int) := by omega
    have g3 : ¬ (n : Int) < 0 := by omega
    clear hp
    by_cases hce : c' = n
    · subst hce
      obtain rfl : m = c' := by omega
      rw [List.drop_eq_nil_of_le (by omega)] at hdf
      have HK2 := hide (fun W => iSteps_any W r1 B 0 0 0 0 [] (Rd.nil_ W 0 0 1 B) (by omega))
      rw [hdf]
      simp only [List.foldl_nil] at HK2 ⊢
      go_enter Try.func40, Try.ntmps40
      go_wp2_with (go_at_call 43; refine (unhide HP _ (hr.below' (by (repeat' (first | (with_reducible exact Below.refl _ _) | (with_reducible assumption) | (with_reducible refine Below.alloc ?_ ?_ _) | (with_reducible refine below_ext ?_ ?_ _ _) | (with_reducible refine Below.setCell ?_ ?_ _) | (with_reducible refine Below.drew ?_) | (with_reducible refine below_drewN ?_ _))); all_goals (first | omega | (simp; done) | (simp; omega)))) (hr'.below' (by (repeat' (first | (with_reducible exact Below.refl _ _) | (with_reducible assumption) | (with_reducible refine Below.alloc ?_ ?_ _) | (with_reducible refine below_ext ?_ ?_ _ _) | (with_reducible refine Below.setCell ?_ ?_ _) | (with_reducible refine Below.drew ?_) | (with_reducible refine below_drewN ?_ _))); all_goals (first | omega | (simp; done) | (simp; omega))))).mono ?_; rintro e w1 ⟨rfl, hb1⟩; obtain ⟨os1, d1, rfl⟩ := ext_of_below hb1; clear hb1)
      go_region_held3 (fun w' => w'.cell? ⟨w.heap.size, 0, none⟩ = some (.slice A m c) ∧ w'.cell? ⟨w.heap.size + 1, 0, none⟩ = some (.slice B m m)) (first | (go_simp; done) | go_keep)
        (first | (go_at_call 32; refine (unhide HK _ (hr.below' (by (repeat' (first | (with_reducible exact Below.refl _ _) | (with_reducible assumption) | (with_reducible refine Below.alloc ?_ ?_ _) | (with_reducible refine below_ext ?_ ?_ _ _) | (with_reducible refine Below.setCell ?_ ?_ _) | (with_reducible refine Below.drew ?_) | (with_reducible refine below_drewN ?_ _))); all_goals (first | omega | (simp; done) | (simp; omega))))).mono ?_; rintro e w2 ⟨rfl, hb2⟩; obtain ⟨os2, d2, rfl⟩ := ext_of_below hb2; clear hb2) | (go_at_call 75; refine (unhide HK2 _).mono ?_; rintro e w3 ⟨rfl, hb3⟩; obtain ⟨os3, d3, rfl⟩ := ext_of_below hb3; clear hb3))
      all_goals
        go_wp2_with fail
        go_ret2
        exact ⟨rfl, (by (repeat' (first | (with_reducible exact Below.refl _ _) | (with_reducible assumption) | (with_reducible refine Below.alloc ?_ ?_ _) | (with_reducible refine below_ext ?_ ?_ _ _) | (with_reducible refine Below.setCell ?_ ?_ _) | (with_reducible refine Below.drew ?_) | (with_reducible refine below_drewN ?_ _))); all_goals (first | omega | (simp; done) | (simp; omega)))⟩
    · have HK2 := hide (fun W h => iSteps_any W r1 (B.map (fun x => x.add n)) (m - n) (c' - n) lo' hi' (l'.drop n) (cutEI (by omega) hm hce h) (by omega))
      rw [hdf]
      generalize (l'.drop n).foldl dk r1 = r2 at HK2 ⊢
      go_enter Try.func40, Try.ntmps40
      go_wp2_with (go_at_call 43; refine (unhide HP _ (hr.below' (by (repeat' (first | (with_reducible exact Below.refl _ _) | (with_reducible assumption) | (with_reducible refine Below.alloc ?_ ?_ _) | (with_reducible refine below_ext ?_ ?_ _ _) | (with_reducible refine Below.setCell ?_ ?_ _) | (with_reducible refine Below.drew ?_) | (with_reducible refine below_drewN ?_ _))); all_goals (first | omega | (simp; done) | (simp; omega)))) (hr'.below' (by (repeat' (first | (with_reducible exact Below.refl _ _) | (with_reducible assumption) | (with_reducible refine Below.alloc ?_ ?_ _) | (with_reducible refine below_ext ?_ ?_ _ _) | (with_reducible refine Below.setCell ?_ ?_ _) | (with_reducible refine Below.drew ?_) | (with_reducible refine below_drewN ?_ _))); all_goals (first | omega | (simp; done) | (simp; omega))))).mono ?_; rintro e w1 ⟨rfl, hb1⟩; obtain ⟨os1, d1, rfl⟩ := ext_of_below hb1; clear hb1)
      go_region_held3 (fun w' => w'.cell? ⟨w.heap.size, 0, none⟩ = some (.slice A n c) ∧ w'.cell? ⟨w.heap.size + 1, 0, none⟩ = some (.slice B m c')) (first | (go_simp; done) | go_keep)
        (first | (go_at_call 32; refine (unhide HK _ (hr.below' (by (repeat' (first | (with_reducible exact Below.refl _ _) | (with_reducible assumption) | (with_reducible refine Below.alloc ?_ ?_ _) | (with_reducible refine below_ext ?_ ?_ _ _) | (with_reducible refine Below.setCell ?_ ?_ _) | (with_reducible refine Below.drew ?_) | (with_reducible refine below_drewN ?_ _))); all_goals (first | omega | (simp; done) | (simp; omega))))).mono ?_; rintro e w2 ⟨rfl, hb2⟩; obtain ⟨os2, d2, rfl⟩ := ext_of_below hb2; clear hb2) | (go_at_call 75; refine (unhide HK2 _ (hr'.below' (by (repeat' (first | (with_reducible exact Below.refl _ _) | (with_reducible assumption) | (with_reducible refine Below.alloc ?_ ?_ _) | (with_reducible refine below_ext ?_ ?_ _ _) | (with_reducible refine Below.setCell ?_ ?_ _) | (with_reducible refine Below.drew ?_) | (with_reducible refine below_drewN ?_ _))); all_goals (first | omega | (simp; done) | (simp; omega))))).mono ?_; rintro e w3 ⟨rfl, hb3⟩; obtain ⟨os3, d3, rfl⟩ := ext_of_below hb3; clear hb3))
      all_goals
        go_wp2_with fail
        go_ret2
        exact ⟨rfl, (by (repeat' (first | (with_reducible exact Below.refl _ _) | (with_reducible assumption) | (with_reducible refine Below.alloc ?_ ?_ _) | (with_reducible refine below_ext ?_ ?_ _ _) | (with_reducible refine Below.setCell ?_ ?_ _) | (with_reducible refine Below.drew ?_) | (with_reducible refine below_drewN ?_ _))); all_goals (first | omega | (simp; done) | (simp; omega)))⟩
end Go.Proofs.Ytbfmdnlfbadokaa
