/- EncodeInts and EncodeSecured: what they make, on both sides. -/
import Derived.Test.YtidfpmkhgogilaaUvW
import Derived.Test.YtidfpmkhgogilaaSVal
import Derived.Deep.RegionHeld3
namespace Go.Proofs.Ytidfpmkhgogilaa
open Go.RowKit Go.Sep

theorem apU_snoc (l : List Int) (v : Int) : apU l v = l ++ apU [] v := by
  unfold apU
  split <;> simp
def eI (l : List Int) : List Int := l.foldl (fun b v => b ++ apU [] v) []
theorem eI_len2 (d c : Int) : (eI [d, c]).length ≤ 12 := by
  have h1 := apU_len [] d
  have h2 := apU_len [] c
  simp [eI] at h1 h2 ⊢
  omega
theorem eI_at {l : List Int} {k : Nat} {x : Int} {a : List Int} (h : l[k]? = some x) : (l.drop k).foldl (fun b v => b ++ apU [] v) a = (l.drop (k + 1)).foldl (fun b v => b ++ apU [] v) (a ++ apU [] x) := by
  obtain ⟨hk, rfl⟩ := List.getElem?_eq_some_iff.1 h
  rw [List.drop_eq_getElem_cons hk, List.foldl_cons]
theorem own_ext {w : World} {lo hi size n : Nat} {e : TypeId} {v : Value} {xs : List Value} (h : Own w lo hi e size v n xs) (os : Array Obj) (d : Nat) : Own (ext w os d) lo hi e size v n xs := h.below' (below_ext (Below.refl _ _) (Nat.le_refl _) _ _)
theorem fresh0 (X : World) (k : Nat) (hk : X.heap.size = k) : Own (X.alloc (.cells #[] 5)) k (k + 1) 5 1 (.slice (some ⟨k, 0, none⟩) 0 0) 0 [] := by
  subst hk
  simpa using Own.fresh X #[] 5 1 0 rfl (by unfold maxLen; omega)
set_option maxRecDepth 100000 in
theorem iEncInts_any (w : World) (A : Option Addr) (n c lo hi : Nat) (l : List Int) (hr : Rd w lo hi 1 A n (l.map (.int .i64))) (hn : n ≤ 100) :
    Calls Try.prog 64 #[.slice A n c] w (Mk w 5 1 (eI l).length ((eI l).map (.int .u8))) := by
  obtain ⟨i0, hi0, hz0, hz1, hz2⟩ := info_parts infoByteS
  have hll : l.length = n := by simpa using hr.len
  go_enter Try.func64, Try.ntmps64
  go_wp2_with fail
  go_loopw [3, 9] (fun q i wr => ∃ (k m : Nat) (A' : Option Addr) (c' : Nat) (acc : List Int), k ≤ n ∧ m ≤ 6 * k ∧ i = .int .i64 k ∧ q = .slice A' m c' ∧ Hid (acc.length = m) ∧ Hid (eI l = (l.drop k).foldl (fun b v => b ++ apU [] v) acc) ∧ Own wr w.heap.size wr.heap.size 5 1 (.slice A' m c') m (acc.map (.int .u8)) ∧ Below w.heap.size w wr) (fun _ i _ => n - (intOf i).toNat)
  case atStart => exact ⟨0, 0, _, 0, [], Nat.zero_le _, Nat.le_refl _, rfl, rfl, hide rfl, hide rfl, (fresh0 w _ rfl).more (Nat.le_refl _) (by first | omega | (simp <;> omega)), (by (repeat' (first | (with_reducible exact Below.refl _ _) | (with_reducible assumption) | (with_reducible refine Below.alloc ?_ ?_ _) | (with_reducible refine below_ext ?_ ?_ _ _) | (with_reducible refine Below.setCell ?_ ?_ _) | (with_reducible refine Below.drew ?_) | (with_reducible refine below_drewN ?_ _))); all_goals (first | omega | (simp; done) | (simp; omega)))⟩
  case round =>
    obtain ⟨k, m, A', c', acc, hk, hm, rfl, rfl, HL, HF, hown, hb⟩ := hrel
    by_cases hlt : k < n
    · obtain ⟨b, o, rfl, _, _, hcell⟩ := (hr.below' hb).at_ (j := k) (by omega)
      have hkl : k < l.length := by omega
      have hx := hcell k (.int .i64 l[k]) (by simp [hkl])
      have HG := hide (HF.out.trans (eI_at (List.getElem?_eq_getElem hkl)))
      generalize l[k] = z at hx HG
      clear hcell hr HF
      have HU := hide (fun W => iAppU_any W none 0 0 0 0 [] z (Rd.nil_ W 0 0 1 none) (by omega))
      have hlu := apU_len [] z
      generalize apU [] z = u at HU HG hlu
      go_wp2_with (first
        | (go_at_call 66; refine (unhide HU _).mono ?_; rintro e w1 ⟨A1, c1, rfl, hc1, hm1, ho1, hb1⟩; have hown1 := hown.below' hb1; have hb2 := below_then hb hb1 hb.size)
        | (at_builtin; refine wpList_app _ rfl (.tmp 13) (.tmp 15) 22 rfl 5 i0 (.int .u8 0) 1 1 w.heap.size wr.heap.size wr.heap.size w1.heap.size Try.underlying22 hi0 hz0 hz1 hz2 rfl (by omega) _ m _ rfl hown1 A1 u.length c1 _ rfl ho1.rd (ints_one _ _) (by unfold maxLen; simp at hlu; omega) (by simp at hlu; omega) hb2.size hb1.size ?_; intro A4 c4 w4 hown4 hc4 hm4 hch4))
      have hb4 : Below w.heap.size w w4 := below_then hb2 (hch4.below (Nat.le_refl _) hb2.size) (Nat.le_refl _)
      rw [← List.map_append] at hown4
      clear hown hown1 hch4 hb hb1 hb2 ho1
      go_wp2_with fail
      go_roundw
      case rel => exact ⟨k + 1, m + u.length, A4, c4, acc ++ u, by omega, by simp at hlu; omega, by go_num, rfl, hide (by simp [HL.out]), HG, hown4, hb4⟩
      case measure => simp [intOf] <;> omega
    · obtain rfl : k = n := by omega
      have HG := hide (HF.out.trans (by rw [List.drop_eq_nil_of_le (by omega)]; rfl : _ = acc))
      clear HF
      go_wp2_with fail
      go_ret
      rw [HG.out, HL.out]
      exact Mk.of_own hown hb (Nat.le_refl _)
set_option maxRecDepth 100000 in
theorem sEncInts_any (w : World) (A : Option Addr) (n c lo hi : Nat) (l : List Int) (hr : Rd w lo hi 1 A n (l.map (.int .i64))) (hn : n ≤ 100) :
    Calls Try.prog 62 #[.slice A n c] w (Mk w 5 1 (eI l).length ((eI l).map (.int .u8))) := by
  have hll : l.length = n := by simpa using hr.len
  go_enter Try.func62, Try.ntmps62
  go_wp2_with fail
  go_loopw [3, 4] (fun q i wr => ∃ (k m : Nat) (A' : Option Addr) (c' : Nat) (acc : List Int), k ≤ n ∧ m ≤ 6 * k ∧ i = .int .i64 k ∧ q = .slice A' m c' ∧ Hid (acc.length = m) ∧ Hid (eI l = (l.drop k).foldl (fun b v => b ++ apU [] v) acc) ∧ Own wr w.heap.size wr.heap.size 5 1 (.slice A' m c') m (acc.map (.int .u8)) ∧ Below w.heap.size w wr) (fun _ i _ => n - (intOf i).toNat)
  case atStart => exact ⟨0, 0, _, 0, [], Nat.zero_le _, Nat.le_refl _, rfl, rfl, hide rfl, hide rfl, (fresh0 w _ rfl).more (Nat.le_refl _) (by first | omega | (simp <;> omega)), (by (repeat' (first | (with_reducible exact Below.refl _ _) | (with_reducible assumption) | (with_reducible refine Below.alloc ?_ ?_ _) | (with_reducible refine below_ext ?_ ?_ _ _) | (with_reducible refine Below.setCell ?_ ?_ _) | (with_reducible refine Below.drew ?_) | (with_reducible refine below_drewN ?_ _))); all_goals (first | omega | (simp; done) | (simp; omega)))⟩
  case round =>
    obtain ⟨k, m, A', c', acc, hk, hm, rfl, rfl, HL, HF, hown, hb⟩ := hrel
    by_cases hlt : k < n
    · obtain ⟨b, o, rfl, _, _, hcell⟩ := (hr.below' hb).at_ (j := k) (by omega)
      have hkl : k < l.length := by omega
      have hx := hcell k (.int .i64 l[k]) (by simp [hkl])
      have HG := hide (HF.out.trans (eI_at (List.getElem?_eq_getElem hkl)))
      generalize l[k] = z at hx HG
      clear hcell hr HF
      have HU := hide (fun W h => sAppU_any W A' m c' w.heap.size wr.heap.size acc z h (by omega))
      have HL2 := hide (apU_snoc acc z)
      have hlu := apU_len acc z
      rw [← HL2.out] at HG
      clear HL2
      rw [HL.out] at hlu
      generalize apU acc z = u at HU HG hlu
      go_wp2_with (go_at_call 63; refine (unhide HU _ hown.rd).mono ?_; rintro e w1 ⟨A1, c1, rfl, hc1, hm1, ho1, hb1⟩)
      go_roundw
      case rel => exact ⟨k + 1, u.length, A1, c1, u, by omega, by omega, by go_num, rfl, hide rfl, HG, ho1.more hb.size (Nat.le_refl _), below_then hb hb1 hb.size⟩
      case measure => simp [intOf] <;> omega
    · obtain rfl : k = n := by omega
      have HG := hide (HF.out.trans (by rw [List.drop_eq_nil_of_le (by omega)]; rfl : _ = acc))
      clear HF
      go_wp2_with fail
      go_ret
      rw [HG.out, HL.out]
      exact Mk.of_own hown hb (Nat.le_refl _)
/-- The bytes of a secured message. -/
def encS (d c m : Int) (l : List Int) : List Int := if vS d c l.length m = true then apU (apB (eI [d, c]) l) m else []
theorem encS_no {d c m : Int} {l : List Int} {n : Nat} (hl : l.length = n) (h : vS d c n m = false) : encS d c m l = [] := by simp [encS, hl, h]
theorem encS_yes {d c m : Int} {l : List Int} {n : Nat} (hl : l.length = n) (h : vS d c n m = true) : encS d c m l = apU (apB (eI [d, c]) l) m := by simp [encS, hl, h]
theorem encS_len (d c m : Int) (l : List Int) : (encS d c m l).length ≤ l.length + 24 := by
  unfold encS
  split
  · have h1 := eI_len2 d c
    have h2 := apU_len (eI [d, c]) (l.length : Int)
    have h3 := apU_len (apB (eI [d, c]) l) m
    simp [apB] at h3 ⊢
    omega
  · simp
theorem frI2 (X : World) (k : Nat) (hk : X.heap.size = k) (a b : Int) : Rd (X.alloc (.cells #[.int .i64 a, .int .i64 b] 3)) k (k + 1) 1 (some ⟨k, 0, none⟩) 2 ([a, b].map (.int .i64)) := by
  subst hk
  simpa using Rd.fresh X #[.int .i64 a, .int .i64 b] 3 1 2 rfl
set_option maxRecDepth 100000 in
theorem iEncodeSecured_any (w : World) (d c0 m0 : Int) (A : Option Addr) (n c lo hi : Nat) (l : List Int) (hr : Rd w lo hi 1 A n (l.map (.int .u8))) (hn : n ≤ 1048576) (_h8 : B8 l) :
    Calls Try.prog 23 #[.agg #[.int .i64 d, .int .i64 c0, .slice A n c, .int .i64 m0]] w (Mk w 5 1 (encS d c0 m0 l).length ((encS d c0 m0 l).map (.int .u8))) := by
  clear _h8
  have hll : l.length = n := by simpa using hr.len
  have HV := hide (fun W => iVS_any d c0 A n c m0 W)
  cases hv : vS d c0 n m0
  · rw [hv] at HV
    rw [encS_no hll hv]
    clear hv
    go_enter Try.func23, Try.ntmps23
    go_wp2_with (go_at_call 18; refine (unhide HV _).mono ?_; rintro e w1 ⟨rfl, hb1⟩; obtain ⟨os1, d1, rfl⟩ := ext_of_below hb1; clear hb1)
    go_ret
    exact ⟨_, _, rfl, Nat.le_refl _, by unfold maxLen; omega, (fresh0 _ _ (by simp)).more (by first | omega | (simp <;> omega)) (by first | omega | (simp <;> omega)), (by (repeat' (first | (with_reducible exact Below.refl _ _) | (with_reducible assumption) | (with_reducible refine Below.alloc ?_ ?_ _) | (with_reducible refine below_ext ?_ ?_ _ _) | (with_reducible refine Below.setCell ?_ ?_ _) | (with_reducible refine Below.drew ?_) | (with_reducible refine below_drewN ?_ _))); all_goals (first | omega | (simp; done) | (simp; omega)))⟩
  · rw [hv] at HV
    rw [encS_yes hll hv]
    clear hv
    have hl1 := eI_len2 d c0
    have hl2 := apU_len (eI [d, c0]) (l.length : Int)
    have hl3 : (apB (eI [d, c0]) l).length = (apU (eI [d, c0]) (l.length : Int)).length + n := by rw [apB, List.length_append, hll]
    have HI := hide (fun W A1 c1 lo1 hi1 h => iEncInts_any W A1 2 c1 lo1 hi1 [d, c0] h (by omega))
    have HB := hide (fun W A1 c1 lo1 hi1 h h' => iAppB_any W A1 (eI [d, c0]).length c1 lo1 hi1 (eI [d, c0]) A n c lo hi l h h' (by omega) (by omega))
    have HU := hide (fun W A1 c1 lo1 hi1 h => iAppU_any W A1 (apB (eI [d, c0]) l).length c1 lo1 hi1 (apB (eI [d, c0]) l) m0 h (by omega))
    clear hl1 hl2 hl3
    generalize apU (apB (eI [d, c0]) l) m0 = u at HU ⊢
    generalize apB (eI [d, c0]) l = b at HB HU
    generalize eI [d, c0] = e0 at HI HB
    go_enter Try.func23, Try.ntmps23
    go_wp2_with (first
      | (go_at_call 18; refine (unhide HV _).mono ?_; rintro e w1 ⟨rfl, hb1⟩; obtain ⟨os1, d1, rfl⟩ := ext_of_below hb1; clear hb1)
      | (go_at_call 64; refine (unhide HI _ _ _ _ _ (by simpa using Rd.fresh (ext (w.alloc (.cells #[.int .i64 d, .int .i64 c0, .slice A n c, .int .i64 m0] 27)) os1 d1) #[.int .i64 d, .int .i64 c0] 3 1 2 rfl)).mono ?_; rintro e w2 ⟨A2, c2, rfl, hc2, hm2, ho2, hb2⟩; obtain ⟨os2, d2, rfl⟩ := ext_of_below hb2; clear hb2; try simp only [ext_drew] at ho2; try simp only [ext_drewN] at ho2)
      | (go_at_call 65; refine (unhide HB _ _ _ _ _ ho2.rd (hr.below' (by (repeat' (first | (with_reducible exact Below.refl _ _) | (with_reducible assumption) | (with_reducible refine Below.alloc ?_ ?_ _) | (with_reducible refine below_ext ?_ ?_ _ _) | (with_reducible refine Below.setCell ?_ ?_ _) | (with_reducible refine Below.drew ?_) | (with_reducible refine below_drewN ?_ _))); all_goals (first | omega | (simp; done) | (simp; omega))))).mono ?_; rintro e w3 ⟨A3, c3, rfl, hc3, hm3, ho3, hb3⟩; obtain ⟨os3, d3, rfl⟩ := ext_of_below hb3; clear hb3; try simp only [ext_drew] at ho3; try simp only [ext_drewN] at ho3)
      | (go_at_call 66; refine (unhide HU _ _ _ _ _ ho3.rd).mono ?_; rintro e w4 ⟨A4, c4, rfl, hc4, hm4, ho4, hb4⟩; obtain ⟨os4, d4, rfl⟩ := ext_of_below hb4; clear hb4; try simp only [ext_drew] at ho4; try simp only [ext_drewN] at ho4))
    go_ret
    exact ⟨_, _, rfl, hc4, hm4, ho4.more (by simp <;> omega) (by simp), (by (repeat' (first | (with_reducible exact Below.refl _ _) | (with_reducible assumption) | (with_reducible refine Below.alloc ?_ ?_ _) | (with_reducible refine below_ext ?_ ?_ _ _) | (with_reducible refine Below.setCell ?_ ?_ _) | (with_reducible refine Below.drew ?_) | (with_reducible refine below_drewN ?_ _))); all_goals (first | omega | (simp; done) | (simp; omega)))⟩
set_option maxRecDepth 100000 in
theorem sEncodeSecured_any (w : World) (d c0 m0 : Int) (A : Option Addr) (n c lo hi : Nat) (l : List Int) (hr : Rd w lo hi 1 A n (l.map (.int .u8))) (hn : n ≤ 1048576) (_h8 : B8 l) :
    Calls Try.prog 22 #[.agg #[.int .i64 d, .int .i64 c0, .slice A n c, .int .i64 m0]] w (Mk w 5 1 (encS d c0 m0 l).length ((encS d c0 m0 l).map (.int .u8))) := by
  clear _h8
  have hll : l.length = n := by simpa using hr.len
  have HV := hide (fun W => sVS_any d c0 A n c m0 W)
  cases hv : vS d c0 n m0
  · rw [hv] at HV
    rw [encS_no hll hv]
    clear hv
    go_enter Try.func22, Try.ntmps22
    go_wp2_with (go_at_call 16; refine (unhide HV _).mono ?_; rintro e w1 ⟨rfl, hb1⟩; obtain ⟨os1, d1, rfl⟩ := ext_of_below hb1; clear hb1)
    go_ret
    exact ⟨_, _, rfl, Nat.le_refl _, by unfold maxLen; omega, (fresh0 _ _ (by simp)).more (by first | omega | (simp <;> omega)) (by first | omega | (simp <;> omega)), (by (repeat' (first | (with_reducible exact Below.refl _ _) | (with_reducible assumption) | (with_reducible refine Below.alloc ?_ ?_ _) | (with_reducible refine below_ext ?_ ?_ _ _) | (with_reducible refine Below.setCell ?_ ?_ _) | (with_reducible refine Below.drew ?_) | (with_reducible refine below_drewN ?_ _))); all_goals (first | omega | (simp; done) | (simp; omega)))⟩
  · rw [hv] at HV
    rw [encS_yes hll hv]
    clear hv
    have hl1 := eI_len2 d c0
    have hl2 := apU_len (eI [d, c0]) (l.length : Int)
    have hl3 : (apB (eI [d, c0]) l).length = (apU (eI [d, c0]) (l.length : Int)).length + n := by rw [apB, List.length_append, hll]
    have HI := hide (fun W A1 c1 lo1 hi1 h => sEncInts_any W A1 2 c1 lo1 hi1 [d, c0] h (by omega))
    have HB := hide (fun W A1 c1 lo1 hi1 h h' => sAppB_any W A1 (eI [d, c0]).length c1 lo1 hi1 (eI [d, c0]) A n c lo hi l h h' (by omega) (by omega))
    have HU := hide (fun W A1 c1 lo1 hi1 h => sAppU_any W A1 (apB (eI [d, c0]) l).length c1 lo1 hi1 (apB (eI [d, c0]) l) m0 h (by omega))
    clear hl1 hl2 hl3
    generalize apU (apB (eI [d, c0]) l) m0 = u at HU ⊢
    generalize apB (eI [d, c0]) l = b at HB HU
    generalize eI [d, c0] = e0 at HI HB
    go_enter Try.func22, Try.ntmps22
    go_wp2_with (go_at_call 16; refine (unhide HV _).mono ?_; rintro e w1 ⟨rfl, hb1⟩; obtain ⟨os1, d1, rfl⟩ := ext_of_below hb1; clear hb1)
    go_region_held3 (fun w' => w'.cell? ⟨w.heap.size, 0, none⟩ = some (.int .i64 d) ∧ w'.cell? ⟨w.heap.size, 1, none⟩ = some (.int .i64 c0) ∧ w'.cell? ⟨w.heap.size, 2, none⟩ = some (.slice A n c) ∧ w'.cell? ⟨w.heap.size, 3, none⟩ = some (.int .i64 m0)) (first | (go_simp; done) | go_keep)
      (first
        | (go_at_call 62; refine (unhide HI _ _ _ _ _ (by first | exact frI2 _ _ (by simp) d c0 | exact (frI2 _ _ (by simp) d c0).drew | exact (frI2 _ _ (by simp) d c0).drewN _)).mono ?_; rintro e w2 ⟨A2, c2, rfl, hc2, hm2, ho2, hb2⟩; obtain ⟨os2, d2, rfl⟩ := ext_of_below hb2; clear hb2; try simp only [ext_drew] at ho2; try simp only [ext_drewN] at ho2)
        | (go_at_call 61; refine (unhide HB _ _ _ _ _ ho2.rd (hr.below' (by (repeat' (first | (with_reducible exact Below.refl _ _) | (with_reducible assumption) | (with_reducible refine Below.alloc ?_ ?_ _) | (with_reducible refine below_ext ?_ ?_ _ _) | (with_reducible refine Below.setCell ?_ ?_ _) | (with_reducible refine Below.drew ?_) | (with_reducible refine below_drewN ?_ _))); all_goals (first | omega | (simp; done) | (simp; omega))))).mono ?_; rintro e w3 ⟨A3, c3, rfl, hc3, hm3, ho3, hb3⟩; obtain ⟨os3, d3, rfl⟩ := ext_of_below hb3; clear hb3; try simp only [ext_drew] at ho3; try simp only [ext_drewN] at ho3))
    all_goals
      go_wp2_with (go_at_call 63; refine (unhide HU _ _ _ _ _ ho3.rd).mono ?_; rintro e w4 ⟨A4, c4, rfl, hc4, hm4, ho4, hb4⟩; obtain ⟨os4, d4, rfl⟩ := ext_of_below hb4; clear hb4; try simp only [ext_drew] at ho4; try simp only [ext_drewN] at ho4)
      go_ret
      exact ⟨_, _, rfl, hc4, hm4, ho4.more (by simp <;> omega) (by simp), (by (repeat' (first | (with_reducible exact Below.refl _ _) | (with_reducible assumption) | (with_reducible refine Below.alloc ?_ ?_ _) | (with_reducible refine below_ext ?_ ?_ _ _) | (with_reducible refine Below.setCell ?_ ?_ _) | (with_reducible refine Below.drew ?_) | (with_reducible refine below_drewN ?_ _))); all_goals (first | omega | (simp; done) | (simp; omega)))⟩
theorem encs_both (x0 x1 x3 : Int) (n : Nat) (l : List Int) (hm : n ≤ 1048576) (hl : l.length = n) (h8 : B8 l) : ∃ (N : Nat) (e : List Int), N ≤ 1048600 ∧
    (∀ (W : World) (A : Option Addr) (c lo hi : Nat), Rd W lo hi 1 A n (l.map (.int .u8)) → Calls Try.prog 22 #[.agg #[.int .i64 x0, .int .i64 x1, .slice A n c, .int .i64 x3]] W (Mk W 5 1 N (e.map (.int .u8)))) ∧
    (∀ (W : World) (A : Option Addr) (c lo hi : Nat), Rd W lo hi 1 A n (l.map (.int .u8)) → Calls Try.prog 23 #[.agg #[.int .i64 x0, .int .i64 x1, .slice A n c, .int .i64 x3]] W (Mk W 5 1 N (e.map (.int .u8)))) :=
  ⟨_, encS x0 x1 x3 l, by have := encS_len x0 x1 x3 l; omega, fun W A c lo hi h => sEncodeSecured_any W x0 x1 x3 A n c lo hi l h hm h8, fun W A c lo hi h => iEncodeSecured_any W x0 x1 x3 A n c lo hi l h hm h8⟩
end Go.Proofs.Ytidfpmkhgogilaa
