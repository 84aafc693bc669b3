/- AppendUvarint and AppendBytes: what they make. -/
import Derived.Test.YtidfpmkhgogilaaCpy
import Derived.Test.YtidfpmkhgogilaaUv
import Derived.Test.YtidfpmkhgogilaaInt
namespace Go.Proofs.Ytidfpmkhgogilaa
open Go.RowKit Go.Sep

def apU (l : List Int) (n : Int) : List Int := if inR n 0 1000000000000 = true then l ++ uv n else l
theorem apU_no {l : List Int} {n : Int} (h : inR n 0 1000000000000 = false) : apU l n = l := by simp [apU, h]
theorem apU_yes {l : List Int} {n : Int} (h : inR n 0 1000000000000 = true) : apU l n = l ++ uv n := by simp [apU, h]
theorem apU_len (l : List Int) (n : Int) : (apU l n).length ≤ l.length + 6 := by
  unfold apU
  split
  · have := uvF_len 5 n; simp [uv]; omega
  · omega
theorem uv_more {l acc : List Int} {n m : Int} {f : Nat} (h : l ++ uv n = acc ++ uvF (f + 1) m) (hm : 128 ≤ m) : l ++ uv n = (acc ++ [m % 128 + 128]) ++ uvF f (m / 128) := by rw [h, uvF_big hm]; simp
theorem uv_last {l acc : List Int} {n m : Int} {f : Nat} (h : l ++ uv n = acc ++ uvF f m) (hm : m < 128) : l ++ uv n = acc ++ [m] := by rw [h, uvF_small hm]
theorem u8_fit {x : Int} (h : 0 ≤ x) (h' : x ≤ 255) : IntKind.u8.wrap x = x := by rw [IntKind.wrap_u8]; omega
/-- One byte appended. -/
theorem bytes_snoc (acc : List Int) (x : Int) : acc.map (Value.int .u8) ++ [Value.int .u8 x] = (acc ++ [x]).map (.int .u8) := by simp

set_option maxRecDepth 100000 in
theorem iAppU_any (w : World) (A : Option Addr) (n c lo hi : Nat) (l : List Int) (v : Int) (hr : Rd w lo hi 1 A n (l.map (.int .u8))) (hn : n ≤ 8388608) :
    Calls Try.prog 66 #[.slice A n c, .int .i64 v] w (Mk w 5 1 (apU l v).length ((apU l v).map (.int .u8))) := by
  obtain ⟨i0, hi0, hz0, hz1, hz2⟩ := info_parts infoByteS
  have hlen := hr.len
  have hll : l.length = n := by simpa using hlen
  have HI := hide (fun W => inRange_any v 0 1000000000000 W)
  cases hv : inR v 0 1000000000000
  · rw [hv] at HI
    have HA := hide (apU_no (l := l) hv)
    clear hv
    go_enter Try.func66, Try.ntmps66
    go_wp2_with (first
      | (at_make; refine wpList_make_cap _ rfl _ _ 22 rfl 5 i0 (.int .u8 0) 1 Try.underlying22 hi0 hz0 hz1 _ _ _ _ n (n + 6) rfl rfl rfl (by omega) (by omega) (by rw [hz2]; omega) (by unfold maxLen; omega) ?_; intro w1 hown hb1; have hr1 := hr.below' hb1)
      | (refine wpList_cpy (o := ⟨some 14, _, _, _, _, _⟩) _ rfl (.tmp 12) (.tmp 13) 22 22 rfl 5 i0 1 w.heap.size w1.heap.size Try.underlying22 hi0 hz1 _ _ n (n + 6) n c n (n + 6) _ _ rfl rfl hown 0 (l.map (.int .u8)) (by rw [hlen]; simp) ?_ (by omega) (ints_one _ _) ?_))
    · intro hp
      obtain ⟨b, o, hA, _, _, hcell⟩ := hr1.2 (by omega)
      exact ⟨_, rfl, rfl, b, o, hA, hcell⟩
    · intro w2 hown2 hch2
      rw [splice_all (by rw [List.length_take, zeros_len]; omega)] at hown2
      have hb2 : Below w.heap.size w w2 := below_then hb1 (hch2.below (Nat.le_refl _) hb1.size) (Nat.le_refl _)
      clear hown
      go_wp2_with (go_at_call 58; refine (unhide HI _).mono ?_; rintro e w' ⟨rfl, rfl⟩)
      go_ret
      rw [HA.out, hll]
      exact Mk.of_own hown2 hb2 hch2.size
  · rw [hv] at HI
    have HA := hide (apU_yes (l := l) hv)
    have hvb := inR_true hv
    clear hv
    go_enter Try.func66, Try.ntmps66
    go_wp2_with (first
      | (at_make; refine wpList_make_cap _ rfl _ _ 22 rfl 5 i0 (.int .u8 0) 1 Try.underlying22 hi0 hz0 hz1 _ _ _ _ n (n + 6) rfl rfl rfl (by omega) (by omega) (by rw [hz2]; omega) (by unfold maxLen; omega) ?_; intro w1 hown hb1; have hr1 := hr.below' hb1)
      | (refine wpList_cpy (o := ⟨some 14, _, _, _, _, _⟩) _ rfl (.tmp 12) (.tmp 13) 22 22 rfl 5 i0 1 w.heap.size w1.heap.size Try.underlying22 hi0 hz1 _ _ n (n + 6) n c n (n + 6) _ _ rfl rfl hown 0 (l.map (.int .u8)) (by rw [hlen]; simp) ?_ (by omega) (ints_one _ _) ?_))
    · intro hp
      obtain ⟨b, o, hA, _, _, hcell⟩ := hr1.2 (by omega)
      exact ⟨_, rfl, rfl, b, o, hA, hcell⟩
    · intro w2 hown2 hch2
      rw [splice_all (by rw [List.length_take, zeros_len]; omega)] at hown2
      have hb2 : Below w.heap.size w w2 := below_then hb1 (hch2.below (Nat.le_refl _) hb1.size) (Nat.le_refl _)
      have hown3 := hown2.more (Nat.le_refl _) hch2.size
      clear hown hown2 hch2
      go_wp2_with (go_at_call 58; refine (unhide HI _).mono ?_; rintro e w' ⟨rfl, rfl⟩)
      go_loopw [1, 5] (fun q s wr => ∃ (f m : Nat) (x : Int) (A' : Option Addr) (c' : Nat) (acc : List Int), q = .int .i64 x ∧ s = .slice A' m c' ∧ 0 ≤ x ∧ x ≤ 1000000000000 ∧ Hid (x < 128 ^ (f + 1)) ∧ m ≤ n + 6 ∧ f ≤ 5 ∧ m + f ≤ n + 5 ∧ Hid (acc.length = m) ∧ Hid (l ++ uv v = acc ++ uvF f x) ∧ Own wr w.heap.size wr.heap.size 5 1 (.slice A' m c') m (acc.map (.int .u8)) ∧ Below w.heap.size w wr) (fun q _ _ => (intOf q).toNat)
      case atStart => exact ⟨5, n, v, _, _, l, rfl, rfl, hvb.1, hvb.2, hide (by have := hvb.2; omega), by omega, by omega, by omega, hide hll, hide rfl, hown3, hb2⟩
      case round =>
        obtain ⟨f, m, x, A', c', acc, rfl, rfl, hx0, hx1, HX, hm6, hf5, hmf, HL, HF, hown, hb⟩ := hrel
        have hfr : ∀ y : Int, Rd (wr.alloc (.cells #[.int .u8 y] 5)) wr.heap.size (wr.heap.size + 1) 1 (some ⟨wr.heap.size, 0, none⟩) 1 [.int .u8 y] := fun y => by simpa using Rd.fresh wr #[.int .u8 y] 5 1 1 rfl
        by_cases hbig : 128 ≤ x
        · rcases f with _ | f
          · have := HX.out; omega
          have HG := hide (uv_more HF.out hbig)
          have HW := hide (u8_fit (x := x % 128 + 128) (by omega) (by omega))
          have HP := hide (show x / 128 < 128 ^ (f + 1) by have := HX.out; rw [Int.pow_succ] at this; omega)
          go_wp2_with (at_builtin; refine wpList_app _ rfl (.tmp 21) (.tmp 26) 22 rfl 5 i0 (.int .u8 0) 1 1 w.heap.size wr.heap.size wr.heap.size (wr.heap.size + 1) Try.underlying22 hi0 hz0 hz1 hz2 rfl (by omega) _ m _ rfl (hown.alloc _) _ 1 1 _ rfl (hfr _) (by simp [Value.oneCell']) (by unfold maxLen; omega) (by omega) (by have := hb.size; simp; omega) (by simp) ?_; intro A4 c4 w4 hown4 hc4 hm4 hch4)
          have hb4 : Below w.heap.size w w4 := below_then hb ((((Chg.refl w.heap.size wr.heap.size wr).alloc _).trans hch4).below (Nat.le_refl _) hb.size) (Nat.le_refl _)
          rw [bytes_snoc] at hown4
          clear hown hch4 hb hfr
          go_roundw
          case rel => exact ⟨f, m + 1, x / 128, A4, c4, acc ++ [x % 128 + 128], rfl, rfl, by omega, by omega, HP, by omega, by omega, by omega, hide (by simp [HL.out]), HG, hown4, hb4⟩
          case measure => simp [intOf] <;> omega
        · have HG := hide (uv_last HF.out (by omega))
          have HW := hide (u8_fit (x := x) (by omega) (by omega))
          go_wp2_with (at_builtin; refine wpList_app _ rfl (.tmp 30) (.tmp 33) 22 rfl 5 i0 (.int .u8 0) 1 1 w.heap.size wr.heap.size wr.heap.size (wr.heap.size + 1) Try.underlying22 hi0 hz0 hz1 hz2 rfl (by omega) _ m _ rfl (hown.alloc _) _ 1 1 _ rfl (hfr _) (by simp [Value.oneCell']) (by unfold maxLen; omega) (by omega) (by have := hb.size; simp; omega) (by simp) ?_; intro A4 c4 w4 hown4 hc4 hm4 hch4)
          have hb4 : Below w.heap.size w w4 := below_then hb ((((Chg.refl w.heap.size wr.heap.size wr).alloc _).trans hch4).below (Nat.le_refl _) hb.size) (Nat.le_refl _)
          rw [bytes_snoc] at hown4
          have HE := hide (show (acc ++ [x]).length = m + 1 by simp [HL.out])
          clear hown hch4 hb hfr
          go_wp2_with fail
          go_ret
          rw [HA.out, HG.out, HE.out]
          exact Mk.of_own hown4 hb4 (Nat.le_refl _)
theorem and127 {x : Int} (h : 0 ≤ x) (h' : x ≤ 1000000000000) : bits .and .i64 x 127 = x % 128 := bits_mask .i64 63 (by decide) (fun n h0 h1 => by rw [IntKind.wrap_i64]; omega) 7 (by decide) x h (by omega)
theorem or128 {x : Int} (h : 0 ≤ x) (h' : x ≤ 127) : bits .or .i64 x 128 = x + 128 := by
  obtain ⟨a, rfl⟩ := Int.eq_ofNat_of_zero_le h
  have := (bits_nat .i64 63 (by decide) (fun n h0 h1 => by rw [IntKind.wrap_i64]; omega) a 128 (by omega) (by decide)).2
  rw [show ((128 : Nat) : Int) = 128 from rfl] at this
  rw [this, Nat.or_comm, show a + 128 = ((128 + a : Nat) : Int) by omega]
  congr 1
  have h2 : 128 ||| a = 128 + a := by
    have := Nat.two_pow_add_eq_or_of_lt (i := 7) (b := a) (by omega) 1
    simpa using this.symm
  exact h2
set_option maxRecDepth 100000 in
theorem sAppU_any (w : World) (A : Option Addr) (n c lo hi : Nat) (l : List Int) (v : Int) (hr : Rd w lo hi 1 A n (l.map (.int .u8))) (hn : n ≤ 8388608) :
    Calls Try.prog 63 #[.slice A n c, .int .i64 v] w (Mk w 5 1 (apU l v).length ((apU l v).map (.int .u8))) := by
  obtain ⟨i0, hi0, hz0, hz1, hz2⟩ := info_parts infoByteS
  have hlen := hr.len
  have hll : l.length = n := by simpa using hlen
  have HI := hide (fun W => l1In_any v 0 1000000000000 W)
  have hof : Own (w.alloc (.cells #[] 5)) w.heap.size (w.heap.size + 1) 5 1 (.slice (some ⟨w.heap.size, 0, none⟩) 0 0) 0 [] := by simpa using Own.fresh w #[] 5 1 0 rfl (by unfold maxLen; omega)
  cases hv : inR v 0 1000000000000
  · rw [hv] at HI
    have HA := hide (apU_no (l := l) hv)
    clear hv
    go_enter Try.func63, Try.ntmps63
    go_wp2_with (first
      | (at_builtin; refine wpList_app _ rfl (.tmp 6) (.tmp 7) 22 rfl 5 i0 (.int .u8 0) 1 1 w.heap.size (w.heap.size + 1) lo hi Try.underlying22 hi0 hz0 hz1 hz2 rfl (by omega) _ 0 [] rfl hof A n c _ rfl (hr.alloc _) (ints_one _ _) (by unfold maxLen; omega) (by omega) (by simp) (by simp) ?_; intro A2 c2 w2 hown2 hc2 hm2 hch2; have hb2 : Below w.heap.size w w2 := below_then ((Below.refl _ _).alloc (Nat.le_refl _) _) (hch2.below (B := w.heap.size) (Nat.le_refl _) (by simp)) (Nat.le_refl _))
      | (go_at_call 57; refine (unhide HI _).mono ?_; rintro e w' ⟨rfl, rfl⟩))
    go_ret
    rw [HA.out, hll]
    exact Mk.of_own (by simpa using hown2) hb2 (Nat.le_refl _)
  · rw [hv] at HI
    have HA := hide (apU_yes (l := l) hv)
    have hvb := inR_true hv
    clear hv
    go_enter Try.func63, Try.ntmps63
    go_wp2_with (first
      | (at_builtin; refine wpList_app _ rfl (.tmp 6) (.tmp 7) 22 rfl 5 i0 (.int .u8 0) 1 1 w.heap.size (w.heap.size + 1) lo hi Try.underlying22 hi0 hz0 hz1 hz2 rfl (by omega) _ 0 [] rfl hof A n c _ rfl (hr.alloc _) (ints_one _ _) (by unfold maxLen; omega) (by omega) (by simp) (by simp) ?_; intro A2 c2 w2 hown2 hc2 hm2 hch2; have hb2 : Below w.heap.size w w2 := below_then ((Below.refl _ _).alloc (Nat.le_refl _) _) (hch2.below (B := w.heap.size) (Nat.le_refl _) (by simp)) (Nat.le_refl _))
      | (go_at_call 57; refine (unhide HI _).mono ?_; rintro e w' ⟨rfl, rfl⟩))
    have hown3 : Own w2 w.heap.size w2.heap.size 5 1 (.slice A2 n c2) n (l.map (.int .u8)) := by simpa using hown2
    clear hown2 hch2
    go_loopw [1, 5] (fun q s wr => ∃ (f m : Nat) (x : Int) (A' : Option Addr) (c' : Nat) (acc : List Int), q = .int .i64 x ∧ s = .slice A' m c' ∧ 0 ≤ x ∧ x ≤ 1000000000000 ∧ Hid (x < 128 ^ (f + 1)) ∧ m ≤ n + 6 ∧ f ≤ 5 ∧ m + f ≤ n + 5 ∧ Hid (acc.length = m) ∧ Hid (l ++ uv v = acc ++ uvF f x) ∧ Own wr w.heap.size wr.heap.size 5 1 (.slice A' m c') m (acc.map (.int .u8)) ∧ Below w.heap.size w wr) (fun q _ _ => (intOf q).toNat)
    case atStart => exact ⟨5, n, v, _, _, l, rfl, by simp, hvb.1, hvb.2, hide (by have := hvb.2; omega), by omega, by omega, by omega, hide hll, hide rfl, hown3, hb2⟩
    case round =>
      obtain ⟨f, m, x, A', c', acc, rfl, rfl, hx0, hx1, HX, hm6, hf5, hmf, HL, HF, hown, hb⟩ := hrel
      have hfr : ∀ y : Int, Rd (wr.alloc (.cells #[.int .u8 y] 5)) wr.heap.size (wr.heap.size + 1) 1 (some ⟨wr.heap.size, 0, none⟩) 1 [.int .u8 y] := fun y => by simpa using Rd.fresh wr #[.int .u8 y] 5 1 1 rfl
      by_cases hbig : 128 ≤ x
      · rcases f with _ | f
        · have := HX.out; omega
        have HG := hide (uv_more HF.out hbig)
        have HW := hide (u8_fit (x := x % 128 + 128) (by omega) (by omega))
        have HP := hide (show x / 128 < 128 ^ (f + 1) by have := HX.out; rw [Int.pow_succ] at this; omega)
        have hand := and127 hx0 hx1
        have hor := or128 (x := x % 128) (by omega) (by omega)
        have hb127 : (127 : Int) < x := by omega
        go_wp2_with (at_builtin; refine wpList_app _ rfl (.tmp 15) (.tmp 20) 22 rfl 5 i0 (.int .u8 0) 1 1 w.heap.size wr.heap.size wr.heap.size (wr.heap.size + 1) Try.underlying22 hi0 hz0 hz1 hz2 rfl (by omega) _ m _ rfl (hown.alloc _) _ 1 1 _ rfl (hfr _) (by simp [Value.oneCell']) (by unfold maxLen; omega) (by omega) (by have := hb.size; simp; omega) (by simp) ?_; intro A4 c4 w4 hown4 hc4 hm4 hch4)
        have hb4 : Below w.heap.size w w4 := below_then hb ((((Chg.refl w.heap.size wr.heap.size wr).alloc _).trans hch4).below (Nat.le_refl _) hb.size) (Nat.le_refl _)
        rw [bytes_snoc] at hown4
        clear hown hch4 hb hfr
        go_roundw
        case rel => exact ⟨f, m + 1, x / 128, A4, c4, acc ++ [x % 128 + 128], rfl, rfl, by omega, by omega, HP, by omega, by omega, by omega, hide (by simp [HL.out]), HG, hown4, hb4⟩
        case measure => simp [intOf] <;> omega
      · have HG := hide (uv_last HF.out (by omega))
        have HW := hide (u8_fit (x := x) (by omega) (by omega))
        have hb127 : ¬ (127 : Int) < x := by omega
        go_wp2_with (at_builtin; refine wpList_app _ rfl (.tmp 24) (.tmp 27) 22 rfl 5 i0 (.int .u8 0) 1 1 w.heap.size wr.heap.size wr.heap.size (wr.heap.size + 1) Try.underlying22 hi0 hz0 hz1 hz2 rfl (by omega) _ m _ rfl (hown.alloc _) _ 1 1 _ rfl (hfr _) (by simp [Value.oneCell']) (by unfold maxLen; omega) (by omega) (by have := hb.size; simp; omega) (by simp) ?_; intro A4 c4 w4 hown4 hc4 hm4 hch4)
        have hb4 : Below w.heap.size w w4 := below_then hb ((((Chg.refl w.heap.size wr.heap.size wr).alloc _).trans hch4).below (Nat.le_refl _) hb.size) (Nat.le_refl _)
        rw [bytes_snoc] at hown4
        have HE := hide (show (acc ++ [x]).length = m + 1 by simp [HL.out])
        clear hown hch4 hb hfr
        go_wp2_with fail
        go_ret
        rw [HA.out, HG.out, HE.out]
        exact Mk.of_own hown4 hb4 (Nat.le_refl _)
/-- A list of bytes written with its length ahead. -/
def apB (l s : List Int) : List Int := apU l s.length ++ s
theorem iAppB_any (w : World) (A : Option Addr) (n c lo hi : Nat) (l : List Int) (B : Option Addr) (m d lo' hi' : Nat) (s : List Int) (hr : Rd w lo hi 1 A n (l.map (.int .u8))) (hr' : Rd w lo' hi' 1 B m (s.map (.int .u8))) (hn : n ≤ 8388608) (hm : m ≤ 8388608) :
    Calls Try.prog 65 #[.slice A n c, .slice B m d] w (Mk w 5 1 (apB l s).length ((apB l s).map (.int .u8))) := by
  obtain ⟨i0, hi0, hz0, hz1, hz2⟩ := info_parts infoByteS
  have hll : l.length = n := by simpa using hr.len
  have hsl : s.length = m := by simpa using hr'.len
  have HU := hide (fun W h => iAppU_any W A n c lo hi l (m : Int) h hn)
  have HB := hide (show apB l s = apU l (m : Int) ++ s by rw [apB, hsl])
  have hlu := apU_len l (m : Int)
  generalize apU l (m : Int) = u at HU HB hlu
  go_enter Try.func65, Try.ntmps65
  go_wp2_with (first
    | (go_at_call 66; refine (unhide HU _ hr).mono ?_; rintro e w1 ⟨A1, c1, rfl, hc1, hm1, ho1, hb1⟩; have hr1 := hr'.below' hb1)
    | (at_builtin; refine wpList_app _ rfl (.tmp 10) (.tmp 11) 22 rfl 5 i0 (.int .u8 0) 1 1 w.heap.size w1.heap.size lo' hi' Try.underlying22 hi0 hz0 hz1 hz2 rfl (by omega) _ u.length _ rfl ho1 B m d _ rfl hr1 (ints_one _ _) (by unfold maxLen; omega) (by omega) hb1.size (Nat.le_refl _) ?_; intro A2 c2 w2 hown2 hc2 hm2 hch2))
  have hb2 : Below w.heap.size w w2 := below_then hb1 (hch2.below (B := w.heap.size) (Nat.le_refl _) hb1.size) (Nat.le_refl _)
  clear hch2 ho1 hb1 hr1
  go_ret
  rw [HB.out, show (u ++ s).length = u.length + m by rw [List.length_append, hsl], List.map_append]
  exact Mk.of_own hown2 hb2 (Nat.le_refl _)
theorem sAppB_any (w : World) (A : Option Addr) (n c lo hi : Nat) (l : List Int) (B : Option Addr) (m d lo' hi' : Nat) (s : List Int) (hr : Rd w lo hi 1 A n (l.map (.int .u8))) (hr' : Rd w lo' hi' 1 B m (s.map (.int .u8))) (hn : n ≤ 8388608) (hm : m ≤ 8388608) :
    Calls Try.prog 61 #[.slice A n c, .slice B m d] w (Mk w 5 1 (apB l s).length ((apB l s).map (.int .u8))) := by
  obtain ⟨i0, hi0, hz0, hz1, hz2⟩ := info_parts infoByteS
  have hll : l.length = n := by simpa using hr.len
  have hsl : s.length = m := by simpa using hr'.len
  have HU := hide (fun W h => sAppU_any W A n c lo hi l (m : Int) h hn)
  have HB := hide (show apB l s = apU l (m : Int) ++ s by rw [apB, hsl])
  have hlu := apU_len l (m : Int)
  generalize apU l (m : Int) = u at HU HB hlu
  go_enter Try.func61, Try.ntmps61
  go_wp2_with (first
    | (go_at_call 63; refine (unhide HU _ hr).mono ?_; rintro e w1 ⟨A1, c1, rfl, hc1, hm1, ho1, hb1⟩; have hr1 := hr'.below' hb1)
    | (at_builtin; refine wpList_app _ rfl (.tmp 8) (.tmp 9) 22 rfl 5 i0 (.int .u8 0) 1 1 w.heap.size w1.heap.size lo' hi' Try.underlying22 hi0 hz0 hz1 hz2 rfl (by omega) _ u.length _ rfl ho1 B m d _ rfl hr1 (ints_one _ _) (by unfold maxLen; omega) (by omega) hb1.size (Nat.le_refl _) ?_; intro A2 c2 w2 hown2 hc2 hm2 hch2))
  have hb2 : Below w.heap.size w w2 := below_then hb1 (hch2.below (B := w.heap.size) (Nat.le_refl _) hb1.size) (Nat.le_refl _)
  clear hch2 ho1 hb1 hr1
  go_ret
  rw [HB.out, show (u ++ s).length = u.length + m by rw [List.length_append, hsl], List.map_append]
  exact Mk.of_own hown2 hb2 (Nat.le_refl _)
end Go.Proofs.Ytidfpmkhgogilaa
