/- Bytes as integers, encryption and decryption, copies of bytes. -/
import Derived.Test.YtbfmdnlfbadokaaHash
import Derived.Test.YtbfmdnlfbadokaaCpy
import Derived.Deep.RegionHeld3
import Derived.Deep.RegionLaw
namespace Go.Proofs.Ytbfmdnlfbadokaa
open Go.RowKit Go.Sep

/-- The bytes of l as integers, their number ahead of them. -/
def b2i (l : List Int) : List Int := (l.length : Int) :: l
theorem b2i_snoc {l : List Int} {k : Nat} {z : Int} (h : l[k]? = some z) (n : Int) : ((n :: l.take k).map (Value.int .i64)) ++ #[Value.int .i64 z].toList = (n :: l.take (k + 1)).map (.int .i64) := by
  obtain ⟨hk, hz⟩ := List.getElem?_eq_some_iff.1 h
  rw [List.take_succ_eq_append_getElem hk, hz]
  simp
theorem iB2I_any (w : World) (A : Option Addr) (n c lo hi : Nat) (l : List Int) (hr : Rd w lo hi 1 A n (l.map (.int .u8))) (hn : n ≤ 8388608) (h8 : B8 l) :
    Calls Try.prog 99 #[.slice A n c] w (Mk w 3 1 (n + 1) ((b2i l).map (.int .i64))) := by
  obtain ⟨i0, hi0, hz0, hz1, hz2⟩ := info_parts infoI
  have hlen : l.length = n := by simpa using hr.len
  go_enter Try.func99, Try.ntmps99
  go_wp2_with (first
    | (at_make; refine wpList_make_own _ rfl _ _ 40 rfl w.heap.size 3 i0 (.int .i64 0) 1 Try.underlying40 hi0 hz0 hz1 _ _ _ (n + 1) rfl rfl (by omega) (by rw [hz2]; omega) (by unfold maxLen; omega) (Nat.le_refl _) ?_; intro w1 hown1 hgrow1; have hown2 := Own.of_row hown1; have hb1 : Below w.heap.size w w1 := (Below.refl _ _).grown hgrow1 (Nat.le_refl _) (by simp); clear hown1 hgrow1)
    | (at_builtin; refine wpList_app _ rfl (.tmp 10) (.tmp 13) 40 rfl 3 i0 (.int .i64 0) 1 8 w.heap.size w1.heap.size w1.heap.size (w1.heap.size + 1) Try.underlying40 hi0 hz0 hz1 hz2 rfl (by omega) _ 0 [] rfl (hown2.alloc _) _ 1 1 _ rfl (Rd.fresh w1 #[.int .i64 n] 3 1 1 rfl) (by simp [Value.oneCell']) (by unfold maxLen; omega) (by omega) (by have := hb1.size; simp; omega) (by simp) ?_; intro A3 c3 w3 hown3 hc3 hm3 hch3))
  have hb3 : Below w.heap.size w w3 := below_then hb1 ((((Chg.refl w.heap.size w1.heap.size w1).alloc (.cells #[.int .i64 n] 3)).trans hch3).below (Nat.le_refl _) hb1.size) (Nat.le_refl _)
  have hown : Own w3 w.heap.size w3.heap.size 3 1 (.slice A3 1 c3) 1 (((n : Int) :: l.take 0).map (.int .i64)) := by simpa using hown3
  clear hown2 hown3 hch3 hb1
  go_loopw [3, 17] (fun q i wr => ∃ (k : Nat) (A' : Option Addr) (c' : Nat), k ≤ n ∧ i = .int .i64 k ∧ q = .slice A' (k + 1) c' ∧ Own wr w.heap.size wr.heap.size 3 1 (.slice A' (k + 1) c') (k + 1) (((n : Int) :: l.take k).map (.int .i64)) ∧ Below w.heap.size w wr) (fun _ i _ => n - (intOf i).toNat)
  case atStart => exact ⟨0, A3, c3, Nat.zero_le _, rfl, rfl, hown, hb3⟩
  case round =>
    obtain ⟨k, A', c', hk, rfl, rfl, hown, hb⟩ := hrel
    by_cases hlt : k < n
    · obtain ⟨b, o, rfl, _, _, hcell⟩ := (hr.below' hb).at_ (j := k) (by omega)
      have hkl : k < l.length := by omega
      have hx := hcell k (.int .u8 l[k]) (by simp [hkl])
      have HF := hide (b2i_snoc (List.getElem?_eq_getElem hkl) (n : Int))
      obtain ⟨hz0', hz1'⟩ := h8.at_ k hkl
      generalize l[k] = z at hx HF hz0' hz1'
      clear hcell hkl hr
      go_wp2_with (at_builtin; refine wpList_app _ rfl (.tmp 21) (.tmp 24) 40 rfl 3 i0 (.int .i64 0) 1 8 w.heap.size wr.heap.size wr.heap.size (wr.heap.size + 1) Try.underlying40 hi0 hz0 hz1 hz2 rfl (by omega) _ (k + 1) _ rfl (hown.alloc _) _ 1 1 _ rfl (Rd.fresh wr #[.int .i64 z] 3 1 1 rfl) (by simp [Value.oneCell']) (by unfold maxLen; omega) (by omega) (by have := hb.size; simp; omega) (by simp) ?_; intro A4 c4 w4 hown4 hc4 hm4 hch4)
      have hb4 : Below w.heap.size w w4 := below_then hb ((((Chg.refl w.heap.size wr.heap.size wr).alloc (.cells #[.int .i64 z] 3)).trans hch4).below (Nat.le_refl _) hb.size) (Nat.le_refl _)
      rw [HF.out] at hown4
      clear hown hch4 hb
      go_wp2_with fail
      go_roundw
      case rel => exact ⟨k + 1, _, _, by omega, by go_num, rfl, hown4, hb4⟩
      case measure => simp [intOf] <;> omega
    · have HL := hide (show l.take k = l from List.take_of_length_le (by omega))
      obtain rfl : k = n := by omega
      rw [HL.out] at hown
      go_wp2_with fail
      go_ret
      refine Mk.of_own ?_ hb (Nat.le_refl _)
      rw [show b2i l = (k : Int) :: l by rw [b2i, hlen]]
      exact hown
theorem sB2I_any (w : World) (A : Option Addr) (n c lo hi : Nat) (l : List Int) (hr : Rd w lo hi 1 A n (l.map (.int .u8))) (hn : n ≤ 8388608) (h8 : B8 l) :
    Calls Try.prog 98 #[.slice A n c] w (Mk w 3 1 (n + 1) ((b2i l).map (.int .i64))) := by
  obtain ⟨i0, hi0, hz0, hz1, hz2⟩ := info_parts infoI
  have hlen : l.length = n := by simpa using hr.len
  go_enter Try.func98, Try.ntmps98
  go_wp2_with fail
  have hown : Own (w.alloc (.cells #[.int .i64 n] 3)) w.heap.size (w.alloc (.cells #[.int .i64 n] 3)).heap.size 3 1 (.slice (some ⟨w.heap.size, 0, none⟩) 1 1) 1 (((n : Int) :: l.take 0).map (.int .i64)) := by
    have := Own.fresh w #[.int .i64 n] 3 1 1 rfl (by unfold maxLen; omega)
    simpa using this
  go_loopw [3, 4] (fun q i wr => ∃ (k : Nat) (A' : Option Addr) (c' : Nat), k ≤ n ∧ i = .int .i64 k ∧ q = .slice A' (k + 1) c' ∧ Own wr w.heap.size wr.heap.size 3 1 (.slice A' (k + 1) c') (k + 1) (((n : Int) :: l.take k).map (.int .i64)) ∧ Below w.heap.size w wr) (fun _ i _ => n - (intOf i).toNat)
  case atStart => exact ⟨0, _, 1, Nat.zero_le _, rfl, rfl, hown, (by (repeat' (first | (with_reducible exact Below.refl _ _) | (with_reducible assumption) | (with_reducible refine Below.alloc ?_ ?_ _) | (with_reducible refine below_ext ?_ ?_ _ _) | (with_reducible refine Below.setCell ?_ ?_ _) | (with_reducible refine Below.drew ?_) | (with_reducible refine below_drewN ?_ _))); all_goals (first | omega | (simp; done) | (simp; omega)))⟩
  case round =>
    obtain ⟨k, A', c', hk, rfl, rfl, hown, hb⟩ := hrel
    by_cases hlt : k < n
    · obtain ⟨b, o, rfl, _, _, hcell⟩ := (hr.below' hb).at_ (j := k) (by omega)
      have hkl : k < l.length := by omega
      have hx := hcell k (.int .u8 l[k]) (by simp [hkl])
      have HF := hide (b2i_snoc (List.getElem?_eq_getElem hkl) (n : Int))
      obtain ⟨hz0', hz1'⟩ := h8.at_ k hkl
      generalize l[k] = z at hx HF hz0' hz1'
      clear hcell hkl hr
      go_wp2_with (at_builtin; refine wpList_app _ rfl (.tmp 14) (.tmp 20) 40 rfl 3 i0 (.int .i64 0) 1 8 w.heap.size wr.heap.size wr.heap.size (wr.heap.size + 1) Try.underlying40 hi0 hz0 hz1 hz2 rfl (by omega) _ (k + 1) _ rfl (hown.alloc _) _ 1 1 _ rfl (Rd.fresh wr #[.int .i64 z] 3 1 1 rfl) (by simp [Value.oneCell']) (by unfold maxLen; omega) (by omega) (by have := hb.size; simp; omega) (by simp) ?_; intro A4 c4 w4 hown4 hc4 hm4 hch4)
      have hb4 : Below w.heap.size w w4 := below_then hb ((((Chg.refl w.heap.size wr.heap.size wr).alloc (.cells #[.int .i64 z] 3)).trans hch4).below (Nat.le_refl _) hb.size) (Nat.le_refl _)
      rw [HF.out] at hown4
      clear hown hch4 hb
      go_wp2_with fail
      go_roundw
      case rel => exact ⟨k + 1, _, _, by omega, by go_num, rfl, hown4, hb4⟩
      case measure => simp [intOf] <;> omega
    · have HL := hide (show l.take k = l from List.take_of_length_le (by omega))
      obtain rfl : k = n := by omega
      rw [HL.out] at hown
      go_wp2_with fail
      go_ret
      refine Mk.of_own ?_ hb (Nat.le_refl _)
      rw [show b2i l = (k : Int) :: l by rw [b2i, hlen]]
      exact hown
/-! ### encryption -/
/-- The i-th key byte. -/
def kb (key : Int) (i : Nat) : Int := kh key [(i : Int)] % 256
theorem kb_bd (key : Int) (i : Nat) : 0 ≤ kb key i ∧ kb key i ≤ 255 := by unfold kb; omega
def encL (key : Int) (l : List Int) : List Int := l.mapIdx fun i x => (x + kb key i) % 256
def decL (key : Int) (l : List Int) : List Int := l.mapIdx fun i x => (x - kb key i) % 256
theorem encL_len (key : Int) (l : List Int) : (encL key l).length = l.length := by simp [encL]
theorem decL_len (key : Int) (l : List Int) : (decL key l).length = l.length := by simp [decL]
theorem encL_at (key : Int) (l : List Int) (k : Nat) (h : k < l.length) : (encL key l)[k]? = some ((l[k] + kb key k) % 256) := by simp [encL, h]
theorem decL_at (key : Int) (l : List Int) (k : Nat) (h : k < l.length) : (decL key l)[k]? = some ((l[k] - kb key k) % 256) := by simp [decL, h]
theorem encL_B8 (key : Int) (l : List Int) : B8 (encL key l) := by
  intro x hx
  obtain ⟨i, hi, rfl⟩ := List.getElem_of_mem hx
  have := encL_at key l i (by simpa [encL_len] using hi)
  rw [List.getElem?_eq_getElem hi] at this
  injection this with this
  rw [this]
  omega
theorem decL_B8 (key : Int) (l : List Int) : B8 (decL key l) := by
  intro x hx
  obtain ⟨i, hi, rfl⟩ := List.getElem_of_mem hx
  have := decL_at key l i (by simpa [decL_len] using hi)
  rw [List.getElem?_eq_getElem hi] at this
  injection this with this
  rw [this]
  omega
theorem decL_encL (key : Int) (l : List Int) (h : B8 l) : decL key (encL key l) = l := by
  apply List.ext_getElem?
  intro k
  by_cases hk : k < l.length
  · have hk2 : k < (encL key l).length := by rw [encL_len]; exact hk
    rw [decL_at key _ k hk2]
    have h1 := encL_at key l k hk
    rw [List.getElem?_eq_getElem hk2] at h1
    injection h1 with h1
    rw [h1, List.getElem?_eq_getElem hk]
    have := h.at_ k hk
    have := kb_bd key k
    congr 1
    omega
  · rw [List.getElem?_eq_none (by rw [decL_len, encL_len]; omega), List.getElem?_eq_none (by omega)]
theorem u8_wrap (x : Int) : IntKind.u8.wrap x = x % 256 := by
  show (IntKind.u8.wrap x) = _
  rw [IntKind.wrap_u8]

/-- One more cell of a row that is turned in place. -/
theorem turnStep {w wr : World} {e : TypeId} {g n c : Nat} {k : Nat} {hi : Nat} {ys xs : List Value} {u : Value} (hlen : ys.length = n * 1) (hx : xs.length = n * 1) (hlt : k < n) (hu : ys[k]? = some u)
    (h : Own wr w.heap.size hi e 1 (.slice (some ⟨g, 0, none⟩) n c) n (mixed ys xs k)) (hb : Below w.heap.size w wr) :
    Own (wr.setCell ⟨g, k, none⟩ u) w.heap.size hi e 1 (.slice (some ⟨g, 0, none⟩) n c) n (mixed ys xs (k + 1)) ∧ Below w.heap.size w (wr.setCell ⟨g, k, none⟩ u) := by
  obtain ⟨h1, h2⟩ := h.stored k u
  rw [mixed_set (by omega) hu] at h1
  have := h.row.lt g (by simp [Value.ownBlock])
  exact ⟨h1, below_then hb (h2.below (Nat.le_refl _) hb.size) (Nat.le_refl _)⟩
theorem iEncrypt_any (w : World) (key : Int) (A : Option Addr) (n c lo hi : Nat) (l : List Int) (hr : Rd w lo hi 1 A n (l.map (.int .u8))) (hn : n ≤ 16777216) (h8 : B8 l) :
    Calls Try.prog 85 #[.int .i64 key, .slice A n c] w (Mk w 5 1 n ((encL key l).map (.int .u8))) := by
  have hlen : l.length = n := by simpa using hr.len
  have hll : ((encL key l).map (Value.int .u8)).length = n * 1 := by simp [encL_len, hlen]
  have hxl : (l.map (Value.int .u8)).length = n * 1 := by simp [hlen]
  go_enter Try.func85, Try.ntmps85
  go_wp2_with (go_at_call 100; refine (iCopyB_any _ _ _ _ _ _ l hr hn).mono ?_; rintro e w1 ⟨A1, c1, rfl, hc1, hm1, ho1, hb1⟩)
  go_loopw [11] (fun i wr => ∃ k : Nat, k ≤ n ∧ i = .int .i64 k ∧ Own wr w.heap.size w1.heap.size 5 1 (.slice A1 n c1) n (mixed ((encL key l).map (.int .u8)) (l.map (.int .u8)) k) ∧ Below w.heap.size w wr ∧ w1.heap.size ≤ wr.heap.size) (fun i _ => n - (intOf i).toNat)
  case atStart => exact ⟨0, Nat.zero_le _, rfl, by rw [mixed_zero]; exact ho1, hb1, Nat.le_refl _⟩
  case round =>
    obtain ⟨k, hk, rfl, hown, hb, hsz⟩ := hrel
    by_cases hlt : k < n
    · obtain ⟨g, rfl, hg1, hg2, hg3, _, _⟩ := own_open hown (by omega)
      have hkl : k < l.length := by omega
      have hu : ((encL key l).map (Value.int .u8))[k]? = some (.int .u8 ((l[k] + kb key k) % 256)) := by rw [List.getElem?_map, encL_at key l k hkl]; rfl
      have hcur : wr.cell? ⟨g, k, none⟩ = some (.int .u8 l[k]) := by
        rw [hown.row.cellAt k (by omega)]
        have hml : (((encL key l).map (Value.int .u8)).take k).length = k := by simp [encL_len]; omega
        rw [mixed, List.getElem?_append_right (by omega), hml, Nat.sub_self, List.getElem?_drop]
        simp [hkl]
      have hfr := hown.row.frozenAt k
      have HT := hide (fun W (h1 : Own W w.heap.size w1.heap.size 5 1 (.slice (some ⟨g, 0, none⟩) n c1) n (mixed ((encL key l).map (.int .u8)) (l.map (.int .u8)) k)) (h2 : Below w.heap.size w W) => turnStep (w := w) hll hxl hlt hu h1 h2)
      have HO := hide hown
      have hbd := h8.at_ k hkl
      have HK := hide (fun W (h1 : Rd W wr.heap.size (wr.heap.size + 1) 1 (some ⟨wr.heap.size, 0, none⟩) 1 ([(k : Int)].map (.int .i64))) => iKH_any W key _ 1 1 _ _ [(k : Int)] h1 (by omega))
      have hkb := kh_bd key [(k : Int)]
      have hkd : kb key k = kh key [(k : Int)] % 256 := rfl
      rw [hkd] at HT
      clear hkd hu
      generalize l[k] = z at hcur HT hbd
      generalize kh key [(k : Int)] = h at HT HK hkb
      obtain ⟨hz0, hz1⟩ := hbd
      obtain ⟨hh0, hh1⟩ := hkb
      have hm0 : 0 ≤ h % 256 := by omega
      have hm1' : h % 256 ≤ 255 := by omega
      clear hown hkl
      have e0 : h.tmod 256 = h % 256 := Int.tmod_eq_emod_of_nonneg hh0
      generalize h % 256 = q at HT e0 hm0 hm1'
      have e1 : IntKind.u8.wrap q = q := by rw [u8_wrap]; omega
      have e2 := u8_wrap (z + q)
      have hlt' : (k : Int) < (n : Int) := by omega
      go_wp2_with fail
      go_region_law (first | (go_simp; go_at_call 80; refine (unhide HK _ (Rd.fresh wr #[.int .i64 k] 3 1 1 rfl).drew).mono ?_; rintro e w' ⟨rfl, rfl⟩))
      all_goals
        have HR := hide (HT.out wr HO.out hb)
        clear e0 e1 e2 HT HO HK
        go_wp2_with fail
        go_roundw
        case rel => exact ⟨k + 1, by omega, by go_num, (HR.out.1.alloc _).drew, ((HR.out.2.alloc (by simp; omega) _).drew), by simp; omega⟩
        case measure => simp [intOf] <;> omega
    · have HL := hide hown
      obtain rfl : k = n := by omega
      go_wp2_with fail
      go_ret
      have ho := HL.out
      rw [mixed_all (by omega) (by omega)] at ho
      exact Mk.of_own ho hb hsz
theorem iDecrypt_any (w : World) (key : Int) (A : Option Addr) (n c lo hi : Nat) (l : List Int) (hr : Rd w lo hi 1 A n (l.map (.int .u8))) (hn : n ≤ 16777216) (h8 : B8 l) :
    Calls Try.prog 102 #[.int .i64 key, .slice A n c] w (Mk w 5 1 n ((decL key l).map (.int .u8))) := by
  have hlen : l.length = n := by simpa using hr.len
  have hll : ((decL key l).map (Value.int .u8)).length = n * 1 := by simp [decL_len, hlen]
  have hxl : (l.map (Value.int .u8)).length = n * 1 := by simp [hlen]
  go_enter Try.func102, Try.ntmps102
  go_wp2_with (go_at_call 100; refine (iCopyB_any _ _ _ _ _ _ l hr hn).mono ?_; rintro e w1 ⟨A1, c1, rfl, hc1, hm1, ho1, hb1⟩)
  go_loopw [11] (fun i wr => ∃ k : Nat, k ≤ n ∧ i = .int .i64 k ∧ Own wr w.heap.size w1.heap.size 5 1 (.slice A1 n c1) n (mixed ((decL key l).map (.int .u8)) (l.map (.int .u8)) k) ∧ Below w.heap.size w wr ∧ w1.heap.size ≤ wr.heap.size) (fun i _ => n - (intOf i).toNat)
  case atStart => exact ⟨0, Nat.zero_le _, rfl, by rw [mixed_zero]; exact ho1, hb1, Nat.le_refl _⟩
  case round =>
    obtain ⟨k, hk, rfl, hown, hb, hsz⟩ := hrel
    by_cases hlt : k < n
    · obtain ⟨g, rfl, hg1, hg2, hg3, _, _⟩ := own_open hown (by omega)
      have hkl : k < l.length := by omega
      have hu : ((decL key l).map (Value.int .u8))[k]? = some (.int .u8 ((l[k] - kb key k) % 256)) := by rw [List.getElem?_map, decL_at key l k hkl]; rfl
      have hcur : wr.cell? ⟨g, k, none⟩ = some (.int .u8 l[k]) := by
        rw [hown.row.cellAt k (by omega)]
        have hml : (((decL key l).map (Value.int .u8)).take k).length = k := by simp [decL_len]; omega
        rw [mixed, List.getElem?_append_right (by omega), hml, Nat.sub_self, List.getElem?_drop]
        simp [hkl]
      have hfr := hown.row.frozenAt k
      have HT := hide (fun W (h1 : Own W w.heap.size w1.heap.size 5 1 (.slice (some ⟨g, 0, none⟩) n c1) n (mixed ((decL key l).map (.int .u8)) (l.map (.int .u8)) k)) (h2 : Below w.heap.size w W) => turnStep (w := w) hll hxl hlt hu h1 h2)
      have HO := hide hown
      have hbd := h8.at_ k hkl
      have HK := hide (fun W (h1 : Rd W wr.heap.size (wr.heap.size + 1) 1 (some ⟨wr.heap.size, 0, none⟩) 1 ([(k : Int)].map (.int .i64))) => iKH_any W key _ 1 1 _ _ [(k : Int)] h1 (by omega))
      have hkb := kh_bd key [(k : Int)]
      have hkd : kb key k = kh key [(k : Int)] % 256 := rfl
      rw [hkd] at HT
      clear hkd hu
      generalize l[k] = z at hcur HT hbd
      generalize kh key [(k : Int)] = h at HT HK hkb
      obtain ⟨hz0, hz1⟩ := hbd
      obtain ⟨hh0, hh1⟩ := hkb
      have hm0 : 0 ≤ h % 256 := by omega
      have hm1' : h % 256 ≤ 255 := by omega
      clear hown hkl
      have e0 : h.tmod 256 = h % 256 := Int.tmod_eq_emod_of_nonneg hh0
      generalize h % 256 = q at HT e0 hm0 hm1'
      have e1 : IntKind.u8.wrap q = q := by rw [u8_wrap]; omega
      have e2 := u8_wrap (z - q)
      have hlt' : (k : Int) < (n : Int) := by omega
      go_wp2_with fail
      go_region_law (first | (go_simp; go_at_call 80; refine (unhide HK _ (Rd.fresh wr #[.int .i64 k] 3 1 1 rfl).drew).mono ?_; rintro e w' ⟨rfl, rfl⟩))
      all_goals
        have HR := hide (HT.out wr HO.out hb)
        clear e0 e1 e2 HT HO HK
        go_wp2_with fail
        go_roundw
        case rel => exact ⟨k + 1, by omega, by go_num, (HR.out.1.alloc _).drew, ((HR.out.2.alloc (by simp; omega) _).drew), by simp; omega⟩
        case measure => simp [intOf] <;> omega
    · have HL := hide hown
      obtain rfl : k = n := by omega
      go_wp2_with fail
      go_ret
      have ho := HL.out
      rw [mixed_all (by omega) (by omega)] at ho
      exact Mk.of_own ho hb hsz
end Go.Proofs.Ytbfmdnlfbadokaa
