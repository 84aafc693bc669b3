/- Bytes as integers, encryption and decryption, copies of bytes. -/
import Derived.Test.YtidfpmkhgogilaaHash
import Derived.Test.YtidfpmkhgogilaaCpy
import Derived.Deep.RegionHeld3
import Derived.Deep.RegionLaw
namespace Go.Proofs.Ytidfpmkhgogilaa
open Go.RowKit Go.Sep

/-- The bytes of l as integers, their number ahead of them. -/
def b2i (l : List Int) : List Int := (l.length : Int) :: l
theorem b2i_snoc {l : List Int} {k : Nat} {z : Int} (h : l[k]? = some z) (n : Int) : ((n :: l.take k).map (Value.int .i64)) ++ #[Value.int .i64 z].toList = (n :: l.take (k + 1)).map (.int .i64) := by
  obtain ⟨hk, hz⟩ := List.getElem?_eq_some_iff.1 h
  rw [List.take_succ_eq_append_getElem hk, hz]
  simp
theorem sB2I_any (w : World) (A : Option Addr) (n c lo hi : Nat) (l : List Int) (hr : Rd w lo hi 1 A n (l.map (.int .u8))) (hn : n ≤ 8388608) (h8 : B8 l) :
    Calls Try.prog 95 #[.slice A n c] w (Mk w 3 1 (n + 1) ((b2i l).map (.int .i64))) := by
  obtain ⟨i0, hi0, hz0, hz1, hz2⟩ := info_parts infoI
  have hlen : l.length = n := by simpa using hr.len
  go_enter Try.func95, Try.ntmps95
  go_wp2_with fail
  have hown : Own (w.alloc (.cells #[.int .i64 n] 3)) w.heap.size (w.alloc (.cells #[.int .i64 n] 3)).heap.size 3 1 (.slice (some ⟨w.heap.size, 0, none⟩) 1 1) 1 (((n : Int) :: l.take 0).map (.int .i64)) := by
    have := Own.fresh w #[.int .i64 n] 3 1 1 rfl (by unfold maxLen; omega)
    simpa using this
  go_loopw [3, 4] (fun q i wr => ∃ (k : Nat) (A' : Option Addr) (c' : Nat), k ≤ n ∧ i = .int .i64 k ∧ q = .slice A' (k + 1) c' ∧ Own wr w.heap.size wr.heap.size 3 1 (.slice A' (k + 1) c') (k + 1) (((n : Int) :: l.take k).map (.int .i64)) ∧ Below w.heap.size w wr) (fun _ i _ => n - (intOf i).toNat)
  case atStart => exact ⟨0, _, 1, Nat.zero_le _, rfl, rfl, hown, (by (repeat' (first | (with_reducible exact Below.refl _ _) | (with_reducible assumption) | (with_reducible refine Below.alloc ?_ ?_ _) | (with_reducible refine below_ext ?_ ?_ _ _) | (with_reducible refine Below.setCell ?_ ?_ _) | (with_reducible refine Below.drew ?_) | (with_reducible refine below_drewN ?_ _))); all_goals (first | omega | (simp; done) | (simp; omega)))⟩
  case round =>
    obtain ⟨k, A', c', hk, rfl, rfl, hown, hb⟩ := hrel
    by_cases hlt : k < n
    · obtain ⟨b, o, rfl, _, _, hcell⟩ := (hr.below' hb).at_ (j := k) (by omega)
      have hkl : k < l.length := by omega
      have hx := hcell k (.int .u8 l[k]) (by simp [hkl])
      have HF := hide (b2i_snoc (List.getElem?_eq_getElem hkl) (n : Int))
      obtain ⟨hz0', hz1'⟩ := h8.at_ k hkl
      generalize l[k] = z at hx HF hz0' hz1'
      clear hcell hkl hr
      go_wp2_with (at_builtin; refine wpList_app _ rfl (.tmp 14) (.tmp 20) 63 rfl 3 i0 (.int .i64 0) 1 8 w.heap.size wr.heap.size wr.heap.size (wr.heap.size + 1) Try.underlying63 hi0 hz0 hz1 hz2 rfl (by omega) _ (k + 1) _ rfl (hown.alloc _) _ 1 1 _ rfl (Rd.fresh wr #[.int .i64 z] 3 1 1 rfl) (by simp [Value.oneCell']) (by unfold maxLen; omega) (by omega) (by have := hb.size; simp; omega) (by simp) ?_; intro A4 c4 w4 hown4 hc4 hm4 hch4)
      have hb4 : Below w.heap.size w w4 := below_then hb ((((Chg.refl w.heap.size wr.heap.size wr).alloc (.cells #[.int .i64 z] 3)).trans hch4).below (Nat.le_refl _) hb.size) (Nat.le_refl _)
      rw [HF.out] at hown4
      clear hown hch4 hb
      go_wp2_with fail
      go_roundw
      case rel => exact ⟨k + 1, _, _, by omega, by go_num, rfl, hown4, hb4⟩
      case measure => simp [intOf] <;> omega
    · have HL := hide (show l.take k = l from List.take_of_length_le (by omega))
      obtain rfl : k = n := by omega
      rw [HL.out] at hown
      go_wp2_with fail
      go_ret
      refine Mk.of_own ?_ hb (Nat.le_refl _)
      rw [show b2i l = (k : Int) :: l by rw [b2i, hlen]]
      exact hown
/-! ### encryption -/
/-- The i-th key byte. -/
def kb (key : Int) (i : Nat) : Int := kh key [(i : Int)] % 256
theorem kb_bd (key : Int) (i : Nat) : 0 ≤ kb key i ∧ kb key i ≤ 255 := by unfold kb; omega
def encL (key : Int) (l : List Int) : List Int := l.mapIdx fun i x => (x + kb key i) % 256
def decL (key : Int) (l : List Int) : List Int := l.mapIdx fun i x => (x - kb key i) % 256
theorem encL_len (key : Int) (l : List Int) : (encL key l).length = l.length := by simp [encL]
theorem decL_len (key : Int) (l : List Int) : (decL key l).length = l.length := by simp [decL]
theorem encL_at (key : Int) (l : List Int) (k : Nat) (h : k < l.length) : (encL key l)[k]? = some ((l[k] + kb key k) % 256) := by simp [encL, h]
theorem decL_at (key : Int) (l : List Int) (k : Nat) (h : k < l.length) : (decL key l)[k]? = some ((l[k] - kb key k) % 256) := by simp [decL, h]
theorem encL_B8 (key : Int) (l : List Int) : B8 (encL key l) := by
  intro x hx
  obtain ⟨i, hi, rfl⟩ := List.getElem_of_mem hx
  have := encL_at key l i (by simpa [encL_len] using hi)
  rw [List.getElem?_eq_getElem hi] at this
  injection this with this
  rw [this]
  omega
theorem decL_B8 (key : Int) (l : List Int) : B8 (decL key l) := by
  intro x hx
  obtain ⟨i, hi, rfl⟩ := List.getElem_of_mem hx
  have := decL_at key l i (by simpa [decL_len] using hi)
  rw [List.getElem?_eq_getElem hi] at this
  injection this with this
  rw [this]
  omega
theorem decL_encL (key : Int) (l : List Int) (h : B8 l) : decL key (encL key l) = l := by
  apply List.ext_getElem?
  intro k
  by_cases hk : k < l.length
  · have hk2 : k < (encL key l).length := by rw [encL_len]; exact hk
    rw [decL_at key _ k hk2]
    have h1 := encL_at key l k hk
    rw [List.getElem?_eq_getElem hk2] at h1
    injection h1 with h1
    rw [h1, List.getElem?_eq_getElem hk]
    have := h.at_ k hk
    have := kb_bd key k
    congr 1
    omega
  · rw [List.getElem?_eq_none (by rw [decL_len, encL_len]; omega), List.getElem?_eq_none (by omega)]
theorem u8_wrap (x : Int) : IntKind.u8.wrap x = x % 256 := by
  show (IntKind.u8.wrap x) = _
  rw [IntKind.wrap_u8]

/-- One more cell of a row that is turned in place. -/
theorem turnStep {w wr : World} {e : TypeId} {g n c : Nat} {k : Nat} {hi : Nat} {ys xs : List Value} {u : Value} (hlen : ys.length = n * 1) (hx : xs.length = n * 1) (hlt : k < n) (hu : ys[k]? = some u)
    (h : Own wr w.heap.size hi e 1 (.slice (some ⟨g, 0, none⟩) n c) n (mixed ys xs k)) (hb : Below w.heap.size w wr) :
    Own (wr.setCell ⟨g, k, none⟩ u) w.heap.size hi e 1 (.slice (some ⟨g, 0, none⟩) n c) n (mixed ys xs (k + 1)) ∧ Below w.heap.size w (wr.setCell ⟨g, k, none⟩ u) := by
  obtain ⟨h1, h2⟩ := h.stored k u
  rw [mixed_set (by omega) hu] at h1
  have := h.row.lt g (by simp [Value.ownBlock])
  exact ⟨h1, below_then hb (h2.below (Nat.le_refl _) hb.size) (Nat.le_refl _)⟩
end Go.Proofs.Ytidfpmkhgogilaa
