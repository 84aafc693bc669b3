/- FormatInt at every int, both sides. -/
import Derived.Test.YtldkefjamimoiaaDoorShelf
import Derived.Test.YtldkefjamimoiaaDoorSep
import Derived.Lib.ItoaLen
import Derived.Lib.AppendIntMem
import Derived.Shelf.Bytes.SlEqualAll
namespace Go.Proofs.YtldkefjamimoiaaDoor
open Go.RowKit Go.Sep

/-- n's decimal numeral. -/
def fiB (n : Int) : ByteArray := ⟨(Lib.itoa n).toArray⟩
/-- The library's table of powers reads as it should, whatever is laid behind. -/
def TB (w : World) : Prop := ∀ w', Below w.heap.size w w' → Lib.TabIs Tryd.prog w' "internal/strconv.uint64pow10" .u64 Lib.pow10Tab
theorem TB.below' {w w' : World} (h : TB w) (hb : Below w.heap.size w w') : TB w' := fun w2 h2 => h w2 (below_then hb h2 hb.size)
theorem fiB_size (n : Int) (h0 : -9223372036854775808 ≤ n) (h1 : n ≤ 9223372036854775807) : (fiB n).size ≤ 21 := by
  have := Lib.itoa_length_le n h0 h1
  simpa [fiB, ByteArray.size] using this
theorem iFI_any (n : Int) (h0 : -9223372036854775808 ≤ n) (h1 : n ≤ 9223372036854775807) (w : World) (hT : TB w) :
    Calls Tryd.prog 16 #[.int .i64 n] w fun e w' => e = .returned (.string (fiB n)) ∧ Below w.heap.size w w' := by
  have hTI := hide (hT w (Below.refl _ _))
  go_enter Tryd.func16, Tryd.ntmps16
  go_wp2_with (go_at_call 24; refine (Tryd.strconv_Itoa n h0 h1 _ (unhide hTI)).mono ?_; rintro e w1 ⟨rfl, k, os, rfl⟩)
  go_ret
  exact ⟨rfl, Lib.below_grow _ _ (Nat.le_refl _) _ _⟩
theorem abs_tmod (x : Int) : (x.tmod 10).natAbs = x.natAbs % 10 := by
  cases x with
  | ofNat m => rfl
  | negSucc m =>
    show (-(((m + 1) % 10 : Nat) : Int)).natAbs = (m + 1) % 10
    rw [Int.natAbs_neg]
    rfl
theorem abs_tdiv (x : Int) : (x.tdiv 10).natAbs = x.natAbs / 10 := by
  cases x with
  | ofNat m => rfl
  | negSucc m =>
    show (-(((m + 1) / 10 : Nat) : Int)).natAbs = (m + 1) / 10
    rw [Int.natAbs_neg]
    rfl
/-- The digits of a number; none of 0. -/
def dd (a : Nat) : List UInt8 := if a = 0 then [] else Lib.decDigits a
theorem dd_step {a : Nat} (h : a ≠ 0) : dd a = dd (a / 10) ++ [UInt8.ofNat (48 + a % 10)] := by
  unfold dd
  rw [if_neg h]
  by_cases h10 : a < 10
  · rw [Lib.decDigits, dif_pos h10, if_pos (by omega), Nat.mod_eq_of_lt h10]; rfl
  · rw [Lib.decDigits, dif_neg h10, if_neg (by omega)]
theorem str_cons (e : Nat) (he : e < 10) (S : ByteArray) : (Go.strOfNums [48 + (e : Int)] ++ S).data.toList = UInt8.ofNat (48 + e) :: S.data.toList := by
  have : Go.strOfNums [48 + (e : Int)] = ⟨#[UInt8.ofNat (48 + e)]⟩ := by
    have h : e = 0 ∨ e = 1 ∨ e = 2 ∨ e = 3 ∨ e = 4 ∨ e = 5 ∨ e = 6 ∨ e = 7 ∨ e = 8 ∨ e = 9 := by omega
    rcases h with rfl | rfl | rfl | rfl | rfl | rfl | rfl | rfl | rfl | rfl <;> rfl
  rw [this, ByteArray.data_append]
  simp
theorem str_size (e : Nat) (he : e < 10) : (Go.strOfNums [48 + (e : Int)]).size = 1 := by
  have h : e = 0 ∨ e = 1 ∨ e = 2 ∨ e = 3 ∨ e = 4 ∨ e = 5 ∨ e = 6 ∨ e = 7 ∨ e = 8 ∨ e = 9 := by omega
  rcases h with rfl | rfl | rfl | rfl | rfl | rfl | rfl | rfl | rfl | rfl <;> rfl
set_option maxRecDepth 100000 in
theorem sFI_any (n : Int) (h0 : -9223372036854775808 ≤ n) (h1 : n ≤ 9223372036854775807) (w : World) :
    Calls Tryd.prog 13 #[.int .i64 n] w fun e w' => e = .returned (.string (fiB n)) ∧ Below w.heap.size w w' := by
  by_cases hn0 : n = 0
  · subst hn0
    have HE := hide (show fiB 0 = ⟨#[48]⟩ by simp [fiB, Lib.itoa, Lib.decDigits_one])
    go_enter Tryd.func13, Tryd.ntmps13
    go_wp2_with fail
    go_ret
    exact ⟨by rw [HE.out]; rfl, Below.refl _ _⟩
  have hlen := Lib.itoa_length_le n h0 h1
  have hnb : (n == 0) = false := by simpa using hn0
  have hN : (Lib.decDigits n.natAbs).length ≤ 21 := by
    by_cases h : n < 0
    · rw [Lib.itoa, if_pos h, List.length_cons] at hlen; omega
    · rw [Lib.itoa, if_neg h] at hlen
      rw [show n.natAbs = n.toNat by omega]; exact hlen
  have HN := hide hN
  clear hlen hn0 hN
  go_enter Tryd.func13, Tryd.ntmps13
  go_wp2_with fail
  go_loopw [3, 4] (fun s xx wr => ∃ (x : Int) (S : ByteArray), s = .string S ∧ xx = .int .i64 x ∧ -9223372036854775808 ≤ x ∧ x ≤ 9223372036854775807 ∧ Hid (dd x.natAbs ++ S.data.toList = Lib.decDigits n.natAbs) ∧ Below w.heap.size w wr) (fun _ x _ => (intOf x).natAbs)
  case atStart =>
    refine ⟨n, _, rfl, rfl, h0, h1, hide ?_, Below.refl _ _⟩
    unfold dd
    rw [if_neg (by simp at hnb; omega)]
    simp
  case round =>
    obtain ⟨x, S, rfl, rfl, hx0, hx1, HD, hb⟩ := hrel
    have hbs := hb.size
    have hS : S.size ≤ 21 := by
      have := congrArg List.length HD.out
      have h2 := HN.out
      simp at this
      have h3 : S.size = S.data.size := rfl
      omega
    by_cases hxz : x = 0
    · subst hxz
      have HF := hide (show S.data.toList = Lib.decDigits n.natAbs by have := HD.out; simpa [dd] using this)
      clear HD
      by_cases hneg : n < 0
      · have HG := hide (show (⟨#[45]⟩ : ByteArray) ++ S = fiB n by
          apply ByteArray.ext
          rw [ByteArray.data_append]
          apply Array.ext'
          simp [fiB, Lib.itoa, hneg, HF.out])
        go_wp2_with fail
        go_ret
        exact ⟨by first | (rw [HG.out]; rfl) | rfl, hb⟩
      · have HG := hide (show S = fiB n by
          apply ByteArray.ext
          apply Array.ext'
          rw [HF.out]
          simp [fiB, Lib.itoa, hneg, show n.natAbs = n.toNat by omega])
        go_wp2_with fail
        go_ret
        exact ⟨by first | (rw [HG.out]; rfl) | rfl, hb⟩
    · have hxb : (x != 0) = true := by simpa using hxz
      obtain ⟨d, hd⟩ : ∃ d, x.tmod 10 = d := ⟨_, rfl⟩
      obtain ⟨y, hy⟩ : ∃ y, x.tdiv 10 = y := ⟨_, rfl⟩
      have hda : d.natAbs = x.natAbs % 10 := by rw [← hd]; exact abs_tmod x
      have hya : y.natAbs = x.natAbs / 10 := by rw [← hy]; exact abs_tdiv x
      have hyb : -9223372036854775808 ≤ y ∧ y ≤ 9223372036854775807 := by omega
      obtain ⟨e, he⟩ : ∃ e : Nat, e = d.natAbs := ⟨_, rfl⟩
      have he10 : e < 10 := by omega
      have HD2 := hide (show dd y.natAbs ++ (Go.strOfNums [48 + (e : Int)] ++ S).data.toList = Lib.decDigits n.natAbs by
        have h2 := HD.out
        rw [dd_step (by omega), ← hya, ← hda, ← he] at h2
        rw [str_cons e he10, ← h2]
        simp)
      have hmes : y.natAbs < x.natAbs := by omega
      have hz1 := str_size e he10
      have hbi : Lib.BytesIn (wr.alloc (.cells #[.int .u8 (48 + (e : Int))] 5)) (some ⟨wr.heap.size, 0, none⟩) 1 [48 + (e : Int)] := fun _ => ⟨wr.heap.size, 0, rfl, fun j hj => by
        obtain rfl : j = 0 := by omega
        go_simp⟩
      have hcv := hbi.convert (P := Tryd.prog) rfl 1 47 5 9 Tryd.underlying47 Tryd.underlying5 Tryd.underlying9
      clear hbi HD hya hda hnb
      by_cases hdn : d < 0
      · have hde : -d = (e : Int) := by omega
        clear hxz he
        go_wp2_with fail
        go_roundw
        case rel => exact ⟨y, _, rfl, rfl, hyb.1, hyb.2, HD2, (by (repeat' (first | (with_reducible exact Below.refl _ _) | (with_reducible assumption) | (with_reducible refine Below.alloc ?_ ?_ _) | (with_reducible refine below_ext ?_ ?_ _ _) | (with_reducible refine Below.setCell ?_ ?_ _) | (with_reducible refine Below.drew ?_) | (with_reducible refine below_drewN ?_ _))); all_goals (first | omega | (simp; done) | (simp; omega)))⟩
        case measure => simpa [intOf] using hmes
      · have hde : d = (e : Int) := by omega
        clear hxz he
        subst hde
        have hdn2 : ¬ (e : Int) < 0 := by omega
        clear hdn
        go_wp2_with fail
        go_roundw
        case rel => exact ⟨y, _, rfl, rfl, hyb.1, hyb.2, HD2, (by (repeat' (first | (with_reducible exact Below.refl _ _) | (with_reducible assumption) | (with_reducible refine Below.alloc ?_ ?_ _) | (with_reducible refine below_ext ?_ ?_ _ _) | (with_reducible refine Below.setCell ?_ ?_ _) | (with_reducible refine Below.drew ?_) | (with_reducible refine below_drewN ?_ _))); all_goals (first | omega | (simp; done) | (simp; omega)))⟩
        case measure => simpa [intOf] using hmes
end Go.Proofs.YtldkefjamimoiaaDoor
