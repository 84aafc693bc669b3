/- Bytes drawn. -/
import Derived.Test.YticfmkfiibhafaaDraw
import Derived.Test.YticfmkfiibhafaaByteS
import Derived.IntWalk
namespace Go.Proofs.Yticfmkfiibhafaa
open Go.RowKit Go.Sep

/-- What a call leaves that draws bytes. -/
def DrewB (g : Nat) (A : Option Addr) (n c : Nat) (m : Int) (w : World) (e : Ending) (w' : World) : Prop :=
  ∃ (A' : Option Addr) (k c' : Nat) (bs : List Int), e = .returned (.slice A' k c') ∧ bs.length = k ∧ ((k : Int) ≤ m ∨ k = 0) ∧ (∀ x ∈ bs, 0 ≤ x ∧ x ≤ 255) ∧ Own w' w.heap.size w'.heap.size 5 1 (.slice A' k c') k (bs.map (.int .u8)) ∧ k ≤ c' ∧ c' ≤ maxLen ∧ Cur w' g A n c ∧ Chg g (g + 1) w w'
set_option maxRecDepth 100000 in
theorem sBytes_any (w : World) (g : Nat) (A : Option Addr) (n c lo hi : Nat) (l : List Int) (m : Int) (hC : Cur w g A n c) (hr : Rd w lo hi 1 A n (l.map (.int .u8))) (hn : n ≤ 16777216) (h8 : ∀ x ∈ l, 0 ≤ x ∧ x ≤ 255) (hg : hi ≤ g) (hm : m ≤ 16777216) :
    Calls Try.prog 86 #[.pointer (some ⟨g, 0, none⟩), .int .i64 m] w (DrewB g A n c m w) := by
  obtain ⟨i0, hi0, hz0, hz1, hz2⟩ := info_parts infoByteS
  have hgl := hC.lt
  have hown0 : Own (w.alloc (.cells #[] 5)) w.heap.size (w.heap.size + 1) 5 1 (.slice (some ⟨w.heap.size, 0, none⟩) 0 0) 0 ([].map (Value.int .u8)) := by
    simpa using Own.fresh w #[] 5 1 0 rfl (by unfold maxLen; omega)
  have hC0 : Cur (w.alloc (.cells #[] 5)) g A n c := hC.below' (by (repeat' (first | (with_reducible exact Below.refl _ _) | (with_reducible assumption) | (with_reducible refine Below.alloc ?_ ?_ _) | (with_reducible refine below_ext ?_ ?_ _ _) | (with_reducible refine Below.setCell ?_ ?_ _) | (with_reducible refine Below.drew ?_) | (with_reducible refine below_drewN ?_ _))); all_goals (first | omega | (simp; done) | (simp; omega)))
  go_enter Try.func86, Try.ntmps86
  go_wp2_with fail
  go_loopw [5, 6] (fun q i wr => ∃ (k : Nat) (A' : Option Addr) (c' : Nat) (bs : List Int), ((k : Int) ≤ m ∨ k = 0) ∧ i = .int .i64 k ∧ q = .slice A' k c' ∧ k ≤ c' ∧ c' ≤ maxLen ∧ Hid (bs.length = k) ∧ Hid (∀ x ∈ bs, 0 ≤ x ∧ x ≤ 255) ∧ Own wr w.heap.size wr.heap.size 5 1 (.slice A' k c') k (bs.map (Value.int .u8)) ∧ Cur wr g A n c ∧ Chg g (g + 1) w wr) (fun _ i _ => (m - intOf i).toNat)
  case atStart => exact ⟨0, _, 0, [], .inr rfl, rfl, rfl, Nat.le_refl _, by unfold maxLen; omega, hide rfl, hide (by simp), by simpa using hown0, hC0, (Chg.refl _ _ _).alloc _⟩
  case round =>
    obtain ⟨k, A', c', bs, hk, rfl, rfl, hkc, hcm, HL, H8, hown, hC1, hch⟩ := hrel
    clear hown0 hC0
    by_cases hlt : (k : Int) < m
    · have hsz := hch.size
      go_wp2_with fail
      refine (sByte_any _ g A n c lo hi l hC1 (hr.chg hch (.inl hg)) hn h8 hg).mono ?_
      rintro e w2 ⟨r, rfl, h0, h1, hC2, hch2⟩
      have hsz2 := hch2.size
      have hw : IntKind.u8.wrap r = r := IntWalk.u8_in r ⟨h0, h1⟩
      have hown2 := hown.chg hch2 (.inr (by omega))
      have hfr : Rd (w2.alloc (.cells #[.int .u8 r] 5)) w2.heap.size (w2.heap.size + 1) 1 (some ⟨w2.heap.size, 0, none⟩) 1 [.int .u8 r] := by simpa using Rd.fresh w2 #[.int .u8 r] 5 1 1 rfl
      go_wp2_with (at_builtin; refine wpList_app _ rfl (.tmp 13) (.tmp 17) 51 rfl 5 i0 (.int .u8 0) 1 1 w.heap.size wr.heap.size w2.heap.size (w2.heap.size + 1) Try.underlying51 hi0 hz0 hz1 hz2 rfl (by omega) _ k _ rfl (hown2.alloc _) _ 1 1 _ rfl hfr (by simp [Value.oneCell']) (by unfold maxLen; omega) (by omega) (by first | omega | (simp <;> omega)) (by first | omega | (simp <;> omega)) ?_; intro A4 c4 w4 hown4 hc4 hm4 hch4)
      have hown5 : Own w4 w.heap.size w4.heap.size 5 1 (.slice A4 (k + 1) c4) (k + 1) ((bs ++ [r]).map (Value.int .u8)) := by simpa using hown4
      have hC4 : Cur w4 g A n c := (hC2.below' (by (repeat' (first | (with_reducible exact Below.refl _ _) | (with_reducible assumption) | (with_reducible refine Below.alloc ?_ ?_ _) | (with_reducible refine below_ext ?_ ?_ _ _) | (with_reducible refine Below.setCell ?_ ?_ _) | (with_reducible refine Below.drew ?_) | (with_reducible refine below_drewN ?_ _))); all_goals (first | omega | (simp; done) | (simp; omega)))).chg hch4 (.inl hgl)
      have hch5 : Chg g (g + 1) w w4 := (((hch.trans hch2).alloc _)).then_new hch4 (Nat.le_refl _)
      have H82 := hide (show ∀ x ∈ bs ++ [r], 0 ≤ x ∧ x ≤ 255 from fun x hx => by
        rcases List.mem_append.1 hx with h | h
        · exact H8.out x h
        · simp only [List.mem_singleton] at h; subst h; exact ⟨h0, h1⟩)
      clear hown hown2 hown4 hch4 hfr hC1 hC2 hch hch2 H8
      go_wp2_with fail
      go_roundw
      case rel => exact ⟨k + 1, _, _, bs ++ [r], .inl (by omega), by go_num, rfl, hc4, hm4, hide (by simp [HL.out]), H82, hown5, hC4, hch5⟩
      case measure => simp [intOf] <;> omega
    · go_wp2_with fail
      go_ret
      exact ⟨A', k, c', bs, rfl, HL.out, hk, H8.out, hown, hkc, hcm, hC1, hch⟩
end Go.Proofs.Yticfmkfiibhafaa
