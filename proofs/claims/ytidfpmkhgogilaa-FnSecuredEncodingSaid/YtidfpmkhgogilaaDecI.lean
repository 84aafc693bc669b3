/- DecodeInts: what it returns, on both sides. -/
import Derived.Test.YtidfpmkhgogilaaRdB
import Derived.Test.YtidfpmkhgogilaaIntS
namespace Go.Proofs.Ytidfpmkhgogilaa
open Go.RowKit Go.Sep

def diO (l : List Int) : Nat → Nat → List Int → Option (List Int × Nat)
  | 0, pos, acc => some (acc, pos)
  | f + 1, pos, acc => match rdF l pos 6 0 0 with
    | none => none
    | some (v, e) => diO l f e (acc ++ [v])
theorem diO_no {l : List Int} {f f' pos : Nat} {acc : List Int} (hf : f' = f + 1) (h : rdF l pos 6 0 0 = none) : diO l f' pos acc = none := by subst hf; rw [diO, h]
theorem diO_some {l : List Int} {f f' pos e : Nat} {v : Int} {acc : List Int} (hf : f' = f + 1) (h : rdF l pos 6 0 0 = some (v, e)) : diO l f' pos acc = diO l f e (acc ++ [v]) := by subst hf; rw [diO, h]
/-- What DecodeInts leaves. -/
def DIp (w : World) (E : TypeId) (cnt : Nat) (r : Option (List Int × Nat)) (x : Ending) (w' : World) : Prop := match r with
  | none => ∃ A c, x = .returned (.tuple #[.slice A 0 c, .int .i64 0, .bool false]) ∧ Own w' w.heap.size w'.heap.size E 1 (.slice A 0 c) 0 [] ∧ Below w.heap.size w w'
  | some (vs, e) => ∃ A c, x = .returned (.tuple #[.slice A cnt c, .int .i64 e, .bool true]) ∧ vs.length = cnt ∧ Own w' w.heap.size w'.heap.size E 1 (.slice A cnt c) cnt (vs.map (.int .i64)) ∧ Below w.heap.size w w'
theorem freshI (X : World) (k : Nat) (hk : X.heap.size = k) : Own (X.alloc (.cells #[] 3)) k (k + 1) 3 1 (.slice (some ⟨k, 0, none⟩) 0 0) 0 [] := by
  subst hk
  simpa using Own.fresh X #[] 3 1 0 rfl (by unfold maxLen; omega)
set_option maxRecDepth 100000 in
theorem iDI_any (w : World) (A : Option Addr) (n c lo hi : Nat) (l : List Int) (off cnt : Nat) (hr : Rd w lo hi 1 A n (l.map (.int .u8))) (hn : n ≤ 1048576) (h8 : B8 l) (ho : off ≤ n) (hcnt : cnt ≤ 100) :
    Calls Try.prog 82 #[.slice A n c, .int .i64 off, .int .i64 cnt] w (DIp w 3 cnt (diO l cnt off [])) := by
  obtain ⟨i0, hi0, hz0, hz1, hz2⟩ := info_parts infoIntS
  have hll : l.length = n := by simpa using hr.len
  have hI1 : inR (cnt : Int) 0 100 = true := inR_mk (by omega) (by omega)
  have hI2 : inR (off : Int) 0 (n : Int) = true := inR_mk (by omega) (by omega)
  go_enter Try.func82, Try.ntmps82
  go_wp2_with (first
    | (go_at_call 58; refine (inRange_any _ _ _ _).mono ?_; rintro e w' ⟨rfl, rfl⟩)
    | (at_make; refine wpList_make_own _ rfl _ _ 63 rfl w.heap.size 3 i0 (.int .i64 0) 1 Try.underlying63 hi0 hz0 hz1 _ _ _ cnt rfl rfl (by omega) (by rw [hz2]; omega) (by unfold maxLen; omega) (Nat.le_refl _) ?_; intro w1 hown1 hgrow1; have hown := Own.of_row hown1; have hb1 : Below w.heap.size w w1 := (Below.refl _ _).grown hgrow1 (Nat.le_refl _) (by simp); clear hown1 hgrow1))
  go_loopw [9, 10, 11] (fun q p i wr => ∃ (k pos : Nat) (A' : Option Addr) (c' : Nat) (acc : List Int), k ≤ cnt ∧ pos ≤ n ∧ q = .slice A' k c' ∧ p = .int .i64 pos ∧ i = .int .i64 k ∧ Hid (acc.length = k) ∧ Hid (diO l cnt off [] = diO l (cnt - k) pos acc) ∧ Own wr w.heap.size wr.heap.size 3 1 (.slice A' k c') k (acc.map (.int .i64)) ∧ Below w.heap.size w wr) (fun _ _ i _ => cnt - (intOf i).toNat)
  case atStart => exact ⟨0, off, _, _, [], Nat.zero_le _, ho, rfl, rfl, rfl, hide rfl, hide rfl, by simpa using hown, hb1⟩
  case round =>
    clear hown
    obtain ⟨k, pos, A', c', acc, hk, hpos, rfl, rfl, rfl, HL, HF, hown, hb⟩ := hrel
    by_cases hlt : k < cnt
    · have hkc : (k : Int) < (cnt : Int) := by omega
      cases hrd : rdF l pos 6 0 0 with
      | none =>
        have HR := hide (fun W h => iRdU_no W A n c lo hi l pos h (by omega) h8 (by omega) hrd)
        have HG := hide (HF.out.trans (diO_no (f := cnt - k - 1) (by omega) hrd))
        clear hrd HF
        go_wp2_with (go_at_call 75; refine (unhide HR _ (hr.below' hb)).mono ?_; rintro e w1 ⟨rfl, hb1⟩; obtain ⟨os1, d1, rfl⟩ := ext_of_below hb1; clear hb1)
        go_ret3
        rw [HG.out]
        exact ⟨some ⟨wr.heap.size + os1.size, 0, none⟩, 0, rfl, (freshI (ext wr os1 d1) (wr.heap.size + os1.size) (by simp)).more (by have := hb.size; omega) (by simp), below_then (B' := wr.heap.size) hb (by (repeat' (first | (with_reducible exact Below.refl _ _) | (with_reducible assumption) | (with_reducible refine Below.alloc ?_ ?_ _) | (with_reducible refine below_ext ?_ ?_ _ _) | (with_reducible refine Below.setCell ?_ ?_ _) | (with_reducible refine Below.drew ?_) | (with_reducible refine below_drewN ?_ _))); all_goals (first | omega | (simp; done) | (simp; omega))) hb.size⟩
      | some ve =>
        obtain ⟨v, e⟩ := ve
        obtain ⟨hv0, hv1, he0, he1⟩ := rdF_bd h8 hrd
        have HR := hide (fun W h => iRdU_yes W A n c lo hi l pos h (by omega) h8 (by omega) hrd)
        have HG := hide (HF.out.trans (diO_some (f := cnt - k - 1) (by omega) hrd))
        have HJ := hide (show cnt - (k + 1) = cnt - k - 1 by omega)
        have hfr : ∀ (X : World) (g : Nat), X.heap.size = g → Rd (X.alloc (.cells #[.int .i64 v] 3)) g (g + 1) 1 (some ⟨g, 0, none⟩) 1 [.int .i64 v] := fun X g hg => by subst hg; simpa using Rd.fresh X #[.int .i64 v] 3 1 1 rfl
        clear hrd HF
        go_wp2_with (first
          | (go_at_call 75; refine (unhide HR _ (hr.below' hb)).mono ?_; rintro x w1 ⟨rfl, hb1⟩; have hown1 := hown.below' hb1; have hb2 := below_then hb hb1 hb.size; have hs1 := hb1.size; clear hown)
          | (at_builtin; refine wpList_app _ rfl (.tmp 44) (.tmp 46) 63 rfl 3 i0 (.int .i64 0) 1 8 w.heap.size wr.heap.size w1.heap.size (w1.heap.size + 1) Try.underlying63 hi0 hz0 hz1 hz2 rfl (by omega) _ k _ rfl (hown1.alloc _) _ 1 1 _ rfl (hfr _ _ rfl) (by simp [Value.oneCell']) (by unfold maxLen; omega) (by omega) (by have := hb2.size; simp; omega) (by simp; omega) ?_; intro A4 c4 w4 hown4 hc4 hm4 hch4))
        have hb4 : Below w.heap.size w w4 := below_then hb2 ((((Chg.refl w.heap.size wr.heap.size w1).alloc _).trans hch4).below (Nat.le_refl _) hb2.size) (Nat.le_refl _)
        have hown5 : Own w4 w.heap.size w4.heap.size 3 1 (.slice A4 (k + 1) c4) (k + 1) ((acc ++ [v]).map (.int .i64)) := by simpa using hown4
        clear hown1 hown4 hch4 hb hb1 hb2 hs1 hfr
        go_wp2_with fail
        go_roundw
        case rel => exact ⟨k + 1, e, _, _, acc ++ [v], by omega, by omega, rfl, rfl, by go_num, hide (by simp [HL.out]), hide (by rw [HJ.out]; exact HG.out), hown5, hb4⟩
        case measure => simp [intOf] <;> omega
    · obtain rfl : k = cnt := by omega
      have HG := hide (HF.out.trans (by rw [Nat.sub_self]; rfl : _ = some (acc, pos)))
      clear HF
      go_wp2_with fail
      go_ret3
      rw [HG.out]
      exact ⟨_, _, rfl, HL.out, hown, hb⟩
set_option maxRecDepth 100000 in
theorem sDI_any (w : World) (A : Option Addr) (n c lo hi : Nat) (l : List Int) (off cnt : Nat) (hr : Rd w lo hi 1 A n (l.map (.int .u8))) (hn : n ≤ 1048576) (h8 : B8 l) (ho : off ≤ n) (hcnt : cnt ≤ 100) :
    Calls Try.prog 67 #[.slice A n c, .int .i64 off, .int .i64 cnt] w (DIp w 3 cnt (diO l cnt off [])) := by
  obtain ⟨i0, hi0, hz0, hz1, hz2⟩ := info_parts infoIntS
  have hll : l.length = n := by simpa using hr.len
  have hI1 : inR (cnt : Int) 0 100 = true := inR_mk (by omega) (by omega)
  have hI2 : inR (off : Int) 0 (n : Int) = true := inR_mk (by omega) (by omega)
  go_enter Try.func67, Try.ntmps67
  have hown : Own (w.alloc (.cells #[] 3)) w.heap.size (w.heap.size + 1) 3 1 (.slice (some ⟨w.heap.size, 0, none⟩) 0 0) 0 [] := by simpa using Own.fresh w #[] 3 1 0 rfl (by unfold maxLen; omega)
  go_wp2_with (go_at_call 57; refine (l1In_any _ _ _ _).mono ?_; rintro e w' ⟨rfl, rfl⟩)
  go_loopw [1, 9, 10] (fun p q i wr => ∃ (k pos : Nat) (A' : Option Addr) (c' : Nat) (acc : List Int), k ≤ cnt ∧ pos ≤ n ∧ q = .slice A' k c' ∧ p = .int .i64 pos ∧ i = .int .i64 k ∧ Hid (acc.length = k) ∧ Hid (diO l cnt off [] = diO l (cnt - k) pos acc) ∧ Own wr w.heap.size wr.heap.size 3 1 (.slice A' k c') k (acc.map (.int .i64)) ∧ Below w.heap.size w wr) (fun _ _ i _ => cnt - (intOf i).toNat)
  case atStart => exact ⟨0, off, _, _, [], Nat.zero_le _, ho, rfl, rfl, rfl, hide rfl, hide rfl, by simpa using hown, (by (repeat' (first | (with_reducible exact Below.refl _ _) | (with_reducible assumption) | (with_reducible refine Below.alloc ?_ ?_ _) | (with_reducible refine below_ext ?_ ?_ _ _) | (with_reducible refine Below.setCell ?_ ?_ _) | (with_reducible refine Below.drew ?_) | (with_reducible refine below_drewN ?_ _))); all_goals (first | omega | (simp; done) | (simp; omega)))⟩
  case round =>
    clear hown
    obtain ⟨k, pos, A', c', acc, hk, hpos, rfl, rfl, rfl, HL, HF, hown, hb⟩ := hrel
    by_cases hlt : k < cnt
    · have hkc : (k : Int) < (cnt : Int) := by omega
      cases hrd : rdF l pos 6 0 0 with
      | none =>
        have HR := hide (fun W h => sRdU_no W A n c lo hi l pos h (by omega) h8 (by omega) hrd)
        have HG := hide (HF.out.trans (diO_no (f := cnt - k - 1) (by omega) hrd))
        clear hrd HF
        go_wp2_with (go_at_call 69; refine (unhide HR _ (hr.below' hb)).mono ?_; rintro e w1 ⟨rfl, hb1⟩; obtain ⟨os1, d1, rfl⟩ := ext_of_below hb1; clear hb1)
        go_ret3
        rw [HG.out]
        exact ⟨some ⟨wr.heap.size + os1.size, 0, none⟩, 0, rfl, (freshI (ext wr os1 d1) (wr.heap.size + os1.size) (by simp)).more (by have := hb.size; omega) (by simp), below_then (B' := wr.heap.size) hb (by (repeat' (first | (with_reducible exact Below.refl _ _) | (with_reducible assumption) | (with_reducible refine Below.alloc ?_ ?_ _) | (with_reducible refine below_ext ?_ ?_ _ _) | (with_reducible refine Below.setCell ?_ ?_ _) | (with_reducible refine Below.drew ?_) | (with_reducible refine below_drewN ?_ _))); all_goals (first | omega | (simp; done) | (simp; omega))) hb.size⟩
      | some ve =>
        obtain ⟨v, e⟩ := ve
        obtain ⟨hv0, hv1, he0, he1⟩ := rdF_bd h8 hrd
        have HR := hide (fun W h => sRdU_yes W A n c lo hi l pos h (by omega) h8 (by omega) hrd)
        have HG := hide (HF.out.trans (diO_some (f := cnt - k - 1) (by omega) hrd))
        have HJ := hide (show cnt - (k + 1) = cnt - k - 1 by omega)
        have hfr : ∀ (X : World) (g : Nat), X.heap.size = g → Rd (X.alloc (.cells #[.int .i64 v] 3)) g (g + 1) 1 (some ⟨g, 0, none⟩) 1 [.int .i64 v] := fun X g hg => by subst hg; simpa using Rd.fresh X #[.int .i64 v] 3 1 1 rfl
        clear hrd HF
        go_wp2_with (first
          | (go_at_call 69; refine (unhide HR _ (hr.below' hb)).mono ?_; rintro x w1 ⟨rfl, hb1⟩; have hown1 := hown.below' hb1; have hb2 := below_then hb hb1 hb.size; have hs1 := hb1.size; clear hown)
          | (at_builtin; refine wpList_app _ rfl (.tmp 41) (.tmp 43) 63 rfl 3 i0 (.int .i64 0) 1 8 w.heap.size wr.heap.size w1.heap.size (w1.heap.size + 1) Try.underlying63 hi0 hz0 hz1 hz2 rfl (by omega) _ k _ rfl (hown1.alloc _) _ 1 1 _ rfl (hfr _ _ rfl) (by simp [Value.oneCell']) (by unfold maxLen; omega) (by omega) (by have := hb2.size; simp; omega) (by simp; omega) ?_; intro A4 c4 w4 hown4 hc4 hm4 hch4))
        have hb4 : Below w.heap.size w w4 := below_then hb2 ((((Chg.refl w.heap.size wr.heap.size w1).alloc _).trans hch4).below (Nat.le_refl _) hb2.size) (Nat.le_refl _)
        have hown5 : Own w4 w.heap.size w4.heap.size 3 1 (.slice A4 (k + 1) c4) (k + 1) ((acc ++ [v]).map (.int .i64)) := by simpa using hown4
        clear hown1 hown4 hch4 hb hb1 hb2 hs1 hfr
        go_wp2_with fail
        go_roundw
        case rel => exact ⟨k + 1, e, _, _, acc ++ [v], by omega, by omega, rfl, rfl, by go_num, hide (by simp [HL.out]), hide (by rw [HJ.out]; exact HG.out), hown5, hb4⟩
        case measure => simp [intOf] <;> omega
    · obtain rfl : k = cnt := by omega
      have HG := hide (HF.out.trans (by rw [Nat.sub_self]; rfl : _ = some (acc, pos)))
      clear HF
      go_wp2_with fail
      go_ret3
      rw [HG.out]
      exact ⟨_, _, rfl, HL.out, hown, hb⟩
end Go.Proofs.Ytidfpmkhgogilaa
