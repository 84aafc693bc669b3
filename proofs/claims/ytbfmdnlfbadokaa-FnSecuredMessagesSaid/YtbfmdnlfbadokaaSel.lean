/- What Supports and SelectAlgorithm return, for all integers. -/
import Derived.Test.YtbfmdnlfbadokaaInt
namespace Go.Proofs.Ytbfmdnlfbadokaa
open Go.RowKit Go.Sep

def sup (c i : Int) : Bool := capsOk c && inR i 1 4 && (bits BinOp.and IntKind.i64 (c / 2 ^ i.toNat) 1 == 1)
theorem sup_no1 {c i : Int} (h : capsOk c = false) : sup c i = false := by simp [sup, h]
theorem sup_no2 {c i : Int} (h : inR i 1 4 = false) : sup c i = false := by simp [sup, h]
theorem sup_eq {c i : Int} (h : capsOk c = true) (h' : inR i 1 4 = true) : sup c i = (bits BinOp.and IntKind.i64 (c / 2 ^ i.toNat) 1 == 1) := by simp [sup, h, h']
theorem sup_caps {c i : Int} (h : sup c i = true) : capsOk c = true ∧ 1 ≤ i ∧ i ≤ 4 := by
  simp only [sup, Bool.and_eq_true] at h
  exact ⟨h.1.1, inR_true h.1.2⟩

theorem iSupports_any (c i : Int) (w : World) :
    Calls Try.prog 27 #[.int .i64 c, .int .i64 i] w fun e w' => e = .returned (.bool (sup c i)) ∧ w = w' := by
  cases h1 : capsOk c
  · go_enter Try.func27, Try.ntmps27
    go_wp2_with (first | (go_at_call 71; refine (inRange_any _ _ _ _).mono ?_; rintro e w' ⟨rfl, rfl⟩) | (go_at_call 70; refine (iCaps_any _ _).mono ?_; rintro e w' ⟨rfl, rfl⟩))
    go_ret
    exact ⟨ret_bool (sup_no1 h1).symm, rfl⟩
  · have H := hide (capsOk_true h1)
    have g1 : 0 ≤ c := H.out.1
    have g2 : c ≤ 30 := H.out.2.1
    cases h2 : inR i 1 4
    · go_enter Try.func27, Try.ntmps27
      go_wp2_with (first | (go_at_call 71; refine (inRange_any _ _ _ _).mono ?_; rintro e w' ⟨rfl, rfl⟩) | (go_at_call 70; refine (iCaps_any _ _).mono ?_; rintro e w' ⟨rfl, rfl⟩))
      go_ret
      exact ⟨ret_bool (sup_no2 h2).symm, rfl⟩
    · have ⟨h3, h4⟩ := inR_true h2
      go_enter Try.func27, Try.ntmps27
      go_wp2_with (first | (go_at_call 71; refine (inRange_any _ _ _ _).mono ?_; rintro e w' ⟨rfl, rfl⟩) | (go_at_call 70; refine (iCaps_any _ _).mono ?_; rintro e w' ⟨rfl, rfl⟩))
      go_ret
      exact ⟨ret_bool (sup_eq h1 h2).symm, rfl⟩

theorem sSupports_any (c i : Int) (w : World) :
    Calls Try.prog 25 #[.int .i64 c, .int .i64 i] w fun e w' => e = .returned (.bool (sup c i)) ∧ w = w' := by
  cases h1 : capsOk c
  · go_enter Try.func25, Try.ntmps25
    go_wp2_with (first | (go_at_call 69; refine (l1In_any _ _ _ _).mono ?_; rintro e w' ⟨rfl, rfl⟩) | (go_at_call 68; refine (sCaps_any _ _).mono ?_; rintro e w' ⟨rfl, rfl⟩))
    go_ret
    exact ⟨ret_bool (sup_no1 h1).symm, rfl⟩
  · have H := hide (capsOk_true h1)
    have g1 : 0 ≤ c := H.out.1
    have g2 : c ≤ 30 := H.out.2.1
    cases h2 : inR i 1 4
    · go_enter Try.func25, Try.ntmps25
      go_wp2_with (first | (go_at_call 69; refine (l1In_any _ _ _ _).mono ?_; rintro e w' ⟨rfl, rfl⟩) | (go_at_call 68; refine (sCaps_any _ _).mono ?_; rintro e w' ⟨rfl, rfl⟩))
      go_ret
      exact ⟨ret_bool (sup_no2 h2).symm, rfl⟩
    · have ⟨h3, h4⟩ := inR_true h2
      go_enter Try.func25, Try.ntmps25
      go_wp2_with (first | (go_at_call 69; refine (l1In_any _ _ _ _).mono ?_; rintro e w' ⟨rfl, rfl⟩) | (go_at_call 68; refine (sCaps_any _ _).mono ?_; rintro e w' ⟨rfl, rfl⟩))
      go_ret
      exact ⟨ret_bool (sup_eq h1 h2).symm, rfl⟩

/-- The greatest algorithm of 1..k that both support; 0 if there is none. -/
def selTo (a b : Int) : Nat → Int
  | 0 => 0
  | k + 1 => if sup a (k + 1) && sup b (k + 1) then (k + 1 : Int) else selTo a b k
def sel (a b : Int) : Int := selTo a b 4
theorem selTo_yes {a b : Int} {k : Nat} (h1 : sup a (k + 1) = true) (h2 : sup b (k + 1) = true) : selTo a b (k + 1) = (k + 1 : Int) := by simp [selTo, h1, h2]
theorem selTo_no1 {a b : Int} {k : Nat} (h1 : sup a (k + 1) = false) : selTo a b (k + 1) = selTo a b k := by simp [selTo, h1]
theorem selTo_no2 {a b : Int} {k : Nat} (h2 : sup b (k + 1) = false) : selTo a b (k + 1) = selTo a b k := by simp [selTo, h2]

theorem iSel_any (a b : Int) (w : World) :
    Calls Try.prog 28 #[.int .i64 a, .int .i64 b] w fun e w' => e = .returned (.int .i64 (sel a b)) ∧ w = w' := by
  go_enter Try.func28, Try.ntmps28
  go_wp2_with fail
  go_loop [5] (fun i => ∃ k : Nat, k ≤ 4 ∧ i = .int .i64 k ∧ Hid (sel a b = selTo a b k)) (fun i => (intOf i).toNat)
  case atStart => exact ⟨4, by omega, rfl, hide rfl⟩
  case round =>
    obtain ⟨k, hk, rfl, hs⟩ := hrel
    rcases k with _ | k
    · go_wp2_with fail
      go_ret
      exact ⟨ret_int hs.out.symm, rfl⟩
    · cases h1 : sup a (k + 1)
      · go_wp2_with (go_at_call 27; refine (iSupports_any _ _ _).mono ?_; rintro e w' ⟨rfl, rfl⟩)
        go_round
        case rel => exact ⟨k, by omega, rfl, hide (hs.out.trans (selTo_no1 h1))⟩
        case measure => simp [intOf] <;> omega
      · cases h2 : sup b (k + 1)
        · go_wp2_with (go_at_call 27; refine (iSupports_any _ _ _).mono ?_; rintro e w' ⟨rfl, rfl⟩)
          go_round
          case rel => exact ⟨k, by omega, rfl, hide (hs.out.trans (selTo_no2 h2))⟩
          case measure => simp [intOf] <;> omega
        · go_wp2_with (go_at_call 27; refine (iSupports_any _ _ _).mono ?_; rintro e w' ⟨rfl, rfl⟩)
          go_ret
          exact ⟨ret_int (hs.out.trans (selTo_yes h1 h2)).symm, rfl⟩

theorem sSel_any (a b : Int) (w : World) :
    Calls Try.prog 26 #[.int .i64 a, .int .i64 b] w fun e w' => e = .returned (.int .i64 (sel a b)) ∧ w = w' := by
  go_enter Try.func26, Try.ntmps26
  go_wp2_with fail
  go_loop [5, 6] (fun m i => ∃ (k : Nat) (x : Int), k ≤ 4 ∧ i = .int .i64 ((k : Int) + 1) ∧ m = .int .i64 x ∧ Hid (x = selTo a b k)) (fun _ i => (5 - intOf i).toNat)
  case atStart => exact ⟨0, 0, by omega, rfl, rfl, hide rfl⟩
  case round =>
    obtain ⟨k, x, hk, rfl, rfl, hs⟩ := hrel
    by_cases hk4 : k < 4
    · cases h1 : sup a (k + 1)
      · go_wp2_with (go_at_call 25; refine (sSupports_any _ _ _).mono ?_; rintro e w' ⟨rfl, rfl⟩)
        go_round
        case rel => exact ⟨k + 1, x, by omega, by go_num, rfl, hide (hs.out.trans (selTo_no1 h1).symm)⟩
        case measure => simp [intOf] <;> omega
      · cases h2 : sup b (k + 1)
        · go_wp2_with (go_at_call 25; refine (sSupports_any _ _ _).mono ?_; rintro e w' ⟨rfl, rfl⟩)
          go_round
          case rel => exact ⟨k + 1, x, by omega, by go_num, rfl, hide (hs.out.trans (selTo_no2 h2).symm)⟩
          case measure => simp [intOf] <;> omega
        · go_wp2_with (go_at_call 25; refine (sSupports_any _ _ _).mono ?_; rintro e w' ⟨rfl, rfl⟩)
          go_round
          case rel => exact ⟨k + 1, k + 1, by omega, by go_num, rfl, hide (selTo_yes h1 h2).symm⟩
          case measure => simp [intOf] <;> omega
    · go_wp2_with fail
      go_ret
      exact ⟨ret_int (hs.out.trans (by rw [show k = 4 by omega]; rfl)), rfl⟩
end Go.Proofs.Ytbfmdnlfbadokaa
