/- What Supports and SelectAlgorithm return, for all integers. -/
import Derived.Test.YtldkefjamimoiaaDoorInt
namespace Go.Proofs.YtldkefjamimoiaaDoor
open Go.RowKit Go.Sep

def sup (c i : Int) : Bool := capsOk c && inR i 1 4 && (bits BinOp.and IntKind.i64 (c / 2 ^ i.toNat) 1 == 1)
theorem sup_no1 {c i : Int} (h : capsOk c = false) : sup c i = false := by simp [sup, h]
theorem sup_no2 {c i : Int} (h : inR i 1 4 = false) : sup c i = false := by simp [sup, h]
theorem sup_eq {c i : Int} (h : capsOk c = true) (h' : inR i 1 4 = true) : sup c i = (bits BinOp.and IntKind.i64 (c / 2 ^ i.toNat) 1 == 1) := by simp [sup, h, h']
theorem sup_caps {c i : Int} (h : sup c i = true) : capsOk c = true ∧ 1 ≤ i ∧ i ≤ 4 := by
  simp only [sup, Bool.and_eq_true] at h
  exact ⟨h.1.1, inR_true h.1.2⟩

theorem iSupports_any (c i : Int) (w : World) :
    Calls Tryd.prog 21 #[.int .i64 c, .int .i64 i] w fun e w' => e = .returned (.bool (sup c i)) ∧ w = w' := by
  cases h1 : capsOk c
  · go_enter Tryd.func21, Tryd.ntmps21
    go_wp2_with (first | (go_at_call 32; refine (inRange_any _ _ _ _).mono ?_; rintro e w' ⟨rfl, rfl⟩) | (go_at_call 31; refine (iCaps_any _ _).mono ?_; rintro e w' ⟨rfl, rfl⟩))
    go_ret
    exact ⟨ret_bool (sup_no1 h1).symm, rfl⟩
  · have H := hide (capsOk_true h1)
    have g1 : 0 ≤ c := H.out.1
    have g2 : c ≤ 30 := H.out.2.1
    cases h2 : inR i 1 4
    · go_enter Tryd.func21, Tryd.ntmps21
      go_wp2_with (first | (go_at_call 32; refine (inRange_any _ _ _ _).mono ?_; rintro e w' ⟨rfl, rfl⟩) | (go_at_call 31; refine (iCaps_any _ _).mono ?_; rintro e w' ⟨rfl, rfl⟩))
      go_ret
      exact ⟨ret_bool (sup_no2 h2).symm, rfl⟩
    · have ⟨h3, h4⟩ := inR_true h2
      go_enter Tryd.func21, Tryd.ntmps21
      go_wp2_with (first | (go_at_call 32; refine (inRange_any _ _ _ _).mono ?_; rintro e w' ⟨rfl, rfl⟩) | (go_at_call 31; refine (iCaps_any _ _).mono ?_; rintro e w' ⟨rfl, rfl⟩))
      go_ret
      exact ⟨ret_bool (sup_eq h1 h2).symm, rfl⟩

theorem sSupports_any (c i : Int) (w : World) :
    Calls Tryd.prog 20 #[.int .i64 c, .int .i64 i] w fun e w' => e = .returned (.bool (sup c i)) ∧ w = w' := by
  cases h1 : capsOk c
  · go_enter Tryd.func20, Tryd.ntmps20
    go_wp2_with (first | (go_at_call 30; refine (l1In_any _ _ _ _).mono ?_; rintro e w' ⟨rfl, rfl⟩) | (go_at_call 29; refine (sCaps_any _ _).mono ?_; rintro e w' ⟨rfl, rfl⟩))
    go_ret
    exact ⟨ret_bool (sup_no1 h1).symm, rfl⟩
  · have H := hide (capsOk_true h1)
    have g1 : 0 ≤ c := H.out.1
    have g2 : c ≤ 30 := H.out.2.1
    cases h2 : inR i 1 4
    · go_enter Tryd.func20, Tryd.ntmps20
      go_wp2_with (first | (go_at_call 30; refine (l1In_any _ _ _ _).mono ?_; rintro e w' ⟨rfl, rfl⟩) | (go_at_call 29; refine (sCaps_any _ _).mono ?_; rintro e w' ⟨rfl, rfl⟩))
      go_ret
      exact ⟨ret_bool (sup_no2 h2).symm, rfl⟩
    · have ⟨h3, h4⟩ := inR_true h2
      go_enter Tryd.func20, Tryd.ntmps20
      go_wp2_with (first | (go_at_call 30; refine (l1In_any _ _ _ _).mono ?_; rintro e w' ⟨rfl, rfl⟩) | (go_at_call 29; refine (sCaps_any _ _).mono ?_; rintro e w' ⟨rfl, rfl⟩))
      go_ret
      exact ⟨ret_bool (sup_eq h1 h2).symm, rfl⟩

/-- The greatest algorithm of 1..k that both support; 0 if there is none. -/
def selTo (a b : Int) : Nat → Int
  | 0 => 0
  | k + 1 => if sup a (k + 1) && sup b (k + 1) then (k + 1 : Int) else selTo a b k
def sel (a b : Int) : Int := selTo a b 4
theorem selTo_yes {a b : Int} {k : Nat} (h1 : sup a (k + 1) = true) (h2 : sup b (k + 1) = true) : selTo a b (k + 1) = (k + 1 : Int) := by simp [selTo, h1, h2]
theorem selTo_no1 {a b : Int} {k : Nat} (h1 : sup a (k + 1) = false) : selTo a b (k + 1) = selTo a b k := by simp [selTo, h1]
theorem selTo_no2 {a b : Int} {k : Nat} (h2 : sup b (k + 1) = false) : selTo a b (k + 1) = selTo a b k := by simp [selTo, h2]

end Go.Proofs.YtldkefjamimoiaaDoor
