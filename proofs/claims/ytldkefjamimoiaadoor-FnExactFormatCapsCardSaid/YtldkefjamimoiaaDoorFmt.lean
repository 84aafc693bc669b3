/- FormatInt at 1..4, FormatCaps: what they return, on both sides. -/
import Derived.Test.YtldkefjamimoiaaDoorSel
import Derived.Shelf.Bytes.SlEqualAll
namespace Go.Proofs.YtldkefjamimoiaaDoor
open Go.RowKit Go.Sep

def fiS (i : Nat) : ByteArray := ⟨#[UInt8.ofNat (48 + i)]⟩
theorem iFI_any (i : Nat) (h1 : 1 ≤ i) (h2 : i ≤ 9) (w : World) :
    Calls Tryd.prog 16 #[.int .i64 i] w fun e w' => e = .returned (.string (fiS i)) ∧ w = w' := by
  have h : i = 1 ∨ i = 2 ∨ i = 3 ∨ i = 4 ∨ i = 5 ∨ i = 6 ∨ i = 7 ∨ i = 8 ∨ i = 9 := by omega
  rcases h with rfl | rfl | rfl | rfl | rfl | rfl | rfl | rfl | rfl
  all_goals
    go_enter Tryd.func16, Tryd.ntmps16
    go_wp2_with go_in
    go_ret
    exact ⟨rfl, rfl⟩
theorem fiS_eq {i : Nat} (h1 : 1 ≤ i) (h2 : i ≤ 9) : fiS i = Go.strOfNums [48 + (i : Int)] ++ ⟨#[]⟩ := by
  have h : i = 1 ∨ i = 2 ∨ i = 3 ∨ i = 4 ∨ i = 5 ∨ i = 6 ∨ i = 7 ∨ i = 8 ∨ i = 9 := by omega
  rcases h with rfl | rfl | rfl | rfl | rfl | rfl | rfl | rfl | rfl <;> rfl
theorem sFI_any (i : Nat) (h1 : 1 ≤ i) (h2 : i ≤ 9) (w : World) :
    Calls Tryd.prog 13 #[.int .i64 i] w fun e w' => e = .returned (.string (fiS i)) ∧ Below w.heap.size w w' := by
  have HE := hide (fiS_eq h1 h2)
  have hi0 : ¬ (i : Int) = 0 := by omega
  have hin : ¬ (i : Int) < 0 := by omega
  go_enter Tryd.func13, Tryd.ntmps13
  go_wp2_with fail
  go_loopw [3, 4] (fun s x wr => ((s = .string ⟨#[]⟩ ∧ x = .int .i64 i) ∨ (s = .string (fiS i) ∧ x = .int .i64 0)) ∧ Below w.heap.size w wr) (fun _ x _ => (intOf x).toNat)
  case atStart => exact ⟨.inl ⟨rfl, rfl⟩, Below.refl _ _⟩
  case round =>
    obtain ⟨⟨rfl, rfl⟩ | ⟨rfl, rfl⟩, hb⟩ := hrel
    all_goals have hbs := hb.size
    · have hm : (i : Int) % 10 = i := by omega
      have hd : (i : Int) / 10 = 0 := by omega
      have hbi : Lib.BytesIn (wr.alloc (.cells #[.int .u8 (48 + (i : Int))] 5)) (some ⟨wr.heap.size, 0, none⟩) 1 [48 + (i : Int)] := fun _ => ⟨wr.heap.size, 0, rfl, fun j hj => by
        obtain rfl : j = 0 := by omega
        go_simp⟩
      have hcv := hbi.convert (P := Tryd.prog) rfl 1 47 5 9 Tryd.underlying47 Tryd.underlying5 Tryd.underlying9
      go_wp2_with fail
      go_roundw
      case rel => exact ⟨.inr ⟨by rw [HE.out], rfl⟩, (by (repeat' (first | (with_reducible exact Below.refl _ _) | (with_reducible assumption) | (with_reducible refine Below.alloc ?_ ?_ _) | (with_reducible refine below_ext ?_ ?_ _ _) | (with_reducible refine Below.setCell ?_ ?_ _) | (with_reducible refine Below.drew ?_) | (with_reducible refine below_drewN ?_ _))); all_goals (first | omega | (simp; done) | (simp; omega)))⟩
      case measure => simp [intOf] <;> omega
    · go_wp2_with fail
      go_ret
      exact ⟨rfl, hb⟩
theorem fiS_size {i : Nat} (_h : i < 10) : (fiS i).size = 1 := rfl
theorem loop_len (bs : ByteArray) : ∀ (m i : Nat) (r : List UInt8), bs.size - i = m → (ByteArray.toList.loop bs i r).length = m + r.length := by
  intro m
  induction m with
  | zero => intro i r h; rw [ByteArray.toList.loop, if_neg (by omega)]; simp
  | succ m ih => intro i r h; rw [ByteArray.toList.loop, if_pos (by omega), ih (i + 1) _ (by omega)]; simp; omega
theorem toList_len (S : ByteArray) : S.toList.length = S.size := by
  rw [ByteArray.toList, loop_len S S.size 0 [] (by omega)]; simp
theorem toList_nil {S : ByteArray} (h : S.toList.isEmpty = true) : S = ⟨#[]⟩ := by
  have h1 := toList_len S
  rw [List.isEmpty_iff] at h
  rw [h] at h1
  apply ByteArray.ext
  exact Array.eq_empty_of_size_eq_zero h1.symm
theorem toList_cons {S : ByteArray} (h : S.toList.isEmpty = false) : ¬ S = ⟨#[]⟩ := by
  rintro rfl
  have h1 := toList_len ⟨#[]⟩
  have h2 : (ByteArray.toList ⟨#[]⟩) = [] := List.length_eq_zero_iff.1 h1
  rw [h2] at h
  cases h
/-- What FormatCaps has written behind the algorithms 1..k. -/
def fcS (c : Int) : Nat → ByteArray
  | 0 => ⟨#[]⟩
  | k + 1 => if sup c (k + 1) = true then (if fcS c k = ⟨#[]⟩ then fiS (k + 1) else (fcS c k ++ ⟨#[44]⟩) ++ fiS (k + 1)) else fcS c k
def fcO (c : Int) : ByteArray := if fcS c 4 = ⟨#[]⟩ then ⟨#[45]⟩ else fcS c 4
theorem fcS_no {c : Int} {k : Nat} (h : sup c (k + 1) = false) : fcS c (k + 1) = fcS c k := by simp [fcS, h]
theorem fcS_one {c : Int} {k : Nat} (h : sup c (k + 1) = true) (h2 : fcS c k = ⟨#[]⟩) : fcS c (k + 1) = fiS (k + 1) := by rw [fcS, if_pos h, if_pos h2]
theorem fcS_two {c : Int} {k : Nat} (h : sup c (k + 1) = true) (h2 : ¬ fcS c k = ⟨#[]⟩) : fcS c (k + 1) = (fcS c k ++ ⟨#[44]⟩) ++ fiS (k + 1) := by rw [fcS, if_pos h, if_neg h2]
theorem nil_app (b : ByteArray) : (⟨#[]⟩ : ByteArray) ++ b = b := by
  apply ByteArray.ext
  simp [ByteArray.data_append]
theorem iFC_any (c : Int) (w : World) :
    Calls Tryd.prog 11 #[.int .i64 c] w fun e w' => e = .returned (.string (fcO c)) ∧ Below w.heap.size w w' := by
  go_enter Tryd.func11, Tryd.ntmps11
  go_wp2_with fail
  go_loopw [3, 4] (fun s i wr => ∃ (k : Nat) (S : ByteArray), k ≤ 4 ∧ i = .int .i64 ((k : Int) + 1) ∧ s = .string S ∧ S.size ≤ 2 * k ∧ Hid (S = fcS c k) ∧ Below w.heap.size w wr) (fun _ i _ => 6 - (intOf i).toNat)
  case atStart => exact ⟨0, _, by omega, rfl, rfl, Nat.le_refl _, hide rfl, Below.refl _ _⟩
  case round =>
    obtain ⟨k, S, hk, rfl, rfl, hsz, hS, hb⟩ := hrel
    by_cases hk4 : k < 4
    · have hlt : (k : Int) + 1 ≤ 4 := by omega
      cases hs : sup c (k + 1)
      · go_wp2_with (go_at_call 21; refine (iSupports_any _ _ _).mono ?_; rintro e w' ⟨rfl, rfl⟩)
        go_roundw
        case rel => exact ⟨k + 1, S, by omega, by go_num, rfl, by omega, hide (hS.out.trans (fcS_no hs).symm), hb⟩
        case measure => simp [intOf] <;> omega
      · have HF := hide (iFI_any (k + 1) (by omega) (by omega))
        have ek : ((k + 1 : Nat) : Int) = (k : Int) + 1 := by omega
        rw [ek] at HF
        have hz1 := fiS_size (i := k + 1) (by omega)
        cases hse : S.toList.isEmpty
        · have h3 := fcS_two hs (fun h => toList_cons hse (hS.out.trans h))
          have HQ := hide (show (S ++ ⟨#[44]⟩ ++ fiS (k + 1)) = fcS c (k + 1) by rw [h3, ← hS.out])
          go_wp2_with (first | (go_at_call 21; refine (iSupports_any _ _ _).mono ?_; rintro e w' ⟨rfl, rfl⟩) | (go_at_call 16; refine (HF.out _).mono ?_; rintro e w' ⟨rfl, rfl⟩))
          go_roundw
          case rel => exact ⟨k + 1, _, by omega, by go_num, rfl, by rw [ByteArray.size_append, ByteArray.size_append, hz1, show (⟨#[44]⟩ : ByteArray).size = 1 from rfl]; omega, hide HQ.out, hb⟩
          case measure => simp [intOf] <;> omega
        · have he := toList_nil hse
          have h3 := fcS_one hs (hS.out.symm.trans he)
          clear hse
          subst he
          go_wp2_with (first | (go_at_call 21; refine (iSupports_any _ _ _).mono ?_; rintro e w' ⟨rfl, rfl⟩) | (go_at_call 16; refine (HF.out _).mono ?_; rintro e w' ⟨rfl, rfl⟩))
          go_roundw
          case rel => exact ⟨k + 1, _, by omega, by go_num, rfl, by rw [nil_app, hz1]; omega, hide (by rw [nil_app, h3]), hb⟩
          case measure => simp [intOf] <;> omega
    · have hlt : ¬ (k : Int) + 1 ≤ 4 := by omega
      obtain rfl : k = 4 := by omega
      cases hse : S.toList.isEmpty
      · have HQ := hide (show fcO c = S by rw [fcO, if_neg (fun h => toList_cons hse (hS.out.trans h)), hS.out])
        go_wp2_with fail
        go_ret
        exact ⟨by rw [HQ.out]; rfl, hb⟩
      · have he := toList_nil hse
        have HQ := hide (show fcO c = ⟨#[45]⟩ by rw [fcO, if_pos (hS.out.symm.trans he)])
        clear hse
        subst he
        go_wp2_with fail
        go_ret
        exact ⟨by rw [HQ.out]; rfl, hb⟩
theorem sFC_any (c : Int) (w : World) :
    Calls Tryd.prog 10 #[.int .i64 c] w fun e w' => e = .returned (.string (fcO c)) ∧ Below w.heap.size w w' := by
  go_enter Tryd.func10, Tryd.ntmps10
  go_wp2_with fail
  go_loopw [3, 4] (fun s i wr => ∃ (k : Nat) (S : ByteArray), k ≤ 4 ∧ i = .int .i64 ((k : Int) + 1) ∧ s = .string S ∧ S.size ≤ 2 * k ∧ Hid (S = fcS c k) ∧ Below w.heap.size w wr) (fun _ i _ => 6 - (intOf i).toNat)
  case atStart => exact ⟨0, _, by omega, rfl, rfl, Nat.le_refl _, hide rfl, Below.refl _ _⟩
  case round =>
    obtain ⟨k, S, hk, rfl, rfl, hsz, hS, hb⟩ := hrel
    by_cases hk4 : k < 4
    · have hlt : (k : Int) + 1 ≤ 4 := by omega
      cases hs : sup c (k + 1)
      · go_wp2_with (go_at_call 20; refine (sSupports_any _ _ _).mono ?_; rintro e w' ⟨rfl, rfl⟩)
        go_roundw
        case rel => exact ⟨k + 1, S, by omega, by go_num, rfl, by omega, hide (hS.out.trans (fcS_no hs).symm), hb⟩
        case measure => simp [intOf] <;> omega
      · have HF := hide (sFI_any (k + 1) (by omega) (by omega))
        have ek : ((k + 1 : Nat) : Int) = (k : Int) + 1 := by omega
        rw [ek] at HF
        have hz1 := fiS_size (i := k + 1) (by omega)
        cases hse : S.toList.isEmpty
        · have h3 := fcS_two hs (fun h => toList_cons hse (hS.out.trans h))
          have HQ := hide (show (S ++ ⟨#[44]⟩ ++ fiS (k + 1)) = fcS c (k + 1) by rw [h3, ← hS.out])
          go_wp2_with (first | (go_at_call 20; refine (sSupports_any _ _ _).mono ?_; rintro e w' ⟨rfl, rfl⟩) | (go_at_call 13; refine (HF.out _).mono ?_; rintro e w2 ⟨rfl, hb2⟩))
          go_roundw
          case rel => exact ⟨k + 1, _, by omega, by go_num, rfl, by rw [ByteArray.size_append, ByteArray.size_append, hz1, show (⟨#[44]⟩ : ByteArray).size = 1 from rfl]; omega, hide HQ.out, below_then hb hb2 hb.size⟩
          case measure => simp [intOf] <;> omega
        · have he := toList_nil hse
          have h3 := fcS_one hs (hS.out.symm.trans he)
          clear hse
          subst he
          go_wp2_with (first | (go_at_call 20; refine (sSupports_any _ _ _).mono ?_; rintro e w' ⟨rfl, rfl⟩) | (go_at_call 13; refine (HF.out _).mono ?_; rintro e w2 ⟨rfl, hb2⟩))
          go_roundw
          case rel => exact ⟨k + 1, _, by omega, by go_num, rfl, by rw [nil_app, hz1]; omega, hide (by rw [nil_app, h3]), below_then hb hb2 hb.size⟩
          case measure => simp [intOf] <;> omega
    · have hlt : ¬ (k : Int) + 1 ≤ 4 := by omega
      obtain rfl : k = 4 := by omega
      cases hse : S.toList.isEmpty
      · have HQ := hide (show fcO c = S by rw [fcO, if_neg (fun h => toList_cons hse (hS.out.trans h)), hS.out])
        go_wp2_with fail
        go_ret
        exact ⟨by rw [HQ.out]; rfl, hb⟩
      · have he := toList_nil hse
        have HQ := hide (show fcO c = ⟨#[45]⟩ by rw [fcO, if_pos (hS.out.symm.trans he)])
        clear hse
        subst he
        go_wp2_with fail
        go_ret
        exact ⟨by rw [HQ.out]; rfl, hb⟩
theorem fnExactFormatCaps.walk (c : Int) (w : World) :
    Calls Tryd.prog 4 #[.int .i64 c] w fun e w' => e = .returned (.bool true) ∧ Below w.heap.size w w' := by
  have HS := hide (sFC_any c)
  have HI := hide (iFC_any c)
  generalize fcO c = r at HS HI
  go_enter Tryd.func4, Tryd.ntmps4
  go_wp2_with fail
  refine (HS.out _).mono ?_
  rintro e w1 ⟨rfl, hb1⟩
  go_wp2_with fail
  refine (HI.out _).mono ?_
  rintro e w2 ⟨rfl, hb2⟩
  have hb := below_then hb1 hb2 hb1.size
  go_wp2_with fail
  go_ret
  exact ⟨rfl, hb⟩
end Go.Proofs.YtldkefjamimoiaaDoor
