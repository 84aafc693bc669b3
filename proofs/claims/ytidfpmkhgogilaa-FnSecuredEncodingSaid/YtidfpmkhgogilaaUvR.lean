/- ReadUvarint: what it returns, on both sides. -/
import Derived.Test.YtidfpmkhgogilaaUvW
import Derived.IntWalk
namespace Go.Proofs.Ytidfpmkhgogilaa
open Go.RowKit Go.Sep

def rdV (t : Int × Int × Bool) : Value := .tuple #[.int .i64 t.1, .int .i64 t.2.1, .bool t.2.2]
def rdO : Option (Int × Nat) → Int × Int × Bool
  | none => (0, 0, false)
  | some (v, e) => (v, (e : Int), true)
def rdR (b : List Int) (off : Int) : Int × Int × Bool := if off < 0 then (0, 0, false) else rdO (rdF b off.toNat 6 0 0)
theorem rdR_neg {b : List Int} {off : Int} (h : off < 0) : rdR b off = (0, 0, false) := if_pos h
theorem rdR_nat (b : List Int) (o : Nat) : rdR b (o : Int) = rdO (rdF b o 6 0 0) := by rw [rdR, if_neg (by omega), Int.toNat_natCast]
theorem rdF_zero {b : List Int} {off k : Nat} {n : Int} : rdF b off 0 k n = none := rfl
/-- The bits of a byte, laid above those that were read. -/
theorem group8 {x : Int} (h : 0 ≤ x) (h' : x ≤ 255) : bits .and .u8 x 127 = x % 128 := bits_mask .u8 8 (by decide) wraps_u8 7 (by decide) x h (by omega)
theorem group64 {x : Int} (h : 0 ≤ x) (h' : x ≤ 255) : bits .and .i64 x 127 = x % 128 := bits_mask .i64 63 (by decide) (fun n h0 h1 => by rw [IntKind.wrap_i64]; omega) 7 (by decide) x h (by omega)
theorem join64 {n g : Int} {k : Nat} (hk : k ≤ 5) (hn : 0 ≤ n) (hn2 : n < 128 ^ k) (hg : 0 ≤ g) (hg2 : g ≤ 127) : bits .or .i64 n (g * 128 ^ k) = n + g * 128 ^ k := by
  have hp : (128 : Int) ^ k = 2 ^ (7 * k) := by rw [Int.pow_mul]; rfl
  have hcomm : bits .or .i64 n (g * 128 ^ k) = bits .or .i64 (g * 128 ^ k) n := by
    simp only [bits]
    rw [BitVec.or_comm]
  have hpos : (0 : Int) < 128 ^ k := pow_pos128 k
  have hgp : 0 ≤ g * 128 ^ k := Int.mul_nonneg hg (by omega)
  have hle : (128 : Int) ^ k ≤ 34359738368 := by
    rcases k with _ | _ | _ | _ | _ | _ | k <;> first | decide | omega
  have hgp2 : g * 128 ^ k ≤ 127 * 34359738368 := Int.le_trans (Int.mul_le_mul_of_nonneg_right hg2 (by omega)) (Int.mul_le_mul_of_nonneg_left hle (by omega))
  rw [hcomm, bits_join .i64 63 (by decide) (fun n h0 h1 => by rw [IntKind.wrap_i64]; omega) (7 * k) _ n hgp (by rw [hp]; exact Int.mul_emod_left _ _) (by omega) hn (by rw [← hp]; exact hn2) (by omega), Int.add_comm]
theorem grown {n g : Int} {k : Nat} (hn : 0 ≤ n) (hn2 : n < 128 ^ k) (hg : 0 ≤ g) (hg2 : g ≤ 127) : 0 ≤ n + g * 128 ^ k ∧ n + g * 128 ^ k < 128 ^ (k + 1) := by
  have hpos : (0 : Int) < 128 ^ k := pow_pos128 k
  have hgp : 0 ≤ g * 128 ^ k := Int.mul_nonneg hg (by omega)
  have : g * 128 ^ k ≤ 127 * 128 ^ k := Int.mul_le_mul_of_nonneg_right hg2 (by omega)
  rw [Int.pow_succ]
  omega
theorem pow_le5 {k : Nat} (hk : k ≤ 5) : (128 : Int) ^ k ≤ 34359738368 := by
  rcases k with _ | _ | _ | _ | _ | _ | k <;> first | decide | omega

set_option maxRecDepth 100000 in
theorem iRdU_nat (w : World) (A : Option Addr) (n c lo hi : Nat) (l : List Int) (off : Nat) (hr : Rd w lo hi 1 A n (l.map (.int .u8))) (hn : n ≤ 8388608) (h8 : B8 l) (ho : off ≤ 9223372036854775807) :
    Calls Try.prog 75 #[.slice A n c, .int .i64 off] w fun e w' => e = .returned (rdV (rdO (rdF l off 6 0 0))) ∧ Below w.heap.size w w' := by
  have hll : l.length = n := by simpa using hr.len
  by_cases hin : off < n
  · go_enter Try.func75, Try.ntmps75
    go_wp2_with fail
    go_loopw [7, 8] (fun q i wr => ∃ (f k : Nat) (x : Int), f + k = 6 ∧ i = .int .i64 k ∧ q = .int .i64 x ∧ 0 ≤ x ∧ Hid (x < 128 ^ k) ∧ Hid (rdF l off 6 0 0 = rdF l off f k x) ∧ Below w.heap.size w wr) (fun _ i _ => 6 - (intOf i).toNat)
    case atStart => exact ⟨6, 0, 0, rfl, rfl, rfl, Int.le_refl _, hide (by decide), hide rfl, Below.refl _ _⟩
    case round =>
      obtain ⟨f, k, x, hfk, rfl, rfl, hx0, HX, HF, hb⟩ := hrel
      rcases f with _ | f
      · have HG := hide (HF.out.trans rdF_zero)
        obtain rfl : k = 6 := by omega
        clear HF
        go_wp2_with fail
        go_ret3
        exact ⟨by rw [HG.out]; rfl, hb⟩
      · by_cases hpos : off + k < n
        · obtain ⟨b, o, rfl, _, _, hcell⟩ := (hr.below' hb).at_ (j := off + k) (by omega)
          have hkl : off + k < l.length := by omega
          have hx := hcell (off + k) (.int .u8 l[off + k]) (by simp [hkl])
          have hg : l[off + k]? = some l[off + k] := List.getElem?_eq_getElem hkl
          obtain ⟨hz0, hz1⟩ := h8.at_ _ hkl
          have hd1 : (off : Int) + (k : Int) < (n : Int) := by omega
          generalize l[off + k] = z at hx hg hz0 hz1
          clear hcell
          have hp2 : (2 : Int) ^ (7 * k) = 128 ^ k := by rw [Int.pow_mul]; rfl
          have HG0 := hide (grown hx0 HX.out (show 0 ≤ z % 128 by omega) (show z % 128 ≤ 127 by omega))
          have HJ0 := hide (join64 (n := x) (g := z % 128) (k := k) (by omega) hx0 HX.out (by omega) (by omega))
          have hbd : 0 ≤ z % 128 * 128 ^ k ∧ z % 128 * 128 ^ k ≤ 4363686772736 := ⟨Int.mul_nonneg (by omega) (Int.le_of_lt (pow_pos128 k)), Int.le_trans (Int.mul_le_mul_of_nonneg_right (show z % 128 ≤ 127 by omega) (Int.le_of_lt (pow_pos128 k))) (Int.le_trans (Int.mul_le_mul_of_nonneg_left (pow_le5 (show k ≤ 5 by omega)) (by decide)) (by decide))⟩
          have hxb : x ≤ 34359738368 := by have := HX.out; have := pow_le5 (show k ≤ 5 by omega); omega
          have HM := hide (fun h => rdF_more (off := off) (f := f) (n := x) hg h)
          have HB0 := hide (fun h h' h'' => rdF_bad0 (off := off) (f := f) (n := x) hg h h' h'')
          have HB1 := hide (fun h h' => rdF_bad1 (off := off) (f := f) (n := x) hg h h')
          have HO := hide (fun h h' h'' => rdF_ok (off := off) (f := f) (n := x) hg h h' h'')
          by_cases hbig : 128 ≤ z
          · have HG := hide (HF.out.trans (HM.out hbig))
            have hz9 : decide (128 ≤ z) = true := by simpa using hbig
            have h1 : bits .and .u8 z 127 = z % 128 := group8 hz0 hz1
            generalize hGe : z % 128 * 128 ^ k = G at HG0 HJ0 hbd HG
            have h2 : z % 128 * 2 ^ (7 * k) = G := by rw [hp2]; exact hGe
            have h4 := HJ0.out
            have hgr := HG0.out
            clear HM HB0 HB1 HO HF hg hp2 hGe HX hr h8 HJ0 HG0
            have HX2 := hide hgr.2
            have hx2 := hgr.1
            clear hgr
            go_wp2_with fail
            go_roundw
            case rel => exact ⟨f, k + 1, x + G, by omega, by go_num, rfl, hx2, HX2, HG, hb⟩
            case measure => simp [intOf] <;> omega
          · have hzz : z % 128 = z := by omega
            have hz9 : decide (128 ≤ z) = false := by simpa using hbig
            rw [hzz] at HG0 HJ0 hbd
            have h1 : bits .and .u8 z 127 = z := (group8 hz0 hz1).trans hzz
            by_cases hb0 : 0 < k ∧ z = 0
            · have HG := hide (HF.out.trans (HB0.out hbig hb0.1 (by omega)))
              obtain ⟨hk0, rfl⟩ := hb0
              have hd2 : decide ((0 : Int) < (k : Int)) = true := by simp; omega
              have h2 : (0 : Int) * 2 ^ (7 * k) = 0 := Int.zero_mul _
              have h4 := HJ0.out
              rw [Int.zero_mul] at h4
              clear HM HB0 HB1 HO HF hg hp2 HX hr h8 HJ0 HG0 hbd hzz hbig
              go_wp2_with fail
              go_ret3
              exact ⟨by rw [HG.out]; rfl, hb⟩
            · have hk9 : k = 0 ∨ (z == 0) = false := by
                by_cases h : k = 0
                · exact .inl h
                · exact .inr (by simp; omega)
              have HB1' := hide (fun h' => HB1.out hbig h')
              have HO' := hide (fun h'' => HO.out hbig (by omega) h'')
              rw [hzz] at HB1' HO'
              generalize hGe : z * 128 ^ k = G at HG0 HJ0 hbd HB1' HO'
              have h2 : z * 2 ^ (7 * k) = G := by rw [hp2]; exact hGe
              have h4 := HJ0.out
              clear HM HB0 HB1 HO hg hp2 hGe HX hr h8 HJ0 HG0 hzz hb0 hbig
              by_cases hmx : 1000000000000 < x + G
              · have HG := hide (HF.out.trans (HB1'.out hmx))
                clear HB1' HO' HF
                rcases hk9 with hk9 | hk9
                · have hnk : ¬ 0 < k := by omega
                  clear hk9
                  go_wp2_with fail
                  all_goals
                    go_ret3
                    exact ⟨by rw [HG.out]; rfl, hb⟩
                · go_wp2_with fail
                  all_goals
                    go_ret3
                    exact ⟨by rw [HG.out]; rfl, hb⟩
              · have HG := hide (HF.out.trans (HO'.out hmx))
                clear HB1' HO' HF
                rcases hk9 with hk9 | hk9
                · have hnk : ¬ 0 < k := by omega
                  clear hk9
                  go_wp2_with fail
                  all_goals
                    go_ret3
                    exact ⟨by rw [HG.out]; simp [rdV, rdO], hb⟩
                · go_wp2_with fail
                  all_goals
                    go_ret3
                    exact ⟨by rw [HG.out]; simp [rdV, rdO], hb⟩
        · have HG := hide (HF.out.trans (rdF_none (List.getElem?_eq_none (by omega))))
          clear HF
          go_wp2_with fail
          go_ret3
          exact ⟨by rw [HG.out]; rfl, hb⟩
  · have HG := hide (show rdF l off 6 0 0 = none from rdF_none (List.getElem?_eq_none (by omega)))
    go_enter Try.func75, Try.ntmps75
    go_wp2_with fail
    go_ret3
    exact ⟨by rw [HG.out]; rfl, (by (repeat' (first | (with_reducible exact Below.refl _ _) | (with_reducible assumption) | (with_reducible refine Below.alloc ?_ ?_ _) | (with_reducible refine below_ext ?_ ?_ _ _) | (with_reducible refine Below.setCell ?_ ?_ _) | (with_reducible refine Below.drew ?_) | (with_reducible refine below_drewN ?_ _))); all_goals (first | omega | (simp; done) | (simp; omega)))⟩
set_option maxRecDepth 100000 in
theorem sRdU_nat (w : World) (A : Option Addr) (n c lo hi : Nat) (l : List Int) (off : Nat) (hr : Rd w lo hi 1 A n (l.map (.int .u8))) (hn : n ≤ 8388608) (h8 : B8 l) (ho : off ≤ 9223372036854775000) :
    Calls Try.prog 69 #[.slice A n c, .int .i64 off] w fun e w' => e = .returned (rdV (rdO (rdF l off 6 0 0))) ∧ Below w.heap.size w w' := by
  have hll : l.length = n := by simpa using hr.len
  go_enter Try.func69, Try.ntmps69
  go_wp2_with fail
  go_loopw [7, 8] (fun q i wr => ∃ (f k : Nat) (x : Int), f + k = 6 ∧ i = .int .i64 k ∧ q = .int .i64 x ∧ 0 ≤ x ∧ Hid (x < 128 ^ k) ∧ Hid (rdF l off 6 0 0 = rdF l off f k x) ∧ Below w.heap.size w wr) (fun _ i _ => 6 - (intOf i).toNat)
  case atStart => exact ⟨6, 0, 0, rfl, rfl, rfl, Int.le_refl _, hide (by decide), hide rfl, Below.refl _ _⟩
  case round =>
    obtain ⟨f, k, x, hfk, rfl, rfl, hx0, HX, HF, hb⟩ := hrel
    rcases f with _ | f
    · have HG := hide (HF.out.trans rdF_zero)
      obtain rfl : k = 6 := by omega
      clear HF
      go_wp2_with fail
      go_ret3
      exact ⟨by rw [HG.out]; rfl, hb⟩
    · have hk6 : (k : Int) < 6 := by omega
      by_cases hpos : off + k < n
      · obtain ⟨b, o, rfl, _, _, hcell⟩ := (hr.below' hb).at_ (j := off + k) (by omega)
        have hkl : off + k < l.length := by omega
        have hx := hcell (off + k) (.int .u8 l[off + k]) (by simp [hkl])
        have hg : l[off + k]? = some l[off + k] := List.getElem?_eq_getElem hkl
        obtain ⟨hz0, hz1⟩ := h8.at_ _ hkl
        have hd1 : (off : Int) + (k : Int) < (n : Int) := by omega
        have hd3 : decide ((n : Int) - (k : Int) ≤ (off : Int)) = false := by simp; omega
        generalize l[off + k] = z at hx hg hz0 hz1
        clear hcell
        have hp2 : (2 : Int) ^ (7 * k) = 128 ^ k := by rw [Int.pow_mul]; rfl
        have HG0 := hide (grown hx0 HX.out (show 0 ≤ z % 128 by omega) (show z % 128 ≤ 127 by omega))
        have HJ0 := hide (join64 (n := x) (g := z % 128) (k := k) (by omega) hx0 HX.out (by omega) (by omega))
        have hbd : 0 ≤ z % 128 * 128 ^ k ∧ z % 128 * 128 ^ k ≤ 4363686772736 := ⟨Int.mul_nonneg (by omega) (Int.le_of_lt (pow_pos128 k)), Int.le_trans (Int.mul_le_mul_of_nonneg_right (show z % 128 ≤ 127 by omega) (Int.le_of_lt (pow_pos128 k))) (Int.le_trans (Int.mul_le_mul_of_nonneg_left (pow_le5 (show k ≤ 5 by omega)) (by decide)) (by decide))⟩
        have hxb : x ≤ 34359738368 := by have := HX.out; have := pow_le5 (show k ≤ 5 by omega); omega
        have HM := hide (fun h => rdF_more (off := off) (f := f) (n := x) hg h)
        have HB0 := hide (fun h h' h'' => rdF_bad0 (off := off) (f := f) (n := x) hg h h' h'')
        have HB1 := hide (fun h h' => rdF_bad1 (off := off) (f := f) (n := x) hg h h')
        have HO := hide (fun h h' h'' => rdF_ok (off := off) (f := f) (n := x) hg h h' h'')
        by_cases hbig : 128 ≤ z
        · have HG := hide (HF.out.trans (HM.out hbig))
          have hz9 : decide (z < 128) = false := by simpa using hbig
          have h1 : bits .and .i64 z 127 = z % 128 := group64 hz0 hz1
          generalize hGe : z % 128 * 128 ^ k = G at HG0 HJ0 hbd HG
          have h2 : z % 128 * 2 ^ (7 * k) = G := by rw [hp2]; exact hGe
          have h4 := HJ0.out
          have hgr := HG0.out
          clear HM HB0 HB1 HO HF hg hp2 hGe HX hr h8 HJ0 HG0
          have HX2 := hide hgr.2
          have hx2 := hgr.1
          clear hgr
          go_wp2_with fail
          go_roundw
          case rel => exact ⟨f, k + 1, x + G, by omega, by go_num, rfl, hx2, HX2, HG, hb⟩
          case measure => simp [intOf] <;> omega
        · have hzz : z % 128 = z := by omega
          have hz9 : decide (z < 128) = true := by simpa using hbig
          rw [hzz] at HG0 HJ0 hbd
          have h1 : bits .and .i64 z 127 = z := (group64 hz0 hz1).trans hzz
          by_cases hb0 : 0 < k ∧ z = 0
          · have HG := hide (HF.out.trans (HB0.out hbig hb0.1 (by omega)))
            obtain ⟨hk0, rfl⟩ := hb0
            have hd2 : decide ((0 : Int) < (k : Int)) = true := by simp; omega
            have h2 : (0 : Int) * 2 ^ (7 * k) = 0 := Int.zero_mul _
            have h4 := HJ0.out
            rw [Int.zero_mul] at h4
            clear HM HB0 HB1 HO HF hg hp2 HX hr h8 HJ0 HG0 hbd hzz hbig
            go_wp2_with fail
            go_ret3
            exact ⟨by rw [HG.out]; rfl, hb⟩
          · have hk9 : k = 0 ∨ (z == 0) = false := by
              by_cases h : k = 0
              · exact .inl h
              · exact .inr (by simp; omega)
            have HB1' := hide (fun h' => HB1.out hbig h')
            have HO' := hide (fun h'' => HO.out hbig (by omega) h'')
            rw [hzz] at HB1' HO'
            generalize hGe : z * 128 ^ k = G at HG0 HJ0 hbd HB1' HO'
            have h2 : z * 2 ^ (7 * k) = G := by rw [hp2]; exact hGe
            have h4 := HJ0.out
            clear HM HB0 HB1 HO hg hp2 hGe HX hr h8 HJ0 HG0 hzz hb0 hbig
            by_cases hmx : 1000000000000 < x + G
            · have HG := hide (HF.out.trans (HB1'.out hmx))
              clear HB1' HO' HF
              rcases hk9 with hk9 | hk9
              · have hnk : ¬ 0 < k := by omega
                clear hk9
                go_wp2_with fail
                all_goals
                  go_ret3
                  exact ⟨by rw [HG.out]; rfl, hb⟩
              · go_wp2_with fail
                all_goals
                  go_ret3
                  exact ⟨by rw [HG.out]; rfl, hb⟩
            · have HG := hide (HF.out.trans (HO'.out hmx))
              clear HB1' HO' HF
              rcases hk9 with hk9 | hk9
              · have hnk : ¬ 0 < k := by omega
                clear hk9
                go_wp2_with fail
                all_goals
                  go_ret3
                  exact ⟨by rw [HG.out]; simp [rdV, rdO], hb⟩
              · go_wp2_with fail
                all_goals
                  go_ret3
                  exact ⟨by rw [HG.out]; simp [rdV, rdO], hb⟩
      · have HG := hide (HF.out.trans (rdF_none (List.getElem?_eq_none (by omega))))
        have hd3 : decide ((n : Int) - (k : Int) ≤ (off : Int)) = true := by simp; omega
        clear HF hr h8
        go_wp2_with fail
        go_ret3
        exact ⟨by rw [HG.out]; rfl, hb⟩
theorem iRdU_no (w : World) (A : Option Addr) (n c lo hi : Nat) (l : List Int) (off : Nat) (hr : Rd w lo hi 1 A n (l.map (.int .u8))) (hn : n ≤ 8388608) (h8 : B8 l) (ho : off ≤ 9223372036854775000) (h : rdF l off 6 0 0 = none) :
    Calls Try.prog 75 #[.slice A n c, .int .i64 off] w fun e w' => e = .returned (.tuple #[.int .i64 0, .int .i64 0, .bool false]) ∧ Below w.heap.size w w' := by
  have := iRdU_nat w A n c lo hi l off hr hn h8 (by omega)
  rw [h] at this
  exact this
theorem iRdU_yes (w : World) (A : Option Addr) (n c lo hi : Nat) (l : List Int) (off : Nat) (hr : Rd w lo hi 1 A n (l.map (.int .u8))) (hn : n ≤ 8388608) (h8 : B8 l) (ho : off ≤ 9223372036854775000) {v : Int} {e : Nat} (h : rdF l off 6 0 0 = some (v, e)) :
    Calls Try.prog 75 #[.slice A n c, .int .i64 off] w fun x w' => x = .returned (.tuple #[.int .i64 v, .int .i64 e, .bool true]) ∧ Below w.heap.size w w' := by
  have := iRdU_nat w A n c lo hi l off hr hn h8 (by omega)
  rw [h] at this
  exact this
theorem sRdU_no (w : World) (A : Option Addr) (n c lo hi : Nat) (l : List Int) (off : Nat) (hr : Rd w lo hi 1 A n (l.map (.int .u8))) (hn : n ≤ 8388608) (h8 : B8 l) (ho : off ≤ 9223372036854775000) (h : rdF l off 6 0 0 = none) :
    Calls Try.prog 69 #[.slice A n c, .int .i64 off] w fun e w' => e = .returned (.tuple #[.int .i64 0, .int .i64 0, .bool false]) ∧ Below w.heap.size w w' := by
  have := sRdU_nat w A n c lo hi l off hr hn h8 (by omega)
  rw [h] at this
  exact this
theorem sRdU_yes (w : World) (A : Option Addr) (n c lo hi : Nat) (l : List Int) (off : Nat) (hr : Rd w lo hi 1 A n (l.map (.int .u8))) (hn : n ≤ 8388608) (h8 : B8 l) (ho : off ≤ 9223372036854775000) {v : Int} {e : Nat} (h : rdF l off 6 0 0 = some (v, e)) :
    Calls Try.prog 69 #[.slice A n c, .int .i64 off] w fun x w' => x = .returned (.tuple #[.int .i64 v, .int .i64 e, .bool true]) ∧ Below w.heap.size w w' := by
  have := sRdU_nat w A n c lo hi l off hr hn h8 (by omega)
  rw [h] at this
  exact this
end Go.Proofs.Ytidfpmkhgogilaa
