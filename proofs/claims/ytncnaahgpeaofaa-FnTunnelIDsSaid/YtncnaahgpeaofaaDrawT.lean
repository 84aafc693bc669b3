/- Tunnels drawn: a list of at most 21 tunnels, the cursor still good. -/
import Derived.Test.YtncnaahgpeaofaaDraw
import Derived.Test.YtncnaahgpeaofaaOpT2
import Derived.Test.YtncnaahgpeaofaaTunP
namespace Go.Proofs.Ytncnaahgpeaofaa
open Go.RowKit Go.Sep

theorem op_grow {l : List (Int × Int)} {n : Nat} {p : Int} (hl : l.length = n) (h : (opL l n p).1.length ≠ n) : n < (opL l n p).1.length := by
  have := gap_le 0 l
  unfold opL at h ⊢
  split at h
  · exact absurd hl h
  · rename_i hc
    rw [if_neg hc]
    simp
    omega
/-- What a call leaves that draws tunnels. -/
def DrewT (g : Nat) (A : Option Addr) (n c m : Nat) (w : World) (e : Ending) (w' : World) : Prop :=
  ∃ (A' : Option Addr) (k c' : Nat) (L : List (Int × Int)), e = .returned (.slice A' k c') ∧ L.length = k ∧ k ≤ m ∧ Own w' w.heap.size w'.heap.size 50 2 (.slice A' k c') k (L.flatMap c2) ∧ k ≤ c' ∧ c' ≤ maxLen ∧ Cur w' g A n c ∧ Chg g (g + 1) w w'
/-- What the loop of a draw keeps. -/
def DtRel (g : Nat) (A : Option Addr) (n c : Nat) (w : World) (b : Nat) (q : Value) (wr : World) : Prop :=
  ∃ (k : Nat) (A' : Option Addr) (c' : Nat) (L : List (Int × Int)), k ≤ b ∧ q = .slice A' k c' ∧ k ≤ c' ∧ c' ≤ maxLen ∧ Hid (L.length = k) ∧ Own wr w.heap.size wr.heap.size 50 2 (.slice A' k c') k (L.flatMap c2) ∧ Cur wr g A n c ∧ Chg g (g + 1) w wr
set_option maxHeartbeats 1000000 in
set_option maxRecDepth 100000 in
theorem sDraw12_any (w : World) (g : Nat) (A : Option Addr) (n c lo hi : Nat) (l : List Int) (hC : Cur w g A n c) (hr : Rd w lo hi 1 A n (l.map (.int .u8))) (hn : n ≤ 16777216) (h8 : ∀ x ∈ l, 0 ≤ x ∧ x ≤ 255) (hg : hi ≤ g) :
    Calls Try.prog 56 #[.pointer (some ⟨g, 0, none⟩)] w (DrewT g A n c 8 w) := by
  have hgl := hC.lt
  have hown0 := own0 w 50 2 w.heap.size rfl
  have hC0 : Cur (w.alloc (.cells #[] 50)) g A n c := hC.below' (by (repeat' (first | (with_reducible exact Below.refl _ _) | (with_reducible assumption) | (with_reducible refine Below.alloc ?_ ?_ _) | (with_reducible refine below_ext ?_ ?_ _ _) | (with_reducible refine Below.setCell ?_ ?_ _) | (with_reducible refine Below.drew ?_) | (with_reducible refine below_drewN ?_ _))); all_goals (first | omega | (simp; done) | (simp; omega)))
  have hr0 := hr.alloc (.cells #[] 50)
  have hch0 : Chg g (g + 1) w (w.alloc (.cells #[] 50)) := (Chg.refl _ _ _).alloc _
  go_enter Try.func56, Try.ntmps56
  go_wp2_with fail
  refine (sBelow_any _ g A n c lo hi l _ hC0 hr0 hn h8 hg (by omega)).mono ?_
  rintro e w1 ⟨i0, rfl, ⟨hi0, hi1⟩, hC1, hch1⟩
  have hi8 := hi1 (by omega)
  have hs1 := hch1.size
  simp at hs1
  have HR0 := hide (show DtRel g A n c w (8 - i0.toNat) (.slice (some ⟨w.heap.size, 0, none⟩) 0 0) w1 from ⟨0, _, 0, [], by omega, rfl, Nat.le_refl _, by unfold maxLen; omega, hide rfl, ((hown0.chg hch1 (.inr (by omega))).more (Nat.le_refl _) (by omega)), hC1, hch0.trans hch1⟩)
  clear hi1 hown0 hC0 hr0 hC1 hch1 hch0
  go_wp2_with fail
  go_loopw [3, 4] (fun q i wr => ∃ j : Nat, j ≤ 8 ∧ i = .int .i64 j ∧ DtRel g A n c w (8 - j) q wr) (fun _ i _ => (intOf i).toNat)
  case atStart => exact ⟨i0.toNat, by omega, by rw [Int.toNat_of_nonneg hi0], HR0.out⟩
  case round =>
    clear HR0
    obtain ⟨j, hj8, rfl, k, A', c', L, hkb, rfl, hkc, hcm, HL, hown, hC1, hch⟩ := hrel
    have hrw := hr.chg hch (.inl hg)
    have hsz := hch.size
    by_cases hlt : 0 < j
    · have hlt' : (0 : Int) < (j : Int) := by omega
      go_wp2_with fail
      refine (sBelow_any _ g A n c lo hi l _ hC1 hrw hn h8 hg (by omega)).mono ?_
      rintro e w2 ⟨p, rfl, ⟨hp0, hp1⟩, hC2, hch2⟩
      have hown2 := hown.chg hch2 (.inr (by omega))
      have hrw2 := hrw.chg hch2 (.inl hg)
      have hs2 := hch2.size
      have hchB := hch.trans hch2
      clear hp1 hown hC1 hch hch2 hrw
      have HO := hide (sOpen_any w2 A' k c' _ _ L p hown2.rd (by omega) hkc)
      have hol := op_len L k p
      generalize opL L k p = O at HO hol
      obtain ⟨L2, z⟩ := O
      simp only at HO hol
      go_wp2_with fail
      refine (unhide HO).mono ?_
      rintro e w3 ⟨A3, c3', rfl, hc3, hm3, ho3, hb3⟩
      have hC3 := hC2.below' hb3
      have hrw3 := hrw2.below' hb3
      have hs3 := hb3.size
      have hchC := hchB.trans (Chg.of_below hb3 g (g + 1))
      have hl3 := HL.out
      clear hown2 hC2 hchB hrw2 hb3
      go_wp2_with fail
      refine (sOnce_any _ g A n c lo hi l _ hC3 hrw3 hn h8 hg (by omega)).mono ?_
      rintro e w4 ⟨b, rfl, hC4, hch4⟩
      have ho4 := ho3.chg hch4 (.inr (by omega))
      have hrw4 := hrw3.chg hch4 (.inl hg)
      have hs4 := hch4.size
      have hchD := hchC.trans hch4
      clear ho3 hC3 hchC hrw3 hch4
      cases b
      · have HREL := hide (show DtRel g A n c w (8 - (j - 1)) (.slice A3 L2.length c3') w4 from ⟨_, A3, c3', L2, by omega, rfl, hc3, hm3, hide rfl, ho4.more (by omega) hs4, hC4, hchD⟩)
        clear ho4 hC4 hrw4 hchD hl3
        go_wp2_with fail
        go_roundw
        case rel => exact ⟨j - 1, by omega, by go_num, HREL.out⟩
        case measure => simp [intOf] <;> omega
      · go_wp2_with fail
        refine (sBelow_any _ g A n c lo hi l _ hC4 hrw4 hn h8 hg (by omega)).mono ?_
        rintro e w5 ⟨q, rfl, ⟨hq0, hq1⟩, hC5, hch5⟩
        have hq4 := hq1 (by omega)
        have ho5 := ho4.chg hch5 (.inr (by omega))
        have hrw5 := hrw4.chg hch5 (.inl hg)
        have hs5 := hch5.size
        have hchE := hchD.trans hch5
        clear ho4 hC4 hchD hrw4 hch5 hq1
        have HX := hide (sClose_any w5 A3 L2.length c3' _ _ L2 (1 + q) ho5.rd (by omega))
        have hfl := fm_len (fClose (1 + q)) L2
        generalize L2.filterMap (fClose (1 + q)) = L3 at HX hfl
        go_wp2_with fail
        refine (unhide HX).mono ?_
        rintro e w6 ⟨A6, c6, rfl, hc6, hm6, ho6, hb6⟩
        have HREL := hide (show DtRel g A n c w (8 - (j - 1)) (.slice A6 L3.length c6) w6 from ⟨_, A6, c6, L3, by omega, rfl, hc6, hm6, hide rfl, ho6.more (by omega) (Nat.le_refl _), hC5.below' hb6, hchE.trans (Chg.of_below hb6 g (g + 1))⟩)
        clear ho5 ho6 hb6 hC5 hrw5 hchE hl3
        go_wp2_with fail
        go_roundw
        case rel => exact ⟨j - 1, by omega, by go_num, HREL.out⟩
        case measure => simp [intOf] <;> omega
    · have hlt' : ¬ (0 : Int) < (j : Int) := by omega
      have HF := hide (show DrewT g A n c 8 w (.returned (.slice A' k c')) wr from ⟨A', k, c', L, rfl, HL.out, by omega, hown, hkc, hcm, hC1, hch⟩)
      clear hown hC1 hch hrw
      go_wp2_with fail
      go_ret
      exact HF.out
set_option maxHeartbeats 1000000 in
set_option maxRecDepth 100000 in
theorem sAny12_any (w : World) (g : Nat) (A : Option Addr) (n c lo hi : Nat) (l : List Int) (hC : Cur w g A n c) (hr : Rd w lo hi 1 A n (l.map (.int .u8))) (hn : n ≤ 16777216) (h8 : ∀ x ∈ l, 0 ≤ x ∧ x ≤ 255) (hg : hi ≤ g) :
    Calls Try.prog 54 #[.pointer (some ⟨g, 0, none⟩)] w (DrewT g A n c 21 w) := by
  obtain ⟨i0, hi0, hz0, hz1, hz2⟩ := info_parts infoTunnel
  have hgl := hC.lt
  go_enter Try.func54, Try.ntmps54
  go_wp2_with fail
  refine (sDraw12_any _ g A n c lo hi l hC hr hn h8 hg).mono ?_
  rintro e w1 ⟨A1, k1, c1, L1, rfl, hl1, hk1, ho1, hc1, hm1, hC1, hch1⟩
  have hr1 := hr.chg hch1 (.inl hg)
  have hs1 := hch1.size
  clear hC hr
  go_wp2_with fail
  refine (sBelow_any _ g A n c lo hi l _ hC1 hr1 hn h8 hg (by omega)).mono ?_
  rintro e w2 ⟨r, rfl, ⟨hr0, hr9⟩, hC2, hch2⟩
  have hr2 := hr1.chg hch2 (.inl hg)
  have ho2 := ho1.chg hch2 (.inr (by omega))
  have hs2 := hch2.size
  have hchB := hch1.trans hch2
  have hgl2 := hC2.lt
  clear hr9 ho1 hC1 hr1 hch1 hch2
  rcases (show r = 0 ∨ r = 1 ∨ 1 < r by omega) with rfl | rfl | hr3
  · go_wp2_with fail
    refine (sInt_any _ g A n c lo hi l (some ⟨w2.heap.size, 0, none⟩) 3 3 w2.heap.size (w2.heap.size + 1) [0, 20, 21] (hC2.below' (by (repeat' (first | (with_reducible exact Below.refl _ _) | (with_reducible assumption) | (with_reducible refine Below.alloc ?_ ?_ _) | (with_reducible refine below_ext ?_ ?_ _ _) | (with_reducible refine Below.setCell ?_ ?_ _) | (with_reducible refine Below.drew ?_) | (with_reducible refine below_drewN ?_ _))); all_goals (first | omega | (simp; done) | (simp; omega)))) (hr2.below' (by (repeat' (first | (with_reducible exact Below.refl _ _) | (with_reducible assumption) | (with_reducible refine Below.alloc ?_ ?_ _) | (with_reducible refine below_ext ?_ ?_ _ _) | (with_reducible refine Below.setCell ?_ ?_ _) | (with_reducible refine Below.drew ?_) | (with_reducible refine below_drewN ?_ _))); all_goals (first | omega | (simp; done) | (simp; omega)))) hn h8 hg (by simpa using Rd.fresh w2 #[.int .i64 0, .int .i64 20, .int .i64 21] 3 1 3 rfl) hgl2 (by omega) (by omega)).mono ?_
    rintro e w3 ⟨p, rfl, _, hC3, hch3⟩
    have ho3 := (ho2.alloc (.cells #[.int .i64 0, .int .i64 20, .int .i64 21] 3)).chg hch3 (.inr (by omega))
    have hr3 := (hr2.alloc (.cells #[.int .i64 0, .int .i64 20, .int .i64 21] 3)).chg hch3 (.inl hg)
    have hs3 := hch3.size
    simp at hs3
    have hchC := (hchB.alloc (.cells #[.int .i64 0, .int .i64 20, .int .i64 21] 3)).trans hch3
    have hgl3 := hC3.lt
    clear ho2 hC2 hr2 hchB hch3
    go_wp2_with fail
    refine (sInt_any _ g A n c lo hi l (some ⟨w3.heap.size, 0, none⟩) 2 2 w3.heap.size (w3.heap.size + 1) [0, -1] (hC3.below' (by (repeat' (first | (with_reducible exact Below.refl _ _) | (with_reducible assumption) | (with_reducible refine Below.alloc ?_ ?_ _) | (with_reducible refine below_ext ?_ ?_ _ _) | (with_reducible refine Below.setCell ?_ ?_ _) | (with_reducible refine Below.drew ?_) | (with_reducible refine below_drewN ?_ _))); all_goals (first | omega | (simp; done) | (simp; omega)))) (hr3.below' (by (repeat' (first | (with_reducible exact Below.refl _ _) | (with_reducible assumption) | (with_reducible refine Below.alloc ?_ ?_ _) | (with_reducible refine below_ext ?_ ?_ _ _) | (with_reducible refine Below.setCell ?_ ?_ _) | (with_reducible refine Below.drew ?_) | (with_reducible refine below_drewN ?_ _))); all_goals (first | omega | (simp; done) | (simp; omega)))) hn h8 hg (by simpa using Rd.fresh w3 #[.int .i64 0, .int .i64 (-1)] 3 1 2 rfl) hgl3 (by omega) (by omega)).mono ?_
    rintro e w4 ⟨q, rfl, _, hC4, hch4⟩
    have ho4 := (ho3.alloc (.cells #[.int .i64 0, .int .i64 (-1)] 3)).chg hch4 (.inr (by omega))
    have hs4 := hch4.size
    simp at hs4
    have hchD := (hchC.alloc (.cells #[.int .i64 0, .int .i64 (-1)] 3)).trans hch4
    clear ho3 hC3 hr3 hchC hch4
    have hfr := rdBox w4 #[.int .i64 p, .int .i64 q] 50 2 w4.heap.size rfl rfl
    go_wp2_with (at_builtin; refine wpList_app _ rfl (.tmp 11) (.tmp 19) 25 rfl 50 i0 (.agg #[.int .i64 0, .int .i64 0]) 2 16 w.heap.size w1.heap.size w4.heap.size (w4.heap.size + 1) Try.underlying25 hi0 hz0 hz1 hz2 rfl (by omega) _ k1 _ rfl (ho4.alloc _) _ 1 1 _ rfl hfr (by simp [Value.oneCell']) (by unfold maxLen; omega) (by omega) (by first | omega | (simp <;> omega)) (by first | omega | (simp <;> omega)) ?_; intro A5 c5 w5 hown5 hc5 hm5 hch5)
    have hown6 : Own w5 w.heap.size w5.heap.size 50 2 (.slice A5 (k1 + 1) c5) (k1 + 1) ((L1 ++ [(p, q)]).flatMap c2) := by simpa [c2] using hown5
    have HF := hide (show DrewT g A n c 21 w (.returned (.slice A5 (k1 + 1) c5)) w5 from ⟨A5, _, c5, L1 ++ [(p, q)], rfl, by simp [hl1], by omega, hown6, hc5, hm5, (hC4.below' (by (repeat' (first | (with_reducible exact Below.refl _ _) | (with_reducible assumption) | (with_reducible refine Below.alloc ?_ ?_ _) | (with_reducible refine below_ext ?_ ?_ _ _) | (with_reducible refine Below.setCell ?_ ?_ _) | (with_reducible refine Below.drew ?_) | (with_reducible refine below_drewN ?_ _))); all_goals (first | omega | (simp; done) | (simp; omega)))).chg hch5 (.inl hgl), (hchD.alloc _).then_new hch5 (Nat.le_refl _)⟩)
    clear ho4 hC4 hchD hfr hown5 hown6 hch5
    go_wp2_with fail
    go_ret
    exact HF.out
  · have HR0 := hide (show DtRel g A n c w 20 (.slice A1 k1 c1) w2 from ⟨k1, A1, c1, L1, by omega, rfl, hc1, hm1, hide hl1, ho2.more (Nat.le_refl _) hs2, hC2, hchB⟩)
    clear ho2 hC2 hr2 hchB hl1
    go_wp2_with fail
    go_loopw [3] (fun q wr => DtRel g A n c w 20 q wr) (fun q _ => 20 - (match q with | .slice _ n _ => n | _ => 0))
    case atStart => exact HR0.out
    case round =>
      clear HR0
      obtain ⟨k, A', c', L, hkb, rfl, hkc, hcm, HL, hown, hC3, hch⟩ := hrel
      have hsz := hch.size
      by_cases hlt : k < 20
      · have hlt' : (k : Int) < 20 := by omega
        have HO := hide (sOpen_any wr A' k c' _ _ L 1 hown.rd (by omega) hkc)
        have hol := op_len L k 1
        have hk3 := HL.out
        have HGR := hide (op_grow (p := 1) hk3)
        generalize opL L k 1 = O at HO hol HGR
        obtain ⟨L2, z⟩ := O
        simp only at HO hol HGR
        go_wp2_with fail
        refine (unhide HO).mono ?_
        rintro e w3 ⟨A3, c3', rfl, hc3, hm3, ho3, hb3⟩
        have hC4 := hC3.below' hb3
        have hs3 := hb3.size
        have hchC := hch.trans (Chg.of_below hb3 g (g + 1))
        clear hown hC3 hch hb3
        by_cases hsame : L2.length = k
        · have HF := hide (show DrewT g A n c 21 w (.returned (.slice A3 L2.length c3')) w3 from ⟨A3, _, c3', L2, rfl, rfl, by omega, ho3.more (by omega) (Nat.le_refl _), hc3, hm3, hC4, hchC⟩)
          have hq : ((L2.length : Int) == (k : Int)) = true := by simp; omega
          have hq2 : (L2.length == k) = true := by simp [hsame]
          clear ho3 hC4 hchC hsame hk3
          go_wp2_with fail
          go_ret
          exact HF.out
        · have hq : ((L2.length : Int) == (k : Int)) = false := by simp; omega
          have hq2 : (L2.length == k) = false := by simp [hsame]
          by_cases hbig : L2.length ≤ 20
          · have HREL := hide (show DtRel g A n c w 20 (.slice A3 L2.length c3') w3 from ⟨_, A3, c3', L2, hbig, rfl, hc3, hm3, hide rfl, ho3.more (by omega) (Nat.le_refl _), hC4, hchC⟩)
            have hgrow : k < L2.length := HGR.out hsame
            clear ho3 hC4 hchC hsame hk3
            go_wp2_with fail
            go_roundw
            case rel => exact HREL.out
            case measure => simp only []; omega
          · exfalso; omega
      · have hlt' : ¬ (k : Int) < 20 := by omega
        have HF := hide (show DrewT g A n c 21 w (.returned (.slice A' k c')) wr from ⟨A', k, c', L, rfl, HL.out, by omega, hown, hkc, hcm, hC3, hch⟩)
        clear hown hC3 hch
        go_wp2_with fail
        go_ret
        exact HF.out
  · have e0 : (r == 0) = false := by simp; omega
    have e1 : (r == 1) = false := by simp; omega
    have HF := hide (show DrewT g A n c 21 w (.returned (.slice A1 k1 c1)) w2 from ⟨A1, k1, c1, L1, rfl, hl1, by omega, ho2.more (Nat.le_refl _) hs2, hc1, hm1, hC2, hchB⟩)
    clear ho2 hC2 hchB hr2
    go_wp2_with fail
    go_ret
    exact HF.out
theorem sDrawOT_any (w : World) (A : Option Addr) (n c : Nat) (l : List Int) (hr : Rd w 0 w.heap.size 1 A n (l.map (.int .u8))) (hn : n ≤ 16777216) (h8 : ∀ x ∈ l, 0 ≤ x ∧ x ≤ 255) :
    Calls Try.prog 35 #[.slice A n c] w fun e w' => ∃ (p : Int) (A' : Option Addr) (k c' : Nat) (L : List (Int × Int)), e = .returned (.tuple #[.slice A' k c', .int .i64 p]) ∧ L.length = k ∧ k ≤ 21 ∧ Rd w' w.heap.size w'.heap.size 2 A' k (L.flatMap c2) ∧ k ≤ c' ∧ c' ≤ maxLen ∧ Below w.heap.size w w' := by
  have HP : Hid (Calls Try.prog 48 #[.slice A n c] w fun e w' => ∃ (p : Int) (A' : Option Addr) (k c' : Nat) (L : List (Int × Int)), e = .returned (.tuple #[.slice A' k c', .int .i64 p]) ∧ L.length = k ∧ k ≤ 21 ∧ Rd w' w.heap.size w'.heap.size 2 A' k (L.flatMap c2) ∧ k ≤ c' ∧ c' ≤ maxLen ∧ Below w.heap.size w w') := by
    refine hide ?_
    go_enter Try.func48, Try.ntmps48
    go_wp2_with fail
    refine (sNew_any _ A n c _ _ l hr hn h8).mono ?_
    rintro e w1 ⟨g, rfl, hg, hC1, hb1⟩
    have hr1 := hr.below' hb1
    go_wp2_with fail
    refine (sAny12_any _ g A n c _ _ l hC1 hr1 hn h8 hg).mono ?_
    rintro e w2 ⟨A', k, c', L, rfl, hl, hk, hown, hkc, hcm, hC2, hch2⟩
    have hr2 := hr1.chg hch2 (.inl hg)
    have hsz1 := hb1.size
    have hown' := hown.rd
    go_wp2_with fail
    refine (sBelow_any _ g A n c _ _ l _ hC2 hr2 hn h8 hg (by omega)).mono ?_
    rintro e w3 ⟨p, rfl, ⟨hp0, hp1⟩, hC3, hch3⟩
    have hp7 := hp1 (by omega)
    have hgl := hC1.lt
    have hrd := hown'.chg hch3 (.inr (by omega))
    have hsz3 := hch3.size
    have HF := hide (⟨hrd.more (by omega) hsz3, below_then hb1 ((hch2.trans hch3).below (B := w.heap.size) hg hb1.size) (Nat.le_refl _)⟩ : Rd w3 w.heap.size w3.heap.size 2 A' k (L.flatMap c2) ∧ Below w.heap.size w w3)
    clear hown hown' hrd hch2 hch3 hb1 hC1 hC2 hC3 hr1 hr2 hr hp1
    go_wp2_with fail
    go_ret2
    exact ⟨_, A', k, c', L, rfl, hl, hk, HF.out.1, hkc, hcm, HF.out.2⟩
  go_enter Try.func35, Try.ntmps35
  go_wp2_with fail
  refine (unhide HP).mono ?_
  rintro e w1 ⟨p, A', k, c', L, rfl, hl, hk, hrd, hkc, hcm, hb⟩
  have HF := hide (⟨hrd, hb⟩ : Rd w1 w.heap.size w1.heap.size 2 A' k (L.flatMap c2) ∧ Below w.heap.size w w1)
  clear hrd hb hr HP
  go_wp2_with fail
  go_ret2
  exact ⟨_, A', k, c', L, rfl, hl, hk, HF.out.1, hkc, hcm, HF.out.2⟩
end Go.Proofs.Ytncnaahgpeaofaa
