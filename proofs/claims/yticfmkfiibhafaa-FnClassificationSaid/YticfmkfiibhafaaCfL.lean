/- The law FnClassification, walked. -/
import Derived.Test.YticfmkfiibhafaaCfD
import Derived.Test.YticfmkfiibhafaaBVal
namespace Go.Proofs.Yticfmkfiibhafaa
open Go.RowKit Go.Sep

theorem big_any (w : World) (A : Option Addr) (n c : Nat) (_hn : n ≤ 9223372036854775807) :
    Calls Try.prog 43 #[.slice A n c] w fun e w' => e = .returned (.bool (decide ((1048576 : Int) < (n : Int)))) ∧ w = w' := by
  go_enter Try.func43, Try.ntmps43
  go_wp2_with fail
  go_ret
  exact ⟨rfl, rfl⟩
theorem u8_in {l : List Int} (h : ∀ x ∈ l, (Lit.int .u8 x).wf = true) : ∀ x ∈ l, 0 ≤ x ∧ x ≤ 255 := fun x hx => by
  have := h x hx
  have hmin : IntKind.u8.min = 0 := rfl
  have hmax : IntKind.u8.max = 255 := rfl
  simp only [Lit.wf, Bool.and_eq_true, decide_eq_true_eq, hmin, hmax] at this
  exact this
/-- The packets of the first classes. -/
def totK (f : Int → Int) (m : PL) : Nat → Nat
  | 0 => 0
  | k + 1 => totK f m k + (pkF f k m).length
theorem totK_cons (f : Int → Int) (q : Int × List Int) (m : PL) (K : Nat) : totK f (q :: m) K = totK f m K + if 0 ≤ f q.1 ∧ f q.1 < K then 1 else 0 := by
  induction K with
  | zero => simp only [totK]; rw [if_neg (by omega)]
  | succ k ih =>
    simp only [totK, ih, pkF]
    by_cases h : (f q.1 == (k : Int)) = true
    · have h2 : f q.1 = k := by simpa using h
      rw [List.filter_cons_of_pos (by simpa using h), if_neg (by omega), if_pos (by omega)]
      simp only [List.length_cons]
      omega
    · have h2 : f q.1 ≠ k := by simpa using h
      rw [List.filter_cons_of_neg (by simpa using h)]
      by_cases h3 : 0 ≤ f q.1 ∧ f q.1 < (k : Int)
      · rw [if_pos h3, if_pos (by omega)]; omega
      · rw [if_neg h3, if_neg (by omega)]
        omega
theorem totK_all (f : Int → Int) (m : PL) (K : Nat) (h : ∀ q ∈ m, 0 ≤ f q.1 ∧ f q.1 < K) : totK f m K = m.length := by
  induction m with
  | nil => induction K with
    | zero => rfl
    | succ k ih => simp only [totK, ih (fun q hq => by cases hq), pkF]; rfl
  | cons q r ih =>
    rw [totK_cons, ih (fun q hq => h q (List.mem_cons_of_mem _ hq)), if_pos (h q (by simp))]
    rfl
theorem totK_le (f : Int → Int) (m : PL) (K : Nat) : totK f m K ≤ m.length := by
  induction m with
  | nil => induction K with
    | zero => exact Nat.le_refl _
    | succ k ih => simp only [totK, pkF]; simpa using ih
  | cons q r ih => rw [totK_cons, List.length_cons]; split <;> omega
theorem bOk_id {l : List (Int × Int × Int)} {n j : Nat} {x y z : Int} (hv : vBea l n = true) (hl : l.length = n) (h : l[j]? = some (x, y, z)) : 1 ≤ x ∧ x ≤ 8 := by
  have hj := (List.getElem?_eq_some_iff.1 h).1
  unfold vBea at hv
  rw [Bool.and_eq_true] at hv
  have hb : bOk l j = true := by
    by_cases hb : bOk l j = true
    · exact hb
    · have := allOk_no (f := bOk l) (n := n) (k := j) (by omega) (by simpa using hb)
      rw [this] at hv
      cases hv.1
  rcases j with _ | j
  · rw [bOk_0 h, Bool.and_eq_true] at hb
    exact inR_true hb.1
  · obtain ⟨⟨p, q, r⟩, hp⟩ : ∃ a, l[j]? = some a := ⟨_, List.getElem?_eq_getElem (by omega)⟩
    rw [bOk_s h hp, Bool.and_eq_true] at hb
    exact inR_true hb.1
theorem cls_in {lf lb : List (Int × Int × Int)} {n : Nat} (hl : lb.length = n) (hv : vBea lb n = true) (p : Int) : 0 ≤ cls lf lb p ∧ cls lf lb p < 10 := by
  have hfb : 0 ≤ fb lb ∧ fb lb < 10 := by
    cases lb with
    | nil => rw [fb_0 rfl]; omega
    | cons a r =>
      obtain ⟨x, y, z⟩ := a
      rw [fb_1 (x := x) (y := y) (z := z) rfl]
      have := bOk_id (j := 0) (x := x) (y := y) (z := z) hv hl rfl
      omega
  rcases fidx0 (inF p) lf with h | ⟨i, ⟨x, y, z⟩, h, hx⟩
  · rw [cls_0 h]; exact hfb
  · rcases fidx_cases (isId z) lb 0 with h2 | ⟨j, ⟨x2, y2, z2⟩, h2, hx2, hid⟩
    · rw [cls_1 h hx h2]; exact hfb
    · rw [Nat.zero_add] at h2
      rw [cls_2 h hx h2]
      have := bOk_id hv hl hx2
      have hz : x2 = z := by simpa [isId] using hid
      omega
set_option maxHeartbeats 40000000 in
set_option maxRecDepth 100000 in
theorem fnClassification.walk (A : Option Addr) (n c : Nat) (l : List Int) (w : World) (_hl : l.length = n) (hr : Rd w 0 w.heap.size 1 A n (l.map (.int .u8))) (hw : ∀ x ∈ l, (Lit.int .u8 x).wf = true) (hc : n ≤ c ∧ c ≤ maxLen) :
    Calls Try.prog 15 #[.slice A n c] w fun e w' => e = .returned (.bool true) ∧ Below w.heap.size w w' := by
  have hn : n ≤ 9223372036854775807 := by have := hc.1; have := hc.2; unfold maxLen at this; omega
  have HG := hide (fun W => big_any W A n c hn)
  by_cases hbig : (1048576 : Int) < (n : Int)
  · rw [show decide ((1048576 : Int) < (n : Int)) = true by simpa using hbig] at HG
    clear hbig
    go_enter Try.func15, Try.ntmps15
    go_wp2_with (go_at_call 43; refine (unhide HG _).mono ?_; rintro e w' ⟨rfl, rfl⟩)
    go_ret
    exact ⟨rfl, (by (repeat' (first | (with_reducible exact Below.refl _ _) | (with_reducible assumption) | (with_reducible refine Below.alloc ?_ ?_ _) | (with_reducible refine below_ext ?_ ?_ _ _) | (with_reducible refine Below.setCell ?_ ?_ _) | (with_reducible refine Below.drew ?_) | (with_reducible refine below_drewN ?_ _))); all_goals (first | omega | (simp; done) | (simp; omega)))⟩
  rw [show decide ((1048576 : Int) < (n : Int)) = false by simpa using hbig] at HG
  have hn2 : n ≤ 1048576 := by omega
  have h8 := u8_in hw
  clear hbig
  go_enter Try.func15, Try.ntmps15
  go_wp2_with (go_at_call 43; refine (unhide HG _).mono ?_; rintro e w' ⟨rfl, rfl⟩)
  refine (sDrawPk_any _ A n c l hr (by omega) h8).mono ?_
  rintro e w1 ⟨A0, k0, d0, L0, A1, k1, d1, L1, A2, k2, d2, m, id, rfl, hL0, hk0, hL1, hk1, hk2, hf0, hf1, hN, hb1⟩
  have hs1 := hb1.size
  have hml := hN.len
  have HS := hide (fun W i h0 h1 h => sPkB_any W A0 k0 d0 w.heap.size w1.heap.size L0 A1 k1 d1 w.heap.size w1.heap.size L1 A2 k2 d2 w.heap.size w1.heap.size m i h0 (by omega) h1 (by omega) h (by omega))
  have HI := hide (fun W i h0 h1 h => iPkB_any W A0 k0 d0 w.heap.size w1.heap.size L0 A1 k1 d1 w.heap.size w1.heap.size L1 A2 k2 d2 w.heap.size w1.heap.size m i h0 (by omega) h1 (by omega) h (by omega))
  go_wp2_with fail
  refine (unhide HI _ id hf0 hf1 hN).mono ?_
  rintro e w2 ⟨Ax, cx, rfl, _, _, _, hb2⟩
  have hs2 := hb2.size
  have hbw2 := below_then hb1 hb2 hs1
  go_wp2_with fail
  refine (unhide HS _ id (hf0.below' hb2) (hf1.below' hb2) (hN.below' hb2)).mono ?_
  rintro e w3 ⟨Ay, cy, rfl, _, _, _, hb3⟩
  have hb13 : Below w1.heap.size w1 w3 := below_then hb2 hb3 hs2
  have HB1 := hide hb1
  have HF0 := hide hf0
  have HF1 := hide hf1
  have HN := hide hN
  have htk := hide (fun K => totK_le (cls L0 L1) m K)
  clear hb2 hb3 hbw2 hb1 hf0 hf1 hN HS
  go_wp2_with fail
  go_loopw [8, 9] (fun tt i wr => ∃ k : Nat, k ≤ 10 ∧ i = .int .i64 k ∧ tt = .int .i64 (totK (cls L0 L1) m k) ∧ Below w1.heap.size w1 wr) (fun _ i _ => 10 - (intOf i).toNat)
  case atStart => exact ⟨0, by omega, rfl, rfl, hb13⟩
  case round =>
    clear hb13
    obtain ⟨k, hk, rfl, rfl, hb⟩ := hrel
    have hsz := hb.size
    by_cases hlt : k < 10
    · have hlt' : (k : Int) ≤ 9 := by omega
      have ht1 := htk.out k
      have ht2 := htk.out (k + 1)
      have hte : totK (cls L0 L1) m (k + 1) = totK (cls L0 L1) m k + (pkF (cls L0 L1) k m).length := rfl
      rw [hte] at ht2
      have HTE := hide hte
      clear hte
      go_wp2_with fail
      refine (unhide HI _ k (HF0.out.below' hb) (HF1.out.below' hb) (HN.out.below' hb)).mono ?_
      rintro e w4 ⟨Az, cz, rfl, _, _, _, hb4⟩
      have hb14 := below_then hb hb4 hsz
      generalize hlenE : (pkF (cls L0 L1) k m).length = le at ht2
      have HLE := hide hlenE
      generalize totK (cls L0 L1) m k = tk at ht1 ht2 HTE
      clear hb hb4 hlenE
      go_wp2_with fail
      go_roundw
      case rel => exact ⟨k + 1, by omega, by go_num, by rw [HTE.out, HLE.out]; go_num, hb14⟩
      case measure => simp [intOf] <;> omega
    · obtain rfl : k = 10 := by omega
      rw [show ((10 : Nat) : Int) = 10 from rfl]
      have htot := hide (fun hv : vBea L1 k1 = true => totK_all (cls L0 L1) m 10 (fun q _ => cls_in hL1 hv q.1))
      generalize totK (cls L0 L1) m 10 = T at htot
      clear HI htk
      go_wp2_with fail
      go_loopw [10] (fun i wr => ∃ k : Nat, k ≤ k2 ∧ i = .int .i64 k ∧ Below w1.heap.size w1 wr) (fun i _ => k2 - (intOf i).toNat)
      case atStart => exact ⟨0, Nat.zero_le _, rfl, hb⟩
      case round =>
        clear hb hsz
        obtain ⟨i, hi, rfl, hb⟩ := hrel
        have hsz := hb.size
        by_cases hlt2 : i < k2
        · have hiI : (i : Int) < (k2 : Int) := by omega
          obtain ⟨bp, op, x, sl, rfl, hbp, _, hp0, _, _⟩ := (HN.out.below' hb).at_ hlt2
          have hf0w := hide (HF0.out.below' hb)
          have hf1w := hide (HF1.out.below' hb)
          have HSM := hide (fun W h => sMatchFilter_any W A0 k0 d0 w.heap.size w1.heap.size L0 x h (by omega))
          have HM := hide (fun W h => iMatchFilter_any W A0 k0 d0 w.heap.size w1.heap.size L0 x h (by omega))
          rcases fidx0 (inF x) L0 with hm | ⟨j0, ⟨x0, y0, z0⟩, hm, hx0⟩
          · rw [hm] at HSM HM
            clear hm
            go_wp2_with fail
            refine (unhide HSM _ hf0w.out).mono ?_
            rintro e w4 ⟨rfl, hb4⟩
            have hs4 := hb4.size
            have hp4 := (hb4.cell (p := ⟨bp, op + i * 2, none⟩) hbp).trans hp0
            have hbp4 : bp < w4.heap.size := by omega
            have hf0r := hide (hf0w.out.below' hb4)
            have hbw4 := below_then hb hb4 hsz
            clear hb4 hp0 hb HSM hf0w hf1w
            go_wp2_with fail
--R16A
            refine wp_region_any (by kernel_rfl) ?_
            try (change wpAny _ _ _ _ _ _ _ (World.drew _))
            refine wpAny_take (i := 0) (v := ?_) rfl (by kernel_rfl) (by kernel_rfl) (by kernel_rfl) (fun _ _ _ h => h) (Or.inl ⟨by rfl, ?_⟩) ?_
            rotate_left
            · intro w; go_simp <;> with_reducible rfl
            try go_simp
            refine wpAny_take (i := 1) (v := ?_) rfl (by kernel_rfl) (by kernel_rfl) (by kernel_rfl) (fun _ _ _ h => h) (Or.inl ⟨by rfl, ?_⟩) ?_
            rotate_left
            · intro w; go_simp <;> with_reducible rfl
            try go_simp
            refine wpAny_take (i := 2) (v := ?_) rfl (by kernel_rfl) (by kernel_rfl) (by kernel_rfl) (fun _ _ _ h => h) (Or.inl ⟨by rfl, ?_⟩) ?_
            rotate_left
            · intro w; go_simp <;> with_reducible rfl
            try go_simp
            refine wpAny_take (i := 3) (v := ?_) rfl (by kernel_rfl) (by kernel_rfl) (by kernel_rfl) (fun _ _ _ h => h) (Or.inl ⟨by rfl, ?_⟩) ?_
            rotate_left
            · intro w; go_simp <;> with_reducible rfl
            try go_simp
            refine wpAny_take (i := 4) (v := ?_) rfl (by kernel_rfl) (by kernel_rfl) (by kernel_rfl) (fun _ _ _ h => h) (Or.inl ⟨by rfl, ?_⟩) ?_
            rotate_left
            · intro w; go_simp <;> with_reducible rfl
            try go_simp
            refine wpAny_take (i := 5) (v := ?_) rfl (by kernel_rfl) (by kernel_rfl) (by kernel_rfl) (fun _ _ _ h => h) (Or.inl ⟨by rfl, ?_⟩) ?_
            rotate_left
            · intro w; go_simp <;> with_reducible rfl
            try go_simp
            refine wpAny_ready (rs := [6]) (by kernel_rfl) (by simp) ?_
            refine AllReady.cons rfl (fun K hK => ?_) AllReady.nil
            go_simp
            first | (refine hK _ _ ?_; clear hK K) | skip
            refine wpAny_ready (rs := [7]) (by kernel_rfl) (by simp) ?_
            refine AllReady.cons rfl (fun K hK => ?_) AllReady.nil
            (go_simp; go_at_call 26; (with_reducible refine (unhide HM _ (hf0r.out.below' (by (repeat' (first | (with_reducible exact Below.refl _ _) | (with_reducible assumption) | (with_reducible refine Below.alloc ?_ ?_ _) | (with_reducible refine below_ext ?_ ?_ _ _) | (with_reducible refine Below.setCell ?_ ?_ _) | (with_reducible refine Below.drew ?_) | (with_reducible refine below_drewN ?_ _))); all_goals (first | omega | (simp; done) | (simp; omega))))).mono ?_); rintro e wa ⟨rfl, hba⟩; have hbA : Below w4.heap.size w4 wa := below_then (show Below w4.heap.size w4 _ from (by (repeat' (first | (with_reducible exact Below.refl _ _) | (with_reducible assumption) | (with_reducible refine Below.alloc ?_ ?_ _) | (with_reducible refine below_ext ?_ ?_ _ _) | (with_reducible refine Below.setCell ?_ ?_ _) | (with_reducible refine Below.drew ?_) | (with_reducible refine below_drewN ?_ _))); all_goals (first | omega | (simp; done) | (simp; omega)))) hba (by first | exact Nat.le_refl _ | simp); have hsA := hbA.size; have hpa := (hbA.cell (p := ⟨bp, op + i * 2, none⟩) hbp4).trans hp4)
            try go_simp
            first | (refine hK _ _ ?_; clear hK K) | skip
            refine wpAny_take (i := 8) (v := ?_) rfl (by kernel_rfl) (by kernel_rfl) (by kernel_rfl) (fun _ _ _ h => h) (Or.inl ⟨by rfl, ?_⟩) ?_
            rotate_left
            · intro w; go_simp <;> with_reducible rfl
            try go_simp
            refine wpAny_take (i := 9) (v := ?_) rfl (by kernel_rfl) (by kernel_rfl) (by kernel_rfl) (fun _ _ _ h => h) (Or.inl ⟨by rfl, ?_⟩) ?_
            rotate_left
            · intro w; go_simp <;> with_reducible rfl
            try go_simp
            refine wpAny_take (i := 10) (v := ?_) rfl (by kernel_rfl) (by kernel_rfl) (by kernel_rfl) (fun _ _ _ h => h) (Or.inl ⟨by rfl, ?_⟩) ?_
            rotate_left
            · intro w; go_simp <;> with_reducible rfl
            try go_simp
            refine wpAny_take (i := 11) (v := ?_) rfl (by kernel_rfl) (by kernel_rfl) (by kernel_rfl) (fun _ _ _ h => h) (Or.inl ⟨by rfl, ?_⟩) ?_
            rotate_left
            · intro w; go_simp <;> with_reducible rfl
            try go_simp
            refine wpAny_take (i := 12) (v := ?_) rfl (by kernel_rfl) (by kernel_rfl) (by kernel_rfl) (fun _ _ _ h => h) (Or.inl ⟨by rfl, ?_⟩) ?_
            rotate_left
            · intro w; go_simp <;> with_reducible rfl
            try go_simp
            refine wpAny_take (i := 13) (v := undef) rfl (by kernel_rfl) (by kernel_rfl) (by kernel_rfl) (fun _ _ _ h => h) (Or.inr ⟨by rfl, rfl⟩) ?_
            try go_simp
            refine wpAny_take (i := 14) (v := undef) rfl (by kernel_rfl) (by kernel_rfl) (by kernel_rfl) (fun _ _ _ h => h) (Or.inr ⟨by rfl, rfl⟩) ?_
            try go_simp
            refine wpAny_take (i := 15) (v := undef) rfl (by kernel_rfl) (by kernel_rfl) (by kernel_rfl) (fun _ _ _ h => h) (Or.inr ⟨by rfl, rfl⟩) ?_
            try go_simp
            refine wpAny_take (i := 16) (v := undef) rfl (by kernel_rfl) (by kernel_rfl) (by kernel_rfl) (fun _ _ _ h => h) (Or.inr ⟨by rfl, rfl⟩) ?_
            try go_simp
            refine wpAny_take (i := 17) (v := undef) rfl (by kernel_rfl) (by kernel_rfl) (by kernel_rfl) (fun _ _ _ h => h) (Or.inr ⟨by rfl, rfl⟩) ?_
            try go_simp
            refine wpAny_take (i := 18) (v := undef) rfl (by kernel_rfl) (by kernel_rfl) (by kernel_rfl) (fun _ _ _ h => h) (Or.inr ⟨by rfl, rfl⟩) ?_
            try go_simp
            refine wpAny_take (i := 19) (v := undef) rfl (by kernel_rfl) (by kernel_rfl) (by kernel_rfl) (fun _ _ _ h => h) (Or.inr ⟨by rfl, rfl⟩) ?_
            try go_simp
            refine wpAny_take (i := 20) (v := undef) rfl (by kernel_rfl) (by kernel_rfl) (by kernel_rfl) (fun _ _ _ h => h) (Or.inr ⟨by rfl, rfl⟩) ?_
            try go_simp
            refine wpAny_take (i := 21) (v := ?_) rfl (by kernel_rfl) (by kernel_rfl) (by kernel_rfl) (fun _ _ _ h => h) (Or.inl ⟨by rfl, ?_⟩) ?_
            rotate_left
            · intro w; go_simp <;> with_reducible rfl
            try go_simp
            refine wpAny_take (i := 22) (v := ?_) rfl (by kernel_rfl) (by kernel_rfl) (by kernel_rfl) (fun _ _ _ h => h) (Or.inl ⟨by rfl, ?_⟩) ?_
            rotate_left
            · intro w; go_simp <;> with_reducible rfl
            try go_simp
            refine wpAny_take (i := 23) (v := undef) rfl (by kernel_rfl) (by kernel_rfl) (by kernel_rfl) (fun _ _ _ h => h) (Or.inr ⟨by rfl, rfl⟩) ?_
            try go_simp
            refine wpAny_take (i := 24) (v := undef) rfl (by kernel_rfl) (by kernel_rfl) (by kernel_rfl) (fun _ _ _ h => h) (Or.inr ⟨by rfl, rfl⟩) ?_
            try go_simp
            refine wpAny_take (i := 25) (v := undef) rfl (by kernel_rfl) (by kernel_rfl) (by kernel_rfl) (fun _ _ _ h => h) (Or.inr ⟨by rfl, rfl⟩) ?_
            try go_simp
            refine wpAny_take (i := 26) (v := undef) rfl (by kernel_rfl) (by kernel_rfl) (by kernel_rfl) (fun _ _ _ h => h) (Or.inr ⟨by rfl, rfl⟩) ?_
            try go_simp
            refine wpAny_take (i := 27) (v := undef) rfl (by kernel_rfl) (by kernel_rfl) (by kernel_rfl) (fun _ _ _ h => h) (Or.inr ⟨by rfl, rfl⟩) ?_
            try go_simp
            refine wpAny_take (i := 28) (v := undef) rfl (by kernel_rfl) (by kernel_rfl) (by kernel_rfl) (fun _ _ _ h => h) (Or.inr ⟨by rfl, rfl⟩) ?_
            try go_simp
            refine wpAny_take (i := 29) (v := undef) rfl (by kernel_rfl) (by kernel_rfl) (by kernel_rfl) (fun _ _ _ h => h) (Or.inr ⟨by rfl, rfl⟩) ?_
            try go_simp
            refine wpAny_take (i := 30) (v := undef) rfl (by kernel_rfl) (by kernel_rfl) (by kernel_rfl) (fun _ _ _ h => h) (Or.inr ⟨by rfl, rfl⟩) ?_
            try go_simp
            refine wpAny_take (i := 31) (v := undef) rfl (by kernel_rfl) (by kernel_rfl) (by kernel_rfl) (fun _ _ _ h => h) (Or.inr ⟨by rfl, rfl⟩) ?_
            try go_simp
            refine wpAny_take (i := 32) (v := undef) rfl (by kernel_rfl) (by kernel_rfl) (by kernel_rfl) (fun _ _ _ h => h) (Or.inr ⟨by rfl, rfl⟩) ?_
            try go_simp
            refine wpAny_take (i := 33) (v := undef) rfl (by kernel_rfl) (by kernel_rfl) (by kernel_rfl) (fun _ _ _ h => h) (Or.inr ⟨by rfl, rfl⟩) ?_
            try go_simp
            refine wpAny_take (i := 34) (v := undef) rfl (by kernel_rfl) (by kernel_rfl) (by kernel_rfl) (fun _ _ _ h => h) (Or.inr ⟨by rfl, rfl⟩) ?_
            try go_simp
            refine wpAny_take (i := 35) (v := undef) rfl (by kernel_rfl) (by kernel_rfl) (by kernel_rfl) (fun _ _ _ h => h) (Or.inr ⟨by rfl, rfl⟩) ?_
            try go_simp
            refine wpAny_take (i := 36) (v := undef) rfl (by kernel_rfl) (by kernel_rfl) (by kernel_rfl) (fun _ _ _ h => h) (Or.inr ⟨by rfl, rfl⟩) ?_
            try go_simp
            refine wpAny_take (i := 37) (v := ?_) rfl (by kernel_rfl) (by kernel_rfl) (by kernel_rfl) (fun _ _ _ h => h) (Or.inl ⟨by rfl, ?_⟩) ?_
            rotate_left
            · intro w; go_simp <;> with_reducible rfl
            try go_simp
            refine wpAny_take (i := 38) (v := ?_) rfl (by kernel_rfl) (by kernel_rfl) (by kernel_rfl) (fun _ _ _ h => h) (Or.inl ⟨by rfl, ?_⟩) ?_
            rotate_left
            · intro w; go_simp <;> with_reducible rfl
            try go_simp
            refine wpAny_done (by kernel_rfl) ?_ _
            go_wp2_with fail
            go_roundw
            case rel => exact ⟨i + 1, by omega, by go_num, below_then hbw4 hbA hbw4.size⟩
            case measure => simp [intOf] <;> omega

--/R16A
          · have hj0 : j0 < k0 := by have := (List.getElem?_eq_some_iff.1 hx0).1; omega
            have hj0I : (j0 : Int) < (k0 : Int) := by omega
            rw [hm] at HSM HM
            have HFB := hide (fun W h => sFindBearer_any W A1 k1 d1 w.heap.size w1.heap.size L1 z0 h (by omega))
            obtain ⟨bf, of, rfl, _, _, hcell⟩ := hf0w.out.at_ (j := j0 * 3) (by omega)
            have hq0 := hcell (j0 * 3 + 2) (.int .i64 z0) (by have := flat_at c3 3 c3_len L0 j0 2 (by omega); rw [this]; simp [hx0, c3])
            have hbf := World.block_lt_of_cell? _ _ hq0
            simp only at hbf
            rw [← Nat.add_assoc] at hq0
            clear hcell
            go_wp2_with fail
            refine (unhide HSM _ hf0w.out).mono ?_
            rintro e w4 ⟨rfl, hb4⟩
            have hs4 := hb4.size
            have hp4 := (hb4.cell (p := ⟨bp, op + i * 2, none⟩) hbp).trans hp0
            have hq4 := (hb4.cell (p := ⟨bf, of + j0 * 3 + 2, none⟩) hbf).trans hq0
            have hbp4 : bp < w4.heap.size := by omega
            have hbf4 : bf < w4.heap.size := by omega
            have hf0r := hide (hf0w.out.below' hb4)
            have hf1r := hide (hf1w.out.below' hb4)
            have hbw4 := below_then hb hb4 hsz
            clear hb4 hp0 hq0 hb HSM hf0w hf1w
            rcases fidx0 (isId z0) L1 with h2 | ⟨j1, _, h2, _⟩
            · rw [h2] at HFB
              clear h2 hm hx0
              go_wp2_with fail
--R16B
              refine wp_region_any (by kernel_rfl) ?_
              try (change wpAny _ _ _ _ _ _ _ (World.drew _))
              refine wpAny_take (i := 0) (v := ?_) rfl (by kernel_rfl) (by kernel_rfl) (by kernel_rfl) (fun _ _ _ h => h) (Or.inl ⟨by rfl, ?_⟩) ?_
              rotate_left
              · intro w; go_simp <;> with_reducible rfl
              try go_simp
              refine wpAny_take (i := 1) (v := ?_) rfl (by kernel_rfl) (by kernel_rfl) (by kernel_rfl) (fun _ _ _ h => h) (Or.inl ⟨by rfl, ?_⟩) ?_
              rotate_left
              · intro w; go_simp <;> with_reducible rfl
              try go_simp
              refine wpAny_take (i := 2) (v := ?_) rfl (by kernel_rfl) (by kernel_rfl) (by kernel_rfl) (fun _ _ _ h => h) (Or.inl ⟨by rfl, ?_⟩) ?_
              rotate_left
              · intro w; go_simp <;> with_reducible rfl
              try go_simp
              refine wpAny_take (i := 3) (v := ?_) rfl (by kernel_rfl) (by kernel_rfl) (by kernel_rfl) (fun _ _ _ h => h) (Or.inl ⟨by rfl, ?_⟩) ?_
              rotate_left
              · intro w; go_simp <;> with_reducible rfl
              try go_simp
              refine wpAny_take (i := 4) (v := ?_) rfl (by kernel_rfl) (by kernel_rfl) (by kernel_rfl) (fun _ _ _ h => h) (Or.inl ⟨by rfl, ?_⟩) ?_
              rotate_left
              · intro w; go_simp <;> with_reducible rfl
              try go_simp
              refine wpAny_take (i := 5) (v := ?_) rfl (by kernel_rfl) (by kernel_rfl) (by kernel_rfl) (fun _ _ _ h => h) (Or.inl ⟨by rfl, ?_⟩) ?_
              rotate_left
              · intro w; go_simp <;> with_reducible rfl
              try go_simp
              refine wpAny_ready (rs := [6]) (by kernel_rfl) (by simp) ?_
              refine AllReady.cons rfl (fun K hK => ?_) AllReady.nil
              go_simp
              first | (refine hK _ _ ?_; clear hK K) | skip
              refine wpAny_ready (rs := [7]) (by kernel_rfl) (by simp) ?_
              refine AllReady.cons rfl (fun K hK => ?_) AllReady.nil
              (go_simp; go_at_call 26; (with_reducible refine (unhide HM _ (hf0r.out.below' (by (repeat' (first | (with_reducible exact Below.refl _ _) | (with_reducible assumption) | (with_reducible refine Below.alloc ?_ ?_ _) | (with_reducible refine below_ext ?_ ?_ _ _) | (with_reducible refine Below.setCell ?_ ?_ _) | (with_reducible refine Below.drew ?_) | (with_reducible refine below_drewN ?_ _))); all_goals (first | omega | (simp; done) | (simp; omega))))).mono ?_); rintro e wa ⟨rfl, hba⟩; have hbA : Below w4.heap.size w4 wa := below_then (show Below w4.heap.size w4 _ from (by (repeat' (first | (with_reducible exact Below.refl _ _) | (with_reducible assumption) | (with_reducible refine Below.alloc ?_ ?_ _) | (with_reducible refine below_ext ?_ ?_ _ _) | (with_reducible refine Below.setCell ?_ ?_ _) | (with_reducible refine Below.drew ?_) | (with_reducible refine below_drewN ?_ _))); all_goals (first | omega | (simp; done) | (simp; omega)))) hba (by first | exact Nat.le_refl _ | simp); have hsA := hbA.size; have hpa := (hbA.cell (p := ⟨bp, op + i * 2, none⟩) hbp4).trans hp4; have hqa := (hbA.cell (p := ⟨bf, of + j0 * 3 + 2, none⟩) hbf4).trans hq4)
              try go_simp
              first | (refine hK _ _ ?_; clear hK K) | skip
              refine wpAny_take (i := 8) (v := ?_) rfl (by kernel_rfl) (by kernel_rfl) (by kernel_rfl) (fun _ _ _ h => h) (Or.inl ⟨by rfl, ?_⟩) ?_
              rotate_left
              · intro w; go_simp <;> with_reducible rfl
              try go_simp
              refine wpAny_take (i := 9) (v := ?_) rfl (by kernel_rfl) (by kernel_rfl) (by kernel_rfl) (fun _ _ _ h => h) (Or.inl ⟨by rfl, ?_⟩) ?_
              rotate_left
              · intro w; go_simp <;> with_reducible rfl
              try go_simp
              refine wpAny_take (i := 10) (v := ?_) rfl (by kernel_rfl) (by kernel_rfl) (by kernel_rfl) (fun _ _ _ h => h) (Or.inl ⟨by rfl, ?_⟩) ?_
              rotate_left
              · intro w; go_simp <;> with_reducible rfl
              try go_simp
              refine wpAny_take (i := 11) (v := ?_) rfl (by kernel_rfl) (by kernel_rfl) (by kernel_rfl) (fun _ _ _ h => h) (Or.inl ⟨by rfl, ?_⟩) ?_
              rotate_left
              · intro w; go_simp <;> with_reducible rfl
              try go_simp
              refine wpAny_take (i := 12) (v := ?_) rfl (by kernel_rfl) (by kernel_rfl) (by kernel_rfl) (fun _ _ _ h => h) (Or.inl ⟨by rfl, ?_⟩) ?_
              rotate_left
              · intro w; go_simp <;> with_reducible rfl
              try go_simp
              refine wpAny_take (i := 13) (v := ?_) rfl (by kernel_rfl) (by kernel_rfl) (by kernel_rfl) (fun _ _ _ h => h) (Or.inl ⟨by rfl, ?_⟩) ?_
              rotate_left
              · intro w; go_simp <;> with_reducible rfl
              try go_simp
              refine wpAny_take (i := 14) (v := ?_) rfl (by kernel_rfl) (by kernel_rfl) (by kernel_rfl) (fun _ _ _ h => h) (Or.inl ⟨by rfl, ?_⟩) ?_
              rotate_left
              · intro w; go_simp <;> with_reducible rfl
              try go_simp
              refine wpAny_take (i := 15) (v := ?_) rfl (by kernel_rfl) (by kernel_rfl) (by kernel_rfl) (fun _ _ _ h => h) (Or.inl ⟨by rfl, ?_⟩) ?_
              rotate_left
              · intro w; go_simp <;> with_reducible rfl
              try go_simp
              refine wpAny_take (i := 16) (v := ?_) rfl (by kernel_rfl) (by kernel_rfl) (by kernel_rfl) (fun _ _ _ h => h) (Or.inl ⟨by rfl, ?_⟩) ?_
              rotate_left
              · intro w; go_simp <;> with_reducible rfl
              try go_simp
              refine wpAny_take (i := 17) (v := ?_) rfl (by kernel_rfl) (by kernel_rfl) (by kernel_rfl) (fun _ _ _ h => h) (Or.inl ⟨by rfl, ?_⟩) ?_
              rotate_left
              · intro w; go_simp <;> with_reducible rfl
              try go_simp
              refine wpAny_ready (rs := [18]) (by kernel_rfl) (by simp) ?_
              refine AllReady.cons rfl (fun K hK => ?_) AllReady.nil
              go_simp
              first | (refine hK _ _ ?_; clear hK K) | skip
              refine wpAny_ready (rs := [19]) (by kernel_rfl) (by simp) ?_
              refine AllReady.cons rfl (fun K hK => ?_) AllReady.nil
              (go_simp; go_at_call 21; (with_reducible refine (unhide HFB _ ((hf1r.out.below' hbA).below' (by (repeat' (first | (with_reducible exact Below.refl _ _) | (with_reducible assumption) | (with_reducible refine Below.alloc ?_ ?_ _) | (with_reducible refine below_ext ?_ ?_ _ _) | (with_reducible refine Below.setCell ?_ ?_ _) | (with_reducible refine Below.drew ?_) | (with_reducible refine below_drewN ?_ _))); all_goals (first | omega | (simp; done) | (simp; omega))))).mono ?_); rintro e wb ⟨rfl, hbb⟩; have hbB : Below w4.heap.size w4 wb := below_then hbA (below_then (show Below wa.heap.size wa _ from (by (repeat' (first | (with_reducible exact Below.refl _ _) | (with_reducible assumption) | (with_reducible refine Below.alloc ?_ ?_ _) | (with_reducible refine below_ext ?_ ?_ _ _) | (with_reducible refine Below.setCell ?_ ?_ _) | (with_reducible refine Below.drew ?_) | (with_reducible refine below_drewN ?_ _))); all_goals (first | omega | (simp; done) | (simp; omega)))) hbb (by first | exact Nat.le_refl _ | simp)) hbA.size; have hsB := hbB.size; have hpb := (hbB.cell (p := ⟨bp, op + i * 2, none⟩) hbp4).trans hp4; have hqb := (hbB.cell (p := ⟨bf, of + j0 * 3 + 2, none⟩) hbf4).trans hq4)
              try go_simp
              first | (refine hK _ _ ?_; clear hK K) | skip
              refine wpAny_take (i := 20) (v := ?_) rfl (by kernel_rfl) (by kernel_rfl) (by kernel_rfl) (fun _ _ _ h => h) (Or.inl ⟨by rfl, ?_⟩) ?_
              rotate_left
              · intro w; go_simp <;> with_reducible rfl
              try go_simp
              refine wpAny_take (i := 21) (v := ?_) rfl (by kernel_rfl) (by kernel_rfl) (by kernel_rfl) (fun _ _ _ h => h) (Or.inl ⟨by rfl, ?_⟩) ?_
              rotate_left
              · intro w; go_simp <;> with_reducible rfl
              try go_simp
              refine wpAny_take (i := 22) (v := ?_) rfl (by kernel_rfl) (by kernel_rfl) (by kernel_rfl) (fun _ _ _ h => h) (Or.inl ⟨by rfl, ?_⟩) ?_
              rotate_left
              · intro w; go_simp <;> with_reducible rfl
              try go_simp
              refine wpAny_take (i := 23) (v := undef) rfl (by kernel_rfl) (by kernel_rfl) (by kernel_rfl) (fun _ _ _ h => h) (Or.inr ⟨by rfl, rfl⟩) ?_
              try go_simp
              refine wpAny_take (i := 24) (v := undef) rfl (by kernel_rfl) (by kernel_rfl) (by kernel_rfl) (fun _ _ _ h => h) (Or.inr ⟨by rfl, rfl⟩) ?_
              try go_simp
              refine wpAny_take (i := 25) (v := undef) rfl (by kernel_rfl) (by kernel_rfl) (by kernel_rfl) (fun _ _ _ h => h) (Or.inr ⟨by rfl, rfl⟩) ?_
              try go_simp
              refine wpAny_take (i := 26) (v := undef) rfl (by kernel_rfl) (by kernel_rfl) (by kernel_rfl) (fun _ _ _ h => h) (Or.inr ⟨by rfl, rfl⟩) ?_
              try go_simp
              refine wpAny_take (i := 27) (v := undef) rfl (by kernel_rfl) (by kernel_rfl) (by kernel_rfl) (fun _ _ _ h => h) (Or.inr ⟨by rfl, rfl⟩) ?_
              try go_simp
              refine wpAny_take (i := 28) (v := undef) rfl (by kernel_rfl) (by kernel_rfl) (by kernel_rfl) (fun _ _ _ h => h) (Or.inr ⟨by rfl, rfl⟩) ?_
              try go_simp
              refine wpAny_take (i := 29) (v := undef) rfl (by kernel_rfl) (by kernel_rfl) (by kernel_rfl) (fun _ _ _ h => h) (Or.inr ⟨by rfl, rfl⟩) ?_
              try go_simp
              refine wpAny_take (i := 30) (v := undef) rfl (by kernel_rfl) (by kernel_rfl) (by kernel_rfl) (fun _ _ _ h => h) (Or.inr ⟨by rfl, rfl⟩) ?_
              try go_simp
              refine wpAny_take (i := 31) (v := undef) rfl (by kernel_rfl) (by kernel_rfl) (by kernel_rfl) (fun _ _ _ h => h) (Or.inr ⟨by rfl, rfl⟩) ?_
              try go_simp
              refine wpAny_take (i := 32) (v := undef) rfl (by kernel_rfl) (by kernel_rfl) (by kernel_rfl) (fun _ _ _ h => h) (Or.inr ⟨by rfl, rfl⟩) ?_
              try go_simp
              refine wpAny_take (i := 33) (v := undef) rfl (by kernel_rfl) (by kernel_rfl) (by kernel_rfl) (fun _ _ _ h => h) (Or.inr ⟨by rfl, rfl⟩) ?_
              try go_simp
              refine wpAny_take (i := 34) (v := undef) rfl (by kernel_rfl) (by kernel_rfl) (by kernel_rfl) (fun _ _ _ h => h) (Or.inr ⟨by rfl, rfl⟩) ?_
              try go_simp
              refine wpAny_take (i := 35) (v := undef) rfl (by kernel_rfl) (by kernel_rfl) (by kernel_rfl) (fun _ _ _ h => h) (Or.inr ⟨by rfl, rfl⟩) ?_
              try go_simp
              refine wpAny_take (i := 36) (v := undef) rfl (by kernel_rfl) (by kernel_rfl) (by kernel_rfl) (fun _ _ _ h => h) (Or.inr ⟨by rfl, rfl⟩) ?_
              try go_simp
              refine wpAny_take (i := 37) (v := ?_) rfl (by kernel_rfl) (by kernel_rfl) (by kernel_rfl) (fun _ _ _ h => h) (Or.inl ⟨by rfl, ?_⟩) ?_
              rotate_left
              · intro w; go_simp <;> with_reducible rfl
              try go_simp
              refine wpAny_take (i := 38) (v := ?_) rfl (by kernel_rfl) (by kernel_rfl) (by kernel_rfl) (fun _ _ _ h => h) (Or.inl ⟨by rfl, ?_⟩) ?_
              rotate_left
              · intro w; go_simp <;> with_reducible rfl
              try go_simp
              refine wpAny_done (by kernel_rfl) ?_ _
              go_wp2_with fail
              go_roundw
              case rel => exact ⟨i + 1, by omega, by go_num, below_then hbw4 hbB hbw4.size⟩
              case measure => simp [intOf] <;> omega

--/R16B
            · have hcl := cls_2 hm hx0 h2
              have HCL := hide (fun W h0 h1 => iClassifyPort_any W (some ⟨bf, of, none⟩) k0 d0 w.heap.size w1.heap.size L0 A1 k1 d1 w.heap.size w1.heap.size L1 x h0 (by omega) h1 (by omega))
              rw [hcl] at HCL
              rw [h2] at HFB
              clear h2 hm hx0 hcl
              go_wp2_with fail
--R16C
              refine wp_region_any (by kernel_rfl) ?_
              try (change wpAny _ _ _ _ _ _ _ (World.drew _))
              refine wpAny_take (i := 0) (v := ?_) rfl (by kernel_rfl) (by kernel_rfl) (by kernel_rfl) (fun _ _ _ h => h) (Or.inl ⟨by rfl, ?_⟩) ?_
              rotate_left
              · intro w; go_simp <;> with_reducible rfl
              try go_simp
              refine wpAny_take (i := 1) (v := ?_) rfl (by kernel_rfl) (by kernel_rfl) (by kernel_rfl) (fun _ _ _ h => h) (Or.inl ⟨by rfl, ?_⟩) ?_
              rotate_left
              · intro w; go_simp <;> with_reducible rfl
              try go_simp
              refine wpAny_take (i := 2) (v := ?_) rfl (by kernel_rfl) (by kernel_rfl) (by kernel_rfl) (fun _ _ _ h => h) (Or.inl ⟨by rfl, ?_⟩) ?_
              rotate_left
              · intro w; go_simp <;> with_reducible rfl
              try go_simp
              refine wpAny_take (i := 3) (v := ?_) rfl (by kernel_rfl) (by kernel_rfl) (by kernel_rfl) (fun _ _ _ h => h) (Or.inl ⟨by rfl, ?_⟩) ?_
              rotate_left
              · intro w; go_simp <;> with_reducible rfl
              try go_simp
              refine wpAny_take (i := 4) (v := ?_) rfl (by kernel_rfl) (by kernel_rfl) (by kernel_rfl) (fun _ _ _ h => h) (Or.inl ⟨by rfl, ?_⟩) ?_
              rotate_left
              · intro w; go_simp <;> with_reducible rfl
              try go_simp
              refine wpAny_take (i := 5) (v := ?_) rfl (by kernel_rfl) (by kernel_rfl) (by kernel_rfl) (fun _ _ _ h => h) (Or.inl ⟨by rfl, ?_⟩) ?_
              rotate_left
              · intro w; go_simp <;> with_reducible rfl
              try go_simp
              refine wpAny_ready (rs := [6]) (by kernel_rfl) (by simp) ?_
              refine AllReady.cons rfl (fun K hK => ?_) AllReady.nil
              go_simp
              first | (refine hK _ _ ?_; clear hK K) | skip
              refine wpAny_ready (rs := [7]) (by kernel_rfl) (by simp) ?_
              refine AllReady.cons rfl (fun K hK => ?_) AllReady.nil
              (go_simp; go_at_call 26; (with_reducible refine (unhide HM _ (hf0r.out.below' (by (repeat' (first | (with_reducible exact Below.refl _ _) | (with_reducible assumption) | (with_reducible refine Below.alloc ?_ ?_ _) | (with_reducible refine below_ext ?_ ?_ _ _) | (with_reducible refine Below.setCell ?_ ?_ _) | (with_reducible refine Below.drew ?_) | (with_reducible refine below_drewN ?_ _))); all_goals (first | omega | (simp; done) | (simp; omega))))).mono ?_); rintro e wa ⟨rfl, hba⟩; have hbA : Below w4.heap.size w4 wa := below_then (show Below w4.heap.size w4 _ from (by (repeat' (first | (with_reducible exact Below.refl _ _) | (with_reducible assumption) | (with_reducible refine Below.alloc ?_ ?_ _) | (with_reducible refine below_ext ?_ ?_ _ _) | (with_reducible refine Below.setCell ?_ ?_ _) | (with_reducible refine Below.drew ?_) | (with_reducible refine below_drewN ?_ _))); all_goals (first | omega | (simp; done) | (simp; omega)))) hba (by first | exact Nat.le_refl _ | simp); have hsA := hbA.size; have hpa := (hbA.cell (p := ⟨bp, op + i * 2, none⟩) hbp4).trans hp4; have hqa := (hbA.cell (p := ⟨bf, of + j0 * 3 + 2, none⟩) hbf4).trans hq4)
              try go_simp
              first | (refine hK _ _ ?_; clear hK K) | skip
              refine wpAny_take (i := 8) (v := ?_) rfl (by kernel_rfl) (by kernel_rfl) (by kernel_rfl) (fun _ _ _ h => h) (Or.inl ⟨by rfl, ?_⟩) ?_
              rotate_left
              · intro w; go_simp <;> with_reducible rfl
              try go_simp
              refine wpAny_take (i := 9) (v := ?_) rfl (by kernel_rfl) (by kernel_rfl) (by kernel_rfl) (fun _ _ _ h => h) (Or.inl ⟨by rfl, ?_⟩) ?_
              rotate_left
              · intro w; go_simp <;> with_reducible rfl
              try go_simp
              refine wpAny_take (i := 10) (v := ?_) rfl (by kernel_rfl) (by kernel_rfl) (by kernel_rfl) (fun _ _ _ h => h) (Or.inl ⟨by rfl, ?_⟩) ?_
              rotate_left
              · intro w; go_simp <;> with_reducible rfl
              try go_simp
              refine wpAny_take (i := 11) (v := ?_) rfl (by kernel_rfl) (by kernel_rfl) (by kernel_rfl) (fun _ _ _ h => h) (Or.inl ⟨by rfl, ?_⟩) ?_
              rotate_left
              · intro w; go_simp <;> with_reducible rfl
              try go_simp
              refine wpAny_take (i := 12) (v := ?_) rfl (by kernel_rfl) (by kernel_rfl) (by kernel_rfl) (fun _ _ _ h => h) (Or.inl ⟨by rfl, ?_⟩) ?_
              rotate_left
              · intro w; go_simp <;> with_reducible rfl
              try go_simp
              refine wpAny_take (i := 13) (v := ?_) rfl (by kernel_rfl) (by kernel_rfl) (by kernel_rfl) (fun _ _ _ h => h) (Or.inl ⟨by rfl, ?_⟩) ?_
              rotate_left
              · intro w; go_simp <;> with_reducible rfl
              try go_simp
              refine wpAny_take (i := 14) (v := ?_) rfl (by kernel_rfl) (by kernel_rfl) (by kernel_rfl) (fun _ _ _ h => h) (Or.inl ⟨by rfl, ?_⟩) ?_
              rotate_left
              · intro w; go_simp <;> with_reducible rfl
              try go_simp
              refine wpAny_take (i := 15) (v := ?_) rfl (by kernel_rfl) (by kernel_rfl) (by kernel_rfl) (fun _ _ _ h => h) (Or.inl ⟨by rfl, ?_⟩) ?_
              rotate_left
              · intro w; go_simp <;> with_reducible rfl
              try go_simp
              refine wpAny_take (i := 16) (v := ?_) rfl (by kernel_rfl) (by kernel_rfl) (by kernel_rfl) (fun _ _ _ h => h) (Or.inl ⟨by rfl, ?_⟩) ?_
              rotate_left
              · intro w; go_simp <;> with_reducible rfl
              try go_simp
              refine wpAny_take (i := 17) (v := ?_) rfl (by kernel_rfl) (by kernel_rfl) (by kernel_rfl) (fun _ _ _ h => h) (Or.inl ⟨by rfl, ?_⟩) ?_
              rotate_left
              · intro w; go_simp <;> with_reducible rfl
              try go_simp
              refine wpAny_ready (rs := [18]) (by kernel_rfl) (by simp) ?_
              refine AllReady.cons rfl (fun K hK => ?_) AllReady.nil
              go_simp
              first | (refine hK _ _ ?_; clear hK K) | skip
              refine wpAny_ready (rs := [19]) (by kernel_rfl) (by simp) ?_
              refine AllReady.cons rfl (fun K hK => ?_) AllReady.nil
              (go_simp; go_at_call 21; (with_reducible refine (unhide HFB _ ((hf1r.out.below' hbA).below' (by (repeat' (first | (with_reducible exact Below.refl _ _) | (with_reducible assumption) | (with_reducible refine Below.alloc ?_ ?_ _) | (with_reducible refine below_ext ?_ ?_ _ _) | (with_reducible refine Below.setCell ?_ ?_ _) | (with_reducible refine Below.drew ?_) | (with_reducible refine below_drewN ?_ _))); all_goals (first | omega | (simp; done) | (simp; omega))))).mono ?_); rintro e wb ⟨rfl, hbb⟩; have hbB : Below w4.heap.size w4 wb := below_then hbA (below_then (show Below wa.heap.size wa _ from (by (repeat' (first | (with_reducible exact Below.refl _ _) | (with_reducible assumption) | (with_reducible refine Below.alloc ?_ ?_ _) | (with_reducible refine below_ext ?_ ?_ _ _) | (with_reducible refine Below.setCell ?_ ?_ _) | (with_reducible refine Below.drew ?_) | (with_reducible refine below_drewN ?_ _))); all_goals (first | omega | (simp; done) | (simp; omega)))) hbb (by first | exact Nat.le_refl _ | simp)) hbA.size; have hsB := hbB.size; have hpb := (hbB.cell (p := ⟨bp, op + i * 2, none⟩) hbp4).trans hp4; have hqb := (hbB.cell (p := ⟨bf, of + j0 * 3 + 2, none⟩) hbf4).trans hq4)
              try go_simp
              first | (refine hK _ _ ?_; clear hK K) | skip
              refine wpAny_take (i := 20) (v := ?_) rfl (by kernel_rfl) (by kernel_rfl) (by kernel_rfl) (fun _ _ _ h => h) (Or.inl ⟨by rfl, ?_⟩) ?_
              rotate_left
              · intro w; go_simp <;> with_reducible rfl
              try go_simp
              refine wpAny_take (i := 21) (v := ?_) rfl (by kernel_rfl) (by kernel_rfl) (by kernel_rfl) (fun _ _ _ h => h) (Or.inl ⟨by rfl, ?_⟩) ?_
              rotate_left
              · intro w; go_simp <;> with_reducible rfl
              try go_simp
              refine wpAny_take (i := 22) (v := ?_) rfl (by kernel_rfl) (by kernel_rfl) (by kernel_rfl) (fun _ _ _ h => h) (Or.inl ⟨by rfl, ?_⟩) ?_
              rotate_left
              · intro w; go_simp <;> with_reducible rfl
              try go_simp
              refine wpAny_take (i := 23) (v := ?_) rfl (by kernel_rfl) (by kernel_rfl) (by kernel_rfl) (fun _ _ _ h => h) (Or.inl ⟨by rfl, ?_⟩) ?_
              rotate_left
              · intro w; go_simp <;> with_reducible rfl
              try go_simp
              refine wpAny_take (i := 24) (v := ?_) rfl (by kernel_rfl) (by kernel_rfl) (by kernel_rfl) (fun _ _ _ h => h) (Or.inl ⟨by rfl, ?_⟩) ?_
              rotate_left
              · intro w; go_simp <;> with_reducible rfl
              try go_simp
              refine wpAny_take (i := 25) (v := ?_) rfl (by kernel_rfl) (by kernel_rfl) (by kernel_rfl) (fun _ _ _ h => h) (Or.inl ⟨by rfl, ?_⟩) ?_
              rotate_left
              · intro w; go_simp <;> with_reducible rfl
              try go_simp
              refine wpAny_take (i := 26) (v := ?_) rfl (by kernel_rfl) (by kernel_rfl) (by kernel_rfl) (fun _ _ _ h => h) (Or.inl ⟨by rfl, ?_⟩) ?_
              rotate_left
              · intro w; go_simp <;> with_reducible rfl
              try go_simp
              refine wpAny_take (i := 27) (v := ?_) rfl (by kernel_rfl) (by kernel_rfl) (by kernel_rfl) (fun _ _ _ h => h) (Or.inl ⟨by rfl, ?_⟩) ?_
              rotate_left
              · intro w; go_simp <;> with_reducible rfl
              try go_simp
              refine wpAny_take (i := 28) (v := ?_) rfl (by kernel_rfl) (by kernel_rfl) (by kernel_rfl) (fun _ _ _ h => h) (Or.inl ⟨by rfl, ?_⟩) ?_
              rotate_left
              · intro w; go_simp <;> with_reducible rfl
              try go_simp
              refine wpAny_take (i := 31) (v := ?_) rfl (by kernel_rfl) (by kernel_rfl) (by kernel_rfl) (fun _ _ _ h => h) (Or.inl ⟨by rfl, ?_⟩) ?_
              rotate_left
              · intro w; go_simp <;> with_reducible rfl
              try go_simp
              refine wpAny_take (i := 32) (v := ?_) rfl (by kernel_rfl) (by kernel_rfl) (by kernel_rfl) (fun _ _ _ h => h) (Or.inl ⟨by rfl, ?_⟩) ?_
              rotate_left
              · intro w; go_simp <;> with_reducible rfl
              try go_simp
              refine wpAny_take (i := 33) (v := ?_) rfl (by kernel_rfl) (by kernel_rfl) (by kernel_rfl) (fun _ _ _ h => h) (Or.inl ⟨by rfl, ?_⟩) ?_
              rotate_left
              · intro w; go_simp <;> with_reducible rfl
              try go_simp
              refine wpAny_take (i := 34) (v := ?_) rfl (by kernel_rfl) (by kernel_rfl) (by kernel_rfl) (fun _ _ _ h => h) (Or.inl ⟨by rfl, ?_⟩) ?_
              rotate_left
              · intro w; go_simp <;> with_reducible rfl
              try go_simp
              refine wpAny_ready (rs := [29, 35]) (by kernel_rfl) (by simp) ?_
              refine AllReady.cons rfl (fun K hK => ?_) ?_
              · go_simp
                first | (refine hK _ _ ?_; clear hK K) | skip
                refine wpAny_ready (rs := [30, 35]) (by kernel_rfl) (by simp) ?_
                refine AllReady.cons rfl (fun K hK => ?_) ?_
                · (go_simp; go_at_call 47; (with_reducible refine (unhide HCL _ ((hf0r.out.below' hbB).below' (by (repeat' (first | (with_reducible exact Below.refl _ _) | (with_reducible assumption) | (with_reducible refine Below.alloc ?_ ?_ _) | (with_reducible refine below_ext ?_ ?_ _ _) | (with_reducible refine Below.setCell ?_ ?_ _) | (with_reducible refine Below.drew ?_) | (with_reducible refine below_drewN ?_ _))); all_goals (first | omega | (simp; done) | (simp; omega)))) ((hf1r.out.below' hbB).below' (by (repeat' (first | (with_reducible exact Below.refl _ _) | (with_reducible assumption) | (with_reducible refine Below.alloc ?_ ?_ _) | (with_reducible refine below_ext ?_ ?_ _ _) | (with_reducible refine Below.setCell ?_ ?_ _) | (with_reducible refine Below.drew ?_) | (with_reducible refine below_drewN ?_ _))); all_goals (first | omega | (simp; done) | (simp; omega))))).mono ?_); rintro e wc ⟨rfl, hbc⟩; have hbC : Below w4.heap.size w4 wc := below_then hbB (below_then (show Below wb.heap.size wb _ from (by (repeat' (first | (with_reducible exact Below.refl _ _) | (with_reducible assumption) | (with_reducible refine Below.alloc ?_ ?_ _) | (with_reducible refine below_ext ?_ ?_ _ _) | (with_reducible refine Below.setCell ?_ ?_ _) | (with_reducible refine Below.drew ?_) | (with_reducible refine below_drewN ?_ _))); all_goals (first | omega | (simp; done) | (simp; omega)))) hbc (by first | exact Nat.le_refl _ | simp)) hbB.size; have hsC := hbC.size; have hqc := (hbC.cell (p := ⟨bf, of + j0 * 3 + 2, none⟩) hbf4).trans hq4)
                  try go_simp
                  first | (refine hK _ _ ?_; clear hK K) | skip
                  refine wpAny_ready (rs := [35]) (by kernel_rfl) (by simp) ?_
                  refine AllReady.cons rfl (fun K hK => ?_) AllReady.nil
                  go_simp
                  first | (refine hK _ _ ?_; clear hK K) | skip
                  refine wpAny_take (i := 36) (v := ?_) rfl (by kernel_rfl) (by kernel_rfl) (by kernel_rfl) (fun _ _ _ h => h) (Or.inl ⟨by rfl, ?_⟩) ?_
                  rotate_left
                  · intro w; go_simp <;> with_reducible rfl
                  try go_simp
                  refine wpAny_take (i := 37) (v := ?_) rfl (by kernel_rfl) (by kernel_rfl) (by kernel_rfl) (fun _ _ _ h => h) (Or.inl ⟨by rfl, ?_⟩) ?_
                  rotate_left
                  · intro w; go_simp <;> with_reducible rfl
                  try go_simp
                  refine wpAny_take (i := 38) (v := ?_) rfl (by kernel_rfl) (by kernel_rfl) (by kernel_rfl) (fun _ _ _ h => h) (Or.inl ⟨by rfl, ?_⟩) ?_
                  rotate_left
                  · intro w; go_simp <;> with_reducible rfl
                  try go_simp
                  refine wpAny_done (by kernel_rfl) ?_ _
                  go_wp2_with fail
                  go_roundw
                  case rel => exact ⟨i + 1, by omega, by go_num, below_then hbw4 hbC hbw4.size⟩
                  case measure => simp [intOf] <;> omega

                refine AllReady.cons rfl (fun K hK => ?_) AllReady.nil
                · go_simp
                  first | (refine hK _ _ ?_; clear hK K) | skip
                  refine wpAny_ready (rs := [30]) (by kernel_rfl) (by simp) ?_
                  refine AllReady.cons rfl (fun K hK => ?_) AllReady.nil
                  (go_simp; go_at_call 47; (with_reducible refine (unhide HCL _ ((hf0r.out.below' hbB).below' (by (repeat' (first | (with_reducible exact Below.refl _ _) | (with_reducible assumption) | (with_reducible refine Below.alloc ?_ ?_ _) | (with_reducible refine below_ext ?_ ?_ _ _) | (with_reducible refine Below.setCell ?_ ?_ _) | (with_reducible refine Below.drew ?_) | (with_reducible refine below_drewN ?_ _))); all_goals (first | omega | (simp; done) | (simp; omega)))) ((hf1r.out.below' hbB).below' (by (repeat' (first | (with_reducible exact Below.refl _ _) | (with_reducible assumption) | (with_reducible refine Below.alloc ?_ ?_ _) | (with_reducible refine below_ext ?_ ?_ _ _) | (with_reducible refine Below.setCell ?_ ?_ _) | (with_reducible refine Below.drew ?_) | (with_reducible refine below_drewN ?_ _))); all_goals (first | omega | (simp; done) | (simp; omega))))).mono ?_); rintro e wc ⟨rfl, hbc⟩; have hbC : Below w4.heap.size w4 wc := below_then hbB (below_then (show Below wb.heap.size wb _ from (by (repeat' (first | (with_reducible exact Below.refl _ _) | (with_reducible assumption) | (with_reducible refine Below.alloc ?_ ?_ _) | (with_reducible refine below_ext ?_ ?_ _ _) | (with_reducible refine Below.setCell ?_ ?_ _) | (with_reducible refine Below.drew ?_) | (with_reducible refine below_drewN ?_ _))); all_goals (first | omega | (simp; done) | (simp; omega)))) hbc (by first | exact Nat.le_refl _ | simp)) hbB.size; have hsC := hbC.size; have hqc := (hbC.cell (p := ⟨bf, of + j0 * 3 + 2, none⟩) hbf4).trans hq4)
                  try go_simp
                  first | (refine hK _ _ ?_; clear hK K) | skip
                  refine wpAny_take (i := 36) (v := ?_) rfl (by kernel_rfl) (by kernel_rfl) (by kernel_rfl) (fun _ _ _ h => h) (Or.inl ⟨by rfl, ?_⟩) ?_
                  rotate_left
                  · intro w; go_simp <;> with_reducible rfl
                  try go_simp
                  refine wpAny_take (i := 37) (v := ?_) rfl (by kernel_rfl) (by kernel_rfl) (by kernel_rfl) (fun _ _ _ h => h) (Or.inl ⟨by rfl, ?_⟩) ?_
                  rotate_left
                  · intro w; go_simp <;> with_reducible rfl
                  try go_simp
                  refine wpAny_take (i := 38) (v := ?_) rfl (by kernel_rfl) (by kernel_rfl) (by kernel_rfl) (fun _ _ _ h => h) (Or.inl ⟨by rfl, ?_⟩) ?_
                  rotate_left
                  · intro w; go_simp <;> with_reducible rfl
                  try go_simp
                  refine wpAny_done (by kernel_rfl) ?_ _
                  go_wp2_with fail
                  go_roundw
                  case rel => exact ⟨i + 1, by omega, by go_num, below_then hbw4 hbC hbw4.size⟩
                  case measure => simp [intOf] <;> omega

              refine AllReady.cons rfl (fun K hK => ?_) AllReady.nil
              · go_simp
                first | (refine hK _ _ ?_; clear hK K) | skip
                refine wpAny_ready (rs := [29]) (by kernel_rfl) (by simp) ?_
                refine AllReady.cons rfl (fun K hK => ?_) AllReady.nil
                go_simp
                first | (refine hK _ _ ?_; clear hK K) | skip
                refine wpAny_ready (rs := [30]) (by kernel_rfl) (by simp) ?_
                refine AllReady.cons rfl (fun K hK => ?_) AllReady.nil
                (go_simp; go_at_call 47; (with_reducible refine (unhide HCL _ ((hf0r.out.below' hbB).below' (by (repeat' (first | (with_reducible exact Below.refl _ _) | (with_reducible assumption) | (with_reducible refine Below.alloc ?_ ?_ _) | (with_reducible refine below_ext ?_ ?_ _ _) | (with_reducible refine Below.setCell ?_ ?_ _) | (with_reducible refine Below.drew ?_) | (with_reducible refine below_drewN ?_ _))); all_goals (first | omega | (simp; done) | (simp; omega)))) ((hf1r.out.below' hbB).below' (by (repeat' (first | (with_reducible exact Below.refl _ _) | (with_reducible assumption) | (with_reducible refine Below.alloc ?_ ?_ _) | (with_reducible refine below_ext ?_ ?_ _ _) | (with_reducible refine Below.setCell ?_ ?_ _) | (with_reducible refine Below.drew ?_) | (with_reducible refine below_drewN ?_ _))); all_goals (first | omega | (simp; done) | (simp; omega))))).mono ?_); rintro e wc ⟨rfl, hbc⟩; have hbC : Below w4.heap.size w4 wc := below_then hbB (below_then (show Below wb.heap.size wb _ from (by (repeat' (first | (with_reducible exact Below.refl _ _) | (with_reducible assumption) | (with_reducible refine Below.alloc ?_ ?_ _) | (with_reducible refine below_ext ?_ ?_ _ _) | (with_reducible refine Below.setCell ?_ ?_ _) | (with_reducible refine Below.drew ?_) | (with_reducible refine below_drewN ?_ _))); all_goals (first | omega | (simp; done) | (simp; omega)))) hbc (by first | exact Nat.le_refl _ | simp)) hbB.size; have hsC := hbC.size; have hqc := (hbC.cell (p := ⟨bf, of + j0 * 3 + 2, none⟩) hbf4).trans hq4)
                try go_simp
                first | (refine hK _ _ ?_; clear hK K) | skip
                refine wpAny_take (i := 36) (v := ?_) rfl (by kernel_rfl) (by kernel_rfl) (by kernel_rfl) (fun _ _ _ h => h) (Or.inl ⟨by rfl, ?_⟩) ?_
                rotate_left
                · intro w; go_simp <;> with_reducible rfl
                try go_simp
                refine wpAny_take (i := 37) (v := ?_) rfl (by kernel_rfl) (by kernel_rfl) (by kernel_rfl) (fun _ _ _ h => h) (Or.inl ⟨by rfl, ?_⟩) ?_
                rotate_left
                · intro w; go_simp <;> with_reducible rfl
                try go_simp
                refine wpAny_take (i := 38) (v := ?_) rfl (by kernel_rfl) (by kernel_rfl) (by kernel_rfl) (fun _ _ _ h => h) (Or.inl ⟨by rfl, ?_⟩) ?_
                rotate_left
                · intro w; go_simp <;> with_reducible rfl
                try go_simp
                refine wpAny_done (by kernel_rfl) ?_ _
                go_wp2_with fail
                go_roundw
                case rel => exact ⟨i + 1, by omega, by go_num, below_then hbw4 hbC hbw4.size⟩
                case measure => simp [intOf] <;> omega

--/R16C
        · obtain rfl : i = k2 := by omega
          have HV := hide (fun W h => sAVB_any W A1 k1 d1 w.heap.size w1.heap.size L1 h (by omega))
          have hf1w := HF1.out.below' hb
          cases hv : vBea L1 k1
          · rw [hv] at HV
            clear hv htot
            go_wp2_with fail
            refine (unhide HV _ hf1w).mono ?_
            rintro e w4 ⟨rfl, hb4⟩
            have hbw := below_then HB1.out (below_then hb hb4 hsz) hs1
            clear hb4 hf1w
            go_wp2_with fail
            go_ret
            exact ⟨rfl, hbw⟩
          · rw [hv] at HV
            obtain rfl : T = i := by rw [htot.out hv, hml]
            clear hv htot
            go_wp2_with fail
            refine (unhide HV _ hf1w).mono ?_
            rintro e w4 ⟨rfl, hb4⟩
            have hbw := below_then HB1.out (below_then hb hb4 hsz) hs1
            clear hb4 hf1w
            go_wp2_with fail
            go_ret
            exact ⟨rfl, hbw⟩
end Go.Proofs.Yticfmkfiibhafaa
