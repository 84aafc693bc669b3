/- spec.SetBearer: what it returns. -/
import Derived.Test.YticfmkfiibhafaaPlace
import Derived.IntWalk
namespace Go.Proofs.Yticfmkfiibhafaa
open Go.RowKit Go.Sep

@[go_sem] theorem size_drewN' (w : World) (n : Nat) : (w.drewN n).heap.size = w.heap.size := rfl
theorem chg_below {B lo hi : Nat} {w W v : World} (h : Below B w W) (hc : Chg lo hi W v) (hB : B ≤ lo) (hw : B ≤ W.heap.size) : Below B w v := below_then h (hc.below hB hw) (Nat.le_refl _)
theorem Rd.endE3 {l : List (Int × Int × Int)} {n lo hi k : Nat} {X : Option Addr} {W : World} (hl : l.length = n) (hk : k ≤ n) (h : ¬ k < n) : Rd W lo hi 3 X (n - k) ((l.drop k).flatMap c3) := by
  rw [List.drop_eq_nil_of_le (by omega), show n - k = 0 by omega]
  exact Rd.nil_ _ _ _ _ _
theorem Rd.cutS3 {l : List (Int × Int × Int)} {n lo hi k b o : Nat} {W : World} (h : Rd W lo hi 3 (some ⟨b, o, none⟩) n (l.flatMap c3)) (hk : k ≤ n) : Rd W lo hi 3 (some ⟨b, o + k * 3, none⟩) (n - k) ((l.drop k).flatMap c3) := by
  refine ⟨by rw [flat_len c3 3 c3_len, List.length_drop, h.len3], fun hn => ?_⟩
  obtain ⟨b', o', e, h1, h2, h3⟩ := h.2 (by omega)
  injection e with e
  injection e with e1 e2 _
  subst e1 e2
  refine ⟨b, o + k * 3, rfl, h1, h2, fun j u hu => ?_⟩
  rw [Nat.add_assoc]
  exact h3 _ _ (by rw [← drop_c3, List.getElem?_drop] at hu; exact hu)
set_option maxHeartbeats 4000000 in
set_option maxRecDepth 100000 in
theorem sSet_any (w : World) (A : Option Addr) (n c lo hi : Nat) (l : List (Int × Int × Int)) (x y z : Int) (hr : Rd w lo hi 3 A n (l.flatMap c3)) (hn : n ≤ 1048576) :
    Calls Try.prog 38 #[.slice A n c, .agg #[.int .i64 x, .int .i64 y, .int .i64 z]] w (MkV (fun v => .tuple #[v, .bool (setR l x y z).2]) w 46 3 (setR l x y z).1.length ((setR l x y z).1.flatMap c3)) := by
  have hll := hr.len3
  obtain ⟨i0, hi0, hz0, hz1, hz2⟩ := info_parts infoBearer
  have hol := setO_len l x y z
  have HC := hide (fun W h => sCopyBe_any W A n c lo hi l h (by omega))
  have HF := hide (fun W A' c' lo' hi' h => sFindBearer_any W A' n c' lo' hi' l x h (by omega))
  have HV := hide (fun W A' N c' lo' hi' (hN : N = (setO l x y z).length) (h : Rd W lo' hi' 3 A' N ((setO l x y z).flatMap c3)) => (show Calls Try.prog 30 #[.slice A' N c'] W fun e w' => e = .returned (.bool (setV l x y z)) ∧ Below W.heap.size W w' from by subst hN; exact sAVB_big W A' _ c' lo' hi' (setO l x y z) h (by omega)))
  have HDONE := hide (fun (A3 : Option Addr) (c3' N hi' : Nat) (w3 : World) (hN : N = (setO l x y z).length) (h1 : N ≤ c3') (h2 : c3' ≤ maxLen) (h3 : Own w3 (w.heap.size + 1) hi' 46 3 (.slice A3 N c3') N ((setO l x y z).flatMap c3)) (h4 : Below w.heap.size w w3) (h5 : hi' ≤ w3.heap.size) (hv : setV l x y z = true) =>
    (show MkV (fun v => .tuple #[v, .bool (setR l x y z).2]) w 46 3 (setR l x y z).1.length ((setR l x y z).1.flatMap c3) (.returned (.tuple #[.slice A3 N c3', .bool true])) w3 from by
      rw [setR_y hv]
      subst hN
      exact ⟨A3, c3', rfl, h1, h2, h3.more (by omega) h5, h4⟩))
  have HFAIL := hide (fun (A3 : Option Addr) (c3' : Nat) (w3 : World) (hv : setV l x y z = false) (h1 : n ≤ c3') (h2 : c3' ≤ maxLen) (h3 : Own w3 w.heap.size w3.heap.size 46 3 (.slice A3 n c3') n (l.flatMap c3)) (h4 : Below w.heap.size w w3) =>
    (show MkV (fun v => .tuple #[v, .bool (setR l x y z).2]) w 46 3 (setR l x y z).1.length ((setR l x y z).1.flatMap c3) (.returned (.tuple #[.slice A3 n c3', .bool false])) w3 from by
      rw [setR_n hv]
      simp only [hll]
      exact ⟨A3, c3', rfl, h1, h2, h3, h4⟩))
  have HS0 := hide (fun h => setO_no (l := l) (x := x) (y := y) (z := z) h)
  have HS1 := hide (fun i h => setO_yes (l := l) (x := x) (y := y) (z := z) (i := i) h)
  have HP := hide (fidx0 (isId x) l)
  have HN := hide (fun h => fidx_none (f := isId x) (l := l) 0 h)
  generalize fidx (isId x) 0 l = f at HF HS0 HS1 HP HN
  generalize setR l x y z = R at HDONE HFAIL ⊢
  generalize setV l x y z = bv at HV HDONE HFAIL
  generalize setO l x y z = O at HS0 HS1 HV HDONE hol
  go_enter Try.func38, Try.ntmps38
  go_wp2_with fail
  refine (unhide HC _ (hr.alloc _)).mono ?_
  rintro e w1 ⟨A1, c1, rfl, hc1, hm1, ho1, hb1⟩
  obtain ⟨hx0, hx1, hx2, hbw1, hsz1⟩ := box3 hb1
  have ho1' := ho1.more (lo' := w.heap.size + 1) (hi' := w1.heap.size) (by simp) (Nat.le_refl _)
  clear ho1 hb1
  go_wp2_with fail
  refine (unhide HF _ _ _ _ _ (hr.below' hbw1)).mono ?_
  rintro e w2 ⟨rfl, hb2⟩
  have hy0 := (bcell hb2).1 w.heap.size 0 (by omega)
  have hy1 := (bcell hb2).1 w.heap.size 1 (by omega)
  have hy2 := (bcell hb2).1 w.heap.size 2 (by omega)
  rw [hx0] at hy0
  rw [hx1] at hy1
  rw [hx2] at hy2
  have ho2 := ho1'.below' hb2
  have hbw2 := below_then hbw1 hb2 (Nat.le_trans (Nat.le_succ _) hsz1)
  have hsz2 := hb2.size
  clear hx0 hx1 hx2 hb2 hbw1 ho1' HF
  rcases HP.out with hf | ⟨i, t, hf, ht⟩
  · have hO := hide (HS0.out hf)
    have HNE := hide (HN.out hf)
    have hneg : ¬ (0 : Int) ≤ f := by omega
    clear HS0 HS1 HN HP hf
    go_wp2_with fail
    go_loopw [7] (fun i wr => ∃ k : Nat, k ≤ n ∧ i = .int .i64 k ∧ Hid (posB x 0 l = posB x k (l.drop k)) ∧ ∃ d, wr = w2.drewN d) (fun i _ => n - (intOf i).toNat)
    case atStart => exact ⟨0, Nat.zero_le _, rfl, hide (by simp), 0, rfl⟩
    case round =>
      obtain ⟨k, hk, rfl, HG, d, rfl⟩ := hrel
      by_cases hgo : ∃ p q r, l[k]? = some (p, q, r) ∧ decide (p < x) = true
      · obtain ⟨p, q, r, hx, hp⟩ := hgo
        have hlt : k < n := by have := (List.getElem?_eq_some_iff.1 hx).1; omega
        obtain ⟨b, o, p', q', r', rfl, hx', ha0, ha1, ha2⟩ := ho2.rd.at3 hll hlt
        rw [hx] at hx'
        injection hx' with hx'
        obtain ⟨rfl, rfl, rfl⟩ : p = p' ∧ q = q' ∧ r = r' := by simpa using hx'
        have HG2 := hide (HG.out.trans (pos_hit hx hp))
        have hgt : p < x := by simpa using hp
        have hlt' : (k : Int) < (n : Int) := by omega
        clear hx' hx HG hp
        go_wp2_with fail
        go_quiet (fail)
        go_wp2_with fail
        go_roundw
        case rel => exact ⟨k + 1, by omega, by go_num, HG2, (by first | exact ⟨_, rfl⟩ | exact ⟨_, World.drewN_drewN _ _ _⟩)⟩
        case measure => simp [intOf] <;> omega
      · have HK : Hid (posB x 0 l = k) ∧ (k = n ∨ ∃ p q r, l[k]? = some (p, q, r) ∧ ¬ p < x) := by
          by_cases hlt : k < n
          · obtain ⟨⟨p, q, r⟩, hx⟩ : ∃ t, l[k]? = some t := ⟨_, List.getElem?_eq_getElem (by omega)⟩
            have he : decide (p < x) = false := by
              cases hd : decide (p < x)
              · rfl
              · exact absurd ⟨p, q, r, hx, hd⟩ hgo
            exact ⟨hide (HG.out.trans (pos_miss hx he)), .inr ⟨p, q, r, hx, by simp at he; omega⟩⟩
          · obtain rfl : k = n := by omega
            exact ⟨hide (HG.out.trans (pos_end hll)), .inl rfl⟩
        obtain ⟨HK, hcase⟩ := HK
        have HOF := hide (fun (xs : List Value) (h : xs = (l.take k).flatMap c3 ++ [.int .i64 x, .int .i64 y, .int .i64 z] ++ (l.drop k).flatMap c3) => (show xs = O.flatMap c3 by
          rw [h, hO.out, HK.out, c3_app]
          simp))
        have HON := hide (show k + 1 + (n - k) = O.length by rw [hO.out, HK.out]; simp [hll] <;> omega)
        clear HG hgo HK hO HNE
        have hsplit : (∃ b o p, A1 = some ⟨b, o, none⟩ ∧ (k : Int) < (n : Int) ∧ w2.cell? ⟨b, o + k * 3, none⟩ = some (.int .i64 p) ∧ ¬ p < x ∧ ¬ c1 = k ∧ ¬ k = c1) ∨ ¬ k < n := by
          rcases hcase with rfl | ⟨p, q, r, hx, he⟩
          · exact .inr (by omega)
          · have hlt : k < n := by have := (List.getElem?_eq_some_iff.1 hx).1; omega
            obtain ⟨b, o, p', q', r', hA, hx', hx0, hx1, hx2⟩ := ho2.rd.at3 hll hlt
            rw [hx] at hx'
            injection hx' with hx'
            obtain ⟨rfl, rfl, rfl⟩ : p = p' ∧ q = q' ∧ r = r' := by simpa using hx'
            exact .inl ⟨b, o, p, hA, by omega, hx0, he, by omega, by omega⟩
        clear hcase
        rcases hsplit with ⟨b, o, p, rfl, hlt', hcx, he, hck, hkc⟩ | hge
        · have q1 : (k : Int) ≤ (c1 : Int) := by omega
          have hblk : w.heap.size < w2.heap.size := by omega
          have hz01 : ∀ (D : Nat) (o : Obj), ((w2.drewN D).alloc o).cell? ⟨w.heap.size, 0, none⟩ = some (.int .i64 x) := fun D o => ((bcell (show Below w2.heap.size w2 ((w2.drewN D).alloc o) from (below_drewN (Below.refl _ _) _).alloc (Nat.le_refl _) _)).1 w.heap.size 0 (by omega)).trans hy0
          have hz11 : ∀ (D : Nat) (o : Obj), ((w2.drewN D).alloc o).cell? ⟨w.heap.size, 1, none⟩ = some (.int .i64 y) := fun D o => ((bcell (show Below w2.heap.size w2 ((w2.drewN D).alloc o) from (below_drewN (Below.refl _ _) _).alloc (Nat.le_refl _) _)).1 w.heap.size 1 (by omega)).trans hy1
          have hz21 : ∀ (D : Nat) (o : Obj), ((w2.drewN D).alloc o).cell? ⟨w.heap.size, 2, none⟩ = some (.int .i64 z) := fun D o => ((bcell (show Below w2.heap.size w2 ((w2.drewN D).alloc o) from (below_drewN (Below.refl _ _) _).alloc (Nat.le_refl _) _)).1 w.heap.size 2 (by omega)).trans hy2
          go_wp2_with fail
          go_quiet (fail)
          go_wp2_with fail
          go_region_law (first
            | (refine step_app _ rfl (.tmp 36) (.tmp 39) 25 rfl 46 i0 (.agg #[.int .i64 0, .int .i64 0, .int .i64 0]) 3 24 (w2.heap.size) (w2.heap.size + 1) (w.heap.size + 1) w1.heap.size Try.underlying25 hi0 hz0 hz1 hz2 rfl (by omega) (.slice (some ⟨w2.heap.size, 0, none⟩) 0 0) 0 [] (by simp [Act.eval]) (own0 _ 46 3 _ (by rfl)) (some ⟨b, o, none⟩) k c1 ((l.take k).flatMap c3) (by simp [Act.eval]) (Rd.take3 (ho2.rd.below' (by (repeat' (first | (with_reducible exact Below.refl _ _) | (with_reducible assumption) | (with_reducible refine Below.alloc ?_ ?_ _) | (with_reducible refine below_ext ?_ ?_ _ _) | (with_reducible refine Below.setCell ?_ ?_ _) | (with_reducible refine Below.drew ?_) | (with_reducible refine below_drewN ?_ _))); all_goals (first | omega | (simp; done) | (simp; omega)))) hk) (c3_one _) (by unfold maxLen; omega) (by omega) (by first | omega | (simp <;> omega)) (by first | omega | (simp <;> omega)) ?_; intro A4 c4 v1 hown1 hc4 hm4 hch1; rw [Nat.zero_add, List.nil_append] at hown1; rw [Nat.zero_add] at hc4; have hsv1 := hch1.size; (try simp at hsv1); have hbv1 : Below w2.heap.size w2 v1 := chg_below (by (repeat' (first | (with_reducible exact Below.refl _ _) | (with_reducible assumption) | (with_reducible refine Below.alloc ?_ ?_ _) | (with_reducible refine below_ext ?_ ?_ _ _) | (with_reducible refine Below.setCell ?_ ?_ _) | (with_reducible refine Below.drew ?_) | (with_reducible refine below_drewN ?_ _))); all_goals (first | omega | (simp; done) | (simp; omega))) hch1 (by omega) (by first | omega | (simp <;> omega)); have p0 := ((bcell hbv1).1 w.heap.size 0 (by omega)).trans hy0; have p1 := ((bcell hbv1).1 w.heap.size 1 (by omega)).trans hy1; have p2 := ((bcell hbv1).1 w.heap.size 2 (by omega)).trans hy2)
            | (refine step_app _ rfl (.tmp 36) (.tmp 39) 25 rfl 46 i0 (.agg #[.int .i64 0, .int .i64 0, .int .i64 0]) 3 24 (w2.heap.size) (w2.heap.size + 1) (w.heap.size + 1) w1.heap.size Try.underlying25 hi0 hz0 hz1 hz2 rfl (by omega) (.slice (some ⟨w2.heap.size, 0, none⟩) 0 0) 0 [] (by simp [Act.eval]) ((own0 _ 46 3 _ (by rfl)).alloc _) (some ⟨b, o, none⟩) k c1 ((l.take k).flatMap c3) (by simp [Act.eval]) (Rd.take3 (ho2.rd.below' (by (repeat' (first | (with_reducible exact Below.refl _ _) | (with_reducible assumption) | (with_reducible refine Below.alloc ?_ ?_ _) | (with_reducible refine below_ext ?_ ?_ _ _) | (with_reducible refine Below.setCell ?_ ?_ _) | (with_reducible refine Below.drew ?_) | (with_reducible refine below_drewN ?_ _))); all_goals (first | omega | (simp; done) | (simp; omega)))) hk) (c3_one _) (by unfold maxLen; omega) (by omega) (by first | omega | (simp <;> omega)) (by first | omega | (simp <;> omega)) ?_; intro A4 c4 v1 hown1 hc4 hm4 hch1; rw [Nat.zero_add, List.nil_append] at hown1; rw [Nat.zero_add] at hc4; have hsv1 := hch1.size; (try simp at hsv1); have hbv1 : Below w2.heap.size w2 v1 := chg_below (by (repeat' (first | (with_reducible exact Below.refl _ _) | (with_reducible assumption) | (with_reducible refine Below.alloc ?_ ?_ _) | (with_reducible refine below_ext ?_ ?_ _ _) | (with_reducible refine Below.setCell ?_ ?_ _) | (with_reducible refine Below.drew ?_) | (with_reducible refine below_drewN ?_ _))); all_goals (first | omega | (simp; done) | (simp; omega))) hch1 (by omega) (by first | omega | (simp <;> omega)); have p0 := ((bcell hbv1).1 w.heap.size 0 (by omega)).trans hy0; have p1 := ((bcell hbv1).1 w.heap.size 1 (by omega)).trans hy1; have p2 := ((bcell hbv1).1 w.heap.size 2 (by omega)).trans hy2)
            | (refine step_app _ rfl (.tmp 36) (.tmp 39) 25 rfl 46 i0 (.agg #[.int .i64 0, .int .i64 0, .int .i64 0]) 3 24 (w2.heap.size + 1) (w2.heap.size + 1 + 1) (w.heap.size + 1) w1.heap.size Try.underlying25 hi0 hz0 hz1 hz2 rfl (by omega) (.slice (some ⟨w2.heap.size + 1, 0, none⟩) 0 0) 0 [] (by simp [Act.eval]) (own0 (World.alloc _ (.cells #[.int .i64 x, .int .i64 y, .int .i64 z] 46)) 46 3 _ (by simp)) (some ⟨b, o, none⟩) k c1 ((l.take k).flatMap c3) (by simp [Act.eval]) (Rd.take3 (ho2.rd.below' (by (repeat' (first | (with_reducible exact Below.refl _ _) | (with_reducible assumption) | (with_reducible refine Below.alloc ?_ ?_ _) | (with_reducible refine below_ext ?_ ?_ _ _) | (with_reducible refine Below.setCell ?_ ?_ _) | (with_reducible refine Below.drew ?_) | (with_reducible refine below_drewN ?_ _))); all_goals (first | omega | (simp; done) | (simp; omega)))) hk) (c3_one _) (by unfold maxLen; omega) (by omega) (by first | omega | (simp <;> omega)) (by first | omega | (simp <;> omega)) ?_; intro A4 c4 v1 hown1 hc4 hm4 hch1; rw [Nat.zero_add, List.nil_append] at hown1; rw [Nat.zero_add] at hc4; have hsv1 := hch1.size; (try simp at hsv1); have hbv1 : Below w2.heap.size w2 v1 := chg_below (by (repeat' (first | (with_reducible exact Below.refl _ _) | (with_reducible assumption) | (with_reducible refine Below.alloc ?_ ?_ _) | (with_reducible refine below_ext ?_ ?_ _ _) | (with_reducible refine Below.setCell ?_ ?_ _) | (with_reducible refine Below.drew ?_) | (with_reducible refine below_drewN ?_ _))); all_goals (first | omega | (simp; done) | (simp; omega))) hch1 (by omega) (by first | omega | (simp <;> omega)); have p0 := ((bcell hbv1).1 w.heap.size 0 (by omega)).trans hy0; have p1 := ((bcell hbv1).1 w.heap.size 1 (by omega)).trans hy1; have p2 := ((bcell hbv1).1 w.heap.size 2 (by omega)).trans hy2)
            | (refine step_app _ rfl (.tmp 40) (.tmp 42) 25 rfl 46 i0 (.agg #[.int .i64 0, .int .i64 0, .int .i64 0]) 3 24 (w2.heap.size) (v1.heap.size) (v1.heap.size) (v1.heap.size + 1) Try.underlying25 hi0 hz0 hz1 hz2 rfl (by omega) (.slice A4 k c4) k ((l.take k).flatMap c3) (by simp [Act.eval]) (hown1.alloc _) (some ⟨v1.heap.size, 0, none⟩) 1 1 [.int .i64 x, .int .i64 y, .int .i64 z] (by simp [Act.eval]) (rdBox v1 #[.int .i64 x, .int .i64 y, .int .i64 z] 46 3 _ rfl rfl) (by simp [Value.oneCell']) (by unfold maxLen; omega) (by omega) (by first | omega | (simp <;> omega)) (by first | omega | (simp <;> omega)) ?_; intro A5 c5 v2 hown2 hc5 hm5 hch2; have hsv2 := hch2.size; (try simp at hsv2); have hbv2 : Below w2.heap.size w2 v2 := chg_below (by (repeat' (first | (with_reducible exact Below.refl _ _) | (with_reducible assumption) | (with_reducible refine Below.alloc ?_ ?_ _) | (with_reducible refine below_ext ?_ ?_ _ _) | (with_reducible refine Below.setCell ?_ ?_ _) | (with_reducible refine Below.drew ?_) | (with_reducible refine below_drewN ?_ _))); all_goals (first | omega | (simp; done) | (simp; omega))) hch2 (by omega) (by first | omega | (simp <;> omega)))
            | (refine step_app _ rfl (.tmp 40) (.tmp 42) 25 rfl 46 i0 (.agg #[.int .i64 0, .int .i64 0, .int .i64 0]) 3 24 (w2.heap.size) (v1.heap.size) (w2.heap.size + 1) (w2.heap.size + 1 + 1) Try.underlying25 hi0 hz0 hz1 hz2 rfl (by omega) (.slice A4 k c4) k ((l.take k).flatMap c3) (by simp [Act.eval]) hown1 (some ⟨w2.heap.size + 1, 0, none⟩) 1 1 [.int .i64 x, .int .i64 y, .int .i64 z] (by simp [Act.eval]) ((rdBox (World.alloc _ (.cells #[] 46)) #[.int .i64 x, .int .i64 y, .int .i64 z] 46 3 _ (by simp) rfl).chg hch1 (.inr (by omega))) (by simp [Value.oneCell']) (by unfold maxLen; omega) (by omega) (by first | omega | (simp <;> omega)) (by first | omega | (simp <;> omega)) ?_; intro A5 c5 v2 hown2 hc5 hm5 hch2; have hsv2 := hch2.size; (try simp at hsv2); have hbv2 : Below w2.heap.size w2 v2 := chg_below (by (repeat' (first | (with_reducible exact Below.refl _ _) | (with_reducible assumption) | (with_reducible refine Below.alloc ?_ ?_ _) | (with_reducible refine below_ext ?_ ?_ _ _) | (with_reducible refine Below.setCell ?_ ?_ _) | (with_reducible refine Below.drew ?_) | (with_reducible refine below_drewN ?_ _))); all_goals (first | omega | (simp; done) | (simp; omega))) hch2 (by omega) (by first | omega | (simp <;> omega)))
            | (refine step_app _ rfl (.tmp 40) (.tmp 42) 25 rfl 46 i0 (.agg #[.int .i64 0, .int .i64 0, .int .i64 0]) 3 24 (w2.heap.size + 1) (v1.heap.size) (w2.heap.size) (w2.heap.size + 1) Try.underlying25 hi0 hz0 hz1 hz2 rfl (by omega) (.slice A4 k c4) k ((l.take k).flatMap c3) (by simp [Act.eval]) hown1 (some ⟨w2.heap.size, 0, none⟩) 1 1 [.int .i64 x, .int .i64 y, .int .i64 z] (by simp [Act.eval]) (((rdBox _ #[.int .i64 x, .int .i64 y, .int .i64 z] 46 3 _ (by rfl) rfl).alloc (.cells #[] 46)).chg hch1 (.inl (by omega))) (by simp [Value.oneCell']) (by unfold maxLen; omega) (by omega) (by first | omega | (simp <;> omega)) (by first | omega | (simp <;> omega)) ?_; intro A5 c5 v2 hown2 hc5 hm5 hch2; have hsv2 := hch2.size; (try simp at hsv2); have hbv2 : Below w2.heap.size w2 v2 := chg_below (by (repeat' (first | (with_reducible exact Below.refl _ _) | (with_reducible assumption) | (with_reducible refine Below.alloc ?_ ?_ _) | (with_reducible refine below_ext ?_ ?_ _ _) | (with_reducible refine Below.setCell ?_ ?_ _) | (with_reducible refine Below.drew ?_) | (with_reducible refine below_drewN ?_ _))); all_goals (first | omega | (simp; done) | (simp; omega))) hch2 (by omega) (by first | omega | (simp <;> omega)))
            | (refine step_app _ rfl (.tmp 43) (.tmp 46) 25 rfl 46 i0 (.agg #[.int .i64 0, .int .i64 0, .int .i64 0]) 3 24 (w2.heap.size) v2.heap.size (w.heap.size + 1) w1.heap.size Try.underlying25 hi0 hz0 hz1 hz2 rfl (by omega) (.slice A5 (k + 1) c5) (k + 1) ((l.take k).flatMap c3 ++ [.int .i64 x, .int .i64 y, .int .i64 z]) (by simp [Act.eval]) hown2 (some ⟨b, o + k * 3, none⟩) (n - k) (c1 - k) ((l.drop k).flatMap c3) (by simp [Act.eval]) (Rd.cutS3 (ho2.rd.below' hbv2) hk) (c3_one _) (by unfold maxLen; omega) (by omega) (by first | omega | (simp <;> omega)) (by first | omega | (simp <;> omega)) ?_; intro A6 c6 v3 hown3 hc6 hm6 hch3; have hsv3 := hch3.size; (try simp at hsv3); have hbv3 : Below w2.heap.size w2 v3 := chg_below hbv2 hch3 (by omega) (by first | omega | (simp <;> omega)))
            | (refine step_app _ rfl (.tmp 43) (.tmp 46) 25 rfl 46 i0 (.agg #[.int .i64 0, .int .i64 0, .int .i64 0]) 3 24 (w2.heap.size + 1) v2.heap.size (w.heap.size + 1) w1.heap.size Try.underlying25 hi0 hz0 hz1 hz2 rfl (by omega) (.slice A5 (k + 1) c5) (k + 1) ((l.take k).flatMap c3 ++ [.int .i64 x, .int .i64 y, .int .i64 z]) (by simp [Act.eval]) hown2 (some ⟨b, o + k * 3, none⟩) (n - k) (c1 - k) ((l.drop k).flatMap c3) (by simp [Act.eval]) (Rd.cutS3 (ho2.rd.below' hbv2) hk) (c3_one _) (by unfold maxLen; omega) (by omega) (by first | omega | (simp <;> omega)) (by first | omega | (simp <;> omega)) ?_; intro A6 c6 v3 hown3 hc6 hm6 hch3; have hsv3 := hch3.size; (try simp at hsv3); have hbv3 : Below w2.heap.size w2 v3 := chg_below hbv2 hch3 (by omega) (by first | omega | (simp <;> omega))))
          all_goals
            have hown4 := hown3
            clear hown1 hown2 hown3 hch1 hch2 hch3
            have hown5 : Own v3 (w.heap.size + 1) v3.heap.size 46 3 (.slice A6 (k + 1 + (n - k)) c6) (k + 1 + (n - k)) (O.flatMap c3) := (hown4.more (by omega) (Nat.le_refl _)).cast rfl (HOF.out _ rfl)
            have hbw3 := below_then hbw2 hbv3 (by omega)
            clear hown4 hbv1 hbv2 hbv3
            go_wp2_with fail
            refine (unhide HV _ _ _ _ _ _ HON.out hown5.rd).mono ?_
            rintro e w7 ⟨rfl, hb7⟩
            have HD := hide (HDONE.out _ _ _ _ w7 HON.out hc6 hm6 (hown5.below' hb7) (below_then hbw3 hb7 hbw3.size) hb7.size)
            have hrr := hr.below' (below_then hbw3 hb7 hbw3.size)
            have hbw7 := below_then hbw3 hb7 hbw3.size
            clear hown5 hbw3 hb7
            cases bv
            · go_wp2_with fail
              refine (unhide HC _ hrr).mono ?_
              rintro e w8 ⟨A8, c8, rfl, hc8, hm8, ho8, hb8⟩
              have HF := hide (HFAIL.out A8 c8 w8 (by first | rfl | trivial) hc8 hm8 (ho8.more hbw7.size (Nat.le_refl _)) (below_then hbw7 hb8 hbw7.size))
              clear ho8 hb8 hbw7 hrr HD
              go_wp2_with fail
              go_ret2
              exact HF.out
            · have HD2 := hide (HD.out (by first | rfl | trivial))
              clear HD hrr hbw7
              go_wp2_with fail
              go_ret2
              exact HD2.out
        · have q1 : (k : Int) ≤ (c1 : Int) := by omega
          have hblk : w.heap.size < w2.heap.size := by omega
          have hz01 : ∀ (D : Nat) (o : Obj), ((w2.drewN D).alloc o).cell? ⟨w.heap.size, 0, none⟩ = some (.int .i64 x) := fun D o => ((bcell (show Below w2.heap.size w2 ((w2.drewN D).alloc o) from (below_drewN (Below.refl _ _) _).alloc (Nat.le_refl _) _)).1 w.heap.size 0 (by omega)).trans hy0
          have hz11 : ∀ (D : Nat) (o : Obj), ((w2.drewN D).alloc o).cell? ⟨w.heap.size, 1, none⟩ = some (.int .i64 y) := fun D o => ((bcell (show Below w2.heap.size w2 ((w2.drewN D).alloc o) from (below_drewN (Below.refl _ _) _).alloc (Nat.le_refl _) _)).1 w.heap.size 1 (by omega)).trans hy1
          have hz21 : ∀ (D : Nat) (o : Obj), ((w2.drewN D).alloc o).cell? ⟨w.heap.size, 2, none⟩ = some (.int .i64 z) := fun D o => ((bcell (show Below w2.heap.size w2 ((w2.drewN D).alloc o) from (below_drewN (Below.refl _ _) _).alloc (Nat.le_refl _) _)).1 w.heap.size 2 (by omega)).trans hy2
          have hge3 : decide (k < n) = false := by simp; omega
          obtain ⟨Ax, hAx⟩ : ∃ Ax, (if c1 = k then A1 else A1.map (fun x => x.add (k * 3))) = Ax := ⟨_, rfl⟩
          go_wp2_with fail
          go_quiet (fail)
          go_wp2_with fail
          go_region_law (first
            | (refine step_app _ rfl (.tmp 36) (.tmp 39) 25 rfl 46 i0 (.agg #[.int .i64 0, .int .i64 0, .int .i64 0]) 3 24 (w2.heap.size) (w2.heap.size + 1) (w.heap.size + 1) w1.heap.size Try.underlying25 hi0 hz0 hz1 hz2 rfl (by omega) (.slice (some ⟨w2.heap.size, 0, none⟩) 0 0) 0 [] (by simp [Act.eval]) (own0 _ 46 3 _ (by rfl)) A1 k c1 ((l.take k).flatMap c3) (by simp [Act.eval]) (Rd.take3 (ho2.rd.below' (by (repeat' (first | (with_reducible exact Below.refl _ _) | (with_reducible assumption) | (with_reducible refine Below.alloc ?_ ?_ _) | (with_reducible refine below_ext ?_ ?_ _ _) | (with_reducible refine Below.setCell ?_ ?_ _) | (with_reducible refine Below.drew ?_) | (with_reducible refine below_drewN ?_ _))); all_goals (first | omega | (simp; done) | (simp; omega)))) hk) (c3_one _) (by unfold maxLen; omega) (by omega) (by first | omega | (simp <;> omega)) (by first | omega | (simp <;> omega)) ?_; intro A4 c4 v1 hown1 hc4 hm4 hch1; rw [Nat.zero_add, List.nil_append] at hown1; rw [Nat.zero_add] at hc4; have hsv1 := hch1.size; (try simp at hsv1); have hbv1 : Below w2.heap.size w2 v1 := chg_below (by (repeat' (first | (with_reducible exact Below.refl _ _) | (with_reducible assumption) | (with_reducible refine Below.alloc ?_ ?_ _) | (with_reducible refine below_ext ?_ ?_ _ _) | (with_reducible refine Below.setCell ?_ ?_ _) | (with_reducible refine Below.drew ?_) | (with_reducible refine below_drewN ?_ _))); all_goals (first | omega | (simp; done) | (simp; omega))) hch1 (by omega) (by first | omega | (simp <;> omega)); have p0 := ((bcell hbv1).1 w.heap.size 0 (by omega)).trans hy0; have p1 := ((bcell hbv1).1 w.heap.size 1 (by omega)).trans hy1; have p2 := ((bcell hbv1).1 w.heap.size 2 (by omega)).trans hy2)
            | (refine step_app _ rfl (.tmp 36) (.tmp 39) 25 rfl 46 i0 (.agg #[.int .i64 0, .int .i64 0, .int .i64 0]) 3 24 (w2.heap.size) (w2.heap.size + 1) (w.heap.size + 1) w1.heap.size Try.underlying25 hi0 hz0 hz1 hz2 rfl (by omega) (.slice (some ⟨w2.heap.size, 0, none⟩) 0 0) 0 [] (by simp [Act.eval]) ((own0 _ 46 3 _ (by rfl)).alloc _) A1 k c1 ((l.take k).flatMap c3) (by simp [Act.eval]) (Rd.take3 (ho2.rd.below' (by (repeat' (first | (with_reducible exact Below.refl _ _) | (with_reducible assumption) | (with_reducible refine Below.alloc ?_ ?_ _) | (with_reducible refine below_ext ?_ ?_ _ _) | (with_reducible refine Below.setCell ?_ ?_ _) | (with_reducible refine Below.drew ?_) | (with_reducible refine below_drewN ?_ _))); all_goals (first | omega | (simp; done) | (simp; omega)))) hk) (c3_one _) (by unfold maxLen; omega) (by omega) (by first | omega | (simp <;> omega)) (by first | omega | (simp <;> omega)) ?_; intro A4 c4 v1 hown1 hc4 hm4 hch1; rw [Nat.zero_add, List.nil_append] at hown1; rw [Nat.zero_add] at hc4; have hsv1 := hch1.size; (try simp at hsv1); have hbv1 : Below w2.heap.size w2 v1 := chg_below (by (repeat' (first | (with_reducible exact Below.refl _ _) | (with_reducible assumption) | (with_reducible refine Below.alloc ?_ ?_ _) | (with_reducible refine below_ext ?_ ?_ _ _) | (with_reducible refine Below.setCell ?_ ?_ _) | (with_reducible refine Below.drew ?_) | (with_reducible refine below_drewN ?_ _))); all_goals (first | omega | (simp; done) | (simp; omega))) hch1 (by omega) (by first | omega | (simp <;> omega)); have p0 := ((bcell hbv1).1 w.heap.size 0 (by omega)).trans hy0; have p1 := ((bcell hbv1).1 w.heap.size 1 (by omega)).trans hy1; have p2 := ((bcell hbv1).1 w.heap.size 2 (by omega)).trans hy2)
            | (refine step_app _ rfl (.tmp 36) (.tmp 39) 25 rfl 46 i0 (.agg #[.int .i64 0, .int .i64 0, .int .i64 0]) 3 24 (w2.heap.size + 1) (w2.heap.size + 1 + 1) (w.heap.size + 1) w1.heap.size Try.underlying25 hi0 hz0 hz1 hz2 rfl (by omega) (.slice (some ⟨w2.heap.size + 1, 0, none⟩) 0 0) 0 [] (by simp [Act.eval]) (own0 (World.alloc _ (.cells #[.int .i64 x, .int .i64 y, .int .i64 z] 46)) 46 3 _ (by simp)) A1 k c1 ((l.take k).flatMap c3) (by simp [Act.eval]) (Rd.take3 (ho2.rd.below' (by (repeat' (first | (with_reducible exact Below.refl _ _) | (with_reducible assumption) | (with_reducible refine Below.alloc ?_ ?_ _) | (with_reducible refine below_ext ?_ ?_ _ _) | (with_reducible refine Below.setCell ?_ ?_ _) | (with_reducible refine Below.drew ?_) | (with_reducible refine below_drewN ?_ _))); all_goals (first | omega | (simp; done) | (simp; omega)))) hk) (c3_one _) (by unfold maxLen; omega) (by omega) (by first | omega | (simp <;> omega)) (by first | omega | (simp <;> omega)) ?_; intro A4 c4 v1 hown1 hc4 hm4 hch1; rw [Nat.zero_add, List.nil_append] at hown1; rw [Nat.zero_add] at hc4; have hsv1 := hch1.size; (try simp at hsv1); have hbv1 : Below w2.heap.size w2 v1 := chg_below (by (repeat' (first | (with_reducible exact Below.refl _ _) | (with_reducible assumption) | (with_reducible refine Below.alloc ?_ ?_ _) | (with_reducible refine below_ext ?_ ?_ _ _) | (with_reducible refine Below.setCell ?_ ?_ _) | (with_reducible refine Below.drew ?_) | (with_reducible refine below_drewN ?_ _))); all_goals (first | omega | (simp; done) | (simp; omega))) hch1 (by omega) (by first | omega | (simp <;> omega)); have p0 := ((bcell hbv1).1 w.heap.size 0 (by omega)).trans hy0; have p1 := ((bcell hbv1).1 w.heap.size 1 (by omega)).trans hy1; have p2 := ((bcell hbv1).1 w.heap.size 2 (by omega)).trans hy2)
            | (refine step_app _ rfl (.tmp 40) (.tmp 42) 25 rfl 46 i0 (.agg #[.int .i64 0, .int .i64 0, .int .i64 0]) 3 24 (w2.heap.size) (v1.heap.size) (v1.heap.size) (v1.heap.size + 1) Try.underlying25 hi0 hz0 hz1 hz2 rfl (by omega) (.slice A4 k c4) k ((l.take k).flatMap c3) (by simp [Act.eval]) (hown1.alloc _) (some ⟨v1.heap.size, 0, none⟩) 1 1 [.int .i64 x, .int .i64 y, .int .i64 z] (by simp [Act.eval]) (rdBox v1 #[.int .i64 x, .int .i64 y, .int .i64 z] 46 3 _ rfl rfl) (by simp [Value.oneCell']) (by unfold maxLen; omega) (by omega) (by first | omega | (simp <;> omega)) (by first | omega | (simp <;> omega)) ?_; intro A5 c5 v2 hown2 hc5 hm5 hch2; have hsv2 := hch2.size; (try simp at hsv2); have hbv2 : Below w2.heap.size w2 v2 := chg_below (by (repeat' (first | (with_reducible exact Below.refl _ _) | (with_reducible assumption) | (with_reducible refine Below.alloc ?_ ?_ _) | (with_reducible refine below_ext ?_ ?_ _ _) | (with_reducible refine Below.setCell ?_ ?_ _) | (with_reducible refine Below.drew ?_) | (with_reducible refine below_drewN ?_ _))); all_goals (first | omega | (simp; done) | (simp; omega))) hch2 (by omega) (by first | omega | (simp <;> omega)))
            | (refine step_app _ rfl (.tmp 40) (.tmp 42) 25 rfl 46 i0 (.agg #[.int .i64 0, .int .i64 0, .int .i64 0]) 3 24 (w2.heap.size) (v1.heap.size) (w2.heap.size + 1) (w2.heap.size + 1 + 1) Try.underlying25 hi0 hz0 hz1 hz2 rfl (by omega) (.slice A4 k c4) k ((l.take k).flatMap c3) (by simp [Act.eval]) hown1 (some ⟨w2.heap.size + 1, 0, none⟩) 1 1 [.int .i64 x, .int .i64 y, .int .i64 z] (by simp [Act.eval]) ((rdBox (World.alloc _ (.cells #[] 46)) #[.int .i64 x, .int .i64 y, .int .i64 z] 46 3 _ (by simp) rfl).chg hch1 (.inr (by omega))) (by simp [Value.oneCell']) (by unfold maxLen; omega) (by omega) (by first | omega | (simp <;> omega)) (by first | omega | (simp <;> omega)) ?_; intro A5 c5 v2 hown2 hc5 hm5 hch2; have hsv2 := hch2.size; (try simp at hsv2); have hbv2 : Below w2.heap.size w2 v2 := chg_below (by (repeat' (first | (with_reducible exact Below.refl _ _) | (with_reducible assumption) | (with_reducible refine Below.alloc ?_ ?_ _) | (with_reducible refine below_ext ?_ ?_ _ _) | (with_reducible refine Below.setCell ?_ ?_ _) | (with_reducible refine Below.drew ?_) | (with_reducible refine below_drewN ?_ _))); all_goals (first | omega | (simp; done) | (simp; omega))) hch2 (by omega) (by first | omega | (simp <;> omega)))
            | (refine step_app _ rfl (.tmp 40) (.tmp 42) 25 rfl 46 i0 (.agg #[.int .i64 0, .int .i64 0, .int .i64 0]) 3 24 (w2.heap.size + 1) (v1.heap.size) (w2.heap.size) (w2.heap.size + 1) Try.underlying25 hi0 hz0 hz1 hz2 rfl (by omega) (.slice A4 k c4) k ((l.take k).flatMap c3) (by simp [Act.eval]) hown1 (some ⟨w2.heap.size, 0, none⟩) 1 1 [.int .i64 x, .int .i64 y, .int .i64 z] (by simp [Act.eval]) (((rdBox _ #[.int .i64 x, .int .i64 y, .int .i64 z] 46 3 _ (by rfl) rfl).alloc (.cells #[] 46)).chg hch1 (.inl (by omega))) (by simp [Value.oneCell']) (by unfold maxLen; omega) (by omega) (by first | omega | (simp <;> omega)) (by first | omega | (simp <;> omega)) ?_; intro A5 c5 v2 hown2 hc5 hm5 hch2; have hsv2 := hch2.size; (try simp at hsv2); have hbv2 : Below w2.heap.size w2 v2 := chg_below (by (repeat' (first | (with_reducible exact Below.refl _ _) | (with_reducible assumption) | (with_reducible refine Below.alloc ?_ ?_ _) | (with_reducible refine below_ext ?_ ?_ _ _) | (with_reducible refine Below.setCell ?_ ?_ _) | (with_reducible refine Below.drew ?_) | (with_reducible refine below_drewN ?_ _))); all_goals (first | omega | (simp; done) | (simp; omega))) hch2 (by omega) (by first | omega | (simp <;> omega)))
            | (refine step_app _ rfl (.tmp 43) (.tmp 46) 25 rfl 46 i0 (.agg #[.int .i64 0, .int .i64 0, .int .i64 0]) 3 24 (w2.heap.size) v2.heap.size (w.heap.size + 1) w1.heap.size Try.underlying25 hi0 hz0 hz1 hz2 rfl (by omega) (.slice A5 (k + 1) c5) (k + 1) ((l.take k).flatMap c3 ++ [.int .i64 x, .int .i64 y, .int .i64 z]) (by simp [Act.eval]) hown2 Ax (n - k) (c1 - k) ((l.drop k).flatMap c3) (by simp [Act.eval]) (Rd.endE3 hll hk (by omega)) (c3_one _) (by unfold maxLen; omega) (by omega) (by first | omega | (simp <;> omega)) (by first | omega | (simp <;> omega)) ?_; intro A6 c6 v3 hown3 hc6 hm6 hch3; have hsv3 := hch3.size; (try simp at hsv3); have hbv3 : Below w2.heap.size w2 v3 := chg_below hbv2 hch3 (by omega) (by first | omega | (simp <;> omega)))
            | (refine step_app _ rfl (.tmp 43) (.tmp 46) 25 rfl 46 i0 (.agg #[.int .i64 0, .int .i64 0, .int .i64 0]) 3 24 (w2.heap.size + 1) v2.heap.size (w.heap.size + 1) w1.heap.size Try.underlying25 hi0 hz0 hz1 hz2 rfl (by omega) (.slice A5 (k + 1) c5) (k + 1) ((l.take k).flatMap c3 ++ [.int .i64 x, .int .i64 y, .int .i64 z]) (by simp [Act.eval]) hown2 Ax (n - k) (c1 - k) ((l.drop k).flatMap c3) (by simp [Act.eval]) (Rd.endE3 hll hk (by omega)) (c3_one _) (by unfold maxLen; omega) (by omega) (by first | omega | (simp <;> omega)) (by first | omega | (simp <;> omega)) ?_; intro A6 c6 v3 hown3 hc6 hm6 hch3; have hsv3 := hch3.size; (try simp at hsv3); have hbv3 : Below w2.heap.size w2 v3 := chg_below hbv2 hch3 (by omega) (by first | omega | (simp <;> omega))))
          all_goals
            have hown4 := hown3
            clear hown1 hown2 hown3 hch1 hch2 hch3
            have hown5 : Own v3 (w.heap.size + 1) v3.heap.size 46 3 (.slice A6 (k + 1 + (n - k)) c6) (k + 1 + (n - k)) (O.flatMap c3) := (hown4.more (by omega) (Nat.le_refl _)).cast rfl (HOF.out _ rfl)
            have hbw3 := below_then hbw2 hbv3 (by omega)
            clear hown4 hbv1 hbv2 hbv3
            go_wp2_with fail
            refine (unhide HV _ _ _ _ _ _ HON.out hown5.rd).mono ?_
            rintro e w7 ⟨rfl, hb7⟩
            have HD := hide (HDONE.out _ _ _ _ w7 HON.out hc6 hm6 (hown5.below' hb7) (below_then hbw3 hb7 hbw3.size) hb7.size)
            have hrr := hr.below' (below_then hbw3 hb7 hbw3.size)
            have hbw7 := below_then hbw3 hb7 hbw3.size
            clear hown5 hbw3 hb7
            cases bv
            · go_wp2_with fail
              refine (unhide HC _ hrr).mono ?_
              rintro e w8 ⟨A8, c8, rfl, hc8, hm8, ho8, hb8⟩
              have HF := hide (HFAIL.out A8 c8 w8 (by first | rfl | trivial) hc8 hm8 (ho8.more hbw7.size (Nat.le_refl _)) (below_then hbw7 hb8 hbw7.size))
              clear ho8 hb8 hbw7 hrr HD
              go_wp2_with fail
              go_ret2
              exact HF.out
            · have HD2 := hide (HD.out (by first | rfl | trivial))
              clear HD hrr hbw7
              go_wp2_with fail
              go_ret2
              exact HD2.out
  · have hO := hide (HS1.out i hf)
    have hil : i < n := by have := (List.getElem?_eq_some_iff.1 ht).1; omega
    obtain ⟨g, rfl, hg1, hg2, hg3, _⟩ := own_open ho2 (by omega)
    obtain ⟨od0, od1, od2, oc0, oc1, oc2, of0, of1, of2⟩ := ho2.olds3 (i * 3) (by have := ho2.len; omega)
    have HX := own_put3 (x := x) (y := y) (z := z) ho2 hll hil
    have hgw : w.heap.size ≠ g := by omega
    have HON := hide (show n = O.length by rw [hO.out, List.length_set, hll])
    obtain ⟨hX1, hX2⟩ := HX
    rw [← hO.out] at hX1
    have HX1 := hide hX1
    have HX2 := hide hX2
    subst hf
    clear HS0 HS1 HN HP ht hX1 hX2 ho2 hO
    have hlt' : (i : Int) < (n : Int) := by omega
    go_wp2_with fail
    refine (unhide HV _ _ _ _ _ _ HON.out HX1.out.rd).mono ?_
    rintro e w7 ⟨rfl, hb7⟩
    have hbw3 := below_then hbw2 (HX2.out.below (B := w.heap.size) (by omega) hbw2.size) (Nat.le_refl _)
    have hbw7 := below_then hbw3 hb7 hbw3.size
    have HD := hide (HDONE.out _ _ _ _ w7 HON.out hc1 hm1 (HX1.out.below' hb7) hbw7 (by have := hb7.size; have := HX2.out.size; omega))
    have hrr := hr.below' hbw7
    clear hbw3 hb7
    cases bv
    · go_wp2_with fail
      refine (unhide HC _ hrr).mono ?_
      rintro e w8 ⟨A8, c8, rfl, hc8, hm8, ho8, hb8⟩
      have HF := hide (HFAIL.out A8 c8 w8 (by first | rfl | trivial) hc8 hm8 (ho8.more hbw7.size (Nat.le_refl _)) (below_then hbw7 hb8 hbw7.size))
      clear ho8 hb8 hbw7 hrr HD
      go_wp2_with fail
      go_ret2
      exact HF.out
    · have HD2 := hide (HD.out (by first | rfl | trivial))
      clear HD hrr hbw7
      go_wp2_with fail
      go_ret2
      exact HD2.out
end Go.Proofs.Yticfmkfiibhafaa
