/- placeBearer: what it makes. -/
import Derived.Test.YticfmkfiibhafaaSetB
import Derived.IntWalk
namespace Go.Proofs.Yticfmkfiibhafaa
open Go.RowKit Go.Sep

set_option maxHeartbeats 1000000 in
set_option maxRecDepth 100000 in
theorem iPlace_any (w : World) (A : Option Addr) (n c lo hi : Nat) (l : List (Int × Int × Int)) (x y z : Int) (hr : Rd w lo hi 3 A n (l.flatMap c3)) (hn : n ≤ 1048576) :
    Calls Try.prog 64 #[.slice A n c, .agg #[.int .i64 x, .int .i64 y, .int .i64 z]] w (Mk w 46 3 (setO l x y z).length ((setO l x y z).flatMap c3)) := by
  have hll := hr.len3
  obtain ⟨i0, hi0, hz0, hz1, hz2⟩ := info_parts infoBearer
  have HC := hide (fun W h => iCopyBe_any W A n c lo hi l h hn)
  have HF := hide (fun W A' c' lo' hi' h => iFindBearer_any W A' n c' lo' hi' l x h hn)
  have HS0 := hide (fun h => setO_no (l := l) (x := x) (y := y) (z := z) h)
  have HS1 := hide (fun i h => setO_yes (l := l) (x := x) (y := y) (z := z) (i := i) h)
  have HP := hide (fidx0 (isId x) l)
  have HN := hide (fun h => fidx_none (f := isId x) (l := l) 0 h)
  generalize fidx (isId x) 0 l = f at HF HS0 HS1 HP HN
  generalize setO l x y z = O at HS0 HS1 ⊢
  go_enter Try.func64, Try.ntmps64
  go_wp2_with fail
  refine (unhide HC _ (hr.alloc _)).mono ?_
  rintro e w1 ⟨A1, c1, rfl, hc1, hm1, ho1, hb1⟩
  obtain ⟨hx0, hx1, hx2, hbw1, hsz1⟩ := box3 hb1
  have hho1 : w.heap.size + 1 ≤ w1.heap.size := hsz1
  have ho1' := ho1.more (lo' := w.heap.size + 1) (hi' := w1.heap.size) (by simp) (Nat.le_refl _)
  clear ho1 hb1 HC hr
  go_wp2_with fail
  refine (unhide HF _ _ _ _ _ ho1'.rd).mono ?_
  rintro e w2 ⟨rfl, hb2⟩
  have hy0 := (bcell hb2).1 w.heap.size 0 (by omega)
  have hy1 := (bcell hb2).1 w.heap.size 1 (by omega)
  have hy2 := (bcell hb2).1 w.heap.size 2 (by omega)
  rw [hx0] at hy0
  rw [hx1] at hy1
  rw [hx2] at hy2
  have ho2 := ho1'.below' hb2
  have hbw2 := below_then hbw1 hb2 (Nat.le_trans (Nat.le_succ _) hsz1)
  have hsz2 := hb2.size
  clear hx0 hx1 hx2 hb2 hbw1 ho1' HF
  rcases HP.out with hf | ⟨i, t, hf, ht⟩
  · have hO := hide (HS0.out hf)
    have HNE := hide (HN.out hf)
    have hneg : ¬ (0 : Int) ≤ f := by omega
    clear HS0 HS1 HN HP hf
    go_wp2_with fail
    go_loopw [7, 26] (fun q i wr => ∃ k : Nat, k ≤ n ∧ i = .int .i64 k ∧ q = .int .i64 n ∧ Hid (posB x 0 l = posB x k (l.drop k)) ∧ ∃ d, wr = w2.drewN d) (fun _ i _ => n - (intOf i).toNat)
    case atStart => exact ⟨0, Nat.zero_le _, rfl, rfl, hide (by simp), 0, rfl⟩
    case round =>
      obtain ⟨k, hk, rfl, rfl, HG, d, rfl⟩ := hrel
      have hod := ho2.drewN d
      by_cases hgo : ∃ p q r, l[k]? = some (p, q, r) ∧ decide (p < x) = true
      · obtain ⟨p, q, r, hx, hp⟩ := hgo
        have hlt : k < n := by have := (List.getElem?_eq_some_iff.1 hx).1; omega
        obtain ⟨b, o, p', q', r', rfl, hx', ha0, ha1, ha2⟩ := ho2.rd.at3 hll hlt
        rw [hx] at hx'
        injection hx' with hx'
        obtain ⟨rfl, rfl, rfl⟩ : p = p' ∧ q = q' ∧ r = r' := by simpa using hx'
        have HG2 := hide (HG.out.trans (pos_hit hx hp))
        have hgt : ¬ x < p := by simp at hp; omega
        have hlt' : (k : Int) < (n : Int) := by omega
        clear hx' hx HG hp
        go_wp2_with fail
        go_quiet (fail)
        go_wp2_with fail
        go_roundw
        case rel => exact ⟨k + 1, by omega, by go_num, rfl, HG2, (by first | exact ⟨_, rfl⟩ | exact ⟨_, World.drewN_drewN _ _ _⟩)⟩
        case measure => simp [intOf] <;> omega
      · have HK : Hid (posB x 0 l = k) ∧ (k = n ∨ ∃ p q r, l[k]? = some (p, q, r) ∧ x < p) := by
          by_cases hlt : k < n
          · obtain ⟨⟨p, q, r⟩, hx⟩ : ∃ t, l[k]? = some t := ⟨_, List.getElem?_eq_getElem (by omega)⟩
            have he : decide (p < x) = false := by
              cases hd : decide (p < x)
              · rfl
              · exact absurd ⟨p, q, r, hx, hd⟩ hgo
            have hne := HNE.out (p, q, r) (List.mem_of_getElem? hx)
            simp only [isId, beq_eq_false_iff_ne, ne_eq] at hne
            exact ⟨hide (HG.out.trans (pos_miss hx he)), .inr ⟨p, q, r, hx, by simp at he; omega⟩⟩
          · obtain rfl : k = n := by omega
            exact ⟨hide (HG.out.trans (pos_end hll)), .inl rfl⟩
        obtain ⟨HK, hcase⟩ := HK
        have hO2 := hide (show O = l.take k ++ (x, y, z) :: l.drop k by rw [hO.out, HK.out])
        clear HG hgo HK hO HNE
        have hcond : (¬ (k : Int) < (n : Int)) ∨ (∃ b o p, A1 = some ⟨b, o, none⟩ ∧ (k : Int) < (n : Int) ∧ w2.cell? ⟨b, o + k * 3, none⟩ = some (.int .i64 p) ∧ x < p) := by
          rcases hcase with rfl | ⟨p, q, r, hx, he⟩
          · exact .inl (by omega)
          · have hlt : k < n := by have := (List.getElem?_eq_some_iff.1 hx).1; omega
            obtain ⟨b, o, p', q', r', hA, hx', hx0, hx1, hx2⟩ := ho2.rd.at3 hll hlt
            rw [hx] at hx'
            injection hx' with hx'
            obtain ⟨rfl, rfl, rfl⟩ : p = p' ∧ q = q' ∧ r = r' := by simpa using hx'
            exact .inr ⟨b, o, p, hA, by omega, hx0, he⟩
        clear hcase
        have hfr : ∀ d', Rd ((w2.drewN d').alloc (.cells #[.int .i64 0, .int .i64 0, .int .i64 0] 46)) w2.heap.size (w2.heap.size + 1) 3 (some ⟨w2.heap.size, 0, none⟩) 1 [.int .i64 0, .int .i64 0, .int .i64 0] := fun d' => rdBox _ #[.int .i64 0, .int .i64 0, .int .i64 0] 46 3 w2.heap.size rfl rfl
        have HFR := hide hfr
        have hown3 : ∃ wq, (∃ d', wq = w2.drewN d') := ⟨_, 0, rfl⟩
        clear hfr hown3
        rcases hcond with hge | ⟨b, o, p, rfl, hlt', hcx, he⟩
        · obtain rfl : k = n := by omega
          go_wp2_with (at_builtin; refine wpList_app _ rfl (.tmp 39) (.tmp 41) 25 rfl 46 i0 (.agg #[.int .i64 0, .int .i64 0, .int .i64 0]) 3 24 (w.heap.size + 1) w1.heap.size w2.heap.size (w2.heap.size + 1) Try.underlying25 hi0 hz0 hz1 hz2 rfl (by omega) _ k _ rfl ((ho2.drewN _).alloc _) _ 1 1 _ rfl (HFR.out _) (by simp [Value.oneCell']) (by unfold maxLen; omega) (by omega) (by simp; omega) (by simp; omega) ?_; intro A4 c4 w4 hown4 hc4 hm4 hch4)
          obtain ⟨g, rfl, hg1, hg2, hg3, _⟩ := own_open hown4 (by omega)
          have hs4 := hch4.size
          have hs4' : w2.heap.size + 1 ≤ w4.heap.size := by simpa using hs4
          have hcl : ((l.drop k).flatMap c3).length = (k - k) * 3 := by rw [flat_len c3 3 c3_len]; simp [hll]
          have hchT : Chg (w.heap.size + 1) w1.heap.size w2 w4 := (((Chg.refl (w.heap.size + 1) w1.heap.size w2).drewN _).alloc _).trans hch4
          have hb4 : Below w.heap.size w w4 := below_then hbw2 (hchT.below (by omega) (by omega)) (Nat.le_refl _)
          have hv0 := (hchT.cell (p := ⟨w.heap.size, 0, none⟩) (by simp; omega) (.inl (by simp))).trans hy0
          have hv1 := (hchT.cell (p := ⟨w.heap.size, 1, none⟩) (by simp; omega) (.inl (by simp))).trans hy1
          have hv2 := (hchT.cell (p := ⟨w.heap.size, 2, none⟩) (by simp; omega) (.inl (by simp))).trans hy2
          obtain ⟨dO, hD, hD'⟩ : ∃ dO, (if c4 = k + 1 then (some ⟨g, 0, none⟩ : Option Addr) else some ⟨g, (k + 1) * 3, none⟩) = some ⟨g, dO, none⟩ ∧ (k < k → dO = (k + 1) * 3) := by
            by_cases hce : c4 = k + 1
            · exact ⟨0, by rw [if_pos hce], fun h => by omega⟩
            · exact ⟨(k + 1) * 3, by rw [if_neg hce], fun _ => rfl⟩
          have hrd4 := hown4.rd
          have hsrc : 0 < ((l.drop k).flatMap c3).length → ∃ g', some (⟨g, 0, none⟩ : Addr) = some ⟨g', 0, none⟩ ∧ some (⟨g, dO, none⟩ : Addr) = some ⟨g', (k + 1) * 3, none⟩ ∧ ∃ b o, some (⟨g, k * 3, none⟩ : Addr) = some ⟨b, o, none⟩ ∧ ∀ j v, ((l.drop k).flatMap c3)[j]? = some v → w4.drew.cell? ⟨b, o + j, none⟩ = some v := by
            rw [hcl]
            intro hpos
            refine ⟨g, rfl, by rw [hD' (by omega)], g, k * 3, rfl, fun j v hv => ?_⟩
            obtain ⟨b', o', hA', _, _, hcell⟩ := hrd4.2 (by omega)
            injection hA' with hA'
            injection hA' with e1 e2 _
            subst e1 e2
            have := hcell (k * 3 + j) v (by
              rw [List.getElem?_append_left (by
                have := (List.getElem?_eq_some_iff.1 hv).1
                rw [hcl] at this
                rw [flat_len c3 3 c3_len, hll]
                omega), ← List.getElem?_drop, drop_c3]
              exact hv)
            rw [Nat.zero_add] at this
            exact this
          have hmin : ((l.drop k).flatMap c3).length = Nat.min (k + 1 - k) (k + 1 - (k + 1)) * 3 := by
            rw [hcl]
            have : Nat.min (k + 1 - k) (k + 1 - (k + 1)) = k - k := by show min _ _ = _; omega
            rw [this]
          have hfit : (k + 1) * 3 + ((l.drop k).flatMap c3).length ≤ (k + 1) * 3 := by rw [hcl]; omega
          have hck : ¬ c4 = k := by omega
          have hkk : ¬ k = c4 := by omega
          have HS := hide hsrc
          have HM := hide hmin
          have HT := hide hfit
          have q1 : (k : Int) + 1 ≤ (c4 : Int) := by omega
          have q2 : (k : Int) ≤ (c4 : Int) := by omega
          have q4 : (0 : Int) ≤ (k : Int) + 1 := by omega
          have q6 : (k : Int) + 1 ≤ (k : Int) + 1 := by omega
          have q7 : (k : Int) ≤ (k : Int) + 1 := by omega
          have q3 : IntKind.i64.wrap ((k : Int) + 1) = (k : Int) + 1 := IntWalk.i64_in _ (by omega)
          have q5 : ((k : Int) + 1).toNat = k + 1 := by omega
          clear hsrc hmin hfit hD' hcl hrd4 hchT hch4 hy0 hy1 hy2
          go_region_law (refine step_cpy _ rfl (.tmp 46) (.tmp 49) 25 25 rfl 46 i0 3 (w.heap.size + 1) w4.heap.size Try.underlying25 hi0 hz1 (some ⟨g, dO, none⟩) (some ⟨g, k * 3, none⟩) (k + 1 - (k + 1)) (c4 - (k + 1)) (k + 1 - k) (c4 - k) (k + 1) c4 _ _ (by simp [Act.eval, Act.put]) (by simp [Act.eval, Act.put]) hown4.drew ((k + 1) * 3) ((l.drop k).flatMap c3) HM.out HS.out HT.out (c3_one _) ?_; intro w5 hown5 hch5)
          clear q3 q5
          have hu0 := (hch5.cell (p := ⟨w.heap.size, 0, none⟩) (by simp; omega) (.inl (by simp))).trans hv0
          have hu1 := (hch5.cell (p := ⟨w.heap.size, 1, none⟩) (by simp; omega) (.inl (by simp))).trans hv1
          have hu2 := (hch5.cell (p := ⟨w.heap.size, 2, none⟩) (by simp; omega) (.inl (by simp))).trans hv2
          have HX := hide (own_ins3 (x := x) (y := y) (z := z) hown5 hll hk)
          obtain ⟨od0, od1, od2, oc0, oc1, oc2, of0, of1, of2⟩ := hown5.olds3 (k * 3) (by have := hown5.len; omega)
          have hb5 : Below w.heap.size w w5 := below_then hb4.drew ((hch5).below (by omega) hb4.size) (Nat.le_refl _)
          have hs5 := hch5.size
          have hgw : w.heap.size ≠ g := by omega
          have hfin : ∀ w6, Own w6 (w.heap.size + 1) w4.heap.size 46 3 (.slice (some ⟨g, 0, none⟩) (k + 1) c4) (k + 1) ((l.take k ++ (x, y, z) :: l.drop k).flatMap c3) ∧ Chg (w.heap.size + 1) w4.heap.size w5 w6 →
              Mk w 46 3 O.length (O.flatMap c3) (.returned (.slice (some ⟨g, 0, none⟩) (k + 1) c4)) w6 := fun w6 ⟨h1, h2⟩ => by
            rw [hO2.out]
            have hlen : (l.take k ++ (x, y, z) :: l.drop k).length = k + 1 := by simp [hll] <;> omega
            rw [hlen]
            exact ⟨_, c4, rfl, hc4, hm4, h1.more (by omega) (by have := h2.size; have := hs5; simp at this; omega), below_then hb5 (h2.below (by omega) hb5.size) (Nat.le_refl _)⟩
          have HFIN := hide (hfin _ HX.out)
          clear hfin HX hO2 hown5 hown4 hb4 hb5 hch5 HS HM HT hD ho2 hv0 hv1 hv2
          go_wp2_with fail
          go_ret
          exact HFIN.out
        · skip
          go_wp2_with fail
          go_quiet (fail)
          go_wp2_with (at_builtin; refine wpList_app _ rfl (.tmp 39) (.tmp 41) 25 rfl 46 i0 (.agg #[.int .i64 0, .int .i64 0, .int .i64 0]) 3 24 (w.heap.size + 1) w1.heap.size w2.heap.size (w2.heap.size + 1) Try.underlying25 hi0 hz0 hz1 hz2 rfl (by omega) _ n _ rfl ((ho2.drewN _).alloc _) _ 1 1 _ rfl (HFR.out _) (by simp [Value.oneCell']) (by unfold maxLen; omega) (by omega) (by simp; omega) (by simp; omega) ?_; intro A4 c4 w4 hown4 hc4 hm4 hch4)
          obtain ⟨g, rfl, hg1, hg2, hg3, _⟩ := own_open hown4 (by omega)
          have hs4 := hch4.size
          have hs4' : w2.heap.size + 1 ≤ w4.heap.size := by simpa using hs4
          have hcl : ((l.drop k).flatMap c3).length = (n - k) * 3 := by rw [flat_len c3 3 c3_len]; simp [hll]
          have hchT : Chg (w.heap.size + 1) w1.heap.size w2 w4 := (((Chg.refl (w.heap.size + 1) w1.heap.size w2).drewN _).alloc _).trans hch4
          have hb4 : Below w.heap.size w w4 := below_then hbw2 (hchT.below (by omega) (by omega)) (Nat.le_refl _)
          have hv0 := (hchT.cell (p := ⟨w.heap.size, 0, none⟩) (by simp; omega) (.inl (by simp))).trans hy0
          have hv1 := (hchT.cell (p := ⟨w.heap.size, 1, none⟩) (by simp; omega) (.inl (by simp))).trans hy1
          have hv2 := (hchT.cell (p := ⟨w.heap.size, 2, none⟩) (by simp; omega) (.inl (by simp))).trans hy2
          obtain ⟨dO, hD, hD'⟩ : ∃ dO, (if c4 = k + 1 then (some ⟨g, 0, none⟩ : Option Addr) else some ⟨g, (k + 1) * 3, none⟩) = some ⟨g, dO, none⟩ ∧ (k < n → dO = (k + 1) * 3) := by
            by_cases hce : c4 = k + 1
            · exact ⟨0, by rw [if_pos hce], fun h => by omega⟩
            · exact ⟨(k + 1) * 3, by rw [if_neg hce], fun _ => rfl⟩
          have hrd4 := hown4.rd
          have hsrc : 0 < ((l.drop k).flatMap c3).length → ∃ g', some (⟨g, 0, none⟩ : Addr) = some ⟨g', 0, none⟩ ∧ some (⟨g, dO, none⟩ : Addr) = some ⟨g', (k + 1) * 3, none⟩ ∧ ∃ b o, some (⟨g, k * 3, none⟩ : Addr) = some ⟨b, o, none⟩ ∧ ∀ j v, ((l.drop k).flatMap c3)[j]? = some v → w4.drew.cell? ⟨b, o + j, none⟩ = some v := by
            rw [hcl]
            intro hpos
            refine ⟨g, rfl, by rw [hD' (by omega)], g, k * 3, rfl, fun j v hv => ?_⟩
            obtain ⟨b', o', hA', _, _, hcell⟩ := hrd4.2 (by omega)
            injection hA' with hA'
            injection hA' with e1 e2 _
            subst e1 e2
            have := hcell (k * 3 + j) v (by
              rw [List.getElem?_append_left (by
                have := (List.getElem?_eq_some_iff.1 hv).1
                rw [hcl] at this
                rw [flat_len c3 3 c3_len, hll]
                omega), ← List.getElem?_drop, drop_c3]
              exact hv)
            rw [Nat.zero_add] at this
            exact this
          have hmin : ((l.drop k).flatMap c3).length = Nat.min (n + 1 - k) (n + 1 - (k + 1)) * 3 := by
            rw [hcl]
            have : Nat.min (n + 1 - k) (n + 1 - (k + 1)) = n - k := by show min _ _ = _; omega
            rw [this]
          have hfit : (k + 1) * 3 + ((l.drop k).flatMap c3).length ≤ (n + 1) * 3 := by rw [hcl]; omega
          have hck : ¬ c4 = k := by omega
          have hkk : ¬ k = c4 := by omega
          have HS := hide hsrc
          have HM := hide hmin
          have HT := hide hfit
          have q1 : (k : Int) + 1 ≤ (c4 : Int) := by omega
          have q2 : (k : Int) ≤ (c4 : Int) := by omega
          have q4 : (0 : Int) ≤ (k : Int) + 1 := by omega
          have q6 : (k : Int) + 1 ≤ (n : Int) + 1 := by omega
          have q7 : (k : Int) ≤ (n : Int) + 1 := by omega
          have q3 : IntKind.i64.wrap ((k : Int) + 1) = (k : Int) + 1 := IntWalk.i64_in _ (by omega)
          have q5 : ((k : Int) + 1).toNat = k + 1 := by omega
          clear hsrc hmin hfit hD' hcl hrd4 hchT hch4 hy0 hy1 hy2
          go_region_law (refine step_cpy _ rfl (.tmp 46) (.tmp 49) 25 25 rfl 46 i0 3 (w.heap.size + 1) w4.heap.size Try.underlying25 hi0 hz1 (some ⟨g, dO, none⟩) (some ⟨g, k * 3, none⟩) (n + 1 - (k + 1)) (c4 - (k + 1)) (n + 1 - k) (c4 - k) (n + 1) c4 _ _ (by simp [Act.eval, Act.put]) (by simp [Act.eval, Act.put]) hown4.drew ((k + 1) * 3) ((l.drop k).flatMap c3) HM.out HS.out HT.out (c3_one _) ?_; intro w5 hown5 hch5)
          clear q3 q5
          have hu0 := (hch5.cell (p := ⟨w.heap.size, 0, none⟩) (by simp; omega) (.inl (by simp))).trans hv0
          have hu1 := (hch5.cell (p := ⟨w.heap.size, 1, none⟩) (by simp; omega) (.inl (by simp))).trans hv1
          have hu2 := (hch5.cell (p := ⟨w.heap.size, 2, none⟩) (by simp; omega) (.inl (by simp))).trans hv2
          have HX := hide (own_ins3 (x := x) (y := y) (z := z) hown5 hll hk)
          obtain ⟨od0, od1, od2, oc0, oc1, oc2, of0, of1, of2⟩ := hown5.olds3 (k * 3) (by have := hown5.len; omega)
          have hb5 : Below w.heap.size w w5 := below_then hb4.drew ((hch5).below (by omega) hb4.size) (Nat.le_refl _)
          have hs5 := hch5.size
          have hgw : w.heap.size ≠ g := by omega
          have hfin : ∀ w6, Own w6 (w.heap.size + 1) w4.heap.size 46 3 (.slice (some ⟨g, 0, none⟩) (n + 1) c4) (n + 1) ((l.take k ++ (x, y, z) :: l.drop k).flatMap c3) ∧ Chg (w.heap.size + 1) w4.heap.size w5 w6 →
              Mk w 46 3 O.length (O.flatMap c3) (.returned (.slice (some ⟨g, 0, none⟩) (n + 1) c4)) w6 := fun w6 ⟨h1, h2⟩ => by
            rw [hO2.out]
            have hlen : (l.take k ++ (x, y, z) :: l.drop k).length = n + 1 := by simp [hll] <;> omega
            rw [hlen]
            exact ⟨_, c4, rfl, hc4, hm4, h1.more (by omega) (by have := h2.size; have := hs5; simp at this; omega), below_then hb5 (h2.below (by omega) hb5.size) (Nat.le_refl _)⟩
          have HFIN := hide (hfin _ HX.out)
          clear hfin HX hO2 hown5 hown4 hb4 hb5 hch5 HS HM HT hD ho2 hv0 hv1 hv2
          go_wp2_with fail
          go_ret
          exact HFIN.out
  · have hO := hide (HS1.out i hf)
    have hil : i < n := by have := (List.getElem?_eq_some_iff.1 ht).1; omega
    obtain ⟨g, rfl, hg1, hg2, hg3, _⟩ := own_open ho2 (by omega)
    obtain ⟨od0, od1, od2, oc0, oc1, oc2, of0, of1, of2⟩ := ho2.olds3 (i * 3) (by have := ho2.len; omega)
    have HX := hide (own_put3 (x := x) (y := y) (z := z) ho2 hll hil)
    have hgw : w.heap.size ≠ g := by omega
    subst hf
    clear HS0 HS1 HN HP ht
    have hlt' : (i : Int) < (n : Int) := by omega
    have hfin : Mk w 46 3 O.length (O.flatMap c3) (.returned (.slice (some ⟨g, 0, none⟩) n c1)) (((w2.setCell ⟨g, i * 3, none⟩ (.int .i64 x)).setCell ⟨g, i * 3 + 1, none⟩ (.int .i64 y)).setCell ⟨g, i * 3 + 2, none⟩ (.int .i64 z)) := by
      rw [hO.out, List.length_set, hll]
      have h := HX.out
      exact ⟨_, c1, rfl, hc1, hm1, h.1.more (by omega) (by have := h.2.size; omega), below_then hbw2 (h.2.below (by omega) hbw2.size) (Nat.le_refl _)⟩
    have HFIN := hide hfin
    clear hfin HX hO ho2 hbw2
    go_wp2_with fail
    go_ret
    exact HFIN.out
end Go.Proofs.Yticfmkfiibhafaa
