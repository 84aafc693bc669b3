/- OpenTunnel: what both sides make. -/
import Derived.Test.YtncnaahgpeaofaaOpT
import Derived.Test.YtncnaahgpeaofaaIns
import Derived.Deep.RegionLaw
import Derived.IntWalk
namespace Go.Proofs.Ytncnaahgpeaofaa
open Go.RowKit Go.Sep

theorem own0 (X : World) (E : TypeId) (sz k : Nat) (hk : X.heap.size = k) : Own (X.alloc (.cells #[] E)) k (k + 1) E sz (.slice (some ⟨k, 0, none⟩) 0 0) 0 [] := by
  subst hk
  simpa using Own.fresh X #[] E sz 0 (by simp) (by unfold maxLen; omega)
theorem rdBox (X : World) (cs : Array Value) (E : TypeId) (sz k : Nat) (hk : X.heap.size = k) (h : cs.size = 1 * sz) : Rd (X.alloc (.cells cs E)) k (k + 1) sz (some ⟨k, 0, none⟩) 1 cs.toList := by
  subst hk
  exact Rd.fresh X cs E sz 1 h
theorem take_c2 (l : List (Int × Int)) (k : Nat) : (l.flatMap c2).take (k * 2) = (l.take k).flatMap c2 := flat_take c2 2 c2_len l k
theorem drop_c2 (l : List (Int × Int)) (k : Nat) : (l.flatMap c2).drop (k * 2) = (l.drop k).flatMap c2 := flat_drop c2 2 c2_len l k
theorem chg_below {B lo hi : Nat} {w W v : World} (h : Below B w W) (hc : Chg lo hi W v) (hB : B ≤ lo) (hw : B ≤ W.heap.size) : Below B w v := below_then h (hc.below hB hw) (Nat.le_refl _)
section
variable {l : List (Int × Int)} {n : Nat} {p : Int}
theorem Rd.endE2 {lo hi k : Nat} {X : Option Addr} {W : World} (hl : l.length = n) (hk : k ≤ n) (h : ¬ (k : Int) < (n : Int)) : Rd W lo hi 2 X (n - k) ((l.drop k).flatMap c2) := by
  rw [List.drop_eq_nil_of_le (by omega), show n - k = 0 by omega]
  exact Rd.nil_ _ _ _ _ _
theorem Rd.cutS2 {lo hi k b o : Nat} {W : World} (h : Rd W lo hi 2 (some ⟨b, o, none⟩) n (l.flatMap c2)) (hk : k ≤ n) : Rd W lo hi 2 (some ⟨b, o + k * 2, none⟩) (n - k) ((l.drop k).flatMap c2) := by
  refine ⟨by rw [flat_len c2 2 c2_len, List.length_drop, h.len2], fun hn => ?_⟩
  obtain ⟨b', o', e, h1, h2, h3⟩ := h.2 (by omega)
  injection e with e
  injection e with e1 e2 _
  subst e1 e2
  refine ⟨b, o + k * 2, rfl, h1, h2, fun j u hu => ?_⟩
  rw [Nat.add_assoc]
  exact h3 _ _ (by rw [← drop_c2, List.getElem?_drop] at hu; exact hu)
theorem opL_1 (h : allOk (tOk l) n = false) : opL l n p = (l, 0) := by rw [opL, if_pos (.inl h)]
theorem opL_2 (h : p < 0) : opL l n p = (l, 0) := by rw [opL, if_pos (.inr (.inl h))]
theorem opL_3 (h : 20 ≤ n) : opL l n p = (l, 0) := by rw [opL, if_pos (.inr (.inr h))]
theorem opL_4 {k : Nat} (h1 : allOk (tOk l) n = true) (h2 : ¬ p < 0) (h3 : ¬ 20 ≤ n) (hk : gapAt 0 l = k) : opL l n p = (l.take k ++ ((k : Int) + 1, p) :: l.drop k, (k : Int) + 1) := by
  rw [opL, if_neg (by rw [h1]; simp; omega), hk]
theorem Rd.cutE2 {lo hi c k : Nat} {A : Option Addr} {W : World} (h : Rd W lo hi 2 A n (l.flatMap c2)) (hk : k ≤ n) (hc : n ≤ c) (hce : c = k) : Rd W lo hi 2 A (n - k) ((l.drop k).flatMap c2) := by
  have := h.cut hk hc
  rw [if_pos hce, drop_c2] at this
  exact this
theorem Rd.cutN2 {lo hi c k : Nat} {A : Option Addr} {W : World} (h : Rd W lo hi 2 A n (l.flatMap c2)) (hk : k ≤ n) (hc : n ≤ c) (hce : ¬ c = k) : Rd W lo hi 2 (A.map (fun x => x.add (k * 2))) (n - k) ((l.drop k).flatMap c2) := by
  have := h.cut hk hc
  rw [if_neg hce, drop_c2] at this
  exact this
theorem Rd.take2 {lo hi k : Nat} {A : Option Addr} {W : World} (h : Rd W lo hi 2 A n (l.flatMap c2)) (hk : k ≤ n) : Rd W lo hi 2 A k ((l.take k).flatMap c2) := by
  have := h.take hk
  rw [take_c2] at this
  exact this
end
theorem own_ins2 {w : World} {lo hi n c g k : Nat} {e : TypeId} {l : List (Int × Int)} {z0 z1 : Value} {x y : Int} (h : Own w lo hi e 2 (.slice (some ⟨g, 0, none⟩) (n + 1) c) (n + 1) (splice (l.flatMap c2 ++ [z0, z1]) ((k + 1) * 2) ((l.drop k).flatMap c2))) (hl : l.length = n) (hk : k ≤ n) :
    Own ((w.setCell ⟨g, k * 2, none⟩ (.int .i64 x)).setCell ⟨g, k * 2 + 1, none⟩ (.int .i64 y)) lo hi e 2 (.slice (some ⟨g, 0, none⟩) (n + 1) c) (n + 1) ((l.take k ++ (x, y) :: l.drop k).flatMap c2) ∧
      Chg lo hi w ((w.setCell ⟨g, k * 2, none⟩ (.int .i64 x)).setCell ⟨g, k * 2 + 1, none⟩ (.int .i64 y)) := by
  have ht : ((l.take k).flatMap c2).length = k * 2 := by rw [flat_len c2 2 c2_len, List.length_take, Nat.min_eq_left (by omega)]
  obtain ⟨h1, k1⟩ := h.stored (k * 2) (.int .i64 x)
  obtain ⟨h2, k2⟩ := h1.stored (k * 2 + 1) (.int .i64 y)
  refine ⟨?_, k1.trans k2⟩
  have e1 : l.flatMap c2 ++ [z0, z1] = (l.take k).flatMap c2 ++ ((l.drop k).flatMap c2 ++ [z0, z1]) := by rw [← List.append_assoc, ← List.flatMap_append, List.take_append_drop]
  rw [e1, Nat.succ_mul, ins2 z0 z1 _ _ ht] at h2
  rw [List.flatMap_append, List.flatMap_cons]
  exact h2
set_option maxHeartbeats 1000000 in
set_option maxRecDepth 100000 in
theorem iOpen_any (w : World) (A : Option Addr) (n c lo hi : Nat) (l : List (Int × Int)) (p : Int) (hr : Rd w lo hi 2 A n (l.flatMap c2)) (hn : n ≤ 1048576) :
    Calls Try.prog 27 #[.slice A n c, .int .i64 p] w (MkV (fun v => .tuple #[v, .int .i64 (opL l n p).2]) w 50 2 (opL l n p).1.length ((opL l n p).1.flatMap c2)) := by
  have hll := hr.len2
  obtain ⟨i0, hi0, hz0, hz1, hz2⟩ := info_parts infoTunnel
  have HC := hide (fun W h => iCopyT_any W A n c lo hi l h hn)
  have HV := hide (fun W h => iAVT_any W A n c lo hi l h hn)
  by_cases hno : allOk (tOk l) n = false ∨ p < 0 ∨ 20 ≤ n
  · have e : opL l n p = (l, 0) := by rw [opL, if_pos hno]
    rw [e]
    show Calls _ _ _ w (MkV (fun v => .tuple #[v, .int .i64 0]) w _ 2 l.length (l.flatMap c2))
    rw [hll]
    clear e
    go_enter Try.func27, Try.ntmps27
    go_wp2_with fail
    refine (unhide HC _ hr).mono ?_
    rintro e w1 ⟨A1, c1, rfl, hc1, hm1, ho1, hb1⟩
    go_wp2_with fail
    refine (unhide HV _ (hr.below' hb1)).mono ?_
    rintro e w2 ⟨rfl, hb2⟩
    have HD := hide (show MkV (fun v => .tuple #[v, .int .i64 0]) w 50 2 n (l.flatMap c2) (.returned (.tuple #[.slice A1 n c1, .int .i64 0])) w2 from ⟨A1, c1, rfl, hc1, hm1, (ho1.below' hb2).more (Nat.le_refl _) hb2.size, below_then hb1 hb2 hb1.size⟩)
    clear hb1 hb2 ho1 hr
    cases hv : allOk (tOk l) n
    · clear hno
      go_wp2_with fail
      go_ret2
      exact HD.out
    · by_cases hp : p < 0
      · clear hno
        go_wp2_with fail
        go_ret2
        exact HD.out
      · have h20 : (20 : Int) ≤ (n : Int) := by
          rw [hv] at hno
          simp at hno
          omega
        clear hno
        go_wp2_with fail
        go_ret2
        exact HD.out
  · simp only [not_or, Bool.not_eq_false] at hno
    obtain ⟨hv, hp, h20⟩ := hno
    have h20' : ¬ (20 : Int) ≤ (n : Int) := by omega
    have HL := hide (fun k h => opL_4 (k := k) hv hp h20 h)
    rw [hv] at HV
    clear hv
    generalize opL l n p = O at HL ⊢
    go_enter Try.func27, Try.ntmps27
    go_wp2_with fail
    refine (unhide HC _ hr).mono ?_
    rintro e w1 ⟨A1, c1, rfl, hc1, hm1, ho1, hb1⟩
    go_wp2_with fail
    refine (unhide HV _ (hr.below' hb1)).mono ?_
    rintro e w2 ⟨rfl, hb2⟩
    have ho2 := ho1.below' hb2
    have hb := below_then hb1 hb2 hb1.size
    have hsz1 := hb1.size
    have hsz2 := hb2.size
    clear hb1 hb2 ho1 hr HC HV
    go_wp2_with fail
    go_loop [7] (fun i => ∃ k : Nat, k ≤ n ∧ i = .int .i64 k ∧ Hid (gapAt 0 l = gapAt k (l.drop k))) (fun i => n - (intOf i).toNat)
    case atStart => exact ⟨0, Nat.zero_le _, rfl, hide (by simp)⟩
    case round =>
      obtain ⟨k, hk, rfl, HF⟩ := hrel
      by_cases hgo : ∃ y, l[k]? = some ((k : Int) + 1, y)
      · obtain ⟨y0, hy0⟩ := hgo
        have hlt : k < n := by have := (List.getElem?_eq_some_iff.1 hy0).1; omega
        obtain ⟨b, o, x, y, rfl, hx, hx0, hx1⟩ := ho2.rd.at2 hll hlt
        rw [hy0] at hx
        injection hx with hx
        obtain ⟨rfl, rfl⟩ : (k : Int) + 1 = x ∧ y0 = y := by simpa using hx
        have HG := hide (HF.out.trans (gap_hit hy0 (by simp)))
        clear hx hy0 HF
        go_wp2_with fail
        go_round
        case rel => exact ⟨k + 1, by omega, by go_num, HG⟩
        case measure => simp [intOf] <;> omega
      · have HK : Hid (gapAt 0 l = k) ∧ (k = n ∨ ∃ x y, l[k]? = some (x, y) ∧ (x == (k : Int) + 1) = false) := by
          by_cases hlt : k < n
          · obtain ⟨⟨x, y⟩, hx⟩ : ∃ t, l[k]? = some t := ⟨_, List.getElem?_eq_getElem (by omega)⟩
            have he : (x == (k : Int) + 1) = false := by
              simp only [beq_eq_false_iff_ne, ne_eq]
              rintro rfl
              exact hgo ⟨y, hx⟩
            exact ⟨hide (HF.out.trans (gap_miss hx he)), .inr ⟨x, y, hx, he⟩⟩
          · obtain rfl : k = n := by omega
            exact ⟨hide (HF.out.trans (gap_end hll)), .inl rfl⟩
        obtain ⟨HK, hcase⟩ := HK
        have HO := hide (HL.out k HK.out)
        have hcond : (¬ (k : Int) < (n : Int)) ∨ (∃ b o x, A1 = some ⟨b, o, none⟩ ∧ (k : Int) < (n : Int) ∧ w2.cell? ⟨b, o + k * 2, none⟩ = some (.int .i64 x) ∧ (x == (k : Int) + 1) = false) := by
          rcases hcase with rfl | ⟨x, y, hx, he⟩
          · exact .inl (by omega)
          · have hlt : k < n := by have := (List.getElem?_eq_some_iff.1 hx).1; omega
            obtain ⟨b, o, x', y', hA, hx', hx0, hx1⟩ := ho2.rd.at2 hll hlt
            rw [hx] at hx'
            injection hx' with hx'
            obtain ⟨rfl, rfl⟩ : x = x' ∧ y = y' := by simpa using hx'
            exact .inr ⟨b, o, x, hA, by omega, hx0, he⟩
        clear HF hgo HK HL hcase
        have hfr := rdBox w2 #[.int .i64 0, .int .i64 0] 50 2 w2.heap.size rfl rfl
        rcases hcond with hge | ⟨b, o, x, rfl, hlt', hcx, he⟩
        all_goals
          go_wp2_with (at_builtin; refine wpList_app _ rfl (.tmp 39) (.tmp 41) 25 rfl 50 i0 (.agg #[.int .i64 0, .int .i64 0]) 2 16 w.heap.size w1.heap.size w2.heap.size (w2.heap.size + 1) Try.underlying25 hi0 hz0 hz1 hz2 rfl (by omega) _ n _ rfl (ho2.alloc _) _ 1 1 _ rfl hfr (by simp [Value.oneCell']) (by unfold maxLen; omega) (by omega) (by simp; omega) (by simp; omega) ?_; intro A4 c4 w4 hown4 hc4 hm4 hch4)
          obtain ⟨g, rfl, hg1, hg2, hg3, _⟩ := own_open hown4 (by omega)
          have hcl : ((l.drop k).flatMap c2).length = (n - k) * 2 := by rw [flat_len c2 2 c2_len]; simp [hll]
          have hb4 : Below w.heap.size w w4 := below_then hb ((((Chg.refl w.heap.size w1.heap.size w2).alloc _).trans hch4).below (Nat.le_refl _) hb.size) (Nat.le_refl _)
          obtain ⟨dO, hD, hD'⟩ : ∃ dO, (if c4 = k + 1 then (some ⟨g, 0, none⟩ : Option Addr) else some ⟨g, (k + 1) * 2, none⟩) = some ⟨g, dO, none⟩ ∧ (k < n → dO = (k + 1) * 2) := by
            by_cases hce : c4 = k + 1
            · exact ⟨0, by rw [if_pos hce], fun h => by omega⟩
            · exact ⟨(k + 1) * 2, by rw [if_neg hce], fun _ => rfl⟩
          have hrd4 := hown4.rd
          have hsrc : 0 < ((l.drop k).flatMap c2).length → ∃ g', some (⟨g, 0, none⟩ : Addr) = some ⟨g', 0, none⟩ ∧ some (⟨g, dO, none⟩ : Addr) = some ⟨g', (k + 1) * 2, none⟩ ∧ ∃ b o, some (⟨g, k * 2, none⟩ : Addr) = some ⟨b, o, none⟩ ∧ ∀ j v, ((l.drop k).flatMap c2)[j]? = some v → w4.drew.cell? ⟨b, o + j, none⟩ = some v := by
            rw [hcl]
            intro hpos
            refine ⟨g, rfl, by rw [hD' (by omega)], g, k * 2, rfl, fun j v hv => ?_⟩
            obtain ⟨b', o', hA', _, _, hcell⟩ := hrd4.2 (by omega)
            injection hA' with hA'
            injection hA' with e1 e2 _
            subst e1 e2
            have := hcell (k * 2 + j) v (by
              rw [List.getElem?_append_left (by
                have := (List.getElem?_eq_some_iff.1 hv).1
                rw [hcl] at this
                rw [flat_len c2 2 c2_len, hll]
                omega), ← List.getElem?_drop, drop_c2]
              exact hv)
            rw [Nat.zero_add] at this
            exact this
          have hmin : ((l.drop k).flatMap c2).length = Nat.min (n + 1 - k) (n + 1 - (k + 1)) * 2 := by
            rw [hcl]
            have : Nat.min (n + 1 - k) (n + 1 - (k + 1)) = n - k := by show min _ _ = _; omega
            rw [this]
          have hfit : (k + 1) * 2 + ((l.drop k).flatMap c2).length ≤ (n + 1) * 2 := by rw [hcl]; omega
          have hck : ¬ c4 = k := by omega
          have hkk : ¬ k = c4 := by omega
          have HS := hide hsrc
          have HM := hide hmin
          have HT := hide hfit
          have q1 : (k : Int) + 1 ≤ (c4 : Int) := by omega
          have q2 : (k : Int) ≤ (c4 : Int) := by omega
          have q4 : (0 : Int) ≤ (k : Int) + 1 := by omega
          have q6 : (k : Int) + 1 ≤ (n : Int) + 1 := by omega
          have q7 : (k : Int) ≤ (n : Int) + 1 := by omega
          have q3 : IntKind.i64.wrap ((k : Int) + 1) = (k : Int) + 1 := IntWalk.i64_in _ (by omega)
          have q5 : ((k : Int) + 1).toNat = k + 1 := by omega
          clear hsrc hmin hfit hD' hcl hrd4
          go_region_law (refine step_cpy _ rfl (.tmp 46) (.tmp 49) 25 25 rfl 50 i0 2 w.heap.size w4.heap.size Try.underlying25 hi0 hz1 (some ⟨g, dO, none⟩) (some ⟨g, k * 2, none⟩) (n + 1 - (k + 1)) (c4 - (k + 1)) (n + 1 - k) (c4 - k) (n + 1) c4 _ _ (by simp [Act.eval, Act.put]) (by simp [Act.eval, Act.put]) hown4.drew ((k + 1) * 2) ((l.drop k).flatMap c2) HM.out HS.out HT.out (c2_one _) ?_; intro w5 hown5 hch5)
          clear q3 q5
          have HX := hide (own_ins2 (x := (k : Int) + 1) (y := p) hown5 hll hk)
          obtain ⟨od0, od1, oc0, oc1, of0, of1⟩ := hown5.olds2 (k * 2) (by have := hown5.len; omega)
          have hb5 : Below w.heap.size w w5 := below_then hb4.drew ((hch5).below (Nat.le_refl _) hb4.size) (Nat.le_refl _)
          have HB := hide hb5
          have hs5 := hch5.size
          have hs4 : w.heap.size ≤ w5.heap.size := hb5.size
          have hfin : ∀ w6, Own w6 w.heap.size w4.heap.size 50 2 (.slice (some ⟨g, 0, none⟩) (n + 1) c4) (n + 1) ((l.take k ++ ((k : Int) + 1, p) :: l.drop k).flatMap c2) ∧ Chg w.heap.size w4.heap.size w5 w6 →
              MkV (fun v => .tuple #[v, .int .i64 O.2]) w 50 2 O.1.length (O.1.flatMap c2) (.returned (.tuple #[.slice (some ⟨g, 0, none⟩) (n + 1) c4, .int .i64 ((k : Int) + 1)])) w6 := fun w6 ⟨h1, h2⟩ => by
            rw [HO.out]
            have hlen : (l.take k ++ ((k : Int) + 1, p) :: l.drop k).length = n + 1 := by simp [hll] <;> omega
            simp only [hlen]
            exact ⟨_, c4, rfl, hc4, hm4, h1.more (Nat.le_refl _) (by have := h2.size; have := hs5; simp at this; omega), below_then HB.out (h2.below (Nat.le_refl _) hs4) (Nat.le_refl _)⟩
          have HFIN := hide (hfin _ HX.out)
          clear hfin HX HO hown5 hown4 hb4 hb5 hch5 hch4 HS HM HT hD hb ho2
          go_wp2_with fail
          go_ret2
          exact HFIN.out
set_option maxHeartbeats 4000000 in
set_option maxRecDepth 100000 in
theorem sOpen_any (w : World) (A : Option Addr) (n c lo hi : Nat) (l : List (Int × Int)) (p : Int) (hr : Rd w lo hi 2 A n (l.flatMap c2)) (hn : n ≤ 1048576) (hnc : n ≤ c) :
    Calls Try.prog 26 #[.slice A n c, .int .i64 p] w (MkV (fun v => .tuple #[v, .int .i64 (opL l n p).2]) w 50 2 (opL l n p).1.length ((opL l n p).1.flatMap c2)) := by
  have hll := hr.len2
  obtain ⟨i0, hi0, hz0, hz1, hz2⟩ := info_parts infoTunnel
  have HC := hide (fun W h => sCopyT_any W A n c lo hi l h hn)
  have HV := hide (fun W h => sAVT_any W A n c lo hi l h hn)
  have H4 := hide (fun k a b d e => opL_4 (l := l) (n := n) (p := p) (k := k) a b d e)
  have H0 := hide (fun h => (show opL l n p = (l, 0) by rw [opL, if_pos h]))
  have H20 := hide (fun h => gap_20 (l := l) (n := n) hll h)
  generalize opL l n p = O at H4 H0 ⊢
  have HFL := hide (fun (w1 : World) (e : Ending) (hO : O = (l, 0)) (h : Mk w 50 2 n (l.flatMap c2) e w1) => (show ∃ A1 c1, e = .returned (.slice A1 n c1) ∧ MkV (fun v => .tuple #[v, .int .i64 O.2]) w 50 2 O.1.length (O.1.flatMap c2) (.returned (.tuple #[.slice A1 n c1, .int .i64 0])) w1 from by
    obtain ⟨A1, c1, rfl, h1, h2, h3, h4⟩ := h
    refine ⟨A1, c1, rfl, ?_⟩
    rw [hO]
    simp only [hll]
    exact ⟨A1, c1, rfl, h1, h2, h3, h4⟩))
  go_enter Try.func26, Try.ntmps26
  go_wp2_with fail
  go_loop [6] (fun i => ∃ k : Nat, k ≤ n ∧ i = .int .i64 k ∧ Hid (gapAt 0 l = gapAt k (l.drop k))) (fun i => n - (intOf i).toNat)
  case atStart => exact ⟨0, Nat.zero_le _, rfl, hide (by simp)⟩
  case round =>
    obtain ⟨k, hk, rfl, HF⟩ := hrel
    by_cases hgo : ∃ y, l[k]? = some ((k : Int) + 1, y)
    · obtain ⟨y0, hy0⟩ := hgo
      have hlt : k < n := by have := (List.getElem?_eq_some_iff.1 hy0).1; omega
      obtain ⟨b, o, x, y, rfl, hx, hx0, hx1⟩ := hr.at2 hll hlt
      rw [hy0] at hx
      injection hx with hx
      obtain ⟨rfl, rfl⟩ : (k : Int) + 1 = x ∧ y0 = y := by simpa using hx
      have HG := hide (HF.out.trans (gap_hit hy0 (by simp)))
      clear hx hy0 HF
      go_wp2_with fail
      go_round
      case rel => exact ⟨k + 1, by omega, by go_num, HG⟩
      case measure => simp [intOf] <;> omega
    · have HK : Hid (gapAt 0 l = k) ∧ (k = n ∨ ∃ x y, l[k]? = some (x, y) ∧ (x == (k : Int) + 1) = false) := by
        by_cases hlt : k < n
        · obtain ⟨⟨x, y⟩, hx⟩ : ∃ t, l[k]? = some t := ⟨_, List.getElem?_eq_getElem (by omega)⟩
          have he : (x == (k : Int) + 1) = false := by
            simp only [beq_eq_false_iff_ne, ne_eq]
            rintro rfl
            exact hgo ⟨y, hx⟩
          exact ⟨hide (HF.out.trans (gap_miss hx he)), .inr ⟨x, y, hx, he⟩⟩
        · obtain rfl : k = n := by omega
          exact ⟨hide (HF.out.trans (gap_end hll)), .inl rfl⟩
      obtain ⟨HK, hcase⟩ := HK
      have hcond : (¬ (k : Int) < (n : Int)) ∨ (∃ b o x, A = some ⟨b, o, none⟩ ∧ (k : Int) < (n : Int) ∧ w.cell? ⟨b, o + k * 2, none⟩ = some (.int .i64 x) ∧ (x == (k : Int) + 1) = false) := by
        rcases hcase with rfl | ⟨x, y, hx, he⟩
        · exact .inl (by omega)
        · have hlt : k < n := by have := (List.getElem?_eq_some_iff.1 hx).1; omega
          obtain ⟨b, o, x', y', hA, hx', hx0, hx1⟩ := hr.at2 hll hlt
          rw [hx] at hx'
          injection hx' with hx'
          obtain ⟨rfl, rfl⟩ : x = x' ∧ y = y' := by simpa using hx'
          exact .inr ⟨b, o, x, hA, by omega, hx0, he⟩
      clear HF hgo hcase
      cases hv : allOk (tOk l) n
      · have hO := H0.out (.inl hv)
        rw [hv] at HV
        have HE := hide hO
        clear hv hO H0 H4 H20 HK
        rcases hcond with hge | ⟨b, o, x, rfl, hlt', hcx, he⟩
        all_goals
          go_wp2_with fail
          refine (unhide HV _ hr).mono ?_
          rintro e w1 ⟨rfl, hb1⟩
          go_wp2_with fail
          refine (unhide HC _ (hr.below' hb1)).mono ?_
          intro e w2 hmk
          obtain ⟨A1, c1, rfl, hc1, hm1, ho1, hb2⟩ := hmk
          obtain ⟨A1', c1', e1, hfin⟩ := unhide HFL w2 _ HE.out ⟨A1, c1, rfl, hc1, hm1, ho1.more hb1.size (Nat.le_refl _), below_then hb1 hb2 hb1.size⟩
          injection e1 with e1
          injection e1 with e1 _ e3
          subst e1 e3
          have HFIN := hide hfin
          clear hfin HE ho1 hb1 hb2
          go_wp2_with fail
          go_ret2
          exact HFIN.out
      · obtain ⟨hn20, h20⟩ := H20.out hv
        rw [hv] at HV
        by_cases hp : p < 0 ∨ 20 ≤ n
        · have hO := H0.out (.inr hp)
          have HE := hide hO
          have hk20 : p < 0 ∨ (¬ p < 0 ∧ (20 : Int) ≤ (k : Int)) := by
            by_cases h : p < 0
            · exact .inl h
            · have := h20.2 (by omega)
              rw [HK.out] at this
              exact .inr ⟨h, by omega⟩
          clear hv hO H0 H4 H20 HK h20 hp
          rcases hcond with hge | ⟨b, o, x, rfl, hlt', hcx, he⟩ <;> rcases hk20 with hk20 | ⟨hp, hk20⟩
          all_goals try (exfalso; omega)
          all_goals
            go_wp2_with fail
            refine (unhide HV _ hr).mono ?_
            rintro e w1 ⟨rfl, hb1⟩
            go_wp2_with fail
            refine (unhide HC _ (hr.below' hb1)).mono ?_
            intro e w2 hmk
            obtain ⟨A1, c1, rfl, hc1, hm1, ho1, hb2⟩ := hmk
            obtain ⟨A1', c1', e1, hfin⟩ := unhide HFL w2 _ HE.out ⟨A1, c1, rfl, hc1, hm1, ho1.more hb1.size (Nat.le_refl _), below_then hb1 hb2 hb1.size⟩
            injection e1 with e1
            injection e1 with e1 _ e3
            subst e1 e3
            have HFIN := hide hfin
            clear hfin HE ho1 hb1 hb2
            go_wp2_with fail
            go_ret2
            exact HFIN.out
        · simp only [not_or] at hp
          obtain ⟨hp, hn20'⟩ := hp
          have hk20 : ¬ (20 : Int) ≤ (k : Int) := by
            intro h
            have := h20.1 (by rw [HK.out]; omega)
            omega
          have HO := hide (H4.out k hv (by omega) hn20' HK.out)
          clear hv H0 H4 H20 HK h20
          have q3 : IntKind.i64.wrap ((k : Int) + 1) = (k : Int) + 1 := IntWalk.i64_in _ (by omega)
          have q1 : (k : Int) ≤ (c : Int) := by omega
          have q2 : (k : Int) ≤ (n : Int) := by omega
          have hfin : ∀ (lo' : Nat) (A3 : Option Addr) (c3' : Nat) (v3 : World), Own v3 lo' v3.heap.size 50 2 (.slice A3 (k + 1 + (n - k)) c3') (k + 1 + (n - k)) ((l.take k).flatMap c2 ++ [.int .i64 ((k : Int) + 1), .int .i64 p] ++ (l.drop k).flatMap c2) → w.heap.size ≤ lo' → Below w.heap.size w v3 → k + 1 + (n - k) ≤ c3' → c3' ≤ maxLen →
              MkV (fun v => .tuple #[v, .int .i64 O.2]) w 50 2 O.1.length (O.1.flatMap c2) (.returned (.tuple #[.slice A3 (k + 1 + (n - k)) c3', .int .i64 ((k : Int) + 1)])) v3 := fun lo' A3 c3' v3 h1 h2 h3 h4 h5 => by
            rw [HO.out]
            have hlen : (l.take k ++ ((k : Int) + 1, p) :: l.drop k).length = k + 1 + (n - k) := by simp [hll] <;> omega
            have hfm : (l.take k ++ ((k : Int) + 1, p) :: l.drop k).flatMap c2 = (l.take k).flatMap c2 ++ [.int .i64 ((k : Int) + 1), .int .i64 p] ++ (l.drop k).flatMap c2 := by
              rw [List.flatMap_append, List.flatMap_cons]
              simp [c2]
            simp only [hlen, hfm]
            exact ⟨A3, c3', rfl, h4, h5, h1.more h2 (Nat.le_refl _), h3⟩
          have HFIN := hide hfin
          clear hfin HO
          have hsplit : (∃ b o x, A = some ⟨b, o, none⟩ ∧ (k : Int) < (n : Int) ∧ w.cell? ⟨b, o + k * 2, none⟩ = some (.int .i64 x) ∧ (x == (k : Int) + 1) = false ∧ ¬ c = k ∧ ¬ k = c) ∨ ¬ (k : Int) < (n : Int) := by
            rcases hcond with hge | ⟨b, o, x, e, h1, h2, h3⟩
            · exact .inr hge
            · exact .inl ⟨b, o, x, e, h1, h2, h3, by omega, by omega⟩
          clear hcond
          rcases hsplit with ⟨b, o, x, rfl, hlt', hcx, he, hck, hkc⟩ | hge
          · go_wp2_with fail
            refine (unhide HV _ hr).mono ?_
            rintro e w1 ⟨rfl, hb1⟩
            have hsz1 := hb1.size
            go_wp2_with fail
            go_region_law (first
              | (refine step_app _ rfl (.tmp 36) (.tmp 39) 25 rfl 50 i0 (.agg #[.int .i64 0, .int .i64 0]) 2 16 (w1.heap.size) (w1.heap.size + 1) lo hi Try.underlying25 hi0 hz0 hz1 hz2 rfl (by omega) (.slice (some ⟨w1.heap.size, 0, none⟩) 0 0) 0 [] (by simp [Act.eval]) ((own0 w1 50 2 _ rfl).drew) (some ⟨b, o, none⟩) k c ((l.take k).flatMap c2) (by simp [Act.eval]) (Rd.take2 (hr.below' (by (repeat' (first | (with_reducible exact Below.refl _ _) | (with_reducible assumption) | (with_reducible refine Below.alloc ?_ ?_ _) | (with_reducible refine below_ext ?_ ?_ _ _) | (with_reducible refine Below.setCell ?_ ?_ _) | (with_reducible refine Below.drew ?_) | (with_reducible refine below_drewN ?_ _))); all_goals (first | omega | (simp; done) | (simp; omega)))) hk) (c2_one _) (by unfold maxLen; omega) (by omega) (by first | omega | (simp <;> omega)) (by first | omega | (simp <;> omega)) ?_; intro A1 c1 v1 hown1 hc1 hm1 hch1; rw [Nat.zero_add, List.nil_append] at hown1; rw [Nat.zero_add] at hc1; have hsv1 := hch1.size; (try simp at hsv1); have hbv1 : Below w.heap.size w v1 := chg_below (by (repeat' (first | (with_reducible exact Below.refl _ _) | (with_reducible assumption) | (with_reducible refine Below.alloc ?_ ?_ _) | (with_reducible refine below_ext ?_ ?_ _ _) | (with_reducible refine Below.setCell ?_ ?_ _) | (with_reducible refine Below.drew ?_) | (with_reducible refine below_drewN ?_ _))); all_goals (first | omega | (simp; done) | (simp; omega))) hch1 (by omega) (by first | omega | (simp <;> omega)))
              | (refine step_app _ rfl (.tmp 36) (.tmp 39) 25 rfl 50 i0 (.agg #[.int .i64 0, .int .i64 0]) 2 16 (w1.heap.size) (w1.heap.size + 1) lo hi Try.underlying25 hi0 hz0 hz1 hz2 rfl (by omega) (.slice (some ⟨w1.heap.size, 0, none⟩) 0 0) 0 [] (by simp [Act.eval]) (((own0 w1 50 2 _ rfl).alloc _).drew) (some ⟨b, o, none⟩) k c ((l.take k).flatMap c2) (by simp [Act.eval]) (Rd.take2 (hr.below' (by (repeat' (first | (with_reducible exact Below.refl _ _) | (with_reducible assumption) | (with_reducible refine Below.alloc ?_ ?_ _) | (with_reducible refine below_ext ?_ ?_ _ _) | (with_reducible refine Below.setCell ?_ ?_ _) | (with_reducible refine Below.drew ?_) | (with_reducible refine below_drewN ?_ _))); all_goals (first | omega | (simp; done) | (simp; omega)))) hk) (c2_one _) (by unfold maxLen; omega) (by omega) (by first | omega | (simp <;> omega)) (by first | omega | (simp <;> omega)) ?_; intro A1 c1 v1 hown1 hc1 hm1 hch1; rw [Nat.zero_add, List.nil_append] at hown1; rw [Nat.zero_add] at hc1; have hsv1 := hch1.size; (try simp at hsv1); have hbv1 : Below w.heap.size w v1 := chg_below (by (repeat' (first | (with_reducible exact Below.refl _ _) | (with_reducible assumption) | (with_reducible refine Below.alloc ?_ ?_ _) | (with_reducible refine below_ext ?_ ?_ _ _) | (with_reducible refine Below.setCell ?_ ?_ _) | (with_reducible refine Below.drew ?_) | (with_reducible refine below_drewN ?_ _))); all_goals (first | omega | (simp; done) | (simp; omega))) hch1 (by omega) (by first | omega | (simp <;> omega)))
              | (refine step_app _ rfl (.tmp 36) (.tmp 39) 25 rfl 50 i0 (.agg #[.int .i64 0, .int .i64 0]) 2 16 (w1.heap.size + 1) (w1.heap.size + 1 + 1) lo hi Try.underlying25 hi0 hz0 hz1 hz2 rfl (by omega) (.slice (some ⟨w1.heap.size + 1, 0, none⟩) 0 0) 0 [] (by simp [Act.eval]) ((own0 (w1.alloc (.cells #[.int .i64 ((k : Int) + 1), .int .i64 p] 50)) 50 2 _ (by simp)).drew) (some ⟨b, o, none⟩) k c ((l.take k).flatMap c2) (by simp [Act.eval]) (Rd.take2 (hr.below' (by (repeat' (first | (with_reducible exact Below.refl _ _) | (with_reducible assumption) | (with_reducible refine Below.alloc ?_ ?_ _) | (with_reducible refine below_ext ?_ ?_ _ _) | (with_reducible refine Below.setCell ?_ ?_ _) | (with_reducible refine Below.drew ?_) | (with_reducible refine below_drewN ?_ _))); all_goals (first | omega | (simp; done) | (simp; omega)))) hk) (c2_one _) (by unfold maxLen; omega) (by omega) (by first | omega | (simp <;> omega)) (by first | omega | (simp <;> omega)) ?_; intro A1 c1 v1 hown1 hc1 hm1 hch1; rw [Nat.zero_add, List.nil_append] at hown1; rw [Nat.zero_add] at hc1; have hsv1 := hch1.size; (try simp at hsv1); have hbv1 : Below w.heap.size w v1 := chg_below (by (repeat' (first | (with_reducible exact Below.refl _ _) | (with_reducible assumption) | (with_reducible refine Below.alloc ?_ ?_ _) | (with_reducible refine below_ext ?_ ?_ _ _) | (with_reducible refine Below.setCell ?_ ?_ _) | (with_reducible refine Below.drew ?_) | (with_reducible refine below_drewN ?_ _))); all_goals (first | omega | (simp; done) | (simp; omega))) hch1 (by omega) (by first | omega | (simp <;> omega)))
              | (refine step_app _ rfl (.tmp 40) (.tmp 45) 25 rfl 50 i0 (.agg #[.int .i64 0, .int .i64 0]) 2 16 (w1.heap.size) (v1.heap.size) (v1.heap.size) (v1.heap.size + 1) Try.underlying25 hi0 hz0 hz1 hz2 rfl (by omega) (.slice A1 k c1) k ((l.take k).flatMap c2) (by simp [Act.eval]) (hown1.alloc _) (some ⟨v1.heap.size, 0, none⟩) 1 1 [.int .i64 ((k : Int) + 1), .int .i64 p] (by simp [Act.eval]) (rdBox v1 #[.int .i64 ((k : Int) + 1), .int .i64 p] 50 2 _ rfl rfl) (by simp [Value.oneCell']) (by unfold maxLen; omega) (by omega) (by first | omega | (simp <;> omega)) (by first | omega | (simp <;> omega)) ?_; intro A2 c2' v2 hown2 hc2 hm2 hch2; have hsv2 := hch2.size; (try simp at hsv2); have hbv2 : Below w.heap.size w v2 := chg_below (by (repeat' (first | (with_reducible exact Below.refl _ _) | (with_reducible assumption) | (with_reducible refine Below.alloc ?_ ?_ _) | (with_reducible refine below_ext ?_ ?_ _ _) | (with_reducible refine Below.setCell ?_ ?_ _) | (with_reducible refine Below.drew ?_) | (with_reducible refine below_drewN ?_ _))); all_goals (first | omega | (simp; done) | (simp; omega))) hch2 (by omega) (by first | omega | (simp <;> omega)))
              | (refine step_app _ rfl (.tmp 40) (.tmp 45) 25 rfl 50 i0 (.agg #[.int .i64 0, .int .i64 0]) 2 16 (w1.heap.size) (v1.heap.size) (w1.heap.size + 1) (w1.heap.size + 1 + 1) Try.underlying25 hi0 hz0 hz1 hz2 rfl (by omega) (.slice A1 k c1) k ((l.take k).flatMap c2) (by simp [Act.eval]) hown1 (some ⟨w1.heap.size + 1, 0, none⟩) 1 1 [.int .i64 ((k : Int) + 1), .int .i64 p] (by simp [Act.eval]) ((rdBox (w1.alloc (.cells #[] 50)) #[.int .i64 ((k : Int) + 1), .int .i64 p] 50 2 _ (by simp) rfl).drew.chg hch1 (.inr (by omega))) (by simp [Value.oneCell']) (by unfold maxLen; omega) (by omega) (by first | omega | (simp <;> omega)) (by first | omega | (simp <;> omega)) ?_; intro A2 c2' v2 hown2 hc2 hm2 hch2; have hsv2 := hch2.size; (try simp at hsv2); have hbv2 : Below w.heap.size w v2 := chg_below (by (repeat' (first | (with_reducible exact Below.refl _ _) | (with_reducible assumption) | (with_reducible refine Below.alloc ?_ ?_ _) | (with_reducible refine below_ext ?_ ?_ _ _) | (with_reducible refine Below.setCell ?_ ?_ _) | (with_reducible refine Below.drew ?_) | (with_reducible refine below_drewN ?_ _))); all_goals (first | omega | (simp; done) | (simp; omega))) hch2 (by omega) (by first | omega | (simp <;> omega)))
              | (refine step_app _ rfl (.tmp 40) (.tmp 45) 25 rfl 50 i0 (.agg #[.int .i64 0, .int .i64 0]) 2 16 (w1.heap.size + 1) (v1.heap.size) (w1.heap.size) (w1.heap.size + 1) Try.underlying25 hi0 hz0 hz1 hz2 rfl (by omega) (.slice A1 k c1) k ((l.take k).flatMap c2) (by simp [Act.eval]) hown1 (some ⟨w1.heap.size, 0, none⟩) 1 1 [.int .i64 ((k : Int) + 1), .int .i64 p] (by simp [Act.eval]) (((rdBox w1 #[.int .i64 ((k : Int) + 1), .int .i64 p] 50 2 _ rfl rfl).alloc (.cells #[] 50)).drew.chg hch1 (.inl (by omega))) (by simp [Value.oneCell']) (by unfold maxLen; omega) (by omega) (by first | omega | (simp <;> omega)) (by first | omega | (simp <;> omega)) ?_; intro A2 c2' v2 hown2 hc2 hm2 hch2; have hsv2 := hch2.size; (try simp at hsv2); have hbv2 : Below w.heap.size w v2 := chg_below (by (repeat' (first | (with_reducible exact Below.refl _ _) | (with_reducible assumption) | (with_reducible refine Below.alloc ?_ ?_ _) | (with_reducible refine below_ext ?_ ?_ _ _) | (with_reducible refine Below.setCell ?_ ?_ _) | (with_reducible refine Below.drew ?_) | (with_reducible refine below_drewN ?_ _))); all_goals (first | omega | (simp; done) | (simp; omega))) hch2 (by omega) (by first | omega | (simp <;> omega)))
              | (refine step_app _ rfl (.tmp 46) (.tmp 49) 25 rfl 50 i0 (.agg #[.int .i64 0, .int .i64 0]) 2 16 (w1.heap.size) v2.heap.size lo hi Try.underlying25 hi0 hz0 hz1 hz2 rfl (by omega) (.slice A2 (k + 1) c2') (k + 1) ((l.take k).flatMap c2 ++ [.int .i64 ((k : Int) + 1), .int .i64 p]) (by simp [Act.eval]) hown2 (some ⟨b, o + k * 2, none⟩) (n - k) (c - k) ((l.drop k).flatMap c2) (by simp [Act.eval]) (Rd.cutS2 (hr.below' hbv2) hk) (c2_one _) (by unfold maxLen; omega) (by omega) (by first | omega | (simp <;> omega)) (by first | omega | (simp <;> omega)) ?_; intro A3 c3' v3 hown3 hc3 hm3 hch3; have hbv3 : Below w.heap.size w v3 := chg_below hbv2 hch3 (by omega) (by first | omega | (simp <;> omega)))
              | (refine step_app _ rfl (.tmp 46) (.tmp 49) 25 rfl 50 i0 (.agg #[.int .i64 0, .int .i64 0]) 2 16 (w1.heap.size + 1) v2.heap.size lo hi Try.underlying25 hi0 hz0 hz1 hz2 rfl (by omega) (.slice A2 (k + 1) c2') (k + 1) ((l.take k).flatMap c2 ++ [.int .i64 ((k : Int) + 1), .int .i64 p]) (by simp [Act.eval]) hown2 (some ⟨b, o + k * 2, none⟩) (n - k) (c - k) ((l.drop k).flatMap c2) (by simp [Act.eval]) (Rd.cutS2 (hr.below' hbv2) hk) (c2_one _) (by unfold maxLen; omega) (by omega) (by first | omega | (simp <;> omega)) (by first | omega | (simp <;> omega)) ?_; intro A3 c3' v3 hown3 hc3 hm3 hch3; have hbv3 : Below w.heap.size w v3 := chg_below hbv2 hch3 (by omega) (by first | omega | (simp <;> omega))))
            all_goals
              clear q3
              go_wp2_with fail
              go_ret2
              exact HFIN.out _ _ _ _ hown3 (by omega) hbv3 hc3 hm3
          · obtain ⟨Ax, hAx⟩ : ∃ Ax, (if c = k then A else A.map (fun x => x.add (k * 2))) = Ax := ⟨_, rfl⟩
            go_wp2_with fail
            refine (unhide HV _ hr).mono ?_
            rintro e w1 ⟨rfl, hb1⟩
            have hsz1 := hb1.size
            go_wp2_with fail
            go_region_law (first
              | (refine step_app _ rfl (.tmp 36) (.tmp 39) 25 rfl 50 i0 (.agg #[.int .i64 0, .int .i64 0]) 2 16 (w1.heap.size) (w1.heap.size + 1) lo hi Try.underlying25 hi0 hz0 hz1 hz2 rfl (by omega) (.slice (some ⟨w1.heap.size, 0, none⟩) 0 0) 0 [] (by simp [Act.eval]) ((own0 w1 50 2 _ rfl).drew) A k c ((l.take k).flatMap c2) (by simp [Act.eval]) (Rd.take2 (hr.below' (by (repeat' (first | (with_reducible exact Below.refl _ _) | (with_reducible assumption) | (with_reducible refine Below.alloc ?_ ?_ _) | (with_reducible refine below_ext ?_ ?_ _ _) | (with_reducible refine Below.setCell ?_ ?_ _) | (with_reducible refine Below.drew ?_) | (with_reducible refine below_drewN ?_ _))); all_goals (first | omega | (simp; done) | (simp; omega)))) hk) (c2_one _) (by unfold maxLen; omega) (by omega) (by first | omega | (simp <;> omega)) (by first | omega | (simp <;> omega)) ?_; intro A1 c1 v1 hown1 hc1 hm1 hch1; rw [Nat.zero_add, List.nil_append] at hown1; rw [Nat.zero_add] at hc1; have hsv1 := hch1.size; (try simp at hsv1); have hbv1 : Below w.heap.size w v1 := chg_below (by (repeat' (first | (with_reducible exact Below.refl _ _) | (with_reducible assumption) | (with_reducible refine Below.alloc ?_ ?_ _) | (with_reducible refine below_ext ?_ ?_ _ _) | (with_reducible refine Below.setCell ?_ ?_ _) | (with_reducible refine Below.drew ?_) | (with_reducible refine below_drewN ?_ _))); all_goals (first | omega | (simp; done) | (simp; omega))) hch1 (by omega) (by first | omega | (simp <;> omega)))
              | (refine step_app _ rfl (.tmp 36) (.tmp 39) 25 rfl 50 i0 (.agg #[.int .i64 0, .int .i64 0]) 2 16 (w1.heap.size) (w1.heap.size + 1) lo hi Try.underlying25 hi0 hz0 hz1 hz2 rfl (by omega) (.slice (some ⟨w1.heap.size, 0, none⟩) 0 0) 0 [] (by simp [Act.eval]) (((own0 w1 50 2 _ rfl).alloc _).drew) A k c ((l.take k).flatMap c2) (by simp [Act.eval]) (Rd.take2 (hr.below' (by (repeat' (first | (with_reducible exact Below.refl _ _) | (with_reducible assumption) | (with_reducible refine Below.alloc ?_ ?_ _) | (with_reducible refine below_ext ?_ ?_ _ _) | (with_reducible refine Below.setCell ?_ ?_ _) | (with_reducible refine Below.drew ?_) | (with_reducible refine below_drewN ?_ _))); all_goals (first | omega | (simp; done) | (simp; omega)))) hk) (c2_one _) (by unfold maxLen; omega) (by omega) (by first | omega | (simp <;> omega)) (by first | omega | (simp <;> omega)) ?_; intro A1 c1 v1 hown1 hc1 hm1 hch1; rw [Nat.zero_add, List.nil_append] at hown1; rw [Nat.zero_add] at hc1; have hsv1 := hch1.size; (try simp at hsv1); have hbv1 : Below w.heap.size w v1 := chg_below (by (repeat' (first | (with_reducible exact Below.refl _ _) | (with_reducible assumption) | (with_reducible refine Below.alloc ?_ ?_ _) | (with_reducible refine below_ext ?_ ?_ _ _) | (with_reducible refine Below.setCell ?_ ?_ _) | (with_reducible refine Below.drew ?_) | (with_reducible refine below_drewN ?_ _))); all_goals (first | omega | (simp; done) | (simp; omega))) hch1 (by omega) (by first | omega | (simp <;> omega)))
              | (refine step_app _ rfl (.tmp 36) (.tmp 39) 25 rfl 50 i0 (.agg #[.int .i64 0, .int .i64 0]) 2 16 (w1.heap.size + 1) (w1.heap.size + 1 + 1) lo hi Try.underlying25 hi0 hz0 hz1 hz2 rfl (by omega) (.slice (some ⟨w1.heap.size + 1, 0, none⟩) 0 0) 0 [] (by simp [Act.eval]) ((own0 (w1.alloc (.cells #[.int .i64 ((k : Int) + 1), .int .i64 p] 50)) 50 2 _ (by simp)).drew) A k c ((l.take k).flatMap c2) (by simp [Act.eval]) (Rd.take2 (hr.below' (by (repeat' (first | (with_reducible exact Below.refl _ _) | (with_reducible assumption) | (with_reducible refine Below.alloc ?_ ?_ _) | (with_reducible refine below_ext ?_ ?_ _ _) | (with_reducible refine Below.setCell ?_ ?_ _) | (with_reducible refine Below.drew ?_) | (with_reducible refine below_drewN ?_ _))); all_goals (first | omega | (simp; done) | (simp; omega)))) hk) (c2_one _) (by unfold maxLen; omega) (by omega) (by first | omega | (simp <;> omega)) (by first | omega | (simp <;> omega)) ?_; intro A1 c1 v1 hown1 hc1 hm1 hch1; rw [Nat.zero_add, List.nil_append] at hown1; rw [Nat.zero_add] at hc1; have hsv1 := hch1.size; (try simp at hsv1); have hbv1 : Below w.heap.size w v1 := chg_below (by (repeat' (first | (with_reducible exact Below.refl _ _) | (with_reducible assumption) | (with_reducible refine Below.alloc ?_ ?_ _) | (with_reducible refine below_ext ?_ ?_ _ _) | (with_reducible refine Below.setCell ?_ ?_ _) | (with_reducible refine Below.drew ?_) | (with_reducible refine below_drewN ?_ _))); all_goals (first | omega | (simp; done) | (simp; omega))) hch1 (by omega) (by first | omega | (simp <;> omega)))
              | (refine step_app _ rfl (.tmp 40) (.tmp 45) 25 rfl 50 i0 (.agg #[.int .i64 0, .int .i64 0]) 2 16 (w1.heap.size) (v1.heap.size) (v1.heap.size) (v1.heap.size + 1) Try.underlying25 hi0 hz0 hz1 hz2 rfl (by omega) (.slice A1 k c1) k ((l.take k).flatMap c2) (by simp [Act.eval]) (hown1.alloc _) (some ⟨v1.heap.size, 0, none⟩) 1 1 [.int .i64 ((k : Int) + 1), .int .i64 p] (by simp [Act.eval]) (rdBox v1 #[.int .i64 ((k : Int) + 1), .int .i64 p] 50 2 _ rfl rfl) (by simp [Value.oneCell']) (by unfold maxLen; omega) (by omega) (by first | omega | (simp <;> omega)) (by first | omega | (simp <;> omega)) ?_; intro A2 c2' v2 hown2 hc2 hm2 hch2; have hsv2 := hch2.size; (try simp at hsv2); have hbv2 : Below w.heap.size w v2 := chg_below (by (repeat' (first | (with_reducible exact Below.refl _ _) | (with_reducible assumption) | (with_reducible refine Below.alloc ?_ ?_ _) | (with_reducible refine below_ext ?_ ?_ _ _) | (with_reducible refine Below.setCell ?_ ?_ _) | (with_reducible refine Below.drew ?_) | (with_reducible refine below_drewN ?_ _))); all_goals (first | omega | (simp; done) | (simp; omega))) hch2 (by omega) (by first | omega | (simp <;> omega)))
              | (refine step_app _ rfl (.tmp 40) (.tmp 45) 25 rfl 50 i0 (.agg #[.int .i64 0, .int .i64 0]) 2 16 (w1.heap.size) (v1.heap.size) (w1.heap.size + 1) (w1.heap.size + 1 + 1) Try.underlying25 hi0 hz0 hz1 hz2 rfl (by omega) (.slice A1 k c1) k ((l.take k).flatMap c2) (by simp [Act.eval]) hown1 (some ⟨w1.heap.size + 1, 0, none⟩) 1 1 [.int .i64 ((k : Int) + 1), .int .i64 p] (by simp [Act.eval]) ((rdBox (w1.alloc (.cells #[] 50)) #[.int .i64 ((k : Int) + 1), .int .i64 p] 50 2 _ (by simp) rfl).drew.chg hch1 (.inr (by omega))) (by simp [Value.oneCell']) (by unfold maxLen; omega) (by omega) (by first | omega | (simp <;> omega)) (by first | omega | (simp <;> omega)) ?_; intro A2 c2' v2 hown2 hc2 hm2 hch2; have hsv2 := hch2.size; (try simp at hsv2); have hbv2 : Below w.heap.size w v2 := chg_below (by (repeat' (first | (with_reducible exact Below.refl _ _) | (with_reducible assumption) | (with_reducible refine Below.alloc ?_ ?_ _) | (with_reducible refine below_ext ?_ ?_ _ _) | (with_reducible refine Below.setCell ?_ ?_ _) | (with_reducible refine Below.drew ?_) | (with_reducible refine below_drewN ?_ _))); all_goals (first | omega | (simp; done) | (simp; omega))) hch2 (by omega) (by first | omega | (simp <;> omega)))
              | (refine step_app _ rfl (.tmp 40) (.tmp 45) 25 rfl 50 i0 (.agg #[.int .i64 0, .int .i64 0]) 2 16 (w1.heap.size + 1) (v1.heap.size) (w1.heap.size) (w1.heap.size + 1) Try.underlying25 hi0 hz0 hz1 hz2 rfl (by omega) (.slice A1 k c1) k ((l.take k).flatMap c2) (by simp [Act.eval]) hown1 (some ⟨w1.heap.size, 0, none⟩) 1 1 [.int .i64 ((k : Int) + 1), .int .i64 p] (by simp [Act.eval]) (((rdBox w1 #[.int .i64 ((k : Int) + 1), .int .i64 p] 50 2 _ rfl rfl).alloc (.cells #[] 50)).drew.chg hch1 (.inl (by omega))) (by simp [Value.oneCell']) (by unfold maxLen; omega) (by omega) (by first | omega | (simp <;> omega)) (by first | omega | (simp <;> omega)) ?_; intro A2 c2' v2 hown2 hc2 hm2 hch2; have hsv2 := hch2.size; (try simp at hsv2); have hbv2 : Below w.heap.size w v2 := chg_below (by (repeat' (first | (with_reducible exact Below.refl _ _) | (with_reducible assumption) | (with_reducible refine Below.alloc ?_ ?_ _) | (with_reducible refine below_ext ?_ ?_ _ _) | (with_reducible refine Below.setCell ?_ ?_ _) | (with_reducible refine Below.drew ?_) | (with_reducible refine below_drewN ?_ _))); all_goals (first | omega | (simp; done) | (simp; omega))) hch2 (by omega) (by first | omega | (simp <;> omega)))
              | (refine step_app _ rfl (.tmp 46) (.tmp 49) 25 rfl 50 i0 (.agg #[.int .i64 0, .int .i64 0]) 2 16 (w1.heap.size) v2.heap.size lo hi Try.underlying25 hi0 hz0 hz1 hz2 rfl (by omega) (.slice A2 (k + 1) c2') (k + 1) ((l.take k).flatMap c2 ++ [.int .i64 ((k : Int) + 1), .int .i64 p]) (by simp [Act.eval]) hown2 Ax (n - k) (c - k) ((l.drop k).flatMap c2) (by simp [Act.eval]) (Rd.endE2 hll hk (by omega)) (c2_one _) (by unfold maxLen; omega) (by omega) (by first | omega | (simp <;> omega)) (by first | omega | (simp <;> omega)) ?_; intro A3 c3' v3 hown3 hc3 hm3 hch3; have hbv3 : Below w.heap.size w v3 := chg_below hbv2 hch3 (by omega) (by first | omega | (simp <;> omega)))
              | (refine step_app _ rfl (.tmp 46) (.tmp 49) 25 rfl 50 i0 (.agg #[.int .i64 0, .int .i64 0]) 2 16 (w1.heap.size + 1) v2.heap.size lo hi Try.underlying25 hi0 hz0 hz1 hz2 rfl (by omega) (.slice A2 (k + 1) c2') (k + 1) ((l.take k).flatMap c2 ++ [.int .i64 ((k : Int) + 1), .int .i64 p]) (by simp [Act.eval]) hown2 Ax (n - k) (c - k) ((l.drop k).flatMap c2) (by simp [Act.eval]) (Rd.endE2 hll hk (by omega)) (c2_one _) (by unfold maxLen; omega) (by omega) (by first | omega | (simp <;> omega)) (by first | omega | (simp <;> omega)) ?_; intro A3 c3' v3 hown3 hc3 hm3 hch3; have hbv3 : Below w.heap.size w v3 := chg_below hbv2 hch3 (by omega) (by first | omega | (simp <;> omega))))
            all_goals
              clear q3
              go_wp2_with fail
              go_ret2
              exact HFIN.out _ _ _ _ hown3 (by omega) hbv3 hc3 hm3
end Go.Proofs.Ytncnaahgpeaofaa
