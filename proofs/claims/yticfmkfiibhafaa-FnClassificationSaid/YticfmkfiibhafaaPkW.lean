/- PacketsForBearer, walked. -/
import Derived.Test.YticfmkfiibhafaaPkB
namespace Go.Proofs.Yticfmkfiibhafaa
open Go.RowKit Go.Sep

abbrev PL := List (Int × List Int)
/-- The packets whose class is p. -/
def pkF (f : Int → Int) (p : Int) (m : PL) : PL := m.filter fun q => f q.1 == p
section
variable {f : Int → Int} {p x : Int} {k n : Nat} {m : PL} {s : List Int}
theorem pkF_hit (h : m[k]? = some (x, s)) (he : (f x == p) = true) : pkF f p (m.drop k) = (x, s) :: pkF f p (m.drop (k + 1)) := by rw [at_take h, pkF, List.filter_cons_of_pos (by simpa using he)]; rfl
theorem pkF_miss (h : m[k]? = some (x, s)) (he : (f x == p) = false) : pkF f p (m.drop k) = pkF f p (m.drop (k + 1)) := by rw [at_take h, pkF, List.filter_cons_of_neg (by simpa using he)]; rfl
theorem pkF_end (h : m.length = n) : pkF f p (m.drop n) = [] := by rw [List.drop_eq_nil_of_le (by omega)]; rfl
end
/-- What PacketsForBearer leaves. -/
def MkP (w : World) (l : PL) (e : Ending) (w' : World) : Prop :=
  ∃ A c, e = .returned (.slice A l.length c) ∧ l.length ≤ c ∧ c ≤ maxLen ∧ NI2 w' w.heap.size w'.heap.size 68 .u8 5 A l.length c l ∧ Below w.heap.size w w'
set_option maxHeartbeats 1000000 in
set_option maxRecDepth 100000 in
theorem sPkB_any (w : World) (A0 : Option Addr) (n0 d0 lo0 hi0 : Nat) (l0 : List (Int × Int × Int)) (A1 : Option Addr) (n1 d1 lo1 hi1 : Nat) (l1 : List (Int × Int × Int)) (A : Option Addr) (n c lo hi : Nat) (m : PL) (id : Int) (hr0 : Rd w lo0 hi0 3 A0 n0 (l0.flatMap c3)) (hn0 : n0 ≤ 1048576) (hr1 : Rd w lo1 hi1 3 A1 n1 (l1.flatMap c3)) (hn1 : n1 ≤ 1048576) (hr : Nd2 .u8 w lo hi A n m) (hn : n + ndSum2 m ≤ 1048576) :
    Calls Try.prog 49 #[.slice A0 n0 d0, .slice A1 n1 d1, .slice A n c, .int .i64 id] w (MkP w (pkF (cls l0 l1) id m)) := by
  have hll := hr.len
  obtain ⟨i0, hi0', hz0, hz1, hz2⟩ := info_parts infoPacket
  have hN0 := hide (NI2.fresh w 68 .u8 5)
  generalize hf : cls l0 l1 = f
  have HCL := hide (fun W x h0 h1 => sClassifyPort_any W A0 n0 d0 lo0 hi0 l0 A1 n1 d1 lo1 hi1 l1 x h0 hn0 h1 hn1)
  rw [hf] at HCL
  clear hf
  go_enter Try.func49, Try.ntmps49
  go_wp2_with fail
  go_loopw [9, 10] (fun q i wr => ∃ (k t g c' : Nat) (acc : PL), k ≤ n ∧ t ≤ k ∧ i = .int .i64 k ∧ q = .slice (some ⟨g, 0, none⟩) t c' ∧ Hid (acc.length = t ∧ t ≤ c' ∧ c' ≤ maxLen) ∧ Hid (pkF f id m = acc ++ pkF f id (m.drop k)) ∧ NI2 wr w.heap.size wr.heap.size 68 .u8 5 (some ⟨g, 0, none⟩) t c' acc ∧ Below w.heap.size w wr) (fun _ i _ => n - (intOf i).toNat)
  case atStart => exact ⟨0, 0, _, 0, [], Nat.zero_le _, Nat.le_refl _, rfl, rfl, hide ⟨rfl, Nat.le_refl _, by unfold maxLen; omega⟩, hide (by simp), by simpa using hN0.out, (by (repeat' (first | (with_reducible exact Below.refl _ _) | (with_reducible assumption) | (with_reducible refine Below.alloc ?_ ?_ _) | (with_reducible refine below_ext ?_ ?_ _ _) | (with_reducible refine Below.setCell ?_ ?_ _) | (with_reducible refine Below.drew ?_) | (with_reducible refine below_drewN ?_ _))); all_goals (first | omega | (simp; done) | (simp; omega)))⟩
  case round =>
    obtain ⟨k, t, g, c', acc, hk, htk, rfl, rfl, HL, HF, hni, hb⟩ := hrel
    clear hN0
    have hsz := hb.size
    by_cases hlt : k < n
    · obtain ⟨b, o, x, ⟨sA, sn, sc, sl⟩, rfl, hbl, hx, hx0, hx1, hs⟩ := (hr.below' hb).at_ hlt
      obtain rfl : sl.length = sn := by simpa using hs.1.len
      have hsum := ndSum2_le hx
      simp only at hsum hx hx1
      have hkn : (k : Int) < (n : Int) := by omega
      have hr0b := hide (hr0.below' hb)
      have hr1b := hide (hr1.below' hb)
      have HNI := hide hni
      have HS := hide hs.1
      have HX := hide hx
      clear hx hs hni
      go_wp2_with fail
      refine (unhide HCL _ x hr0b.out hr1b.out).mono ?_
      rintro e w1 ⟨rfl, hb1⟩
      have hs1 := hb1.size
      have hy0 := (hb1.cell (p := ⟨b, o + k * 2, none⟩) hbl).trans hx0
      have hy1 := (hb1.cell (p := ⟨b, o + k * 2 + 1, none⟩) hbl).trans hx1
      have hrd1 := hide (HS.out.below' hb1)
      have hni1 := hide ((HNI.out.below' hb1).more (Nat.le_refl _) hs1)
      have hbw1 := below_then hb hb1 hsz
      clear hb1 hx0 hx1 HS HNI hr0b hr1b hb
      cases he : (f x == id)
      · have HG := hide (HF.out.trans (by rw [pkF_miss HX.out he]))
        clear HF HX
        go_wp2_with fail
        go_roundw
        case rel => exact ⟨k + 1, t, g, c', acc, by omega, by omega, by go_num, rfl, HL, HG, hni1.out, hbw1⟩
        case measure => simp [intOf] <;> omega
      · have HG := hide (HF.out.trans (by rw [pkF_hit HX.out he]; simp : _ = (acc ++ [(x, sl)]) ++ pkF f id (m.drop (k + 1))))
        clear HF HX
        go_wp2_with fail
        refine (sCopyP_any _ x _ _ _ _ _ sl hrd1.out (by omega)).mono ?_
        rintro e w2 ⟨A2, c2, rfl, hc2, hm2, ho2, hb2⟩
        have hs2 := hb2.size
        have hni2 := hide (hni1.out.below' hb2)
        have hbw2 := below_then hbw1 hb2 (by omega)
        clear hb2 hni1 hbw1 hy0 hy1 hrd1
        go_wp2_with (at_builtin; refine wpList_ni2 _ rfl (.tmp 34) (.tmp 36) 59 rfl 68 .u8 5 i0 (.agg #[.int .i64 0, .slice none 0 0]) 32 w.heap.size w1.heap.size w2.heap.size Try.underlying59 hi0' hz0 hz1 hz2 rfl g t c' acc rfl (hni2.out.below' (by (repeat' (first | (with_reducible exact Below.refl _ _) | (with_reducible assumption) | (with_reducible refine Below.alloc ?_ ?_ _) | (with_reducible refine below_ext ?_ ?_ _ _) | (with_reducible refine Below.setCell ?_ ?_ _) | (with_reducible refine Below.drew ?_) | (with_reducible refine below_drewN ?_ _))); all_goals (first | omega | (simp; done) | (simp; omega)))) x (Sl.mk A2 sl.length c2 sl) (ho2.below' (by (repeat' (first | (with_reducible exact Below.refl _ _) | (with_reducible assumption) | (with_reducible refine Below.alloc ?_ ?_ _) | (with_reducible refine below_ext ?_ ?_ _ _) | (with_reducible refine Below.setCell ?_ ?_ _) | (with_reducible refine Below.drew ?_) | (with_reducible refine below_drewN ?_ _))); all_goals (first | omega | (simp; done) | (simp; omega)))) hc2 hm2 hs2 (by simp; omega) _ 1 rfl (by go_simp) (by go_simp) (by unfold maxLen; omega) (by omega) ?_; intro g4 c4 w4 hn4 hc4 hm4 hch4)
        have hbw4 : Below w.heap.size w w4 := below_then (show Below w.heap.size w ((w2.alloc (.cells #[.int .i64 x, .slice A2 sl.length c2] 68)).alloc (.cells #[.int .i64 x, .slice A2 sl.length c2] 68)) from (by (repeat' (first | (with_reducible exact Below.refl _ _) | (with_reducible assumption) | (with_reducible refine Below.alloc ?_ ?_ _) | (with_reducible refine below_ext ?_ ?_ _ _) | (with_reducible refine Below.setCell ?_ ?_ _) | (with_reducible refine Below.drew ?_) | (with_reducible refine below_drewN ?_ _))); all_goals (first | omega | (simp; done) | (simp; omega)))) (hch4.below (B := w.heap.size) (by omega) (by simp; omega)) (Nat.le_refl _)
        have HN4 := hide hn4
        clear hn4 hch4 hni2 ho2 hbw2
        go_wp2_with fail
        go_roundw
        case rel => exact ⟨k + 1, t + 1, g4, c4, acc ++ [(x, sl)], by omega, by omega, by go_num, rfl, hide ⟨by simp [HL.out.1], hc4, hm4⟩, HG, HN4.out, hbw4⟩
        case measure => simp [intOf] <;> omega
    · obtain rfl : k = n := by omega
      have HG := hide (HF.out.trans (by rw [pkF_end hll]; simp : _ = acc))
      clear HF
      go_wp2_with fail
      go_ret
      rw [HG.out]
      obtain ⟨h1, h2, h3⟩ := HL.out
      subst h1
      exact ⟨_, c', rfl, h2, h3, hni, hb⟩
set_option maxHeartbeats 1000000 in
set_option maxRecDepth 100000 in
theorem iPkB_any (w : World) (A0 : Option Addr) (n0 d0 lo0 hi0 : Nat) (l0 : List (Int × Int × Int)) (A1 : Option Addr) (n1 d1 lo1 hi1 : Nat) (l1 : List (Int × Int × Int)) (A : Option Addr) (n c lo hi : Nat) (m : PL) (id : Int) (hr0 : Rd w lo0 hi0 3 A0 n0 (l0.flatMap c3)) (hn0 : n0 ≤ 1048576) (hr1 : Rd w lo1 hi1 3 A1 n1 (l1.flatMap c3)) (hn1 : n1 ≤ 1048576) (hr : Nd2 .u8 w lo hi A n m) (hn : n + ndSum2 m ≤ 1048576) :
    Calls Try.prog 51 #[.slice A0 n0 d0, .slice A1 n1 d1, .slice A n c, .int .i64 id] w (MkP w (pkF (cls l0 l1) id m)) := by
  have hll := hr.len
  obtain ⟨i0, hi0', hz0, hz1, hz2⟩ := info_parts infoPacket
  have hN0 := hide (NI2.fresh w 68 .u8 5)
  generalize hf : cls l0 l1 = f
  have HCL := hide (fun W x h0 h1 => iClassifyPort_any W A0 n0 d0 lo0 hi0 l0 A1 n1 d1 lo1 hi1 l1 x h0 hn0 h1 hn1)
  rw [hf] at HCL
  clear hf
  go_enter Try.func51, Try.ntmps51
  go_wp2_with fail
  go_loopw [9, 15] (fun q i wr => ∃ (k t g c' : Nat) (acc : PL), k ≤ n ∧ t ≤ k ∧ i = .int .i64 k ∧ q = .slice (some ⟨g, 0, none⟩) t c' ∧ Hid (acc.length = t ∧ t ≤ c' ∧ c' ≤ maxLen) ∧ Hid (pkF f id m = acc ++ pkF f id (m.drop k)) ∧ NI2 wr w.heap.size wr.heap.size 68 .u8 5 (some ⟨g, 0, none⟩) t c' acc ∧ Below w.heap.size w wr) (fun _ i _ => n - (intOf i).toNat)
  case atStart => exact ⟨0, 0, _, 0, [], Nat.zero_le _, Nat.le_refl _, rfl, rfl, hide ⟨rfl, Nat.le_refl _, by unfold maxLen; omega⟩, hide (by simp), by simpa using hN0.out, (by (repeat' (first | (with_reducible exact Below.refl _ _) | (with_reducible assumption) | (with_reducible refine Below.alloc ?_ ?_ _) | (with_reducible refine below_ext ?_ ?_ _ _) | (with_reducible refine Below.setCell ?_ ?_ _) | (with_reducible refine Below.drew ?_) | (with_reducible refine below_drewN ?_ _))); all_goals (first | omega | (simp; done) | (simp; omega)))⟩
  case round =>
    obtain ⟨k, t, g, c', acc, hk, htk, rfl, rfl, HL, HF, hni, hb⟩ := hrel
    clear hN0
    have hsz := hb.size
    by_cases hlt : k < n
    · obtain ⟨b, o, x, ⟨sA, sn, sc, sl⟩, rfl, hbl, hx, hx0, hx1, hs⟩ := (hr.below' hb).at_ hlt
      obtain rfl : sl.length = sn := by simpa using hs.1.len
      have hsum := ndSum2_le hx
      simp only at hsum hx hx1
      have hkn : (k : Int) < (n : Int) := by omega
      have hr0b := hide ((hr0.below' hb).alloc (.cells #[.int .i64 x, .slice sA sl.length sc] 68))
      have hr1b := hide ((hr1.below' hb).alloc (.cells #[.int .i64 x, .slice sA sl.length sc] 68))
      have HNI := hide hni
      have HS := hide hs.1
      have HX := hide hx
      clear hx hs hni
      go_wp2_with fail
      refine (unhide HCL _ x hr0b.out hr1b.out).mono ?_
      rintro e w1 ⟨rfl, hb1⟩
      have hs1 := hb1.size
      simp at hs1
      have hy0 : w1.cell? ⟨wr.heap.size, 0, none⟩ = some (.int .i64 x) := (hb1.cell (p := ⟨wr.heap.size, 0, none⟩) (by simp)).trans (by go_simp)
      have hy1 : w1.cell? ⟨wr.heap.size, 1, none⟩ = some (.slice sA sl.length sc) := (hb1.cell (p := ⟨wr.heap.size, 1, none⟩) (by simp)).trans (by go_simp)
      have hb1' : Below wr.heap.size wr w1 := below_then (show Below wr.heap.size wr (wr.alloc (.cells #[.int .i64 x, .slice sA sl.length sc] 68)) from (by (repeat' (first | (with_reducible exact Below.refl _ _) | (with_reducible assumption) | (with_reducible refine Below.alloc ?_ ?_ _) | (with_reducible refine below_ext ?_ ?_ _ _) | (with_reducible refine Below.setCell ?_ ?_ _) | (with_reducible refine Below.drew ?_) | (with_reducible refine below_drewN ?_ _))); all_goals (first | omega | (simp; done) | (simp; omega)))) hb1 (by simp)
      have hrd1 := hide (HS.out.below' hb1')
      have hni1 := hide ((HNI.out.below' hb1').more (Nat.le_refl _) hb1'.size)
      have hbw1 := below_then hb hb1' hsz
      have hlb : wr.heap.size < w1.heap.size := by omega
      clear hb1 hb1' hx0 hx1 HS HNI hr0b hr1b hb
      cases he : (f x == id)
      · have HG := hide (HF.out.trans (by rw [pkF_miss HX.out he]))
        clear HF HX
        go_wp2_with fail
        go_roundw
        case rel => exact ⟨k + 1, t, g, c', acc, by omega, by omega, by go_num, rfl, HL, HG, hni1.out, hbw1⟩
        case measure => simp [intOf] <;> omega
      · have HG := hide (HF.out.trans (by rw [pkF_hit HX.out he]; simp : _ = (acc ++ [(x, sl)]) ++ pkF f id (m.drop (k + 1))))
        clear HF HX
        go_wp2_with fail
        go_region_law (first
          | (go_simp; go_at_call 73; (with_reducible refine (iCopyB_any _ _ _ _ _ _ sl (hrd1.out.below' (by (repeat' (first | (with_reducible exact Below.refl _ _) | (with_reducible assumption) | (with_reducible refine Below.alloc ?_ ?_ _) | (with_reducible refine below_ext ?_ ?_ _ _) | (with_reducible refine Below.setCell ?_ ?_ _) | (with_reducible refine Below.drew ?_) | (with_reducible refine below_drewN ?_ _))); all_goals (first | omega | (simp; done) | (simp; omega)))) (by omega)).mono ?_); rintro e w2 ⟨A2, c2, rfl, hc2, hm2, ho2, hb2⟩; have hb2' : Below w1.heap.size w1 w2 := below_then (show Below w1.heap.size w1 _ from (by (repeat' (first | (with_reducible exact Below.refl _ _) | (with_reducible assumption) | (with_reducible refine Below.alloc ?_ ?_ _) | (with_reducible refine below_ext ?_ ?_ _ _) | (with_reducible refine Below.setCell ?_ ?_ _) | (with_reducible refine Below.drew ?_) | (with_reducible refine below_drewN ?_ _))); all_goals (first | omega | (simp; done) | (simp; omega)))) hb2 (by first | exact Nat.le_refl _ | simp); have hs2 := hb2'.size; have hz0' : w2.cell? ⟨wr.heap.size, 0, none⟩ = some (.int .i64 x) := (hb2'.cell (p := ⟨wr.heap.size, 0, none⟩) hlb).trans hy0; have hz1' : w2.cell? ⟨wr.heap.size, 1, none⟩ = some (.slice sA sl.length sc) := (hb2'.cell (p := ⟨wr.heap.size, 1, none⟩) hlb).trans hy1; have ho3 := ho2.more (show w1.heap.size ≤ _ by first | exact Nat.le_refl _ | simp) (Nat.le_refl _))
          | (refine step_ni2 _ rfl (.tmp 26) (.tmp 33) 59 rfl 68 .u8 5 i0 (.agg #[.int .i64 0, .slice none 0 0]) 32 w.heap.size w1.heap.size w2.heap.size Try.underlying59 hi0' hz0 hz1 hz2 rfl g t c' acc (by simp [Act.eval, Act.put]) ((hni1.out.below' hb2').below' (by (repeat' (first | (with_reducible exact Below.refl _ _) | (with_reducible assumption) | (with_reducible refine Below.alloc ?_ ?_ _) | (with_reducible refine below_ext ?_ ?_ _ _) | (with_reducible refine Below.setCell ?_ ?_ _) | (with_reducible refine Below.drew ?_) | (with_reducible refine below_drewN ?_ _))); all_goals (first | omega | (simp; done) | (simp; omega)))) x (Sl.mk A2 sl.length c2 sl) (ho3.below' (by (repeat' (first | (with_reducible exact Below.refl _ _) | (with_reducible assumption) | (with_reducible refine Below.alloc ?_ ?_ _) | (with_reducible refine below_ext ?_ ?_ _ _) | (with_reducible refine Below.setCell ?_ ?_ _) | (with_reducible refine Below.drew ?_) | (with_reducible refine below_drewN ?_ _))); all_goals (first | omega | (simp; done) | (simp; omega)))) hc2 hm2 hs2 (by simp <;> omega) w2.heap.size 1 (by simp [Act.eval, Act.put]) (by go_simp) (by go_simp) (by unfold maxLen; omega) (by omega) ?_; intro g4 c4 w4 hn4 hc4 hm4 hch4; have hbw4 : Below w.heap.size w w4 := below_then (show Below w.heap.size w _ from below_then (below_then hbw1 hb2' (by omega)) (show Below w2.heap.size w2 _ from (by (repeat' (first | (with_reducible exact Below.refl _ _) | (with_reducible assumption) | (with_reducible refine Below.alloc ?_ ?_ _) | (with_reducible refine below_ext ?_ ?_ _ _) | (with_reducible refine Below.setCell ?_ ?_ _) | (with_reducible refine Below.drew ?_) | (with_reducible refine below_drewN ?_ _))); all_goals (first | omega | (simp; done) | (simp; omega)))) (by omega)) (hch4.below (B := w.heap.size) (by omega) (by simp <;> omega)) (Nat.le_refl _))
          | fail)
        all_goals
          have HN4 := hide hn4
          clear hn4 hch4 ho2 ho3 hb2 hb2'
          go_wp2_with fail
          go_roundw
          case rel => exact ⟨k + 1, t + 1, g4, c4, acc ++ [(x, sl)], by omega, by omega, by go_num, rfl, hide ⟨by simp [HL.out.1], hc4, hm4⟩, HG, HN4.out, hbw4⟩
          case measure => simp [intOf] <;> omega
    · obtain rfl : k = n := by omega
      have HG := hide (HF.out.trans (by rw [pkF_end hll]; simp : _ = acc))
      clear HF
      go_wp2_with fail
      go_ret
      rw [HG.out]
      obtain ⟨h1, h2, h3⟩ := HL.out
      subst h1
      exact ⟨_, c', rfl, h2, h3, hni, hb⟩
end Go.Proofs.Yticfmkfiibhafaa
