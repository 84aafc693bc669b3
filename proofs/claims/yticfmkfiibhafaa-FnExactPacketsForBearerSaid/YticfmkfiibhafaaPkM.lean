/- Marks written into a row of packets and read again. -/
import Derived.Test.YticfmkfiibhafaaNi2
import Derived.Test.YticfmkfiibhafaaNPacket
namespace Go.Sep
open Go.RowKit

section
variable {kd : IntKind} {E E2 : TypeId} {w : World} {lo hi n c k : Nat} {A : Option Addr} {l : List (Int × List Int)}
theorem cs1_put' {a b : List (Int × Sl)} {x y : Int} {s : Sl} {k : Nat} (ha : a.length = k) : ((a ++ (x, s) :: b).flatMap cs1).set (k * 2) (.int .i64 y) = (a ++ (y, s) :: b).flatMap cs1 := by
  have hl : (a.flatMap cs1).length = k * 2 := by rw [flat_len cs1 2 cs1_len, ha]
  rw [List.flatMap_append, List.flatMap_append, List.set_append_right _ _ (by omega), hl, Nat.sub_self]
  rfl
theorem dt_split {P rest : List (Int × List Int)} {x : Int} {s : List Int} {ss : List (Int × Sl)} (h : ss.map dt = P ++ (x, s) :: rest) : ∃ a sl b, ss = a ++ (x, sl) :: b ∧ sl.l = s ∧ a.map dt = P ∧ b.map dt = rest := by
  obtain ⟨a, r, rfl, h1, h2⟩ := List.map_eq_append_iff.1 h
  obtain ⟨y, b, rfl, h3, h4⟩ := List.map_eq_cons_iff.1 h2
  obtain ⟨y1, y2⟩ := y
  simp only [dt, Prod.mk.injEq] at h3
  obtain ⟨rfl, h3⟩ := h3
  exact ⟨a, y2, b, rfl, h3, h1, h4⟩
/-- One struct of the row: its cells, its slice, and the row with both written anew. -/
theorem NI2.pick {P rest : List (Int × List Int)} {x : Int} {s : List Int} (h : NI2 w lo hi E kd E2 A n c (P ++ (x, s) :: rest)) (hk : P.length = k) :
    ∃ (g i1 i2 sc : Nat) (sA : Option Addr), A = some ⟨g, 0, none⟩ ∧ k < n ∧ g < w.heap.size ∧ w.cell? ⟨g, k * 2, none⟩ = some (.int .i64 x) ∧ w.frozen? ⟨g, k * 2, none⟩ = false ∧ w.cell? ⟨g, k * 2 + 1, none⟩ = some (.slice sA s.length sc) ∧
      (g < i1 ∨ i2 ≤ g) ∧ lo ≤ g ∧ g < hi ∧ lo ≤ i1 ∧ i2 ≤ hi ∧ Own w i1 i2 E2 1 (.slice sA s.length sc) s.length (s.map (.int kd)) ∧
      ∀ (y : Int) (s' : List Int) (w' : World), s'.length = s.length → Own w' i1 i2 E2 1 (.slice sA s.length sc) s.length (s'.map (.int kd)) → Chg i1 i2 (w.setCell ⟨g, k * 2, none⟩ (.int .i64 y)) w' → NI2 w' lo hi E kd E2 A n c (P ++ (y, s') :: rest) ∧ Chg lo hi w w' := by
  obtain ⟨m1, m2, a, b, h1, h2, h3, h4, h5⟩ := h
  have g1 := h1.le
  have g4 := h4.le
  have hlen := h3.len
  rw [flat_len cs1 2 cs1_len] at hlen
  have hlen2 : (a ++ b).length = (P ++ (x, s) :: rest).length := by rw [← h5]; simp
  have hkn : k < n := by simp at hlen2 hlen; omega
  obtain ⟨A', c', hv, hnc, hcm, hA⟩ := h3.form
  injection hv with e1 _ e3
  subst e1 e3
  rcases hA with ⟨_, hz, _⟩ | ⟨g, rfl, hg1, hg2, hg3⟩
  · omega
  have hcell : ∀ j u, ((a ++ b).flatMap cs1)[j]? = some u → w.cell? ⟨g, j, none⟩ = some u := fun j u hu => by
    have hj := (List.getElem?_eq_some_iff.1 hu).1
    rw [flat_len cs1 2 cs1_len] at hj
    rw [h3.row.cellAt j (by omega), hu]
  have hfr := h3.row.frozenAt (k * 2)
  have hst := fun y => h3.stored (k * 2) (.int .i64 y)
  have hsh : ∀ (sl : Sl), sl.l = s → (∃ i1 i2, Own w i1 i2 E2 1 (.slice sl.A sl.n sl.c) sl.n (sl.l.map (.int kd))) → sl.n = s.length := fun sl he ⟨_, _, ho⟩ => by
    have := ho.len
    simp at this
    rw [← he]; omega
  by_cases hka : k < a.length
  · -- in front of the row
    obtain ⟨a1, sl, a2, rfl, hs, hp, hq⟩ : ∃ a1 sl a2, a = a1 ++ (x, sl) :: a2 ∧ sl.l = s ∧ a1.map dt = P ∧ (a2 ++ b).map dt = rest := by
      obtain ⟨q1, sl, q2, k1, k2, k3, k4⟩ := dt_split h5
      have hq1 : q1.length = k := by rw [← hk, ← k3]; simp
      rcases List.append_eq_append_iff.1 k1 with ⟨ds, k5, k6⟩ | ⟨bs, k5, k6⟩
      · have : ds ≠ [] := by
          rintro rfl
          simp at k5
          subst k5
          omega
        have := congrArg List.length k5
        simp at this
        cases ds with
        | nil => contradiction
        | cons z zs => simp at this; omega
      · cases bs with
        | nil => have := congrArg List.length k5; simp at this; omega
        | cons z zs =>
          simp at k6
          obtain ⟨rfl, rfl⟩ := k6
          exact ⟨q1, sl, zs, k5, k2, k3, k4⟩
    obtain ⟨i1, i2, j1, j2, j3, j4, j5, j6⟩ := h1.split
    have hn := hsh sl hs ⟨_, _, j3⟩
    have g6 := j6.le
    have g7 := j1.le
    obtain ⟨sA, sn, sc, sll⟩ := sl
    simp only at hs hn j3 j4 j5
    subst hs hn
    have hak : a1.length = k := by rw [← hk, ← hp]; simp
    refine ⟨g, i1, i2, sc, sA, rfl, hkn, hg3, hcell _ _ ?_, hfr, hcell _ _ ?_, .inr (by omega), by omega, by omega, by omega, by omega, j3, ?_⟩
    · have := flat_at cs1 2 cs1_len ((a1 ++ (x, (⟨sA, sll.length, sc, sll⟩ : Sl)) :: a2) ++ b) k 0 (by omega)
      rw [Nat.add_zero] at this
      rw [this]
      simp [← hak, cs1]
    · have := flat_at cs1 2 cs1_len ((a1 ++ (x, (⟨sA, sll.length, sc, sll⟩ : Sl)) :: a2) ++ b) k 1 (by omega)
      rw [this]
      simp [← hak, cs1, Sl.v]
    · intro y s' w' hl' ho hch
      obtain ⟨t1, t2⟩ := hst y
      have hcA : ((a1 ++ (x, (⟨sA, sll.length, sc, sll⟩ : Sl)) :: a2) ++ b).flatMap cs1 = (a1 ++ (x, (⟨sA, sll.length, sc, sll⟩ : Sl)) :: (a2 ++ b)).flatMap cs1 := by simp
      rw [hcA, cs1_put' hak] at t1
      have u1 : NL2 w' kd E2 lo i1 a1 := (j1.chg t2 (.inl (by omega))).chg hch (.inl (Nat.le_refl _))
      have u6 : NL2 w' kd E2 i2 m1 a2 := (j6.chg t2 (.inl (Nat.le_refl _))).chg hch (.inr (Nat.le_refl _))
      have u4 : NL2 w' kd E2 m2 hi b := (h4.chg t2 (.inr (Nat.le_refl _))).chg hch (.inr (by omega))
      have uo := t1.chg hch (.inr (by omega))
      refine ⟨⟨m1, m2, a1 ++ (y, ⟨sA, sll.length, sc, s'⟩) :: a2, b, NL2.join (u1.snoc (s := (y, ⟨sA, sll.length, sc, s'⟩)) ho j4 j5 j2) u6, h2, uo.cast rfl (by simp [cs1, Sl.v]), u4, ?_⟩, (t2.mono (by omega) (by omega)).trans (hch.mono (by omega) (by omega))⟩
      rw [← hp, ← hq]
      simp [dt]
  · -- behind the row
    obtain ⟨b1, sl, b2, rfl, hs, hp, hq⟩ : ∃ b1 sl b2, b = b1 ++ (x, sl) :: b2 ∧ sl.l = s ∧ (a ++ b1).map dt = P ∧ b2.map dt = rest := by
      obtain ⟨q1, sl, q2, k1, k2, k3, k4⟩ := dt_split h5
      have hq1 : q1.length = k := by rw [← hk, ← k3]; simp
      rcases List.append_eq_append_iff.1 k1 with ⟨ds, k5, k6⟩ | ⟨bs, k5, k6⟩
      · exact ⟨ds, sl, q2, k6, k2, by rw [← k5]; exact k3, k4⟩
      · have hl5 := congrArg List.length k5
        simp at hl5
        obtain rfl : bs = [] := List.eq_nil_of_length_eq_zero (by omega)
        simp at k5 k6
        subst k5
        exact ⟨[], sl, q2, k6.symm, k2, by simpa using k3, k4⟩
    obtain ⟨i1, i2, j1, j2, j3, j4, j5, j6⟩ := h4.split
    have hn := hsh sl hs ⟨_, _, j3⟩
    have g6 := j6.le
    have g7 := j1.le
    obtain ⟨sA, sn, sc, sll⟩ := sl
    simp only at hs hn j3 j4 j5
    subst hs hn
    have hak : (a ++ b1).length = k := by rw [← hk, ← hp]; simp
    have hasc : a ++ (b1 ++ (x, (⟨sA, sll.length, sc, sll⟩ : Sl)) :: b2) = (a ++ b1) ++ (x, (⟨sA, sll.length, sc, sll⟩ : Sl)) :: b2 := by simp
    refine ⟨g, i1, i2, sc, sA, rfl, hkn, hg3, hcell _ _ ?_, hfr, hcell _ _ ?_, .inl (by omega), by omega, by omega, by omega, by omega, j3, ?_⟩
    · have := flat_at cs1 2 cs1_len (a ++ (b1 ++ (x, (⟨sA, sll.length, sc, sll⟩ : Sl)) :: b2)) k 0 (by omega)
      rw [Nat.add_zero] at this
      rw [this, hasc, List.getElem?_append_right (by omega), hak, Nat.sub_self]
      rfl
    · have := flat_at cs1 2 cs1_len (a ++ (b1 ++ (x, (⟨sA, sll.length, sc, sll⟩ : Sl)) :: b2)) k 1 (by omega)
      rw [this, hasc, List.getElem?_append_right (by omega), hak, Nat.sub_self]
      rfl
    · intro y s' w' hl' ho hch
      obtain ⟨t1, t2⟩ := hst y
      rw [hasc, cs1_put' hak] at t1
      have u1 : NL2 w' kd E2 m2 i1 b1 := (j1.chg t2 (.inr (Nat.le_refl _))).chg hch (.inl (Nat.le_refl _))
      have u6 : NL2 w' kd E2 i2 hi b2 := (j6.chg t2 (.inr (by omega))).chg hch (.inr (Nat.le_refl _))
      have u4 : NL2 w' kd E2 lo m1 a := (h1.chg t2 (.inl (Nat.le_refl _))).chg hch (.inl (by omega))
      have uo := t1.chg hch (.inl (by omega))
      refine ⟨⟨m1, m2, a, b1 ++ (y, ⟨sA, sll.length, sc, s'⟩) :: b2, u4, h2, uo.cast rfl (by simp [cs1, Sl.v]), NL2.join (u1.snoc (s := (y, ⟨sA, sll.length, sc, s'⟩)) ho j4 j5 j2) u6, ?_⟩, (t2.mono (by omega) (by omega)).trans (hch.mono (by omega) (by omega))⟩
      rw [← hp, ← hq]
      simp [dt]
end
end Go.Sep
namespace Go.Proofs.Yticfmkfiibhafaa
open Go.RowKit Go.Sep

def bmk (k : Int) (n : Nat) : List Int := (List.range n).map fun (i : Nat) => IntKind.u8.wrap (k + i)
theorem bmk_len (k : Int) (n : Nat) : (bmk k n).length = n := by simp [bmk]
theorem bmk_val (k : Int) (n : Nat) : (bmk k n).map (Value.int .u8) = marks mkByteS k n := by
  unfold bmk marks mkByteS
  rw [List.map_map]
  rfl
def markL : Int → List (Int × List Int) → List (Int × List Int)
  | _, [] => []
  | k, (_, s) :: r => (k, bmk (k + 1) s.length) :: markL (k + 1 + s.length) r
theorem markL_sum (k : Int) (l : List (Int × List Int)) : (markL k l).length = l.length ∧ ndSum2 (markL k l) = ndSum2 l := by
  induction l generalizing k with
  | nil => exact ⟨rfl, rfl⟩
  | cons a r ih =>
    obtain ⟨x, s⟩ := a
    have h := ih (k + 1 + s.length)
    refine ⟨by simp [markL, h.1], ?_⟩
    have h2 := h.2
    simp only [ndSum2, markL, List.map_cons, List.sum_cons, bmk_len] at h2 ⊢
    omega
set_option maxRecDepth 100000 in
theorem markPacketS_any (w : World) (A : Option Addr) (n c lo hi : Nat) (k0 : Int) (l : List (Int × List Int)) (hr : NI2 w lo hi 68 .u8 5 A n c l) (hn : n + ndSum2 l ≤ 1048600) (h0 : 0 ≤ k0) (h1 : k0 ≤ 8000000) :
    Calls Try.prog 54 #[.slice A n c, .int .i64 k0] w fun e w' => e = .returned (.int .i64 (k0 + n + (ndSum2 l : Nat))) ∧ NI2 w' lo hi 68 .u8 5 A n c (markL k0 l) ∧ Chg lo hi w w' := by
  have hll := hr.nd.len
  go_enter Try.func54, Try.ntmps54
  go_wp2_with fail
  go_loopw [1, 5] (fun q i wr => ∃ (k : Nat) (kk : Int) (P : List (Int × List Int)), k ≤ n ∧ i = .int .i64 k ∧ q = .int .i64 kk ∧ 0 ≤ kk ∧ kk ≤ 9100000 ∧ P.length = k ∧ Hid (kk + ((n - k : Nat) : Int) + (ndSum2 (l.drop k) : Nat) = k0 + n + (ndSum2 l : Nat)) ∧ Hid (P ++ markL kk (l.drop k) = markL k0 l) ∧ NI2 wr lo hi 68 .u8 5 A n c (P ++ l.drop k) ∧ Chg lo hi w wr) (fun _ i _ => n - (intOf i).toNat)
  case atStart => exact ⟨0, k0, [], Nat.zero_le _, rfl, rfl, h0, by omega, rfl, hide (by simp), hide (by simp), by simpa using hr, Chg.refl _ _ _⟩
  case round =>
    obtain ⟨k, kk, P, hk, rfl, rfl, hkk0, hkk1, hP, HB, HM, hni, hch⟩ := hrel
    by_cases hlt : k < n
    · obtain ⟨x, s, hxs⟩ : ∃ x s, l[k]? = some (x, s) := ⟨_, _, List.getElem?_eq_getElem (by omega)⟩
      have hdr := at_take hxs
      have hsum := ndSum2_at hxs
      simp only at hsum
      rw [hdr] at hni
      obtain ⟨g, i1, i2, sc, sA, rfl, _, hgl, hc0, hf0, hc1, hgi, hlg, hgh, hli, hih, hown, hre⟩ := hni.pick hP
      have hB := HB.out
      have hkn : (k : Int) < (n : Int) := by omega
      have HR := hide hre
      have HO := hide (hown.chg (show Chg g (g + 1) wr (wr.setCell ⟨g, k * 2, none⟩ (.int .i64 kk)) from (by (repeat' (first | (with_reducible exact Chg.refl _ _ _) | (with_reducible assumption) | (with_reducible refine Chg.alloc ?_ _) | (with_reducible refine Chg.setCell ?_ ?_ _) | (with_reducible refine Chg.drew ?_) | (with_reducible refine Chg.drewN ?_ _) | (with_reducible refine Chg.ext ?_ _ _))); all_goals (first | omega | (simp; done) | (simp; omega)))) (by omega))
      have HC := hide hch
      have HM2 := HM.out
      rw [hdr] at HM2
      have HM3 := hide (show (P ++ [(kk, bmk (kk + 1) s.length)]) ++ markL (kk + 1 + s.length) (l.drop (k + 1)) = markL k0 l by rw [← HM2]; simp [markL])
      have HB3 := hide (show kk + 1 + s.length + ((n - (k + 1) : Nat) : Int) + (ndSum2 (l.drop (k + 1)) : Nat) = k0 + n + (ndSum2 l : Nat) by omega)
      have hsl : s.length ≤ 1048600 := by have := ndSum2_le hxs; simp only at this; omega
      have hkk3 : kk + 1 + s.length ≤ 9100000 := by omega
      clear hni hown hre hch HM HM2 hdr hsum hxs hB HB hgh hlg hli hih
      go_wp2_with fail
      refine (markByteS_any _ sA s.length sc i1 i2 (kk + 1) _ HO.out (by omega) (by omega) (by omega)).mono ?_
      rintro e w1 ⟨rfl, ho1, hch1⟩
      rw [← bmk_val] at ho1
      obtain ⟨hn1, hch2⟩ := HR.out kk (bmk (kk + 1) s.length) w1 (bmk_len _ _) ho1 hch1
      have HN1 := hide (show NI2 w1 lo hi 68 .u8 5 (some ⟨g, 0, none⟩) n c ((P ++ [(kk, bmk (kk + 1) s.length)]) ++ l.drop (k + 1)) by simpa using hn1)
      have HC1 := hide (HC.out.trans hch2)
      clear ho1 hch1 hn1 hch2 HO HR HC hc0 hc1 hf0
      go_wp2_with fail
      go_roundw
      case rel => exact ⟨k + 1, kk + 1 + s.length, P ++ [(kk, bmk (kk + 1) s.length)], by omega, by go_num, by go_num, by omega, by omega, by simp [hP], HB3, HM3, HN1.out, HC1.out⟩
      case measure => simp [intOf] <;> omega
    · obtain rfl : k = n := by omega
      have hdn : l.drop k = [] := List.drop_eq_nil_of_le (by omega)
      have hB := HB.out
      have hM := HM.out
      rw [hdn] at hB hM hni
      have hfin : kk = k0 + k + (ndSum2 l : Nat) := by simp [ndSum2] at hB ⊢; omega
      have HF := hide (And.intro hfin (And.intro (show P = markL k0 l by rw [← hM]; simp [markL]) (And.intro (show NI2 wr lo hi 68 .u8 5 A k c P by simpa using hni) hch)))
      clear hB hM hni hfin HB HM hch hdn
      go_wp2_with fail
      go_ret
      obtain ⟨e1, e2, e3, e4⟩ := HF.out
      exact ⟨ret_int e1, by rw [← e2]; exact e3, e4⟩
set_option maxRecDepth 100000 in
theorem heldPacketS_any (w : World) (A : Option Addr) (n c lo hi : Nat) (k0 : Int) (l : List (Int × List Int)) (hr : Nd2 .u8 w lo hi A n (markL k0 l)) (hn : n + ndSum2 l ≤ 1048600) (h0 : 0 ≤ k0) (h1 : k0 ≤ 8000000) :
    Calls Try.prog 55 #[.slice A n c, .int .i64 k0] w fun e w' => e = .returned (.int .i64 (k0 + n + (ndSum2 l : Nat))) ∧ Below w.heap.size w w' := by
  have hll := hr.len
  rw [(markL_sum k0 l).1] at hll
  go_enter Try.func55, Try.ntmps55
  go_wp2_with fail
  go_loopw [1, 5] (fun q i wr => ∃ (k : Nat) (kk : Int), k ≤ n ∧ i = .int .i64 k ∧ q = .int .i64 kk ∧ 0 ≤ kk ∧ kk ≤ 9100000 ∧ Hid (kk + ((n - k : Nat) : Int) + (ndSum2 (l.drop k) : Nat) = k0 + n + (ndSum2 l : Nat)) ∧ Hid (markL kk (l.drop k) = (markL k0 l).drop k) ∧ Below w.heap.size w wr) (fun _ i _ => n - (intOf i).toNat)
  case atStart => exact ⟨0, k0, Nat.zero_le _, rfl, rfl, h0, by omega, hide (by simp), hide (by simp), Below.refl _ _⟩
  case round =>
    obtain ⟨k, kk, hk, rfl, rfl, hkk0, hkk1, HB, HM, hb⟩ := hrel
    by_cases hlt : k < n
    · obtain ⟨x, s, hxs⟩ : ∃ x s, l[k]? = some (x, s) := ⟨_, _, List.getElem?_eq_getElem (by omega)⟩
      have hdr := at_take hxs
      have hsum := ndSum2_at hxs
      simp only at hsum
      have HM2 := HM.out
      rw [hdr] at HM2
      obtain ⟨b, o, x', ⟨sA, sn, sc, sl⟩, rfl, hbl, hx, hx0, hx1, hs⟩ := (hr.below' hb).at_ hlt
      simp only at hx hx1
      have hx2 : (markL k0 l).drop k = (x', sl) :: (markL k0 l).drop (k + 1) := at_take hx
      rw [hx2] at HM2
      simp only [markL] at HM2
      injection HM2 with e1 e2
      injection e1 with e3 e4
      subst e3 e4
      have hsn : s.length = sn := by have := hs.1.len; simp [bmk_len] at this; exact this
      subst hsn
      have hB := HB.out
      have hkn : (k : Int) < (n : Int) := by omega
      have HM3 := hide e2
      have HB3 := hide (show kk + 1 + s.length + ((n - (k + 1) : Nat) : Int) + (ndSum2 (l.drop (k + 1)) : Nat) = k0 + n + (ndSum2 l : Nat) by omega)
      have hsl : s.length ≤ 1048600 := by have := ndSum2_le hxs; simp only at this; omega
      have hkk3 : kk + 1 + s.length ≤ 9100000 := by omega
      have HS := hide (show Rd wr lo hi 1 sA s.length (marks mkByteS (kk + 1) s.length) by have := hs.1; simp only [bmk_val] at this; exact this)
      clear e2 hx hx2 hdr hsum hxs hB HB HM hs
      go_wp2_with fail
      refine (heldByteS_any _ sA s.length sc lo hi (kk + 1) HS.out (by omega) (by omega) (by omega)).mono ?_
      rintro e w1 ⟨rfl, hb1⟩
      have hbw1 := below_then hb hb1 hb.size
      have hnl : ¬ (kk + 1 + (s.length : Int)) < 0 := by omega
      clear hb hb1 hx0 hx1 HS
      go_wp2_with fail
      go_roundw
      case rel => exact ⟨k + 1, kk + 1 + s.length, by omega, by go_num, by go_num, by omega, by omega, HB3, HM3, hbw1⟩
      case measure => simp [intOf] <;> omega
    · obtain rfl : k = n := by omega
      have hdn : l.drop k = [] := List.drop_eq_nil_of_le (by omega)
      have hB := HB.out
      rw [hdn] at hB
      have hfin := hide (show kk = k0 + k + (ndSum2 l : Nat) by simp [ndSum2] at hB ⊢; omega)
      clear hB HB HM hdn
      go_wp2_with fail
      go_ret
      exact ⟨ret_int hfin.out, hb⟩
end Go.Proofs.Yticfmkfiibhafaa
