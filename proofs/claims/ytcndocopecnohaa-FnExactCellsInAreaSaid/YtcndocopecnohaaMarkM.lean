/- Marks written into a row of cells and into the slices that they hold. -/
import Derived.Test.YtcndocopecnohaaNCell
namespace Go.Proofs.Ytcndocopecnohaa
open Go.RowKit Go.Sep

section
variable {kd : IntKind} {E E2 : TypeId} {w : World} {lo hi n c k : Nat} {A : Option Addr} {l : List (Int × List Int)}
theorem nown_pick (h : NOwn2 w lo hi E kd E2 A n c l) (hk : k < n) :
    ∃ (mid m1 m2 : Nat) (a b : List (Int × Sl)) (x : Int) (s : Sl), lo ≤ mid ∧ a.length = k ∧ Own w lo mid E 2 (.slice A n c) n ((a ++ (x, s) :: b).flatMap cs1) ∧ NL2 w kd E2 mid m1 a ∧ m1 ≤ m2 ∧ Own w m1 m2 E2 1 (.slice s.A s.n s.c) s.n (s.l.map (.int kd)) ∧ s.n ≤ s.c ∧ s.c ≤ maxLen ∧ NL2 w kd E2 m2 hi b ∧ l = (a ++ (x, s) :: b).map (fun s : Int × Sl => (s.1, s.2.l)) ∧ l[k]? = some (x, s.l) := by
  obtain ⟨mid, ss, h1, h2, h3, h4⟩ := h
  have hl := h2.rd.len
  rw [flat_len cs1 2 cs1_len] at hl
  have hks : k < ss.length := by omega
  have e : ss = ss.take k ++ ss[k] :: ss.drop (k + 1) := by rw [← List.drop_eq_getElem_cons, List.take_append_drop]
  have ha : (ss.take k).length = k := by rw [List.length_take]; omega
  have hg : l[k]? = some (ss[k].1, ss[k].2.l) := by rw [← h4]; simp [hks]
  generalize ss.take k = a at e ha
  generalize ss.drop (k + 1) = b at e
  generalize ss[k] = s at e hg
  obtain ⟨x, s⟩ := s
  subst e
  obtain ⟨m1, m2, g1, g2, g3, g4, g5, g6⟩ := h3.split
  exact ⟨mid, m1, m2, a, b, x, s, h1, ha, h2, g1, g2, g3, g4, g5, g6, h4.symm, hg⟩
end
theorem cs1_put {a b : List (Int × Sl)} {x y : Int} {s : Sl} {k : Nat} (ha : a.length = k) : ((a ++ (x, s) :: b).flatMap cs1).set (k * 2) (.int .i64 y) = (a ++ (y, s) :: b).flatMap cs1 := by
  have hl : (a.flatMap cs1).length = k * 2 := by rw [flat_len cs1 2 cs1_len, ha]
  rw [List.flatMap_append, List.flatMap_append, List.set_append_right _ _ (by omega), hl, Nat.sub_self]
  rfl
theorem cs1_next {a b : List (Int × Sl)} {s : Int × Sl} {k : Nat} (ha : a.length = k) : ((a ++ s :: b).map (fun s : Int × Sl => (s.1, s.2.l))).drop (k + 1) = b.map (fun s : Int × Sl => (s.1, s.2.l)) := by
  subst ha
  simp [List.drop_append]
theorem marks_ints (k0 : Int) (n : Nat) : ((List.range n).map (fun i : Nat => k0 + i)).map (Value.int .i64) = marks mkIntS k0 n := by
  unfold marks mkIntS
  rw [List.map_map]
  rfl
set_option maxRecDepth 100000 in
theorem markCellS_any (w : World) (A : Option Addr) (n c lo hi : Nat) (k0 : Int) (l : List (Int × List Int)) (hr : NOwn2 w lo hi 51 .i64 3 A n c l) (hn : n + ndSum2 l ≤ 1048576) (h0 : 0 ≤ k0) (h1 : k0 ≤ 1) :
    Calls Try.prog 40 #[.slice A n c, .int .i64 k0] w fun e w' => ∃ r : Int, e = .returned (.int .i64 r) ∧ 0 ≤ r ∧ Chg lo hi w w' := by
  go_enter Try.func40, Try.ntmps40
  go_wp2_with fail
  go_loopw [1, 5] (fun q i wr => ∃ (k : Nat) (kk : Int) (l' : List (Int × List Int)), k ≤ n ∧ i = .int .i64 k ∧ q = .int .i64 kk ∧ 0 ≤ kk ∧ kk ≤ 1048577 ∧ Hid (kk + ((n - k : Nat) : Int) + (ndSum2 (l'.drop k) : Nat) ≤ 1048577) ∧ NOwn2 wr lo hi 51 .i64 3 A n c l' ∧ Chg lo hi w wr) (fun _ i _ => n - (intOf i).toNat)
  case atStart => exact ⟨0, k0, l, Nat.zero_le _, rfl, rfl, h0, by omega, hide (by simp; omega), hr, Chg.refl _ _ _⟩
  case round =>
    obtain ⟨k, kk, l', hk, rfl, rfl, hkk0, hkk1, HB, hown, hch⟩ := hrel
    by_cases hlt : k < n
    · obtain ⟨mid, m1, m2, a, b, x, ⟨sA, sn, sc, sl⟩, hlm, hak, hrow, hna, hm12, hsl, hs1, hs2, hnb, hl', hat⟩ := nown_pick hown hlt
      simp only at hsl hs1 hs2
      obtain rfl : sl.length = sn := by simpa using hsl.rd.len
      have hB2 := HB.out
      rw [ndSum2_at hat] at hB2
      simp only at hB2
      obtain ⟨A', c', hv, hnc, hcm, hA⟩ := hrow.form
      injection hv with ev1 _ ev3
      subst ev1 ev3
      rcases hA with ⟨_, hz, _⟩ | ⟨g, rfl, hg1, hg2, hg3⟩
      · omega
      have hlen := hrow.len
      obtain ⟨old, hdst, hfr⟩ := hrow.olds1 (k * 2) (by omega)
      have hsv : wr.cell? ⟨g, k * 2 + 1, none⟩ = some (.slice sA sl.length sc) := by
        have := hrow.rd.at_ (j := k * 2 + 1) (by omega)
        obtain ⟨gb, go, hgo, _, _, hc⟩ := this
        injection hgo with hgo
        injection hgo with hgo1 hgo2
        subst hgo1 hgo2
        have := hc (k * 2 + 1) (.slice sA sl.length sc) (by
          have := flat_at cs1 2 cs1_len (a ++ (x, ⟨sA, sl.length, sc, sl⟩) :: b) k 1 (by omega)
          rw [this]
          simp [← hak, cs1, Sl.v])
        simpa using this
      have HX := hide (hrow.stored (k * 2) (.int .i64 kk))
      rw [cs1_put hak] at HX
      rw [hl', cs1_next hak] at hB2
      have hna' := hna.le
      have hnb' := hnb.le
      have hkn : (k : Int) < (n : Int) := by omega
      have HA := hide hna
      have HN := hide hnb
      have HS := hide hsl
      have HC := hide hch
      clear hrow hat hl' hown hna hnb hsl hch HB
      go_wp2_with (go_at_call 21; refine (markIntS_any _ _ _ _ m1 m2 _ _ (HS.out.chg HX.out.2 (.inr hna')) (by omega) (by omega) (by omega)).mono ?_; rintro e w1 ⟨rfl, ho1, hch1⟩)
      rw [← marks_ints] at ho1
      have hrow1 := HX.out.1.chg hch1 (.inl hna')
      have hna1 := (HA.out.chg HX.out.2 (.inr (Nat.le_refl mid))).chg hch1 (.inl (Nat.le_refl m1))
      have hnb1 := (HN.out.chg HX.out.2 (.inr (by omega))).chg hch1 (.inr (Nat.le_refl m2))
      have hj := NL2.join (hna1.snoc (s := (kk, ⟨sA, sl.length, sc, (List.range sl.length).map (fun i : Nat => kk + 1 + i)⟩)) ho1 hs1 hs2 hm12) hnb1
      have hch2 := HC.out.trans ((HX.out.2.mono (Nat.le_refl _) (by omega)).trans (hch1.mono (by omega) (by omega)))
      go_wp2_with fail
      go_roundw
      case rel => exact ⟨k + 1, kk + 1 + sl.length, _, by omega, by go_num, by go_num, by omega, by omega, hide (by rw [cs1_next hak]; omega), ⟨mid, _, hlm, hrow1.cast rfl (by simp [cs1, Sl.v]), hj, rfl⟩, hch2⟩
      case measure => simp [intOf] <;> omega
    · go_wp2_with fail
      go_ret
      exact ⟨kk, rfl, hkk0, hch⟩
theorem markCellMap_any (w : World) (A : Option Addr) (n c lo hi : Nat) (k0 : Int) (l : List (Int × List Int)) (hr : NOwn2 w lo hi 51 .i64 3 A n c l) (hn : n + ndSum2 l ≤ 1048576) (h0 : 0 ≤ k0) (h1 : k0 ≤ 1) :
    Calls Try.prog 20 #[.agg #[.slice A n c], .int .i64 k0] w fun e w' => ∃ r : Int, e = .returned (.int .i64 r) ∧ 0 ≤ r ∧ Chg lo hi w w' := by
  go_enter Try.func20, Try.ntmps20
  go_wp2_with (go_at_call 40; refine (markCellS_any _ _ _ _ lo hi _ _ (hr.below' (by (repeat' (first | (with_reducible exact Below.refl _ _) | (with_reducible assumption) | (with_reducible refine Below.alloc ?_ ?_ _) | (with_reducible refine below_ext ?_ ?_ _ _) | (with_reducible refine Below.setCell ?_ ?_ _) | (with_reducible refine Below.drew ?_) | (with_reducible refine below_drewN ?_ _))); all_goals (first | omega | (simp; done) | (simp; omega)))) hn h0 h1).mono ?_; rintro e w1 ⟨r1, rfl, hr1, hch1⟩)
  go_ret
  exact ⟨r1, rfl, hr1, ((Chg.refl lo hi w).alloc _).trans hch1⟩
end Go.Proofs.Ytcndocopecnohaa
