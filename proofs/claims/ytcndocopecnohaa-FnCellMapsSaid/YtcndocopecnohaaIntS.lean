/- The laws' helpers on []int: a copy, a comparison, the size, marks written and read. -/
import Derived.Test.YtcndocopecnohaaProg
import Derived.Test.YtcndocopecnohaaSep
namespace Go.Proofs.Ytcndocopecnohaa
open Go.RowKit Go.Sep

theorem infoIntS : (Try.prog.info? 3).map (fun i => (i.zero, i.size, i.bytes)) = some (some (.int .i64 0), 1, 8) := by kernel_rfl

/-- A row of zeros, filled from the front: one more. -/
theorem fillIntS {w wr : World} {l : List Int} {zs : List Value} {n k : Nat} {u : Value} (hzl : zs.length = n) (hll : (l.map (Value.int .i64)).length = n * 1) (hlt : k < n) (hu : (l.map (Value.int .i64))[k]? = some u)
    (h : wr.ownsRow w.heap.size 3 1 (.slice (some ⟨w.heap.size, 0, none⟩) n n) n (mixed (l.map (.int .i64)) zs k)) (hb : Below w.heap.size w wr) :
    (wr.setCell ⟨w.heap.size, k, none⟩ u).ownsRow w.heap.size 3 1 (.slice (some ⟨w.heap.size, 0, none⟩) n n) n (mixed (l.map (.int .i64)) zs (k + 1)) ∧ Below w.heap.size w (wr.setCell ⟨w.heap.size, k, none⟩ u) := by
  have h1 := (h.stored k u).1
  rw [mixed_set (by omega) hu] at h1
  exact ⟨h1, hb.setCell (Nat.le_refl _) _⟩

theorem toIntS_any (w : World) (A : Option Addr) (n c lo hi : Nat) (l : List Int) (hr : Rd w lo hi 1 A n (l.map (.int .i64))) (hn : n ≤ 16777216) :
    Calls Try.prog 58 #[.slice A n c] w (Mk w 3 1 n (l.map (.int .i64))) := by
  obtain ⟨i0, hi0, hz0, hz1, hz2⟩ := info_parts infoIntS
  have hlen := hr.len
  go_enter Try.func58, Try.ntmps58
  go_wp2_with (at_make; refine wpList_make_full _ rfl _ _ 35 rfl w.heap.size 3 i0 (.int .i64 0) 1 Try.underlying35 hi0 hz0 hz1 _ _ _ _ n rfl rfl rfl rfl (by rw [hz2]; omega) (by unfold maxLen; omega) (Nat.le_refl _) ?_; intro w1 hown1 hgrow1)
  have hb1 : Below w.heap.size w w1 := (Below.refl _ _).grown hgrow1 (Nat.le_refl _) (by simp)
  have hzl := zeros_len (Value.int .i64 0).cells (n * 1)
  generalize (madeCells (Value.int .i64 0).cells (n * 1)).toList = zs at hown1 hzl
  go_loopw [4] (fun i wr => ∃ k : Nat, k ≤ n ∧ i = .int .i64 k ∧ wr.ownsRow w.heap.size 3 1 (.slice (some ⟨w.heap.size, 0, none⟩) n n) n (mixed (l.map (.int .i64)) zs k) ∧ Below w.heap.size w wr) (fun i _ => n - (intOf i).toNat)
  case atStart => exact ⟨0, Nat.zero_le _, rfl, by rw [mixed_zero]; exact hown1, hb1⟩
  case round =>
    obtain ⟨k, hk, rfl, hown, hb⟩ := hrel
    by_cases hlt : k < n
    · obtain ⟨b, o, rfl, _, _, hcell⟩ := hr.at_ (j := k) (by omega)
      have hkl : k < l.length := by simpa using (by omega : k < (l.map (Value.int .i64)).length)
      have hx : (l.map (Value.int .i64))[k]? = some (.int .i64 l[k]) := by simp [hkl]
      have hsrc := hcell k _ hx
      have hsrc' : wr.cell? ⟨b, o + k, none⟩ = some (.int .i64 l[k]) := (hb.cell (p := ⟨b, o + k, none⟩) (World.block_lt_of_cell? w _ hsrc)).trans hsrc
      have HX := hide (fillIntS (by omega) hlen hlt hx hown hb)
      have hdst := hown.cellAt k (by omega)
      have hfr := hown.frozenAt k
      have hdl : k < (mixed (l.map (Value.int .i64)) zs k).length := by rw [mixed_len (by omega)]; omega
      rw [List.getElem?_eq_getElem hdl] at hdst
      generalize (mixed (l.map (Value.int .i64)) zs k)[k] = old at hdst
      generalize l[k] = z at hsrc' HX
      clear hx hsrc hcell hown hdl hkl hb
      go_wp2_with fail
      go_roundw
      case rel => exact ⟨k + 1, by omega, by go_num, HX.out.1, HX.out.2⟩
      case measure => simp [intOf] <;> omega
    · obtain rfl : k = n := by omega
      go_wp2_with fail
      go_ret
      rw [mixed_all (by simpa using hlen) (by omega)] at hown
      exact Mk.of_row hown hb

theorem eqIntS_yes (w : World) (A B : Option Addr) (n c c' lo hi lo' hi' : Nat) (l : List Int) (hr : Rd w lo hi 1 A n (l.map (.int .i64))) (hr' : Rd w lo' hi' 1 B n (l.map (.int .i64))) (hn : n ≤ 9223372036854775807) :
    Calls Try.prog 19 #[.slice A n c, .slice B n c'] w fun e w' => e = .returned (.bool true) ∧ Below w.heap.size w w' := by
  have hlen := hr.len
  go_enter Try.func19, Try.ntmps19
  go_wp2_with fail
  go_loopw [5] (fun i wr => ∃ k : Nat, k ≤ n ∧ i = .int .i64 k ∧ ∃ d, wr = w.drewN d) (fun i _ => n - (intOf i).toNat)
  case atStart => exact ⟨0, Nat.zero_le _, rfl, 0, rfl⟩
  case round =>
    obtain ⟨k, hk, rfl, d, rfl⟩ := hrel
    by_cases hlt : k < n
    · obtain ⟨b, o, rfl, _, _, hcell⟩ := hr.at_ (j := k) (by omega)
      obtain ⟨b', o', rfl, _, _, hcell'⟩ := hr'.at_ (j := k) (by omega)
      have hkl : k < l.length := by simpa using (by omega : k < (l.map (Value.int .i64)).length)
      have hx : (l.map (Value.int .i64))[k]? = some (.int .i64 l[k]) := by simp [hkl]
      have h1 := hcell k _ hx
      have h2 := hcell' k _ hx
      generalize l[k] = z at h1 h2
      clear hx hcell hcell' hkl hr hr'
      have hlt' : (k : Int) < (n : Int) := by omega
      go_wp2_with fail
      go_quiet (fail)
      go_wp2_with fail
      go_roundw
      case rel => exact ⟨k + 1, by omega, by go_num, _, rfl⟩
      case measure => simp [intOf] <;> omega
    · go_wp2_with fail
      go_ret
      exact ⟨rfl, (by (repeat' (first | (with_reducible exact Below.refl _ _) | (with_reducible assumption) | (with_reducible refine Below.alloc ?_ ?_ _) | (with_reducible refine below_ext ?_ ?_ _ _) | (with_reducible refine Below.setCell ?_ ?_ _) | (with_reducible refine Below.drew ?_) | (with_reducible refine below_drewN ?_ _))); all_goals (first | omega | (simp; done) | (simp; omega)))⟩

theorem szIntS_any (w : World) (A : Option Addr) (n c : Nat) (left : Int) (hn : n ≤ 9223372036854775807) (h0 : 0 ≤ left) (h1 : left ≤ 1048576) :
    Calls Try.prog 57 #[.slice A n c, .int .i64 left] w fun e w' => e = .returned (.int .i64 (if left < n then -1 else left - n)) ∧ w = w' := by
  by_cases h : left < n
  all_goals
    rw [show (if left < (n : Int) then (-1 : Int) else left - n) = _ from by first | exact if_pos h | exact if_neg h]
    go_enter Try.func57, Try.ntmps57
    go_wp2_with fail
    go_ret
    exact ⟨rfl, rfl⟩

def mkIntS : Int → Value := fun x => .int .i64 x
theorem markIntS_any (w : World) (A : Option Addr) (n c lo hi : Nat) (k0 : Int) (xs : List Value) (hr : Own w lo hi 3 1 (.slice A n c) n xs) (hn : n ≤ 16777216) (h0 : 0 ≤ k0) (h1 : k0 ≤ 1099511627776) :
    Calls Try.prog 21 #[.slice A n c, .int .i64 k0] w fun e w' => e = .returned (.int .i64 (k0 + n)) ∧ Own w' lo hi 3 1 (.slice A n c) n (marks mkIntS k0 n) ∧ Chg lo hi w w' := by
  have hlen := hr.len
  have hml := marks_len mkIntS k0 n
  go_enter Try.func21, Try.ntmps21
  go_wp2_with fail
  go_loopw [1, 5] (fun q i wr => ∃ k : Nat, k ≤ n ∧ i = .int .i64 k ∧ q = .int .i64 (k0 + k) ∧ Own wr lo hi 3 1 (.slice A n c) n (mixed (marks mkIntS k0 n) xs k) ∧ Chg lo hi w wr) (fun _ i _ => n - (intOf i).toNat)
  case atStart => exact ⟨0, Nat.zero_le _, rfl, by go_num, by rw [mixed_zero]; exact hr, Chg.refl _ _ _⟩
  case round =>
    obtain ⟨k, hk, rfl, rfl, hown, hb⟩ := hrel
    by_cases hlt : k < n
    · obtain ⟨A', c', hv, _, _, hA⟩ := hown.form
      injection hv with e1 _ e3
      subst e1 e3
      rcases hA with ⟨_, hz, _⟩ | ⟨g, rfl, hg1, hg2, _⟩
      · omega
      have hx := marks_at mkIntS k0 n k hlt
      have HX := hide (hown.stored k (mkIntS (k0 + k)))
      rw [mixed_set (by omega) hx] at HX
      have HB := hide hb
      have hdst := hown.row.cellAt k (by omega)
      have hfr := hown.row.frozenAt k
      have hdl : k < (mixed (marks mkIntS k0 n) xs k).length := by rw [mixed_len (by omega)]; omega
      rw [List.getElem?_eq_getElem hdl] at hdst
      generalize (mixed (marks mkIntS k0 n) xs k)[k] = old at hdst
      clear hx hown hdl hb hr
      unfold mkIntS at HX
      go_wp2_with fail
      go_roundw
      case rel => exact ⟨k + 1, by omega, by go_num, by go_num, HX.out.1, HB.out.trans HX.out.2⟩
      case measure => simp [intOf] <;> omega
    · obtain rfl : k = n := by omega
      go_wp2_with fail
      go_ret
      rw [mixed_all hml (by omega)] at hown
      exact ⟨rfl, hown, hb⟩

theorem heldIntS_any (w : World) (A : Option Addr) (n c lo hi : Nat) (k0 : Int) (hr : Rd w lo hi 1 A n (marks mkIntS k0 n)) (hn : n ≤ 16777216) (h0 : 0 ≤ k0) (h1 : k0 ≤ 1099511627776) :
    Calls Try.prog 22 #[.slice A n c, .int .i64 k0] w fun e w' => e = .returned (.int .i64 (k0 + n)) ∧ Below w.heap.size w w' := by
  have hlen := hr.len
  go_enter Try.func22, Try.ntmps22
  go_wp2_with fail
  go_loopw [1, 5] (fun q i wr => ∃ k : Nat, k ≤ n ∧ i = .int .i64 k ∧ q = .int .i64 (k0 + k) ∧ ∃ d, wr = w.drewN d) (fun _ i _ => n - (intOf i).toNat)
  case atStart => exact ⟨0, Nat.zero_le _, rfl, by go_num, 0, rfl⟩
  case round =>
    obtain ⟨k, hk, rfl, rfl, d, rfl⟩ := hrel
    by_cases hlt : k < n
    · obtain ⟨b, o, rfl, _, _, hcell⟩ := hr.at_ (j := k) (by omega)
      have hx := hcell k _ (marks_at mkIntS k0 n k hlt)
      unfold mkIntS at hx
      clear hcell hr
      go_wp2_with fail
      go_roundw
      case rel => exact ⟨k + 1, by omega, by go_num, by go_num, _, rfl⟩
      case measure => simp [intOf] <;> omega
    · obtain rfl : k = n := by omega
      go_wp2_with fail
      go_ret
      exact ⟨rfl, (by (repeat' (first | (with_reducible exact Below.refl _ _) | (with_reducible assumption) | (with_reducible refine Below.alloc ?_ ?_ _) | (with_reducible refine below_ext ?_ ?_ _ _) | (with_reducible refine Below.setCell ?_ ?_ _) | (with_reducible refine Below.drew ?_) | (with_reducible refine below_drewN ?_ _))); all_goals (first | omega | (simp; done) | (simp; omega)))⟩
end Go.Proofs.Ytcndocopecnohaa
