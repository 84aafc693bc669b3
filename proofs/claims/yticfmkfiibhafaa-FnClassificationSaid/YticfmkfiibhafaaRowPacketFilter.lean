/- The laws' helpers on PacketFilter and on slices of it: a copy, a comparison, the size, marks written and read. -/
import Derived.Test.YticfmkfiibhafaaProg
import Derived.Test.YticfmkfiibhafaaRow
import Derived.Deep.RegionHeld3
namespace Go.Proofs.Yticfmkfiibhafaa
open Go.RowKit Go.Sep

theorem infoPacketFilter : (Try.prog.info? 70).map (fun i => (i.zero, i.size, i.bytes)) = some (some (.agg #[.int .i64 0, .int .i64 0, .int .i64 0]), 3, 24) := by kernel_rfl

theorem toPacketFilter_any (w : World) (x0 x1 x2 : Int) :
    Calls Try.prog 59 #[.agg #[.int .i64 x0, .int .i64 x1, .int .i64 x2]] w fun e w' => e = .returned (.agg #[.int .i64 x0, .int .i64 x1, .int .i64 x2]) ∧ Below w.heap.size w w' := by
  go_enter Try.func59, Try.ntmps59
  go_wp2_with fail
  exact bodyPost_ret (v := .agg #[.int .i64 x0, .int .i64 x1, .int .i64 x2]) (by simp only [results, Try.results59]; go_simp) rfl ⟨rfl, (by (repeat' (first | (with_reducible exact Below.refl _ _) | (with_reducible assumption) | (with_reducible refine Below.alloc ?_ ?_ _) | (with_reducible refine below_ext ?_ ?_ _ _) | (with_reducible refine Below.setCell ?_ ?_ _) | (with_reducible refine Below.drew ?_) | (with_reducible refine below_drewN ?_ _))); all_goals (first | omega | (simp; done) | (simp; omega)))⟩
theorem eqPacketFilter_yes (w : World) (x0 x1 x2 : Int) :
    Calls Try.prog 61 #[.agg #[.int .i64 x0, .int .i64 x1, .int .i64 x2], .agg #[.int .i64 x0, .int .i64 x1, .int .i64 x2]] w fun e w' => e = .returned (.bool true) ∧ Below w.heap.size w w' := by
  go_enter Try.func61, Try.ntmps61
  go_wp2_with fail
  go_ret
  exact ⟨rfl, (by (repeat' (first | (with_reducible exact Below.refl _ _) | (with_reducible assumption) | (with_reducible refine Below.alloc ?_ ?_ _) | (with_reducible refine below_ext ?_ ?_ _ _) | (with_reducible refine Below.setCell ?_ ?_ _) | (with_reducible refine Below.drew ?_) | (with_reducible refine below_drewN ?_ _))); all_goals (first | omega | (simp; done) | (simp; omega)))⟩
theorem szPacketFilterS_any (w : World) (A : Option Addr) (n c : Nat) (left : Int) (hn : n ≤ 9223372036854775807) (h0 : 0 ≤ left) (h1 : left ≤ 1048576) :
    Calls Try.prog 23 #[.slice A n c, .int .i64 left] w fun e w' => e = .returned (.int .i64 (if left < n then -1 else left - n)) ∧ w = w' := by
  by_cases h : left < n
  all_goals
    rw [show (if left < (n : Int) then (-1 : Int) else left - n) = _ from by first | exact if_pos h | exact if_neg h]
    go_enter Try.func23, Try.ntmps23
    go_wp2_with fail
    go_ret
    exact ⟨rfl, rfl⟩
theorem toPacketFilterS_any (w : World) (A : Option Addr) (n c lo hi : Nat) (l : List (Int × Int × Int)) (hr : Rd w lo hi 3 A n (l.flatMap c3)) (hn : n ≤ 16777216) :
    Calls Try.prog 25 #[.slice A n c] w (Mk w 70 3 n (l.flatMap c3)) := by
  obtain ⟨i0, hi0, hz0, hz1, hz2⟩ := info_parts infoPacketFilter
  have hlen := hr.len
  have hll := hr.len3
  go_enter Try.func25, Try.ntmps25
  go_wp2_with (at_make; refine wpList_make_full _ rfl _ _ 34 rfl w.heap.size 70 i0 (.agg #[.int .i64 0, .int .i64 0, .int .i64 0]) 3 Try.underlying34 hi0 hz0 hz1 _ _ _ _ n rfl rfl rfl rfl (by rw [hz2]; omega) (by unfold maxLen; omega) (Nat.le_refl _) ?_; intro w1 hown1 hgrow1)
  have hb1 : Below w.heap.size w w1 := (Below.refl _ _).grown hgrow1 (Nat.le_refl _) (by simp)
  have hzl : (madeCells (Value.cells (.agg #[.int .i64 0, .int .i64 0, .int .i64 0])) (n * 3)).toList.length = n * 3 := zeros_len _ _
  have ho1 := Own.of_row hown1
  clear hown1
  generalize (madeCells (Value.cells (.agg #[.int .i64 0, .int .i64 0, .int .i64 0])) (n * 3)).toList = zs at ho1 hzl
  go_loopw [4] (fun i wr => ∃ k : Nat, k ≤ n ∧ i = .int .i64 k ∧ Own wr w.heap.size w1.heap.size 70 3 (.slice (some ⟨w.heap.size, 0, none⟩) n n) n (mixed (l.flatMap c3) zs (k * 3)) ∧ Below w.heap.size w wr) (fun i _ => n - (intOf i).toNat)
  case atStart => exact ⟨0, Nat.zero_le _, rfl, by rw [Nat.zero_mul, mixed_zero]; exact ho1, hb1⟩
  case round =>
    obtain ⟨k, hk, rfl, hown0, hb0⟩ := hrel
    by_cases hlt : k < n
    · obtain ⟨b, o, x0, x1, x2, rfl, hx, hc0, hc1, hc2⟩ := (hr.below' hb0).at3 hll hlt
      have hml : (mixed (l.flatMap c3) zs (k * 3)).length = n * 3 := by rw [mixed_len (by omega)]; omega
      go_wp2_with (go_at_call 59; refine (toPacketFilter_any _ _ _ _).mono ?_; rintro e w2 ⟨rfl, hb2⟩; obtain ⟨od0, od1, od2, oc0, oc1, oc2, of0, of1, of2⟩ := (hown0.below' hb2).olds3 (k * 3) (by omega))
      go_roundw
      case rel =>
        have hb := hb0.trans (hb2.mono hb0.size)
        exact ⟨k + 1, by omega, by go_num, (hown0.below' hb2).put3 hzl hlt hx, (by (repeat' (first | (with_reducible exact Below.refl _ _) | (with_reducible assumption) | (with_reducible refine Below.alloc ?_ ?_ _) | (with_reducible refine below_ext ?_ ?_ _ _) | (with_reducible refine Below.setCell ?_ ?_ _) | (with_reducible refine Below.drew ?_) | (with_reducible refine below_drewN ?_ _))); all_goals (first | omega | (simp; done) | (simp; omega)))⟩
      case measure => simp [intOf] <;> omega
    · obtain rfl : k = n := by omega
      go_wp2_with fail
      go_ret
      rw [mixed_all hlen hzl] at hown0
      exact Mk.of_row hown0.row hb0
theorem eqPacketFilterS_yes (w : World) (A B : Option Addr) (n c c' lo hi lo' hi' : Nat) (l : List (Int × Int × Int)) (hr : Rd w lo hi 3 A n (l.flatMap c3)) (hr' : Rd w lo' hi' 3 B n (l.flatMap c3)) (hn : n ≤ 9223372036854775807) :
    Calls Try.prog 27 #[.slice A n c, .slice B n c'] w fun e w' => e = .returned (.bool true) ∧ Below w.heap.size w w' := by
  have hll := hr.len3
  go_enter Try.func27, Try.ntmps27
  go_wp2_with fail
  go_loopw [5] (fun i wr => ∃ k : Nat, k ≤ n ∧ i = .int .i64 k ∧ Below w.heap.size w wr) (fun i _ => n - (intOf i).toNat)
  case atStart => exact ⟨0, Nat.zero_le _, rfl, Below.refl _ _⟩
  case round =>
    obtain ⟨k, hk, rfl, hb⟩ := hrel
    by_cases hlt : k < n
    · obtain ⟨b, o, x0, x1, x2, rfl, hx, hc0, hc1, hc2⟩ := (hr.below' hb).at3 hll hlt
      obtain ⟨b', o', y0, y1, y2, rfl, hy, hd0, hd1, hd2⟩ := (hr'.below' hb).at3 hll hlt
      rw [hx] at hy
      injection hy with hy
      obtain ⟨rfl, rfl, rfl⟩ : x0 = y0 ∧ x1 = y1 ∧ x2 = y2 := by simpa using hy
      have hbl : b < wr.heap.size := World.block_lt_of_cell? wr _ hc0
      have hbl' : b' < wr.heap.size := World.block_lt_of_cell? wr _ hd0
      clear hr hr' hy hx
      go_wp2_with fail
      go_region_held3 (fun w' => w'.cell? ⟨b, o + k * 3, none⟩ = some (.int .i64 x0) ∧ w'.cell? ⟨b, o + k * 3 + 1, none⟩ = some (.int .i64 x1) ∧ w'.cell? ⟨b, o + k * 3 + 2, none⟩ = some (.int .i64 x2) ∧ w'.cell? ⟨b', o' + k * 3, none⟩ = some (.int .i64 x0) ∧ w'.cell? ⟨b', o' + k * 3 + 1, none⟩ = some (.int .i64 x1) ∧ w'.cell? ⟨b', o' + k * 3 + 2, none⟩ = some (.int .i64 x2)) (first | (go_simp; done) | go_keep)
        (first | (go_at_call 61; refine (eqPacketFilter_yes _ _ _ _).mono ?_; rintro e w1 ⟨rfl, hb1⟩; obtain ⟨os1, d1, rfl⟩ := ext_of_below hb1; clear hb1))
      all_goals
        go_wp2_with fail
        go_roundw
        case rel => exact ⟨k + 1, by omega, by go_num, below_then (B' := wr.heap.size) hb (by (repeat' (first | (with_reducible exact Below.refl _ _) | (with_reducible assumption) | (with_reducible refine Below.alloc ?_ ?_ _) | (with_reducible refine below_ext ?_ ?_ _ _) | (with_reducible refine Below.setCell ?_ ?_ _) | (with_reducible refine Below.drew ?_) | (with_reducible refine below_drewN ?_ _))); all_goals (first | omega | (simp; done) | (simp; omega))) hb.size⟩
        case measure => simp [intOf] <;> omega
    · go_wp2_with fail
      go_ret
      exact ⟨rfl, hb⟩
theorem markPacketFilterS_any (w : World) (A : Option Addr) (n c lo hi : Nat) (k0 : Int) (xs : List Value) (hr : Own w lo hi 70 3 (.slice A n c) n xs) (hn : n ≤ 16777216) (h0 : 0 ≤ k0) (h1 : k0 ≤ 1099511627776) :
    Calls Try.prog 53 #[.slice A n c, .int .i64 k0] w fun e w' => e = .returned (.int .i64 (k0 + (n : Int) * 3)) ∧ Own w' lo hi 70 3 (.slice A n c) n (marks mkR k0 (n * 3)) ∧ Chg lo hi w w' := by
  have hlen := hr.len
  have hml := marks_len mkR k0 (n * 3)
  go_enter Try.func53, Try.ntmps53
  go_wp2_with fail
  go_loopw [1, 5] (fun q i wr => ∃ k : Nat, k ≤ n ∧ i = .int .i64 k ∧ q = .int .i64 (k0 + (k : Int) * 3) ∧ Own wr lo hi 70 3 (.slice A n c) n (mixed (marks mkR k0 (n * 3)) xs (k * 3)) ∧ Chg lo hi w wr) (fun _ i _ => n - (intOf i).toNat)
  case atStart => exact ⟨0, Nat.zero_le _, rfl, by go_num, by rw [Nat.zero_mul, mixed_zero]; exact hr, Chg.refl _ _ _⟩
  case round =>
    obtain ⟨k, hk, rfl, rfl, hown, hb⟩ := hrel
    by_cases hlt : k < n
    · obtain ⟨A', c', hv, _, _, hA⟩ := hown.form
      injection hv with e1 _ e3
      subst e1 e3
      rcases hA with ⟨_, hz, _⟩ | ⟨g, rfl, hg1, hg2, _⟩
      · omega
      have HX := hide (hown.mark3 hlen hlt)
      have HB := hide hb
      obtain ⟨od0, od1, od2, oc0, oc1, oc2, of0, of1, of2⟩ := hown.olds3 (k * 3) (by rw [mixed_len (by omega)]; omega)
      clear hown hb hr
      go_wp2_with fail
      go_roundw
      case rel => exact ⟨k + 1, by omega, by go_num, by go_num, HX.out.1, HB.out.trans HX.out.2⟩
      case measure => simp [intOf] <;> omega
    · obtain rfl : k = n := by omega
      go_wp2_with fail
      go_ret
      rw [mixed_all hml hlen] at hown
      exact ⟨rfl, hown, hb⟩
end Go.Proofs.Yticfmkfiibhafaa
