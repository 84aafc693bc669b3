/- sameInts: what it returns. -/
import Derived.Test.YtbfmdnlfbadokaaPre
namespace Go.Proofs.Ytbfmdnlfbadokaa
open Go.RowKit Go.Sep
theorem sameInts_any (w : World) (A B : Option Addr) (n m c c' lo hi lo' hi' : Nat) (l l' : List Int) (hr : Rd w lo hi 1 A n (l.map (.int .i64))) (hr' : Rd w lo' hi' 1 B m (l'.map (.int .i64))) (hn : n ≤ 9223372036854775807) (hm : m ≤ 9223372036854775807) :
    Calls Try.prog 42 #[.slice A n c, .slice B m c'] w fun e w' => e = .returned (.bool (decide (l = l'))) ∧ ∃ d, w' = w.drewN d := by
  have hlen : l.length = n := by simpa using hr.len
  have hlen' : l'.length = m := by simpa using hr'.len
  by_cases hnm : n = m
  · subst hnm
    go_enter Try.func42, Try.ntmps42
    go_wp2_with fail
    go_loopw [5] (fun i wr => ∃ k : Nat, k ≤ n ∧ i = .int .i64 k ∧ Hid (l.take k = l'.take k) ∧ ∃ d, wr = w.drewN d) (fun i _ => n - (intOf i).toNat)
    case atStart => exact ⟨0, Nat.zero_le _, rfl, hide rfl, 0, rfl⟩
    case round =>
      obtain ⟨k, hk, rfl, HE, d, rfl⟩ := hrel
      by_cases hlt : k < n
      · obtain ⟨b, o, rfl, _, _, hcell⟩ := hr.at_ (j := k) (by omega)
        obtain ⟨b', o', rfl, _, _, hcell'⟩ := hr'.at_ (j := k) (by omega)
        have hx := hcell k (.int .i64 (l[k]'(by omega))) (by simp [show k < l.length by omega])
        have hx' := hcell' k (.int .i64 (l'[k]'(by omega))) (by simp [show k < l'.length by omega])
        have HS := hide (show l[k]'(by omega) = l'[k]'(by omega) → l.take (k + 1) = l'.take (k + 1) from fun hz => take_succ_eq (List.getElem?_eq_getElem (show k < l.length by omega)) (List.getElem?_eq_getElem (show k < l'.length by omega)) HE.out hz)
        have HN := hide (show l[k]'(by omega) ≠ l'[k]'(by omega) → decide (l = l') = false from fun hne => by
          rw [decide_eq_false_iff_not]
          rintro rfl
          exact hne rfl)
        generalize l[k]'(by omega) = z at hx HS HN
        generalize l'[k]'(by omega) = z' at hx' HS HN
        clear hcell hcell' hr hr' HE
        have hlt' : (k : Int) < (n : Int) := by omega
        by_cases hz : z = z'
        · subst hz
          go_wp2_with fail
          go_quiet (fail)
          go_wp2_with fail
          go_roundw
          case rel => exact ⟨k + 1, by omega, by go_num, hide (by simpa using HS.out), (by first | exact ⟨_, rfl⟩ | exact ⟨_, World.drewN_drewN _ _ _⟩)⟩
          case measure => simp [intOf] <;> omega
        · have HF := hide (HN.out hz)
          have hne : (z != z') = true := by simpa using hz
          have hne2 : (z == z') = false := by simpa using hz
          have HZ := hide hz
          clear hz
          go_wp2_with fail
          go_quiet (fail)
          go_wp2_with fail
          go_ret
          exact ⟨ret_bool HF.out.symm, (by first | exact ⟨_, rfl⟩ | exact ⟨_, World.drewN_drewN _ _ _⟩)⟩
      · have HF := hide (show decide (l = l') = true by
          have := HE.out
          rw [List.take_of_length_le (by omega), List.take_of_length_le (by omega)] at this
          simpa using this)
        go_wp2_with fail
        go_ret
        exact ⟨ret_bool HF.out.symm, _, rfl⟩
  · have HF := hide (show decide (l = l') = false by
      rw [decide_eq_false_iff_not]
      rintro rfl
      omega)
    have hne : ((n : Int) != (m : Int)) = true := by simp; omega
    have hne2 : ((n : Int) == (m : Int)) = false := by simp; omega
    have HM := hide hnm
    clear hnm
    go_enter Try.func42, Try.ntmps42
    go_wp2_with fail
    go_ret
    exact ⟨ret_bool HF.out.symm, 0, rfl⟩
end Go.Proofs.Ytbfmdnlfbadokaa
