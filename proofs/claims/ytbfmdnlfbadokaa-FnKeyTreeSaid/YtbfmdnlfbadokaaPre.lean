/- Prefixes of key paths: EqualInts, IsPrefixPath, IsCompromised, DeriveFrom. -/
import Derived.Test.YtbfmdnlfbadokaaPath
import Derived.Test.YtbfmdnlfbadokaaOpen
namespace Go.Proofs.Ytbfmdnlfbadokaa
open Go.RowKit Go.Sep

theorem take_succ_eq {α : Type} {l l' : List α} {k : Nat} {z z' : α} (h : l[k]? = some z) (h' : l'[k]? = some z') (he : l.take k = l'.take k) (hz : z = z') : l.take (k + 1) = l'.take (k + 1) := by
  obtain ⟨hk, e⟩ := List.getElem?_eq_some_iff.1 h
  obtain ⟨hk', e'⟩ := List.getElem?_eq_some_iff.1 h'
  rw [List.take_succ_eq_append_getElem hk, List.take_succ_eq_append_getElem hk', he, e, e', hz]

/-- slices.Equal at []int. -/
theorem slEq_any (w : World) (A B : Option Addr) (n m c c' lo hi lo' hi' : Nat) (l l' : List Int) (hr : Rd w lo hi 1 A n (l.map (.int .i64))) (hr' : Rd w lo' hi' 1 B m (l'.map (.int .i64))) (hn : n ≤ 9223372036854775807) (hm : m ≤ 9223372036854775807) :
    Calls Try.prog 96 #[.slice A n c, .slice B m c'] w fun e w' => e = .returned (.bool (decide (l = l'))) ∧ ∃ d, w' = w.drewN d := by
  have hlen : l.length = n := by simpa using hr.len
  have hlen' : l'.length = m := by simpa using hr'.len
  by_cases hnm : n = m
  · subst hnm
    go_enter Try.func96, Try.ntmps96
    go_wp2_with fail
    go_loopw [13] (fun i wr => ∃ k : Nat, k ≤ n ∧ i = .int .i64 k ∧ Hid (l.take k = l'.take k) ∧ ∃ d, wr = w.drewN d) (fun i _ => n - (intOf i).toNat)
    case atStart => exact ⟨0, Nat.zero_le _, rfl, hide rfl, 0, rfl⟩
    case round =>
      obtain ⟨k, hk, rfl, HE, d, rfl⟩ := hrel
      by_cases hlt : k < n
      · obtain ⟨b, o, rfl, _, _, hcell⟩ := hr.at_ (j := k) (by omega)
        obtain ⟨b', o', rfl, _, _, hcell'⟩ := hr'.at_ (j := k) (by omega)
        have hx := hcell k (.int .i64 (l[k]'(by omega))) (by simp [show k < l.length by omega])
        have hx' := hcell' k (.int .i64 (l'[k]'(by omega))) (by simp [show k < l'.length by omega])
        have HS := hide (show l[k]'(by omega) = l'[k]'(by omega) → l.take (k + 1) = l'.take (k + 1) from fun hz => take_succ_eq (List.getElem?_eq_getElem (show k < l.length by omega)) (List.getElem?_eq_getElem (show k < l'.length by omega)) HE.out hz)
        have HN := hide (show l[k]'(by omega) ≠ l'[k]'(by omega) → decide (l = l') = false from fun hne => by
          rw [decide_eq_false_iff_not]
          rintro rfl
          exact hne rfl)
        generalize l[k]'(by omega) = z at hx HS HN
        generalize l'[k]'(by omega) = z' at hx' HS HN
        clear hcell hcell' hr hr' HE
        have hlt' : (k : Int) < (n : Int) := by omega
        by_cases hz : z = z'
        · subst hz
          go_wp2_with fail
          go_quiet (fail)
          go_wp2_with fail
          go_roundw
          case rel => exact ⟨k + 1, by omega, by go_num, hide (by simpa using HS.out), (by first | exact ⟨_, rfl⟩ | exact ⟨_, World.drewN_drewN _ _ _⟩)⟩
          case measure => simp [intOf] <;> omega
        · have HF := hide (HN.out hz)
          have hne : (z != z') = true := by simpa using hz
          have hne2 : (z == z') = false := by simpa using hz
          have HZ := hide hz
          clear hz
          go_wp2_with fail
          go_quiet (fail)
          go_wp2_with fail
          go_ret
          exact ⟨ret_bool HF.out.symm, (by first | exact ⟨_, rfl⟩ | exact ⟨_, World.drewN_drewN _ _ _⟩)⟩
      · have HF := hide (show decide (l = l') = true by
          have := HE.out
          rw [List.take_of_length_le (by omega), List.take_of_length_le (by omega)] at this
          simpa using this)
        go_wp2_with fail
        go_ret
        exact ⟨ret_bool HF.out.symm, _, rfl⟩
  · have HF := hide (show decide (l = l') = false by
      rw [decide_eq_false_iff_not]
      rintro rfl
      omega)
    have hne : ((n : Int) != (m : Int)) = true := by simp; omega
    have hne2 : ((n : Int) == (m : Int)) = false := by simp; omega
    have HM := hide hnm
    clear hnm
    go_enter Try.func96, Try.ntmps96
    go_wp2_with fail
    go_ret
    exact ⟨ret_bool HF.out.symm, 0, rfl⟩
theorem iEqInts_any (w : World) (A B : Option Addr) (n m c c' lo hi lo' hi' : Nat) (l l' : List Int) (hr : Rd w lo hi 1 A n (l.map (.int .i64))) (hr' : Rd w lo' hi' 1 B m (l'.map (.int .i64))) (hn : n ≤ 9223372036854775807) (hm : m ≤ 9223372036854775807) :
    Calls Try.prog 79 #[.slice A n c, .slice B m c'] w fun e w' => e = .returned (.bool (decide (l = l'))) ∧ ∃ d, w' = w.drewN d := by
  have HE := hide (slEq_any w A B n m c c' lo hi lo' hi' l l' hr hr' hn hm)
  generalize decide (l = l') = q at HE ⊢
  go_enter Try.func79, Try.ntmps79
  go_wp2_with (go_at_call 96; refine (unhide HE).mono ?_; rintro e w1 ⟨rfl, d1, rfl⟩)
  go_ret
  exact ⟨rfl, d1, rfl⟩

/-- Is l a prefix of l'? -/
def pre (l l' : List Int) : Bool := decide (l = l'.take l.length)
theorem iPre_any (w : World) (A B : Option Addr) (n m c c' lo hi lo' hi' : Nat) (l l' : List Int) (hr : Rd w lo hi 1 A n (l.map (.int .i64))) (hr' : Rd w lo' hi' 1 B m (l'.map (.int .i64))) (hn : n ≤ 9223372036854775807) (hm : m ≤ c') (_hc : c' ≤ 9223372036854775807) :
    Calls Try.prog 43 #[.agg #[.slice A n c], .agg #[.slice B m c']] w fun e w' => e = .returned (.bool (pre l l')) ∧ Below w.heap.size w w' := by
  have hlen : l.length = n := by simpa using hr.len
  have hlen' : l'.length = m := by simpa using hr'.len
  by_cases hnm : n ≤ m
  · have hrt := hr'.take hnm
    have hl2 : (l'.map (Value.int .i64)).take (n * 1) = (l'.take n).map (.int .i64) := by simp [List.map_take]
    rw [hl2] at hrt
    have HE := hide (fun W B' c2 (h1 : Rd W lo hi 1 A n (l.map (.int .i64))) (h2 : Rd W lo' hi' 1 B' n ((l'.take n).map (.int .i64))) => iEqInts_any W A B' n n c c2 lo hi lo' hi' l (l'.take n) h1 h2 hn hn)
    have hp : decide (l = l'.take n) = pre l l' := by simp [pre, hlen]
    rw [hp] at HE
    generalize pre l l' = q at HE ⊢
    have g1 : (n : Int) ≤ (m : Int) := by omega
    have g2 : (n : Int) ≤ (c' : Int) := by omega
    have g3 : ¬ (n : Int) < 0 := by omega
    go_enter Try.func43, Try.ntmps43
    go_wp2_with fail
    go_quiet ((go_at_call 79; refine Calls.quiet_of (unhide HE _ _ _ ((hr.alloc _).alloc _) ((hrt.alloc _).alloc _))))
    go_wp2_with fail
    go_ret
    exact ⟨rfl, (by (repeat' (first | (with_reducible exact Below.refl _ _) | (with_reducible assumption) | (with_reducible refine Below.alloc ?_ ?_ _) | (with_reducible refine below_ext ?_ ?_ _ _) | (with_reducible refine Below.setCell ?_ ?_ _) | (with_reducible refine Below.drew ?_) | (with_reducible refine below_drewN ?_ _))); all_goals (first | omega | (simp; done) | (simp; omega)))⟩
  · have HF := hide (show pre l l' = false by
      simp only [pre, decide_eq_false_iff_not]
      intro e
      have := congrArg List.length e
      simp at this
      omega)
    have g1 : decide ((n : Int) ≤ (m : Int)) = false := by simp; omega
    have g1' : decide (n ≤ m) = false := by simp; omega
    have g2 : (m : Int) < (n : Int) := by omega
    clear hnm
    go_enter Try.func43, Try.ntmps43
    go_wp2_with fail
    go_quiet (fail)
    go_wp2_with fail
    go_ret
    exact ⟨ret_bool HF.out.symm, (by (repeat' (first | (with_reducible exact Below.refl _ _) | (with_reducible assumption) | (with_reducible refine Below.alloc ?_ ?_ _) | (with_reducible refine below_ext ?_ ?_ _ _) | (with_reducible refine Below.setCell ?_ ?_ _) | (with_reducible refine Below.drew ?_) | (with_reducible refine below_drewN ?_ _))); all_goals (first | omega | (simp; done) | (simp; omega)))⟩
end Go.Proofs.Ytbfmdnlfbadokaa
