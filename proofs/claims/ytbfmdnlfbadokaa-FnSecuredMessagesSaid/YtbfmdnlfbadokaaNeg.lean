/- FnNegotiation: the draw, the plain law, the walk. -/
import Derived.Test.YtbfmdnlfbadokaaMode
import Derived.Test.YtbfmdnlfbadokaaDraw
namespace Go.Proofs.Ytbfmdnlfbadokaa
open Go.RowKit Go.Sep

theorem results_tmp4 {fn : Func} {t u v x : Tmp} (h : fn.results = #[.tmp t, .tmp u, .tmp v, .tmp x]) (tmps : Array Value) (P : Program) (w : World) :
    (results fn tmps).run P w = .ok (.tuple #[tmps.getD t undef, tmps.getD u undef, tmps.getD v undef, tmps.getD x undef]) w := by
  simp [results, h]
theorem sCaps9_any (w : World) (g : Nat) (A : Option Addr) (n c lo hi : Nat) (l : List Int) (hC : Cur w g A n c) (hr : Rd w lo hi 1 A n (l.map (.int .u8))) (hn : n ≤ 16777216) (h8 : ∀ x ∈ l, 0 ≤ x ∧ x ≤ 255) (hg : hi ≤ g) :
    Calls Try.prog 66 #[.pointer (some ⟨g, 0, none⟩)] w (Drew g A n c w fun _ => True) := by
  go_enter Try.func66, Try.ntmps66
  go_wp2_with fail
  refine (sOnce_any _ g A n c lo hi l _ hC hr hn h8 hg (by omega)).mono ?_
  rintro e w1 ⟨b, rfl, hC1, hch1⟩
  have hr1 := hr.chg hch1 (.inl hg)
  have hgl := hC1.lt
  cases b
  · go_wp2_with fail
    refine (sBelow_any _ g A n c lo hi l _ hC1 hr1 hn h8 hg (by omega)).mono ?_
    rintro e w2 ⟨r, rfl, ⟨h0, h1⟩, hC2, hch2⟩
    have h2 := h1 (by omega)
    clear h1
    go_wp2_with fail
    go_ret
    exact ⟨_, rfl, trivial, hC2, hch1.trans hch2⟩
  · go_wp2_with fail
    refine (sInt_any _ g A n c lo hi l (some ⟨w1.heap.size, 0, none⟩) 4 4 w1.heap.size (w1.heap.size + 1) [-2, 1, 31, 32] (hC1.below' (by (repeat' (first | (with_reducible exact Below.refl _ _) | (with_reducible assumption) | (with_reducible refine Below.alloc ?_ ?_ _) | (with_reducible refine below_ext ?_ ?_ _ _) | (with_reducible refine Below.setCell ?_ ?_ _) | (with_reducible refine Below.drew ?_) | (with_reducible refine below_drewN ?_ _))); all_goals (first | omega | (simp; done) | (simp; omega)))) (hr1.below' (by (repeat' (first | (with_reducible exact Below.refl _ _) | (with_reducible assumption) | (with_reducible refine Below.alloc ?_ ?_ _) | (with_reducible refine below_ext ?_ ?_ _ _) | (with_reducible refine Below.setCell ?_ ?_ _) | (with_reducible refine Below.drew ?_) | (with_reducible refine below_drewN ?_ _))); all_goals (first | omega | (simp; done) | (simp; omega)))) hn h8 hg (by simpa using Rd.fresh w1 #[.int .i64 (-2), .int .i64 1, .int .i64 31, .int .i64 32] 3 1 4 rfl) hgl (by omega) (by omega)).mono ?_
    rintro e w2 ⟨r, rfl, _, hC2, hch2⟩
    go_wp2_with fail
    go_ret
    exact ⟨_, rfl, trivial, hC2, hch1.trans ((((Chg.refl g (g + 1) w1).alloc _)).trans hch2)⟩
theorem sKey5_any (w : World) (g : Nat) (A : Option Addr) (n c lo hi : Nat) (l : List Int) (hC : Cur w g A n c) (hr : Rd w lo hi 1 A n (l.map (.int .u8))) (hn : n ≤ 16777216) (h8 : ∀ x ∈ l, 0 ≤ x ∧ x ≤ 255) (hg : hi ≤ g) :
    Calls Try.prog 65 #[.pointer (some ⟨g, 0, none⟩)] w (Drew g A n c w fun _ => True) := by
  go_enter Try.func65, Try.ntmps65
  go_wp2_with fail
  refine (sBelow_any _ g A n c lo hi l _ hC hr hn h8 hg (by omega)).mono ?_
  rintro e w2 ⟨r, rfl, ⟨h0, h1⟩, hC2, hch2⟩
  have h2 := h1 (by omega)
  clear h1
  go_wp2_with fail
  go_ret
  exact ⟨_, rfl, trivial, hC2, hch2⟩
theorem sDrawNeg_any (w : World) (A : Option Addr) (n c : Nat) (l : List Int) (hr : Rd w 0 w.heap.size 1 A n (l.map (.int .u8))) (hn : n ≤ 16777216) (h8 : ∀ x ∈ l, 0 ≤ x ∧ x ≤ 255) :
    Calls Try.prog 24 #[.slice A n c] w fun e w' => ∃ k a b o : Int, e = .returned (.tuple #[.int .i64 k, .int .i64 a, .int .i64 b, .int .i64 o]) ∧ Below w.heap.size w w' := by
  go_enter Try.func24, Try.ntmps24
  go_wp2_with fail
  refine (sNew_any _ A n c _ _ l hr hn h8).mono ?_
  rintro e w1 ⟨g, rfl, hg, hC1, hb1⟩
  have hr1 := hr.below' hb1
  go_wp2_with fail
  refine (sKey5_any _ g A n c _ _ l hC1 hr1 hn h8 hg).mono ?_
  rintro e w2 ⟨k, rfl, _, hC2, hch2⟩
  have hr2 := hr1.chg hch2 (.inl hg)
  go_wp2_with fail
  refine (sCaps9_any _ g A n c _ _ l hC2 hr2 hn h8 hg).mono ?_
  rintro e w3 ⟨a, rfl, _, hC3, hch3⟩
  have hr3 := hr2.chg hch3 (.inl hg)
  go_wp2_with fail
  refine (sOnce_any _ g A n c _ _ l _ hC3 hr3 hn h8 hg (by omega)).mono ?_
  rintro e w4 ⟨q, rfl, hC4, hch4⟩
  have hr4 := hr3.chg hch4 (.inl hg)
  have hch24 := hch2.trans (hch3.trans hch4)
  cases q
  · go_wp2_with fail
    refine (sCaps9_any _ g A n c _ _ l hC4 hr4 hn h8 hg).mono ?_
    rintro e w5 ⟨o, rfl, _, hC5, hch5⟩
    go_wp2_with fail
    ((try simp only [Exit.inBlock, Exit.then]); refine bodyPost_ret (results_tmp4 rfl _ _ _) rfl ?_)
    exact ⟨_, _, _, _, rfl, below_then hb1 ((hch24.trans hch5).below (B := w.heap.size) hg hb1.size) (Nat.le_refl _)⟩
  · go_wp2_with fail
    refine (sCaps9_any _ g A n c _ _ l hC4 hr4 hn h8 hg).mono ?_
    rintro e w5 ⟨b, rfl, _, hC5, hch5⟩
    have hr5 := hr4.chg hch5 (.inl hg)
    go_wp2_with fail
    refine (sCaps9_any _ g A n c _ _ l hC5 hr5 hn h8 hg).mono ?_
    rintro e w6 ⟨o, rfl, _, hC6, hch6⟩
    go_wp2_with fail
    ((try simp only [Exit.inBlock, Exit.then]); refine bodyPost_ret (results_tmp4 rfl _ _ _) rfl ?_)
    exact ⟨_, _, _, _, rfl, below_then hb1 ((hch24.trans (hch5.trans hch6)).below (B := w.heap.size) hg hb1.size) (Nat.le_refl _)⟩
theorem selTo_comm (a b : Int) (k : Nat) : selTo a b k = selTo b a k := by
  induction k with
  | zero => rfl
  | succ k ih => simp only [selTo, ih, Bool.and_comm]
theorem selTo_sup (a b : Int) (k : Nat) : selTo a b k = 0 ∨ ∃ j : Nat, j < k ∧ selTo a b k = (j : Int) + 1 ∧ sup a ((j : Int) + 1) = true ∧ sup b ((j : Int) + 1) = true := by
  induction k with
  | zero => exact .inl rfl
  | succ k ih =>
    unfold selTo
    split
    · rename_i h
      simp only [Bool.and_eq_true] at h
      exact .inr ⟨k, Nat.lt_succ_self _, rfl, h.1, h.2⟩
    · rcases ih with h | ⟨j, hj, h1, h2, h3⟩
      · exact .inl h
      · exact .inr ⟨j, by omega, h1, h2, h3⟩
theorem selTo_top (a b : Int) (k : Nat) : ∀ j : Nat, j < k → selTo a b k < (j : Int) + 1 → (sup a ((j : Int) + 1) && sup b ((j : Int) + 1)) = false := by
  induction k with
  | zero => intro j hj; omega
  | succ k ih =>
    intro j hj hlt
    unfold selTo at hlt
    split at hlt
    · omega
    · rename_i h
      by_cases hjk : j < k
      · exact ih j hjk hlt
      · obtain rfl : j = k := by omega
        simpa using h
end Go.Proofs.Ytbfmdnlfbadokaa
