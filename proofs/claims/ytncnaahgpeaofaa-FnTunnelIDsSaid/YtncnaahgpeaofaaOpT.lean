/- OpenTunnel: copies of tunnels, and the plain law on the first gap. -/
import Derived.Test.YtncnaahgpeaofaaTun
import Derived.Test.YtncnaahgpeaofaaTun2
import Derived.Test.YtncnaahgpeaofaaCpy
namespace Go.Proofs.Ytncnaahgpeaofaa
open Go.RowKit Go.Sep

theorem c2_one (l : List (Int × Int)) : ∀ u ∈ l.flatMap c2, u.oneCell' = true := by
  intro u hu
  obtain ⟨p, _, hp⟩ := List.mem_flatMap.1 hu
  simp only [c2, List.mem_cons, List.not_mem_nil, or_false] at hp
  rcases hp with rfl | rfl <;> simp [Value.oneCell']
/-- The first place whose tunnel has not the place's own ID. -/
def gapAt : Nat → List (Int × Int) → Nat
  | k, [] => k
  | k, (x, _) :: r => if (x == (k : Int) + 1) = true then gapAt (k + 1) r else k
section
variable {l : List (Int × Int)} {k n : Nat} {x y : Int}
theorem gap_hit (h : l[k]? = some (x, y)) (he : (x == (k : Int) + 1) = true) : gapAt k (l.drop k) = gapAt (k + 1) (l.drop (k + 1)) := by rw [at_take h, gapAt, if_pos he]
theorem gap_miss (h : l[k]? = some (x, y)) (he : (x == (k : Int) + 1) = false) : gapAt k (l.drop k) = k := by rw [at_take h, gapAt, if_neg (by simp [he])]
theorem gap_end (h : l.length = n) : gapAt n (l.drop n) = n := by rw [List.drop_eq_nil_of_le (by omega), gapAt]
theorem gap_le (k : Nat) (l : List (Int × Int)) : gapAt k l ≤ k + l.length := by
  induction l generalizing k with
  | nil => simp [gapAt]
  | cons a r ih =>
    obtain ⟨x, y⟩ := a
    have := ih (k + 1)
    unfold gapAt
    split <;> simp <;> omega
theorem tOk_in (h : tOk l k = true) (hk : l[k]? = some (x, y)) : 1 ≤ x ∧ x ≤ 20 := by
  simp only [tOk, hk, Bool.and_eq_true] at h
  have := inR_true h.1.1
  omega
theorem tOk_up {p q : Int} (h : tOk l (k + 1) = true) (hk : l[k + 1]? = some (x, y)) (hp : l[k]? = some (p, q)) : p < x := by
  rw [tOk_s hk hp] at h
  simp only [Bool.and_eq_true, Bool.not_eq_true', decide_eq_false_iff_not] at h
  omega
theorem ok_lo (hl : l.length = n) (h : ∀ j, j < n → tOk l j = true) (j : Nat) (hj : j < n) : ∃ x y, l[j]? = some (x, y) ∧ (j : Int) + 1 ≤ x ∧ x ≤ 20 := by
  induction j with
  | zero =>
    obtain ⟨⟨x, y⟩, e⟩ : ∃ q, l[0]? = some q := ⟨_, List.getElem?_eq_getElem (by omega)⟩
    have h2 := tOk_in (h 0 hj) e
    exact ⟨x, y, e, by omega, h2.2⟩
  | succ j ih =>
    obtain ⟨p, q, hp, h1, _⟩ := ih (by omega)
    obtain ⟨⟨x, y⟩, e⟩ : ∃ q, l[j + 1]? = some q := ⟨_, List.getElem?_eq_getElem (by omega)⟩
    have h2 := tOk_in (h (j + 1) hj) e
    have h3 := tOk_up (h (j + 1) hj) e hp
    exact ⟨x, y, e, by omega, h2.2⟩
theorem ok_hi (hl : l.length = n) (h : ∀ j, j < n → tOk l j = true) (d j : Nat) (hj : j + d + 1 = n) : ∀ x y, l[j]? = some (x, y) → x + (d : Int) ≤ 20 := by
  induction d generalizing j with
  | zero => intro x y hx; have := tOk_in (h j (by omega)) hx; omega
  | succ d ih =>
    intro x y hx
    obtain ⟨⟨x2, y2⟩, e⟩ : ∃ q, l[j + 1]? = some q := ⟨_, List.getElem?_eq_getElem (by omega)⟩
    have h1 := ih (j + 1) (by omega) x2 y2 e
    have h2 := tOk_up (h (j + 1) (by omega)) e hx
    omega
theorem gap_full (hl : l.length = n) (h : ∀ j, j < n → ∃ y, l[j]? = some ((j : Int) + 1, y)) (d k : Nat) (hk : k + d = n) : gapAt k (l.drop k) = n := by
  induction d generalizing k with
  | zero => obtain rfl : k = n := by omega
            exact gap_end hl
  | succ d ih =>
    obtain ⟨y, hy⟩ := h k (by omega)
    rw [gap_hit hy (by simp)]
    exact ih (k + 1) (by omega)
/-- In a valid list the first gap lies past the last ID just where the list is full. -/
theorem gap_20 (hl : l.length = n) (h : allOk (tOk l) n = true) : n ≤ 20 ∧ (20 ≤ gapAt 0 l ↔ 20 ≤ n) := by
  have h' : ∀ j, j < n → tOk l j = true := by simpa [allOk] using h
  have hle := gap_le 0 l
  have h20 : n ≤ 20 := by
    rcases Nat.eq_zero_or_pos n with h0 | h0
    · omega
    · obtain ⟨x, y, _, h1, h2⟩ := ok_lo hl h' (n - 1) (by omega)
      omega
  refine ⟨h20, fun hg => by omega, fun hn => ?_⟩
  obtain rfl : n = 20 := by omega
  have := gap_full hl (fun j hj => by
    obtain ⟨x, y, hx, h1, _⟩ := ok_lo hl h' j hj
    have := ok_hi hl h' (20 - 1 - j) j (by omega) x y hx
    exact ⟨y, by rw [hx, show x = (j : Int) + 1 by omega]⟩) 20 0 (by omega)
  simp only [List.drop_zero] at this
  omega
end
/-- The list with the new tunnel, and the new tunnel's ID. -/
def opL (l : List (Int × Int)) (n : Nat) (p : Int) : List (Int × Int) × Int :=
  if allOk (tOk l) n = false ∨ p < 0 ∨ 20 ≤ n then (l, 0) else (l.take (gapAt 0 l) ++ ((gapAt 0 l : Int) + 1, p) :: l.drop (gapAt 0 l), (gapAt 0 l : Int) + 1)
theorem iCopyT_any (w : World) (A : Option Addr) (n c lo hi : Nat) (l : List (Int × Int)) (hr : Rd w lo hi 2 A n (l.flatMap c2)) (hn : n ≤ 1048576) :
    Calls Try.prog 45 #[.slice A n c] w (Mk w 50 2 n (l.flatMap c2)) := by
  obtain ⟨i0, hi0, hz0, hz1, hz2⟩ := info_parts infoTunnel
  have hlen := hr.len
  go_enter Try.func45, Try.ntmps45
  go_wp2_with (first
    | (at_make; refine wpList_make_full _ rfl _ _ 25 rfl w.heap.size 50 i0 (.agg #[.int .i64 0, .int .i64 0]) 2 Try.underlying25 hi0 hz0 hz1 _ _ _ _ n rfl rfl rfl rfl (by rw [hz2]; omega) (by unfold maxLen; omega) (Nat.le_refl _) ?_; intro w1 hown1 hgrow1; have hown := Own.of_row hown1; have hb1 : Below w.heap.size w w1 := (Below.refl _ _).grown hgrow1 (Nat.le_refl _) (by simp); have hr1 := hr.below' hb1; clear hown1 hgrow1)
    | (refine wpList_cpy (o := ⟨some 9, _, _, _, _, _⟩) _ rfl (.tmp 7) (.tmp 8) 25 25 rfl 50 i0 2 w.heap.size w1.heap.size Try.underlying25 hi0 hz1 _ _ n n n c n n _ _ rfl rfl hown 0 (l.flatMap c2) (by rw [hlen]; simp) ?_ (by omega) (c2_one l) ?_))
  · intro hp
    obtain ⟨b, o, hA, _, _, hcell⟩ := hr1.2 (by omega)
    exact ⟨_, rfl, rfl, b, o, hA, hcell⟩
  · intro w2 hown2 hch2
    rw [splice_all (by rw [zeros_len]; omega)] at hown2
    have hb2 : Below w.heap.size w w2 := below_then hb1 (hch2.below (Nat.le_refl _) hb1.size) (Nat.le_refl _)
    go_wp2_with fail
    go_ret
    exact Mk.of_own hown2 hb2 hch2.size
theorem sCopyT_any (w : World) (A : Option Addr) (n c lo hi : Nat) (l : List (Int × Int)) (hr : Rd w lo hi 2 A n (l.flatMap c2)) (hn : n ≤ 1048576) :
    Calls Try.prog 44 #[.slice A n c] w (Mk w 50 2 n (l.flatMap c2)) := by
  obtain ⟨i0, hi0, hz0, hz1, hz2⟩ := info_parts infoTunnel
  have hown0 : Own (w.alloc (.cells #[] 50)) w.heap.size (w.heap.size + 1) 50 2 (.slice (some ⟨w.heap.size, 0, none⟩) 0 0) 0 [] := by
    simpa using Own.fresh w #[] 50 2 0 rfl (by unfold maxLen; omega)
  go_enter Try.func44, Try.ntmps44
  go_wp2_with (at_builtin; refine wpList_app _ rfl (.tmp 3) (.tmp 4) 25 rfl 50 i0 (.agg #[.int .i64 0, .int .i64 0]) 2 16 w.heap.size (w.heap.size + 1) lo hi Try.underlying25 hi0 hz0 hz1 hz2 rfl (by omega) _ 0 [] rfl hown0 A n c (l.flatMap c2) rfl (hr.alloc _) (c2_one l) (by unfold maxLen; omega) (by omega) (by first | omega | (simp <;> omega)) (by first | omega | (simp <;> omega)) ?_; intro A4 c4 w4 hown4 hc4 hm4 hch4)
  have hb4 : Below w.heap.size w w4 := ((Chg.refl w.heap.size (w.heap.size + 1) w).alloc _).trans hch4 |>.below (Nat.le_refl _) (Nat.le_refl _)
  rw [Nat.zero_add, List.nil_append] at hown4
  go_wp2_with fail
  go_ret
  exact Mk.of_own hown4 hb4 (Nat.le_refl _)
end Go.Proofs.Ytncnaahgpeaofaa
