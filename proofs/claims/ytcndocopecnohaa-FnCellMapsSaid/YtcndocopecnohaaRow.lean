/- Rows of structs of two or three integers: a struct stored into its place, marks written cell by cell. No program in sight. -/
import Derived.Test.YtcndocopecnohaaSep
import Derived.Test.YtcndocopecnohaaOpen
namespace Go.Sep
open Go.RowKit

def mkR : Int → Value := fun x => .int .i64 x
section
variable {wr : World} {lo hi sz n c g m : Nat} {e : TypeId} {xs zs : List Value} {u0 u1 u2 : Value}
theorem Own.fill2 (h : Own wr lo hi e sz (.slice (some ⟨g, 0, none⟩) n c) n (mixed xs zs m)) (hz : m + 1 < zs.length) (h0 : xs[m]? = some u0) (h1 : xs[m + 1]? = some u1) :
    Own ((wr.setCell ⟨g, m, none⟩ u0).setCell ⟨g, m + 1, none⟩ u1) lo hi e sz (.slice (some ⟨g, 0, none⟩) n c) n (mixed xs zs (m + 2)) ∧ Chg lo hi wr ((wr.setCell ⟨g, m, none⟩ u0).setCell ⟨g, m + 1, none⟩ u1) := by
  obtain ⟨a, b⟩ := h.stored m u0
  rw [mixed_set (by omega) h0] at a
  obtain ⟨a', b'⟩ := a.stored (m + 1) u1
  rw [mixed_set (by omega) h1] at a'
  exact ⟨a', b.trans b'⟩
theorem Own.fill3 (h : Own wr lo hi e sz (.slice (some ⟨g, 0, none⟩) n c) n (mixed xs zs m)) (hz : m + 2 < zs.length) (h0 : xs[m]? = some u0) (h1 : xs[m + 1]? = some u1) (h2 : xs[m + 2]? = some u2) :
    Own (((wr.setCell ⟨g, m, none⟩ u0).setCell ⟨g, m + 1, none⟩ u1).setCell ⟨g, m + 2, none⟩ u2) lo hi e sz (.slice (some ⟨g, 0, none⟩) n c) n (mixed xs zs (m + 3)) ∧
      Chg lo hi wr (((wr.setCell ⟨g, m, none⟩ u0).setCell ⟨g, m + 1, none⟩ u1).setCell ⟨g, m + 2, none⟩ u2) := by
  obtain ⟨a, b⟩ := h.fill2 (by omega) h0 h1
  obtain ⟨a', b'⟩ := a.stored (m + 2) u2
  rw [mixed_set (by omega) h2] at a'
  exact ⟨a', b.trans b'⟩
theorem Own.olds1 (h : Own wr lo hi e sz (.slice (some ⟨g, 0, none⟩) n c) n xs) (m : Nat) (hm : m < xs.length) : ∃ a, wr.cell? ⟨g, m, none⟩ = some a ∧ wr.frozen? ⟨g, m, none⟩ = false :=
  ⟨_, (h.row.cellAt m (by have := h.len; omega)).trans (List.getElem?_eq_getElem hm), h.row.frozenAt m⟩
theorem Own.olds2 (h : Own wr lo hi e sz (.slice (some ⟨g, 0, none⟩) n c) n xs) (m : Nat) (hm : m + 1 < xs.length) :
    ∃ a b, wr.cell? ⟨g, m, none⟩ = some a ∧ wr.cell? ⟨g, m + 1, none⟩ = some b ∧ wr.frozen? ⟨g, m, none⟩ = false ∧ wr.frozen? ⟨g, m + 1, none⟩ = false :=
  ⟨_, _, (h.row.cellAt m (by have := h.len; omega)).trans (List.getElem?_eq_getElem (by omega)), (h.row.cellAt (m + 1) (by have := h.len; omega)).trans (List.getElem?_eq_getElem hm), h.row.frozenAt m, h.row.frozenAt (m + 1)⟩
theorem Own.olds3 (h : Own wr lo hi e sz (.slice (some ⟨g, 0, none⟩) n c) n xs) (m : Nat) (hm : m + 2 < xs.length) :
    ∃ a b d, wr.cell? ⟨g, m, none⟩ = some a ∧ wr.cell? ⟨g, m + 1, none⟩ = some b ∧ wr.cell? ⟨g, m + 2, none⟩ = some d ∧ wr.frozen? ⟨g, m, none⟩ = false ∧ wr.frozen? ⟨g, m + 1, none⟩ = false ∧ wr.frozen? ⟨g, m + 2, none⟩ = false :=
  ⟨_, _, _, (h.row.cellAt m (by have := h.len; omega)).trans (List.getElem?_eq_getElem (by omega)), (h.row.cellAt (m + 1) (by have := h.len; omega)).trans (List.getElem?_eq_getElem (by omega)), (h.row.cellAt (m + 2) (by have := h.len; omega)).trans (List.getElem?_eq_getElem hm), h.row.frozenAt m, h.row.frozenAt (m + 1), h.row.frozenAt (m + 2)⟩
end
/-- An element of a list of structs, cell by cell. -/
theorem c2_at (l : List (Int × Int)) (k : Nat) (h : k < l.length) : (l.flatMap c2)[k * 2]? = some (.int .i64 l[k].1) ∧ (l.flatMap c2)[k * 2 + 1]? = some (.int .i64 l[k].2) :=
  ⟨by have := flat_at c2 2 c2_len l k 0 (by omega); simpa [h, c2] using this, by have := flat_at c2 2 c2_len l k 1 (by omega); simpa [h, c2] using this⟩
theorem c3_at (l : List (Int × Int × Int)) (k : Nat) (h : k < l.length) : (l.flatMap c3)[k * 3]? = some (.int .i64 l[k].1) ∧ (l.flatMap c3)[k * 3 + 1]? = some (.int .i64 l[k].2.1) ∧ (l.flatMap c3)[k * 3 + 2]? = some (.int .i64 l[k].2.2) :=
  ⟨by have := flat_at c3 3 c3_len l k 0 (by omega); simpa [h, c3] using this, by have := flat_at c3 3 c3_len l k 1 (by omega); simpa [h, c3] using this, by have := flat_at c3 3 c3_len l k 2 (by omega); simpa [h, c3] using this⟩
theorem Rd.at2 {w : World} {lo hi n : Nat} {A : Option Addr} {l : List (Int × Int)} (hr : Rd w lo hi 2 A n (l.flatMap c2)) (hl : l.length = n) {k : Nat} (hk : k < n) :
    ∃ b o x y, A = some ⟨b, o, none⟩ ∧ l[k]? = some (x, y) ∧ w.cell? ⟨b, o + k * 2, none⟩ = some (.int .i64 x) ∧ w.cell? ⟨b, o + k * 2 + 1, none⟩ = some (.int .i64 y) := by
  obtain ⟨b, o, rfl, _, _, hcell⟩ := hr.at_ (j := k * 2) (by omega)
  obtain ⟨h0, h1⟩ := c2_at l k (by omega)
  exact ⟨b, o, _, _, rfl, List.getElem?_eq_getElem (by omega), hcell _ _ h0, by rw [Nat.add_assoc]; exact hcell _ _ h1⟩
theorem Rd.at3 {w : World} {lo hi n : Nat} {A : Option Addr} {l : List (Int × Int × Int)} (hr : Rd w lo hi 3 A n (l.flatMap c3)) (hl : l.length = n) {k : Nat} (hk : k < n) :
    ∃ b o x y z, A = some ⟨b, o, none⟩ ∧ l[k]? = some (x, y, z) ∧ w.cell? ⟨b, o + k * 3, none⟩ = some (.int .i64 x) ∧ w.cell? ⟨b, o + k * 3 + 1, none⟩ = some (.int .i64 y) ∧ w.cell? ⟨b, o + k * 3 + 2, none⟩ = some (.int .i64 z) := by
  obtain ⟨b, o, rfl, _, _, hcell⟩ := hr.at_ (j := k * 3) (by omega)
  obtain ⟨h0, h1, h2⟩ := c3_at l k (by omega)
  exact ⟨b, o, _, _, _, rfl, List.getElem?_eq_getElem (by omega), hcell _ _ h0, by rw [Nat.add_assoc]; exact hcell _ _ h1, by rw [Nat.add_assoc]; exact hcell _ _ h2⟩
theorem Rd.len2 {w : World} {lo hi n : Nat} {A : Option Addr} {l : List (Int × Int)} (hr : Rd w lo hi 2 A n (l.flatMap c2)) : l.length = n := by have := hr.len; rw [flat_len c2 2 c2_len] at this; omega
theorem Rd.len3 {w : World} {lo hi n : Nat} {A : Option Addr} {l : List (Int × Int × Int)} (hr : Rd w lo hi 3 A n (l.flatMap c3)) : l.length = n := by have := hr.len; rw [flat_len c3 3 c3_len] at this; omega
theorem c2_of {l : List (Int × Int)} {k : Nat} {x y : Int} (h : l[k]? = some (x, y)) : (l.flatMap c2)[k * 2]? = some (.int .i64 x) ∧ (l.flatMap c2)[k * 2 + 1]? = some (.int .i64 y) := by
  obtain ⟨hk, e⟩ := List.getElem?_eq_some_iff.1 h
  have := c2_at l k hk
  rw [e] at this
  exact this
theorem c3_of {l : List (Int × Int × Int)} {k : Nat} {x y z : Int} (h : l[k]? = some (x, y, z)) : (l.flatMap c3)[k * 3]? = some (.int .i64 x) ∧ (l.flatMap c3)[k * 3 + 1]? = some (.int .i64 y) ∧ (l.flatMap c3)[k * 3 + 2]? = some (.int .i64 z) := by
  obtain ⟨hk, e⟩ := List.getElem?_eq_some_iff.1 h
  have := c3_at l k hk
  rw [e] at this
  exact this
/-- One round of a copy: a struct laid into its place. -/
theorem Own.put2 {wr : World} {lo hi n c g k : Nat} {e : TypeId} {l : List (Int × Int)} {zs : List Value} {x y : Int} (h : Own wr lo hi e 2 (.slice (some ⟨g, 0, none⟩) n c) n (mixed (l.flatMap c2) zs (k * 2))) (hz : zs.length = n * 2) (hk : k < n) (hx : l[k]? = some (x, y)) :
    Own ((wr.setCell ⟨g, k * 2, none⟩ (.int .i64 x)).setCell ⟨g, k * 2 + 1, none⟩ (.int .i64 y)) lo hi e 2 (.slice (some ⟨g, 0, none⟩) n c) n (mixed (l.flatMap c2) zs ((k + 1) * 2)) := by
  rw [Nat.succ_mul]
  exact (h.fill2 (by omega) (c2_of hx).1 (c2_of hx).2).1
theorem Own.put3 {wr : World} {lo hi n c g k : Nat} {e : TypeId} {l : List (Int × Int × Int)} {zs : List Value} {x y z : Int} (h : Own wr lo hi e 3 (.slice (some ⟨g, 0, none⟩) n c) n (mixed (l.flatMap c3) zs (k * 3))) (hz : zs.length = n * 3) (hk : k < n) (hx : l[k]? = some (x, y, z)) :
    Own (((wr.setCell ⟨g, k * 3, none⟩ (.int .i64 x)).setCell ⟨g, k * 3 + 1, none⟩ (.int .i64 y)).setCell ⟨g, k * 3 + 2, none⟩ (.int .i64 z)) lo hi e 3 (.slice (some ⟨g, 0, none⟩) n c) n (mixed (l.flatMap c3) zs ((k + 1) * 3)) := by
  rw [Nat.succ_mul]
  exact (h.fill3 (by omega) (c3_of hx).1 (c3_of hx).2.1 (c3_of hx).2.2).1
/-- One round of the marks. -/
theorem Own.mark2 {wr : World} {lo hi n c g k : Nat} {e : TypeId} {k0 : Int} {xs : List Value} (h : Own wr lo hi e 2 (.slice (some ⟨g, 0, none⟩) n c) n (mixed (marks mkR k0 (n * 2)) xs (k * 2))) (hz : xs.length = n * 2) (hk : k < n) :
    Own ((wr.setCell ⟨g, k * 2, none⟩ (.int .i64 (k0 + (k : Int) * 2))).setCell ⟨g, k * 2 + 1, none⟩ (.int .i64 (k0 + (k : Int) * 2 + 1))) lo hi e 2 (.slice (some ⟨g, 0, none⟩) n c) n (mixed (marks mkR k0 (n * 2)) xs ((k + 1) * 2)) ∧
      Chg lo hi wr ((wr.setCell ⟨g, k * 2, none⟩ (.int .i64 (k0 + (k : Int) * 2))).setCell ⟨g, k * 2 + 1, none⟩ (.int .i64 (k0 + (k : Int) * 2 + 1))) := by
  have e0 : (marks mkR k0 (n * 2))[k * 2]? = some (.int .i64 (k0 + (k : Int) * 2)) := by rw [marks_at _ _ _ _ (by omega)]; simp [mkR]
  have e1 : (marks mkR k0 (n * 2))[k * 2 + 1]? = some (.int .i64 (k0 + (k : Int) * 2 + 1)) := by rw [marks_at _ _ _ _ (by omega)]; simp [mkR]; omega
  rw [Nat.succ_mul]
  exact h.fill2 (by omega) e0 e1
theorem Own.mark3 {wr : World} {lo hi n c g k : Nat} {e : TypeId} {k0 : Int} {xs : List Value} (h : Own wr lo hi e 3 (.slice (some ⟨g, 0, none⟩) n c) n (mixed (marks mkR k0 (n * 3)) xs (k * 3))) (hz : xs.length = n * 3) (hk : k < n) :
    Own (((wr.setCell ⟨g, k * 3, none⟩ (.int .i64 (k0 + (k : Int) * 3))).setCell ⟨g, k * 3 + 1, none⟩ (.int .i64 (k0 + (k : Int) * 3 + 1))).setCell ⟨g, k * 3 + 2, none⟩ (.int .i64 (k0 + (k : Int) * 3 + 1 + 1))) lo hi e 3 (.slice (some ⟨g, 0, none⟩) n c) n (mixed (marks mkR k0 (n * 3)) xs ((k + 1) * 3)) ∧
      Chg lo hi wr (((wr.setCell ⟨g, k * 3, none⟩ (.int .i64 (k0 + (k : Int) * 3))).setCell ⟨g, k * 3 + 1, none⟩ (.int .i64 (k0 + (k : Int) * 3 + 1))).setCell ⟨g, k * 3 + 2, none⟩ (.int .i64 (k0 + (k : Int) * 3 + 1 + 1))) := by
  have e0 : (marks mkR k0 (n * 3))[k * 3]? = some (.int .i64 (k0 + (k : Int) * 3)) := by rw [marks_at _ _ _ _ (by omega)]; simp [mkR]
  have e1 : (marks mkR k0 (n * 3))[k * 3 + 1]? = some (.int .i64 (k0 + (k : Int) * 3 + 1)) := by rw [marks_at _ _ _ _ (by omega)]; simp [mkR]; omega
  have e2 : (marks mkR k0 (n * 3))[k * 3 + 2]? = some (.int .i64 (k0 + (k : Int) * 3 + 1 + 1)) := by rw [marks_at _ _ _ _ (by omega)]; simp [mkR]; omega
  rw [Nat.succ_mul]
  exact h.fill3 (by omega) e0 e1 e2
theorem Rd.mark2 {w : World} {lo hi n k : Nat} {A : Option Addr} {k0 : Int} (hr : Rd w lo hi 2 A n (marks mkR k0 (n * 2))) (hk : k < n) :
    ∃ b o, A = some ⟨b, o, none⟩ ∧ w.cell? ⟨b, o + k * 2, none⟩ = some (.int .i64 (k0 + (k : Int) * 2)) ∧ w.cell? ⟨b, o + k * 2 + 1, none⟩ = some (.int .i64 (k0 + (k : Int) * 2 + 1)) := by
  have e0 : (marks mkR k0 (n * 2))[k * 2]? = some (.int .i64 (k0 + (k : Int) * 2)) := by rw [marks_at _ _ _ _ (by omega)]; simp [mkR]
  have e1 : (marks mkR k0 (n * 2))[k * 2 + 1]? = some (.int .i64 (k0 + (k : Int) * 2 + 1)) := by rw [marks_at _ _ _ _ (by omega)]; simp [mkR]; omega
  obtain ⟨b, o, rfl, _, _, hcell⟩ := hr.at_ (j := k * 2) (by omega)
  exact ⟨b, o, rfl, hcell _ _ e0, by rw [Nat.add_assoc]; exact hcell _ _ e1⟩
theorem Rd.mark3 {w : World} {lo hi n k : Nat} {A : Option Addr} {k0 : Int} (hr : Rd w lo hi 3 A n (marks mkR k0 (n * 3))) (hk : k < n) :
    ∃ b o, A = some ⟨b, o, none⟩ ∧ w.cell? ⟨b, o + k * 3, none⟩ = some (.int .i64 (k0 + (k : Int) * 3)) ∧ w.cell? ⟨b, o + k * 3 + 1, none⟩ = some (.int .i64 (k0 + (k : Int) * 3 + 1)) ∧ w.cell? ⟨b, o + k * 3 + 2, none⟩ = some (.int .i64 (k0 + (k : Int) * 3 + 1 + 1)) := by
  have e0 : (marks mkR k0 (n * 3))[k * 3]? = some (.int .i64 (k0 + (k : Int) * 3)) := by rw [marks_at _ _ _ _ (by omega)]; simp [mkR]
  have e1 : (marks mkR k0 (n * 3))[k * 3 + 1]? = some (.int .i64 (k0 + (k : Int) * 3 + 1)) := by rw [marks_at _ _ _ _ (by omega)]; simp [mkR]; omega
  have e2 : (marks mkR k0 (n * 3))[k * 3 + 2]? = some (.int .i64 (k0 + (k : Int) * 3 + 1 + 1)) := by rw [marks_at _ _ _ _ (by omega)]; simp [mkR]; omega
  obtain ⟨b, o, rfl, _, _, hcell⟩ := hr.at_ (j := k * 3) (by omega)
  exact ⟨b, o, rfl, hcell _ _ e0, by rw [Nat.add_assoc]; exact hcell _ _ e1, by rw [Nat.add_assoc]; exact hcell _ _ e2⟩
theorem at_take {α : Type} {l : List α} {k : Nat} {x : α} (h : l[k]? = some x) : l.drop k = x :: l.drop (k + 1) := by
  obtain ⟨hk, rfl⟩ := List.getElem?_eq_some_iff.1 h
  exact List.drop_eq_getElem_cons hk
theorem fm_hit {α β : Type} {f : α → Option β} {l : List α} {k : Nat} {x : α} {y : β} (h : l[k]? = some x) (hf : f x = some y) : (l.drop k).filterMap f = y :: (l.drop (k + 1)).filterMap f := by rw [at_take h, List.filterMap_cons, hf]
theorem fm_miss {α β : Type} {f : α → Option β} {l : List α} {k : Nat} {x : α} (h : l[k]? = some x) (hf : f x = none) : (l.drop k).filterMap f = (l.drop (k + 1)).filterMap f := by rw [at_take h, List.filterMap_cons, hf]
/-- The place of the first element of that kind; -1 where there is none. -/
def fidx {α : Type} (p : α → Bool) : Nat → List α → Int
  | _, [] => -1
  | k, x :: r => if p x = true then k else fidx p (k + 1) r
section
variable {α : Type} {p : α → Bool} {l : List α} {k n : Nat} {x : α}
theorem fidx_hit (h : l[k]? = some x) (hp : p x = true) : fidx p k (l.drop k) = k := by rw [at_take h, fidx, if_pos hp]
theorem fidx_miss (h : l[k]? = some x) (hp : p x = false) : fidx p k (l.drop k) = fidx p (k + 1) (l.drop (k + 1)) := by rw [at_take h, fidx, if_neg (by simp [hp])]
theorem fidx_end (h : l.length = n) : fidx p n (l.drop n) = -1 := by rw [List.drop_eq_nil_of_le (by omega), fidx]
theorem fidx_cases (p : α → Bool) (l : List α) (k : Nat) : fidx p k l = -1 ∨ ∃ i x, fidx p k l = ((k + i : Nat) : Int) ∧ l[i]? = some x ∧ p x = true := by
  induction l generalizing k with
  | nil => exact .inl rfl
  | cons a r ih =>
    rw [fidx]
    cases hp : p a
    · simp only [Bool.false_eq_true, if_false]
      rcases ih (k + 1) with h | ⟨i, x, h1, h2, h3⟩
      · exact .inl h
      · exact .inr ⟨i + 1, x, by rw [h1]; congr 1; omega, by simpa using h2, h3⟩
    · simp only [if_true]
      exact .inr ⟨0, a, by simp, by simp, hp⟩
theorem fold_at {β : Type} {f : β → α → β} {a : β} (h : l[k]? = some x) : (l.drop k).foldl f a = (l.drop (k + 1)).foldl f (f a x) := by rw [at_take h, List.foldl_cons]
end
/-- What is left of a budget after n and s are taken; -1 where it does not reach. -/
def szTot (left : Int) (n s : Nat) : Int := if left < (n : Int) + (s : Nat) then -1 else left - n - (s : Nat)
def allOk (f : Nat → Bool) (n : Nat) : Bool := (List.range n).all f
theorem allOk_yes {f : Nat → Bool} {n : Nat} (h : ∀ j, j < n → f j = true) : allOk f n = true := by simp [allOk]; exact h
theorem allOk_no {f : Nat → Bool} {n k : Nat} (hk : k < n) (h : f k = false) : allOk f n = false := by
  cases hh : allOk f n
  · rfl
  · simp [allOk] at hh
    rw [hh k hk] at h
    cases h
theorem lt_next {f : Nat → Bool} {k : Nat} (h : ∀ j, j < k → f j = true) (hk : f k = true) : ∀ j, j < k + 1 → f j = true := fun j hj => by
  rcases Nat.lt_or_eq_of_le (Nat.le_of_lt_succ hj) with h1 | rfl
  · exact h j h1
  · exact hk
end Go.Sep
