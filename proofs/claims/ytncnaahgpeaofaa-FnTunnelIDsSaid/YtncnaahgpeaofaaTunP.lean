/- Tunnels: the plain law of a tunnel that is opened. -/
import Derived.Test.YtncnaahgpeaofaaOpT
namespace Go.Proofs.Ytncnaahgpeaofaa
open Go.RowKit Go.Sep

/-- Valid tunnels, told without places. -/
theorem tOk_iff (l : List (Int × Int)) : allOk (tOk l) l.length = true ↔ (∀ t ∈ l, (1 ≤ t.1 ∧ t.1 ≤ 20) ∧ 0 ≤ t.2) ∧ l.Pairwise (fun a b => a.1 < b.1) := by
  have e : allOk (tOk l) l.length = true ↔ ∀ j, j < l.length → tOk l j = true := by simp [allOk]
  rw [e]
  constructor
  · intro h
    refine ⟨fun t ht => ?_, ?_⟩
    · obtain ⟨j, hj⟩ := List.mem_iff_getElem?.1 ht
      obtain ⟨hl, _⟩ := List.getElem?_eq_some_iff.1 hj
      obtain ⟨x, y⟩ := t
      have h1 := h j hl
      simp only [tOk, hj, Bool.and_eq_true, Bool.not_eq_true', decide_eq_false_iff_not] at h1
      have := inR_true h1.1.1
      exact ⟨this, by simp only; omega⟩
    · rw [List.pairwise_iff_getElem]
      have hs : ∀ j (hj : j + 1 < l.length), (l[j]'(by omega)).1 < (l[j + 1]'hj).1 := fun j hj => by
        have ha : l[j]? = some (l[j]'(by omega)) := List.getElem?_eq_getElem (by omega)
        have hb : l[j + 1]? = some (l[j + 1]'hj) := List.getElem?_eq_getElem hj
        exact tOk_up (h (j + 1) hj) (y := (l[j + 1]'hj).2) (q := (l[j]'(by omega)).2) hb ha
      have key : ∀ d i, (hi : i + d + 1 < l.length) → (l[i]'(by omega)).1 < (l[i + d + 1]'hi).1 := by
        intro d
        induction d with
        | zero => intro i hi; exact hs i hi
        | succ d ih => intro i hi; exact Int.lt_trans (ih i (by omega)) (hs (i + d + 1) (by omega))
      intro i j hi hj hij
      obtain ⟨d, rfl⟩ : ∃ d, j = i + d + 1 := ⟨j - i - 1, by omega⟩
      exact key d i hj
  · rintro ⟨hr, hp⟩ j hj
    have hx : l[j]? = some l[j] := List.getElem?_eq_getElem hj
    have := hr _ (List.getElem_mem hj)
    generalize l[j] = t at hx this
    obtain ⟨a, b⟩ := t
    simp only at this
    rcases j with _ | j
    · rw [tOk_0 hx, inR_mk this.1.1 this.1.2]
      simp; omega
    · have hy : l[j]? = some (l[j]'(by omega)) := List.getElem?_eq_getElem (by omega)
      have hlt : (l[j]'(by omega)).1 < (l[j + 1]'hj).1 := (List.pairwise_iff_getElem.1 hp) j (j + 1) (by omega) hj (by omega)
      have hz : l[j + 1]'hj = (a, b) := by
        rw [List.getElem?_eq_getElem hj] at hx
        injection hx
      rw [hz] at hlt
      generalize l[j]'(by omega) = u at hy hlt
      obtain ⟨p, q⟩ := u
      rw [tOk_s hx hy, inR_mk this.1.1 this.1.2]
      simp only [Bool.true_and, Bool.and_eq_true, Bool.not_eq_true', decide_eq_false_iff_not]
      simp only at hlt
      omega
/-- Up to the first gap, the IDs are their places'; at the gap none is. -/
theorem gap_before (l : List (Int × Int)) (k : Nat) : ∀ j t, k + j < gapAt k l → l[j]? = some t → t.1 = (k : Int) + j + 1 := by
  induction l generalizing k with
  | nil => intro j t _ h; simp at h
  | cons a r ih =>
    intro j t hj h
    obtain ⟨x, y⟩ := a
    rw [gapAt] at hj
    split at hj
    · rename_i he
      rcases j with _ | j
      · simp only [List.getElem?_cons_zero, Option.some.injEq] at h
        subst h
        simp only [beq_iff_eq] at he
        simp only
        omega
      · have := ih (k + 1) j t (by omega) (by simpa using h)
        omega
    · omega
theorem gap_here (l : List (Int × Int)) (k : Nat) : ∀ t, l[gapAt k l - k]? = some t → t.1 ≠ (gapAt k l : Int) + 1 := by
  induction l generalizing k with
  | nil => intro t h; simp at h
  | cons a r ih =>
    intro t h
    obtain ⟨x, y⟩ := a
    rw [gapAt] at h ⊢
    split at h
    · rename_i he
      rw [if_pos he]
      have hle : k + 1 ≤ gapAt (k + 1) r := by
        clear h he ih
        have : ∀ (s : List (Int × Int)) m, m ≤ gapAt m s := by
          intro s
          induction s with
          | nil => intro m; simp [gapAt]
          | cons b q ihq =>
            intro m
            obtain ⟨u, v⟩ := b
            have := ihq (m + 1)
            rw [gapAt]
            split <;> omega
        exact this r (k + 1)
      have e : gapAt (k + 1) r - k = (gapAt (k + 1) r - (k + 1)) + 1 := by omega
      rw [e, List.getElem?_cons_succ] at h
      exact ih (k + 1) t h
    · rename_i he
      rw [if_neg he]
      rw [Nat.sub_self, List.getElem?_cons_zero] at h
      injection h with h
      subst h
      simpa using he
theorem tpeer_no {l : List (Int × Int)} {id : Int} (h : ∀ t ∈ l, t.1 ≠ id) : tpeer id l = -1 := by
  induction l with
  | nil => rfl
  | cons a r ih =>
    rw [tpeer, if_neg (by simpa using h a (by simp)), ih (fun t ht => h t (List.mem_cons_of_mem _ ht))]
theorem tpeer_mid {a b : List (Int × Int)} {id p : Int} (h : ∀ t ∈ a, t.1 ≠ id) : tpeer id (a ++ (id, p) :: b) = p := by
  induction a with
  | nil => rw [List.nil_append, tpeer, if_pos (by simp)]
  | cons x r ih =>
    rw [List.cons_append, tpeer, if_neg (by simpa using h x (by simp)), ih (fun t ht => h t (List.mem_cons_of_mem _ ht))]
theorem close_no {l : List (Int × Int)} {id : Int} (h : ∀ t ∈ l, t.1 ≠ id) : l.filterMap (fClose id) = l := by
  induction l with
  | nil => rfl
  | cons a r ih =>
    rw [List.filterMap_cons, show fClose id a = some a by simp [fClose, h a (by simp)], ih (fun t ht => h t (List.mem_cons_of_mem _ ht))]
/-- The law of a tunnel that is opened. -/
theorem op_law {l X : List (Int × Int)} {n : Nat} {p id : Int} (hl : l.length = n) (h : opL l n p = (X, id)) (hid : id ≠ 0) :
    inR id 1 20 = true ∧ 0 ≤ p ∧ n ≤ 20 ∧ X.length = n + 1 ∧ tpeer id l = -1 ∧ allOk (tOk X) (n + 1) = true ∧ tpeer id X = p ∧ id ∈ X.filterMap (fOfPeer p) ∧ X.filterMap (fClose id) = l := by
  unfold opL at h
  split at h
  · simp only [Prod.mk.injEq] at h; omega
  · rename_i hc
    simp only [not_or, Bool.not_eq_false] at hc
    obtain ⟨hv, hp, h20⟩ := hc
    simp only [Prod.mk.injEq] at h
    obtain ⟨rfl, rfl⟩ := h
    have hle := gap_le 0 l
    have hb := gap_before l 0
    have hh := gap_here l 0
    simp only [Nat.zero_add, Nat.sub_zero] at hle hb hh
    generalize gapAt 0 l = g at hle hb hh
    subst hl
    obtain ⟨hr, hs⟩ := (tOk_iff l).1 hv
    have hlt : ∀ t ∈ l.take g, t.1 < (g : Int) + 1 := fun t ht => by
      obtain ⟨j, hj⟩ := List.mem_iff_getElem?.1 ht
      rw [List.getElem?_take] at hj
      split at hj
      · have := hb j t (by omega) hj
        omega
      · cases hj
    have hgt : ∀ t ∈ l.drop g, (g : Int) + 1 < t.1 := fun t ht => by
      obtain ⟨j, hj⟩ := List.mem_iff_getElem?.1 ht
      rw [List.getElem?_drop] at hj
      obtain ⟨hl, _⟩ := List.getElem?_eq_some_iff.1 hj
      obtain ⟨x, y, hx, h1, _⟩ := ok_lo rfl (by simpa [allOk] using hv) (g + j) hl
      rw [hx] at hj
      injection hj with hj
      subst hj
      simp only
      rcases j with _ | j
      · have := hh (x, y) (by simpa using hx)
        simp only at this
        omega
      · obtain ⟨u, v, hu, h2, _⟩ := ok_lo rfl (by simpa [allOk] using hv) g (by omega)
        have h3 := hh (u, v) hu
        simp only at h3
        rw [List.pairwise_iff_getElem] at hs
        have h4 := hs g (g + (j + 1)) (by omega) hl (by omega)
        rw [List.getElem?_eq_getElem (by omega)] at hu hx
        injection hu with hu
        injection hx with hx
        rw [hu, hx] at h4
        simp only at h4
        omega
    have hne1 : ∀ t ∈ l.take g, t.1 ≠ (g : Int) + 1 := fun t ht => by have := hlt t ht; omega
    have hne2 : ∀ t ∈ l.drop g, t.1 ≠ (g : Int) + 1 := fun t ht => by have := hgt t ht; omega
    have hlen : (l.take g ++ ((g : Int) + 1, p) :: l.drop g).length = l.length + 1 := by simp; omega
    refine ⟨inR_mk (by omega) (by omega), by omega, by omega, hlen, ?_, ?_, tpeer_mid hne1, ?_, ?_⟩
    · refine tpeer_no fun t ht => ?_
      rw [← List.take_append_drop g l] at ht
      rcases List.mem_append.1 ht with h | h
      · exact hne1 t h
      · exact hne2 t h
    · rw [← hlen, tOk_iff]
      refine ⟨fun t ht => ?_, ?_⟩
      · rcases List.mem_append.1 ht with h | h
        · exact hr t (List.mem_of_mem_take h)
        · rcases List.mem_cons.1 h with rfl | h
          · exact ⟨⟨by simp only; omega, by simp only; omega⟩, by simp only; omega⟩
          · exact hr t (List.mem_of_mem_drop h)
      · rw [List.pairwise_append]
        refine ⟨hs.sublist (List.take_sublist _ _), ?_, ?_⟩
        · rw [List.pairwise_cons]
          exact ⟨fun t ht => hgt t ht, hs.sublist (List.drop_sublist _ _)⟩
        · intro a ha b hb
          have h1 := hlt a ha
          rcases List.mem_cons.1 hb with rfl | hb
          · exact h1
          · have := hgt b hb
            omega
    · rw [List.mem_filterMap]
      exact ⟨((g : Int) + 1, p), by simp, by simp [fOfPeer]⟩
    · rw [List.filterMap_append, List.filterMap_cons, close_no hne1, close_no hne2, show fClose ((g : Int) + 1) ((g : Int) + 1, p) = none by simp [fClose]]
      simp
theorem op_zero {l X : List (Int × Int)} {n : Nat} {p : Int} (h : opL l n p = (X, 0)) : X = l := by
  unfold opL at h
  split at h
  · simp only [Prod.mk.injEq, and_true] at h; exact h.symm
  · simp only [Prod.mk.injEq] at h; omega
theorem op_len (l : List (Int × Int)) (n : Nat) (p : Int) : (opL l n p).1.length ≤ l.length + 1 := by
  have := gap_le 0 l
  unfold opL
  split
  · simp
  · simp; omega
end Go.Proofs.Ytncnaahgpeaofaa
