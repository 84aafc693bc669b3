/- Bearers: what SetBearer and AdmitBearer make, as plain functions on lists, and the plain law of an admission. -/
import Derived.Test.YticfmkfiibhafaaBea
import Derived.Test.YticfmkfiibhafaaBea2
import Derived.Test.YticfmkfiibhafaaBVal
import Derived.Test.YticfmkfiibhafaaPreem
namespace Go.Proofs.Yticfmkfiibhafaa
open Go.RowKit Go.Sep

/-- The first place whose bearer's ID is not below x. -/
def posB (x : Int) : Nat → List (Int × Int × Int) → Nat
  | k, [] => k
  | k, t :: r => if decide (t.1 < x) = true then posB x (k + 1) r else k
section
variable {l : List (Int × Int × Int)} {k n : Nat} {x p q r : Int}
theorem pos_hit (h : l[k]? = some (p, q, r)) (he : decide (p < x) = true) : posB x k (l.drop k) = posB x (k + 1) (l.drop (k + 1)) := by rw [at_take h, posB, if_pos he]
theorem pos_miss (h : l[k]? = some (p, q, r)) (he : decide (p < x) = false) : posB x k (l.drop k) = k := by rw [at_take h, posB, if_neg (by simp [he])]
theorem pos_end (h : l.length = n) : posB x n (l.drop n) = n := by rw [List.drop_eq_nil_of_le (by omega), posB]
theorem pos_le (x : Int) (k : Nat) (l : List (Int × Int × Int)) : posB x k l ≤ k + l.length := by
  induction l generalizing k with
  | nil => simp [posB]
  | cons a t ih =>
    have := ih (k + 1)
    unfold posB
    split <;> simp <;> omega
theorem fidx_none {α : Type} {f : α → Bool} {l : List α} (k : Nat) (h : fidx f k l = -1) : ∀ t ∈ l, f t = false := by
  induction l generalizing k with
  | nil => simp
  | cons a r ih =>
    rw [fidx] at h
    cases hf : f a
    · rw [hf] at h
      simp only [Bool.false_eq_true, if_false] at h
      intro t ht
      rcases List.mem_cons.1 ht with rfl | ht
      · exact hf
      · exact ih (k + 1) h t ht
    · rw [hf] at h
      simp only [if_true] at h
      omega
/-- The first of its kind. -/
theorem fidx_first {α : Type} {f : α → Bool} {l : List α} {j : Nat} {t : α} (k : Nat) (hj : l[j]? = some t) (ht : f t = true) (hb : ∀ i u, i < j → l[i]? = some u → f u = false) : fidx f k l = ((k + j : Nat) : Int) := by
  induction l generalizing k j with
  | nil => simp at hj
  | cons a r ih =>
    rcases j with _ | j
    · simp only [List.getElem?_cons_zero, Option.some.injEq] at hj
      subst hj
      rw [fidx, if_pos ht, Nat.add_zero]
    · rw [fidx, if_neg (by rw [hb 0 a (by omega) rfl]; simp)]
      rw [ih (k + 1) (by simpa using hj) (fun i u hi hu => hb (i + 1) u (by omega) (by simpa using hu))]
      congr 1
      omega
theorem fidx_mem {α : Type} {f : α → Bool} {l : List α} {t : α} (h : t ∈ l) (hf : f t = true) : ∃ (i : Nat) (u : α), fidx f 0 l = (i : Int) ∧ l[i]? = some u ∧ f u = true := by
  rcases fidx_cases f l 0 with h0 | ⟨i, u, h1, h2, h3⟩
  · rw [fidx_none 0 h0 t h] at hf; cases hf
  · exact ⟨i, u, by rw [h1, Nat.zero_add], h2, h3⟩
end
/-- The bearers with b in its place. -/
def setO (l : List (Int × Int × Int)) (x y z : Int) : List (Int × Int × Int) :=
  if fidx (isId x) 0 l = -1 then l.take (posB x 0 l) ++ (x, y, z) :: l.drop (posB x 0 l) else l.set (fidx (isId x) 0 l).toNat (x, y, z)
theorem setO_no {l : List (Int × Int × Int)} {x y z : Int} (h : fidx (isId x) 0 l = -1) : setO l x y z = l.take (posB x 0 l) ++ (x, y, z) :: l.drop (posB x 0 l) := by rw [setO, if_pos h]
theorem setO_yes {l : List (Int × Int × Int)} {x y z : Int} {i : Nat} (h : fidx (isId x) 0 l = (i : Int)) : setO l x y z = l.set i (x, y, z) := by rw [setO, if_neg (by omega), h, Int.toNat_natCast]
theorem setO_len (l : List (Int × Int × Int)) (x y z : Int) : (setO l x y z).length ≤ l.length + 1 := by
  have := pos_le x 0 l
  unfold setO
  split
  · simp; omega
  · simp
def setV (l : List (Int × Int × Int)) (x y z : Int) : Bool := vBea (setO l x y z) (setO l x y z).length
/-- What SetBearer returns. -/
def setR (l : List (Int × Int × Int)) (x y z : Int) : List (Int × Int × Int) × Bool := if setV l x y z = true then (setO l x y z, true) else (l, false)
theorem setR_y {l : List (Int × Int × Int)} {x y z : Int} (h : setV l x y z = true) : setR l x y z = (setO l x y z, true) := by rw [setR, if_pos h]
theorem setR_n {l : List (Int × Int × Int)} {x y z : Int} (h : setV l x y z = false) : setR l x y z = (l, false) := by rw [setR, if_neg (by simp [h])]
theorem setR_len (l : List (Int × Int × Int)) (x y z : Int) : (setR l x y z).1.length ≤ l.length + 1 := by
  have := setO_len l x y z
  unfold setR
  split
  · exact this
  · simp
theorem mem_setO {l : List (Int × Int × Int)} {x y z : Int} : (x, y, z) ∈ setO l x y z := by
  unfold setO
  split
  · simp
  · rename_i h
    rcases fidx0 (isId x) l with h0 | ⟨i, u, h1, h2⟩
    · exact absurd h0 h
    · rw [h1, Int.toNat_natCast]
      obtain ⟨hi, _⟩ := List.getElem?_eq_some_iff.1 h2
      rw [List.mem_iff_getElem?]
      exact ⟨i, by rw [List.getElem?_set_self hi]⟩
theorem old_setO {l : List (Int × Int × Int)} {x y z : Int} {t : Int × Int × Int} (ht : t ∈ l) (hx : t.1 ≠ x) : t ∈ setO l x y z := by
  unfold setO
  split
  · rw [← List.take_append_drop (posB x 0 l) l] at ht
    rcases List.mem_append.1 ht with h | h
    · exact List.mem_append.2 (.inl h)
    · exact List.mem_append.2 (.inr (List.mem_cons_of_mem _ h))
  · rename_i h
    rcases fidx_cases (isId x) l 0 with h0 | ⟨i, u, h1, h2, h3⟩
    · exact absurd h0 h
    · rw [h1, Int.toNat_natCast, Nat.zero_add]
      obtain ⟨j, hj⟩ := List.mem_iff_getElem?.1 ht
      have hij : i ≠ j := by
        rintro rfl
        rw [hj] at h2
        injection h2 with h2
        subst h2
        exact hx (by simpa [isId] using h3)
      rw [List.mem_iff_getElem?]
      exact ⟨j, by rw [List.getElem?_set_ne hij]; exact hj⟩

/-! ### valid bearers -/
theorem vBea_iff (l : List (Int × Int × Int)) : vBea l l.length = true ↔ (∀ t ∈ l, (1 ≤ t.1 ∧ t.1 ≤ 8) ∧ (1 ≤ t.2.1 ∧ t.2.1 ≤ 4) ∧ (1 ≤ t.2.2 ∧ t.2.2 ≤ 1000)) ∧ l.Pairwise (fun a b => a.1 < b.1) ∧ l.length ≤ 4 := by
  have e : allOk (bOk l) l.length = true ↔ ∀ j, j < l.length → bOk l j = true := by simp [allOk]
  unfold vBea
  rw [Bool.and_eq_true, e, decide_eq_true_eq]
  constructor
  · rintro ⟨h, h4⟩
    have hr : ∀ t ∈ l, (1 ≤ t.1 ∧ t.1 ≤ 8) ∧ (1 ≤ t.2.1 ∧ t.2.1 ≤ 4) ∧ (1 ≤ t.2.2 ∧ t.2.2 ≤ 1000) := fun t ht => by
      obtain ⟨j, hj⟩ := List.mem_iff_getElem?.1 ht
      obtain ⟨hl, _⟩ := List.getElem?_eq_some_iff.1 hj
      have := h j hl
      obtain ⟨a, b, c⟩ := t
      simp only [bOk, hj, Bool.and_eq_true] at this
      exact ⟨inR_true this.1, inR_true this.2.1, inR_true this.2.2.1⟩
    have hs : ∀ j, j + 1 < l.length → ∀ a b, l[j]? = some a → l[j + 1]? = some b → a.1 < b.1 := fun j hj a b ha hb => by
      obtain ⟨a1, a2, a3⟩ := a
      obtain ⟨b1, b2, b3⟩ := b
      have := h (j + 1) hj
      rw [bOk_s hb ha] at this
      simp only [Bool.and_eq_true, Bool.not_eq_true', decide_eq_false_iff_not] at this
      show a1 < b1
      omega
    refine ⟨hr, ?_, by omega⟩
    rw [List.pairwise_iff_getElem]
    have key : ∀ d i, (hi : i + d + 1 < l.length) → (l[i]'(by omega)).1 < (l[i + d + 1]'hi).1 := by
      intro d
      induction d with
      | zero => intro i hi; exact hs i hi _ _ (List.getElem?_eq_getElem (by omega)) (List.getElem?_eq_getElem hi)
      | succ d ih =>
        intro i hi
        have h1 := ih i (by omega)
        have h2 := hs (i + d + 1) (by omega) _ _ (List.getElem?_eq_getElem (by omega)) (List.getElem?_eq_getElem (by omega))
        exact Int.lt_trans h1 h2
    intro i j hi hj hij
    obtain ⟨d, rfl⟩ : ∃ d, j = i + d + 1 := ⟨j - i - 1, by omega⟩
    exact key d i hj
  · rintro ⟨hr, hp, h4⟩
    refine ⟨fun j hj => ?_, by omega⟩
    have hx : l[j]? = some l[j] := List.getElem?_eq_getElem hj
    have := hr _ (List.getElem_mem hj)
    generalize l[j] = t at hx this
    obtain ⟨a, b, c⟩ := t
    rcases j with _ | j
    · rw [bOk_0 hx, inR_mk this.1.1 this.1.2, inR_mk this.2.1.1 this.2.1.2, inR_mk this.2.2.1 this.2.2.2]; rfl
    · have hy : l[j]? = some (l[j]'(by omega)) := List.getElem?_eq_getElem (by omega)
      have hlt : (l[j]'(by omega)).1 < (l[j + 1]'hj).1 := (List.pairwise_iff_getElem.1 hp) j (j + 1) (by omega) hj (by omega)
      have hz : l[j + 1]'hj = (a, b, c) := by
        rw [List.getElem?_eq_getElem hj] at hx
        injection hx
      rw [hz] at hlt
      generalize l[j]'(by omega) = u at hy hlt
      obtain ⟨p, q, r⟩ := u
      rw [bOk_s hx hy, inR_mk this.1.1 this.1.2, inR_mk this.2.1.1 this.2.1.2, inR_mk this.2.2.1 this.2.2.2]
      simp only [Bool.true_and, Bool.not_eq_true', decide_eq_false_iff_not]
      simp only at hlt
      omega
theorem rem_filter (id : Int) (l : List (Int × Int × Int)) : l.filterMap (fRem id) = l.filter (fun t => !(t.1 == id)) := by
  induction l with
  | nil => rfl
  | cons a r ih =>
    rw [List.filterMap_cons, List.filter_cons, ih]
    cases h : (a.1 == id) <;> simp [fRem, h]
theorem vBea_rem {l : List (Int × Int × Int)} (id : Int) (h : vBea l l.length = true) : vBea (l.filterMap (fRem id)) (l.filterMap (fRem id)).length = true := by
  rw [rem_filter]
  rw [vBea_iff] at h ⊢
  obtain ⟨h1, h2, h3⟩ := h
  refine ⟨fun t ht => h1 t (List.mem_filter.1 ht).1, h2.sublist List.filter_sublist, Nat.le_trans (List.length_filter_le _ _) h3⟩
theorem rem_short {l : List (Int × Int × Int)} {t : Int × Int × Int} (h : t ∈ l) : (l.filterMap (fRem t.1)).length < l.length := by
  rw [rem_filter]
  exact List.length_filter_lt_length_iff_exists.2 ⟨t, h, by simp⟩
/-- In valid bearers an ID names its place. -/
theorem vBea_one {l : List (Int × Int × Int)} (h : vBea l l.length = true) {i j : Nat} {t u : Int × Int × Int} (hi : l[i]? = some t) (hj : l[j]? = some u) (he : t.1 = u.1) : i = j := by
  obtain ⟨_, hp, _⟩ := (vBea_iff l).1 h
  obtain ⟨h1, e1⟩ := List.getElem?_eq_some_iff.1 hi
  obtain ⟨h2, e2⟩ := List.getElem?_eq_some_iff.1 hj
  rw [List.pairwise_iff_getElem] at hp
  rcases Nat.lt_trichotomy i j with h | h | h
  · have := hp i j h1 h2 h; rw [e1, e2] at this; omega
  · exact h
  · have := hp j i h2 h1 h; rw [e1, e2] at this; omega
theorem vBea_fidx {l : List (Int × Int × Int)} (h : vBea l l.length = true) {j : Nat} {p q r : Int} (hj : l[j]? = some (p, q, r)) : fidx (isId p) 0 l = (j : Int) := by
  have := fidx_first (f := isId p) 0 hj (by simp [isId]) (fun i u hi hu => by
    cases hh : isId p u
    · rfl
    · have := vBea_one h hu hj (by simpa [isId] using hh)
      omega)
  rwa [Nat.zero_add] at this

/-! ### admission -/
def remB (id : Int) (l : List (Int × Int × Int)) : List (Int × Int × Int) := l.filterMap (fRem id)
/-- The bearers that are left when enough have gone; none where one would have to go that may not. -/
def adm (cap y : Int) (l : List (Int × Int × Int)) : Option (List (Int × Int × Int)) :=
  if tRate l ≤ cap then some l
  else match bst l l.length with
    | none => none
    | some j => match _h : l[j]? with
      | none => none
      | some t => if t.2.1 ≤ y then none else adm cap y (remB t.1 l)
termination_by l.length
decreasing_by exact rem_short (List.mem_of_getElem? _h)
section
variable {cap y : Int} {l : List (Int × Int × Int)} {j : Nat} {p q r : Int}
theorem adm_end (h : tRate l ≤ cap) : adm cap y l = some l := by rw [adm, if_pos h]
theorem adm_none (h : cap < tRate l) (hb : bst l l.length = none) : adm cap y l = none := by rw [adm, if_neg (by omega), hb]
theorem adm_no (h : cap < tRate l) (hb : bst l l.length = some j) (hj : l[j]? = some (p, q, r)) (hq : q ≤ y) : adm cap y l = none := by
  rw [adm, if_neg (by omega), hb]
  simp only
  split
  · rfl
  · rename_i t ht
    rw [hj] at ht
    injection ht with ht
    subst ht
    rw [if_pos hq]
theorem adm_go (h : cap < tRate l) (hb : bst l l.length = some j) (hj : l[j]? = some (p, q, r)) (hq : y < q) : adm cap y l = adm cap y (l.filterMap (fRem p)) := by
  show _ = adm cap y (remB p l)
  rw [adm, if_neg (by omega), hb]
  simp only
  split
  · rename_i ht
    rw [hj] at ht
    cases ht
  · rename_i t ht
    rw [hj] at ht
    injection ht with ht
    subst ht
    rw [if_neg (by simp only; omega)]
end
/-- What an admission leaves. -/
theorem adm_inv (cap x y z : Int) (N : Nat) (l X : List (Int × Int × Int)) (hN : l.length ≤ N) (hv : vBea l l.length = true) (hb : (x, y, z) ∈ l) (h : adm cap y l = some X) :
    vBea X X.length = true ∧ tRate X ≤ cap ∧ (x, y, z) ∈ X ∧ ∀ t ∈ l, t ∈ X ∨ y < t.2.1 := by
  induction N generalizing l with
  | zero =>
    obtain rfl : l = [] := List.eq_nil_of_length_eq_zero (by omega)
    cases hb
  | succ N ih =>
    by_cases hc : tRate l ≤ cap
    · rw [adm_end hc] at h
      injection h with h
      subst h
      exact ⟨hv, hc, hb, fun t ht => .inl ht⟩
    · rcases bst_lt l l.length with ⟨_, h0⟩ | ⟨_, j, hj, h0⟩
      · rw [adm_none (by omega) h0] at h; cases h
      · obtain ⟨⟨p, q, r⟩, hx⟩ : ∃ t, l[j]? = some t := ⟨_, List.getElem?_eq_getElem hj⟩
        by_cases hq : q ≤ y
        · rw [adm_no (by omega) h0 hx hq] at h; cases h
        · rw [adm_go (by omega) h0 hx (by omega)] at h
          have hm : (p, q, r) ∈ l := List.mem_of_getElem? hx
          have hs := rem_short hm
          simp only at hs
          have hxp : x ≠ p := by
            rintro rfl
            obtain ⟨i, hi⟩ := List.mem_iff_getElem?.1 hb
            have := vBea_one hv hi hx rfl
            subst this
            rw [hi] at hx
            injection hx with hx
            simp only [Prod.mk.injEq] at hx
            omega
          obtain ⟨k1, k2, k3, k4⟩ := ih (l.filterMap (fRem p)) (by omega) (vBea_rem p hv) (by rw [rem_filter]; exact List.mem_filter.2 ⟨hb, by simpa using hxp⟩) h
          refine ⟨k1, k2, k3, fun t ht => ?_⟩
          by_cases htp : t.1 = p
          · obtain ⟨i, hi⟩ := List.mem_iff_getElem?.1 ht
            have := vBea_one hv hi hx htp
            subst this
            rw [hi] at hx
            injection hx with hx
            subst hx
            exact .inr (by simp only; omega)
          · exact k4 t (by rw [rem_filter]; exact List.mem_filter.2 ⟨ht, by simpa using htp⟩)
/-- What AdmitBearer returns. -/
def admR (l : List (Int × Int × Int)) (x y z cap : Int) : List (Int × Int × Int) × Bool :=
  if setV l x y z = true then (match adm cap y (setO l x y z) with
    | none => (l, false)
    | some X => (X, true)) else (l, false)
theorem admR_s {l : List (Int × Int × Int)} {x y z cap : Int} (h : setV l x y z = false) : admR l x y z cap = (l, false) := by rw [admR, if_neg (by simp [h])]
theorem admR_n {l : List (Int × Int × Int)} {x y z cap : Int} (h : setV l x y z = true) (h' : adm cap y (setO l x y z) = none) : admR l x y z cap = (l, false) := by rw [admR, if_pos h, h']
theorem admR_y {l X : List (Int × Int × Int)} {x y z cap : Int} (h : setV l x y z = true) (h' : adm cap y (setO l x y z) = some X) : admR l x y z cap = (X, true) := by rw [admR, if_pos h, h']
/-- The law of an admission. -/
theorem adm_law {l X : List (Int × Int × Int)} {x y z cap : Int} (h : admR l x y z cap = (X, true)) :
    vBea X X.length = true ∧ tRate X ≤ cap ∧ (∃ k : Nat, k < X.length ∧ fidx (isId x) 0 X = (k : Int) ∧ X[k]? = some (x, y, z)) ∧ ∀ t ∈ l, t.1 ≠ x → fidx (isId t.1) 0 X = -1 → y < t.2.1 := by
  cases hs : setV l x y z
  · rw [admR_s hs] at h; simp at h
  · cases ha : adm cap y (setO l x y z) with
    | none => rw [admR_n hs ha] at h; simp at h
    | some Y =>
      rw [admR_y hs ha] at h
      simp only [Prod.mk.injEq, and_true] at h
      subst h
      obtain ⟨h1, h2, h3, h4⟩ := adm_inv cap x y z _ _ _ (Nat.le_refl _) hs mem_setO ha
      refine ⟨h1, h2, ?_, fun t ht hx hf => ?_⟩
      · obtain ⟨k, hk⟩ := List.mem_iff_getElem?.1 h3
        obtain ⟨hl, _⟩ := List.getElem?_eq_some_iff.1 hk
        exact ⟨k, hl, vBea_fidx h1 hk, hk⟩
      · rcases h4 t (old_setO ht hx) with h | h
        · have := fidx_none 0 hf t h
          simp [isId] at this
        · exact h
theorem admR_len (l : List (Int × Int × Int)) (x y z cap : Int) : (admR l x y z cap).1.length ≤ l.length + 4 := by
  cases h : (admR l x y z cap) with
  | mk X ok =>
    cases ok
    · have : X = l := by
        cases hs : setV l x y z
        · rw [admR_s hs] at h; simp at h; exact h.symm
        · cases ha : adm cap y (setO l x y z) with
          | none => rw [admR_n hs ha] at h; simp at h; exact h.symm
          | some Y => rw [admR_y hs ha] at h; simp at h
      subst this
      simp
    · have := ((vBea_iff X).1 (adm_law h).1).2.2
      simp only
      omega
end Go.Proofs.Yticfmkfiibhafaa
