/- Distances in a graph whose edges go both ways: the metric facts, told without a program. -/
import Derived.Test.YtcndocopecnohaaHopP
namespace Go.Hop

section
variable {adj : Nat → Nat → Prop}
theorem R_front {v u a k : Nat} (h : adj v u) (hr : R adj u k a) : R adj v (k + 1) a := by
  induction k generalizing a with
  | zero =>
    obtain rfl : a = u := hr
    exact .inr ⟨v, rfl, h⟩
  | succ k ih =>
    rcases hr with hr | ⟨x, hx, hxa⟩
    · exact .inl (ih hr)
    · exact .inr ⟨x, ih hx, hxa⟩
theorem R_symm (hs : ∀ u v, adj u v → adj v u) {a b k : Nat} (h : R adj a k b) : R adj b k a := by
  induction k generalizing b with
  | zero => exact Eq.symm h
  | succ k ih =>
    rcases h with h | ⟨u, hu, huv⟩
    · exact .inl (ih h)
    · exact R_front (hs u b huv) (ih hu)
theorem R_trans {a b c j k : Nat} (h : R adj a j b) (h' : R adj b k c) : R adj a (j + k) c := by
  induction k generalizing c with
  | zero =>
    obtain rfl : c = b := h'
    exact h
  | succ k ih =>
    rcases h' with h' | ⟨u, hu, huc⟩
    · exact .inl (ih h')
    · exact .inr ⟨u, ih hu, huc⟩
theorem IsD_symm (hs : ∀ u v, adj u v → adj v u) {a b : Nat} {d : Int} (h : IsD adj a b d) : IsD adj b a d := by
  rcases h with ⟨rfl, h⟩ | ⟨k, rfl, h1, h2⟩
  · exact .inl ⟨rfl, fun k hr => h k (R_symm hs hr)⟩
  · exact .inr ⟨k, rfl, R_symm hs h1, fun j hj hr => h2 j hj (R_symm hs hr)⟩
theorem IsD_tri {a b c : Nat} {x y z : Int} (h1 : IsD adj a b x) (h2 : IsD adj b c y) (h3 : IsD adj a c z) (hx : 0 ≤ x) (hy : 0 ≤ y) : 0 ≤ z ∧ z ≤ x + y := by
  rcases h1 with ⟨rfl, _⟩ | ⟨j, rfl, r1, _⟩
  · omega
  rcases h2 with ⟨rfl, _⟩ | ⟨k, rfl, r2, _⟩
  · omega
  have hr := R_trans r1 r2
  rcases h3 with ⟨_, h⟩ | ⟨l, rfl, _, hm⟩
  · exact absurd hr (h _)
  · refine ⟨by omega, ?_⟩
    rcases Nat.lt_or_ge (j + k) l with h | h
    · exact absurd hr (hm _ h)
    · omega
theorem IsD_zero {a b : Nat} {d : Int} (h : IsD adj a b d) : d = 0 ↔ a = b := by
  rcases h with ⟨rfl, h⟩ | ⟨k, rfl, h1, h2⟩
  · refine ⟨fun h0 => by omega, fun e => ?_⟩
    subst e
    exact absurd (show R adj a 0 a from rfl) (h 0)
  · refine ⟨fun h0 => ?_, fun e => ?_⟩
    · obtain rfl : k = 0 := by omega
      exact (show b = a from h1).symm
    · subst e
      rcases Nat.eq_zero_or_pos k with h0 | h0
      · omega
      · exact absurd (show R adj a 0 a from rfl) (h2 0 h0)
theorem IsD_one' (hns : ∀ u, ¬ adj u u) {a b : Nat} {d : Int} (h : IsD adj a b d) : d = 1 ↔ adj a b := by
  constructor
  · intro h1
    rcases h with ⟨rfl, _⟩ | ⟨k, rfl, h2, h3⟩
    · omega
    · obtain rfl : k = 1 := by omega
      rcases h2 with h2 | ⟨u, hu, hub⟩
      · exact absurd h2 (h3 0 (by omega))
      · obtain rfl : u = a := hu
        exact hub
  · intro hab
    have hr : R adj a 1 b := .inr ⟨a, rfl, hab⟩
    rcases h with ⟨_, h⟩ | ⟨k, rfl, h2, h3⟩
    · exact absurd hr (h 1)
    · rcases Nat.lt_or_ge 1 k with hk | hk
      · exact absurd hr (h3 1 hk)
      · rcases Nat.eq_zero_or_pos k with h0 | h0
        · subst h0
          obtain rfl : b = a := h2
          exact absurd hab (hns b)
        · omega
/-- On a shortest way there lies a cell at each smaller distance. -/
theorem IsD_chain {a n : Nat} (ha : a < n) (hlt : ∀ u v, adj u v → v < n) : ∀ (k v : Nat), IsD adj a v (k : Int) → ∃ S : List Nat, S.length = k + 1 ∧ S.Nodup ∧ (∀ x ∈ S, x < n) ∧ ∀ x ∈ S, ∃ j : Nat, j ≤ k ∧ IsD adj a x (j : Int) := by
  intro k
  induction k with
  | zero =>
    intro v h
    have e := (IsD_zero h).1 rfl
    subst e
    exact ⟨[a], rfl, by simp, by simpa using ha, fun x hx => by obtain rfl : x = a := by simpa using hx
                                                                exact ⟨0, Nat.le_refl _, h⟩⟩
  | succ k ih =>
    intro v h
    rcases h with ⟨h0, _⟩ | ⟨l, hl, h1, h2⟩
    · omega
    obtain rfl : l = k + 1 := by omega
    rcases h1 with h1 | ⟨u, hu, huv⟩
    · exact absurd h1 (h2 k (by omega))
    have hud : IsD adj a u (k : Int) := .inr ⟨k, rfl, hu, fun j hj hr => h2 (j + 1) (by omega) (.inr ⟨u, hr, huv⟩)⟩
    obtain ⟨S, s1, s2, s3, s4⟩ := ih u hud
    have hv : IsD adj a v ((k + 1 : Nat) : Int) := .inr ⟨k + 1, rfl, .inr ⟨u, hu, huv⟩, h2⟩
    have hnv : v ∉ S := fun hm => by
      obtain ⟨j, hj, hd⟩ := s4 v hm
      have := IsD_one hv hd
      omega
    refine ⟨v :: S, by simp [s1], List.nodup_cons.2 ⟨hnv, s2⟩, fun x hx => ?_, fun x hx => ?_⟩
    · rcases List.mem_cons.1 hx with rfl | hx
      · exact hlt u x huv
      · exact s3 x hx
    · rcases List.mem_cons.1 hx with rfl | hx
      · exact ⟨k + 1, Nat.le_refl _, hv⟩
      · obtain ⟨j, hj, hd⟩ := s4 x hx
        exact ⟨j, by omega, hd⟩
theorem IsD_lt {a n v : Nat} {d : Int} (ha : a < n) (hlt : ∀ u v, adj u v → v < n) (h : IsD adj a v d) : d < n := by
  have h' := h
  rcases h with ⟨rfl, _⟩ | ⟨k, rfl, _, _⟩
  · omega
  · obtain ⟨S, s1, s2, s3, _⟩ := IsD_chain ha hlt k v h'
    have := nodup_len n s2 s3
    omega
end
end Go.Hop
