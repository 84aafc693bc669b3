/- Rows of structs that hold a slice of integers each. No program in sight. -/
import Derived.Test.YtbfmdnlfbadokaaRow
namespace Go.Sep
open Go.RowKit

def Nd1 (kd : IntKind) (w : World) (lo hi : Nat) (A : Option Addr) (n : Nat) (l : List (List Int)) : Prop :=
  ∃ ss : List Sl, Rd w lo hi 1 A n (ss.flatMap cs0) ∧ (∀ s ∈ ss, s.ok kd w lo hi) ∧ ss.map Sl.l = l
section
variable {kd : IntKind} {w w' : World} {lo hi n : Nat} {A : Option Addr} {l : List (List Int)}
theorem Nd1.len (h : Nd1 kd w lo hi A n l) : l.length = n := by
  obtain ⟨ss, h1, _, rfl⟩ := h
  have := h1.len
  rw [flat_len cs0 1 cs0_len] at this
  rw [List.length_map]
  omega
theorem Nd1.below' (h : Nd1 kd w lo hi A n l) (hb : Below w.heap.size w w') : Nd1 kd w' lo hi A n l := by
  obtain ⟨ss, h1, h2, h3⟩ := h
  exact ⟨ss, h1.below' hb, fun s hs => (h2 s hs).below' hb, h3⟩
theorem Nd1.more (h : Nd1 kd w lo hi A n l) {lo' hi' : Nat} (g1 : lo' ≤ lo) (g2 : hi ≤ hi') : Nd1 kd w lo' hi' A n l := by
  obtain ⟨ss, h1, h2, h3⟩ := h
  exact ⟨ss, h1.more g1 g2, fun s hs => (h2 s hs).more g1 g2, h3⟩
theorem Nd1.chg (h : Nd1 kd w lo hi A n l) {a b : Nat} (hc : Chg a b w w') (hd : hi ≤ a ∨ b ≤ lo) : Nd1 kd w' lo hi A n l := by
  obtain ⟨ss, h1, h2, h3⟩ := h
  exact ⟨ss, h1.chg hc hd, fun s hs => (h2 s hs).chg hc hd, h3⟩
theorem Nd1.at_ (h : Nd1 kd w lo hi A n l) {k : Nat} (hk : k < n) :
    ∃ (b o : Nat) (s : Sl), A = some ⟨b, o, none⟩ ∧ b < w.heap.size ∧ l[k]? = some s.l ∧ w.cell? ⟨b, o + k, none⟩ = some (.slice s.A s.n s.c) ∧ s.ok kd w lo hi := by
  obtain ⟨ss, h1, h2, rfl⟩ := h
  have hl := h1.len
  rw [flat_len cs0 1 cs0_len] at hl
  obtain ⟨b, o, rfl, _, _, hcell⟩ := h1.at_ (j := k * 1) (by omega)
  have hks : k < ss.length := by omega
  have e1 : (ss.flatMap cs0)[k]? = some (.slice ss[k].A ss[k].n ss[k].c) := by have := flat_at cs0 1 cs0_len ss k 0 (by omega); simpa [hks, cs0, Sl.v] using this
  have g1 := hcell _ _ e1
  exact ⟨b, o, ss[k], rfl, World.block_lt_of_cell? w _ g1, by simp [hks], g1, h2 _ (List.getElem_mem hks)⟩
end
/-- How many integers the slices hold. -/
def ndSum1 (l : List (List Int)) : Nat := (l.map fun s => s.length).sum
theorem ndSum1_at {l : List (List Int)} {k : Nat} {s : (List Int)} (h : l[k]? = some s) : ndSum1 (l.drop k) = s.length + ndSum1 (l.drop (k + 1)) := by rw [at_take h]; simp [ndSum1]
theorem ndSum1_end {l : List (List Int)} {n : Nat} (h : l.length = n) : ndSum1 (l.drop n) = 0 := by rw [List.drop_eq_nil_of_le (by omega)]; rfl
theorem ndSum1_le {l : List (List Int)} {k : Nat} {s : (List Int)} (h : l[k]? = some s) : s.length ≤ ndSum1 l := by
  induction l generalizing k with
  | nil => simp at h
  | cons a r ih =>
    have e : ndSum1 (a :: r) = a.length + ndSum1 r := by simp [ndSum1]
    rcases k with _ | k
    · simp at h; subst h; omega
    · have := ih (k := k) (by simpa using h); omega

/-- The slices of a list of structs, each in a stretch of blocks of its own. -/
def NL1 (w : World) (kd : IntKind) (E : TypeId) : Nat → Nat → List Sl → Prop
  | lo, hi, [] => lo ≤ hi
  | lo, hi, s :: r => ∃ mid, lo ≤ mid ∧ Own w lo mid E 1 (.slice s.A s.n s.c) s.n (s.l.map (.int kd)) ∧ s.n ≤ s.c ∧ s.c ≤ maxLen ∧ NL1 w kd E mid hi r
section
variable {kd : IntKind} {E E2 : TypeId} {w w' : World} {lo mid hi n c : Nat} {A : Option Addr} {l : List (List Int)} {ss a b : List Sl} {s : Sl}
theorem NL1.le (h : NL1 w kd E lo hi ss) : lo ≤ hi := by
  induction ss generalizing lo with
  | nil => exact h
  | cons s r ih => obtain ⟨m, h1, _, _, _, h5⟩ := h; exact Nat.le_trans h1 (ih h5)
theorem NL1.chg (h : NL1 w kd E lo hi ss) {a b : Nat} (hc : Chg a b w w') (hd : hi ≤ a ∨ b ≤ lo) : NL1 w' kd E lo hi ss := by
  induction ss generalizing lo with
  | nil => exact h
  | cons s r ih => obtain ⟨m, h1, h2, h3, h4, h5⟩ := h; have := h5.le; exact ⟨m, h1, h2.chg hc (by omega), h3, h4, ih h5 (by omega)⟩
theorem NL1.below' (h : NL1 w kd E lo hi ss) (hb : Below w.heap.size w w') : NL1 w' kd E lo hi ss := h.chg (Chg.of_below hb 0 0) (.inr (Nat.zero_le _))
theorem NL1.up (h : NL1 w kd E lo hi ss) {hi' : Nat} (hh : hi ≤ hi') : NL1 w kd E lo hi' ss := by
  induction ss generalizing lo with
  | nil => exact Nat.le_trans h hh
  | cons s r ih => obtain ⟨m, h1, h2, h3, h4, h5⟩ := h; exact ⟨m, h1, h2, h3, h4, ih h5⟩
theorem NL1.snoc (h : NL1 w kd E lo mid ss) (ho : Own w mid hi E 1 (.slice s.A s.n s.c) s.n (s.l.map (.int kd))) (h1 : s.n ≤ s.c) (h2 : s.c ≤ maxLen) (hm : mid ≤ hi) : NL1 w kd E lo hi (ss ++ [s]) := by
  induction ss generalizing lo with
  | nil => exact ⟨hi, Nat.le_trans h hm, ho.more h (Nat.le_refl _), h1, h2, Nat.le_refl _⟩
  | cons x r ih => obtain ⟨m, g1, g2, g3, g4, g5⟩ := h; exact ⟨m, g1, g2, g3, g4, ih g5⟩
theorem NL1.ok (h : NL1 w kd E lo hi ss) : ∀ s ∈ ss, s.ok kd w lo hi := by
  induction ss generalizing lo with
  | nil => intro s hs; cases hs
  | cons x r ih =>
    obtain ⟨m, g1, g2, g3, g4, g5⟩ := h
    intro s hs
    rcases List.mem_cons.1 hs with rfl | hs
    · exact ⟨g2.rd.more (Nat.le_refl _) g5.le, g3, g4⟩
    · exact (ih g5 s hs).more g1 (Nat.le_refl _)
theorem NL1.split (h : NL1 w kd E lo hi (a ++ s :: b)) : ∃ m1 m2, NL1 w kd E lo m1 a ∧ m1 ≤ m2 ∧ Own w m1 m2 E 1 (.slice s.A s.n s.c) s.n (s.l.map (.int kd)) ∧ s.n ≤ s.c ∧ s.c ≤ maxLen ∧ NL1 w kd E m2 hi b := by
  induction a generalizing lo with
  | nil => obtain ⟨m, g1, g2, g3, g4, g5⟩ := h; exact ⟨lo, m, Nat.le_refl _, g1, g2, g3, g4, g5⟩
  | cons x r ih =>
    obtain ⟨m, g1, g2, g3, g4, g5⟩ := h
    obtain ⟨m1, m2, k1, k2, k3, k4, k5, k6⟩ := ih g5
    exact ⟨m1, m2, ⟨m, g1, g2, g3, g4, k1⟩, k2, k3, k4, k5, k6⟩
theorem NL1.join (ha : NL1 w kd E lo mid (a ++ [s])) (hb : NL1 w kd E mid hi b) : NL1 w kd E lo hi (a ++ s :: b) := by
  induction a generalizing lo with
  | nil => obtain ⟨m, g1, g2, g3, g4, g5⟩ := ha; exact ⟨mid, Nat.le_trans g1 g5, g2.more (Nat.le_refl _) g5, g3, g4, hb⟩
  | cons x r ih => obtain ⟨m, g1, g2, g3, g4, g5⟩ := ha; exact ⟨m, g1, g2, g3, g4, ih g5⟩

/-- A row of such structs that the call owns, all of it. -/
def NOwn1 (w : World) (lo hi : Nat) (E : TypeId) (kd : IntKind) (E2 : TypeId) (A : Option Addr) (n c : Nat) (l : List (List Int)) : Prop :=
  ∃ mid ss, lo ≤ mid ∧ Own w lo mid E 1 (.slice A n c) n (ss.flatMap cs0) ∧ NL1 w kd E2 mid hi ss ∧ ss.map Sl.l = l
theorem NOwn1.nd (h : NOwn1 w lo hi E kd E2 A n c l) : Nd1 kd w lo hi A n l := by
  obtain ⟨m, ss, h1, h2, h3, h4⟩ := h
  exact ⟨ss, h2.rd.more (Nat.le_refl _) h3.le, fun s hs => (h3.ok s hs).more h1 (Nat.le_refl _), h4⟩
theorem NOwn1.chg (h : NOwn1 w lo hi E kd E2 A n c l) {a b : Nat} (hc : Chg a b w w') (hd : hi ≤ a ∨ b ≤ lo) : NOwn1 w' lo hi E kd E2 A n c l := by
  obtain ⟨m, ss, h1, h2, h3, h4⟩ := h
  have := h3.le
  exact ⟨m, ss, h1, h2.chg hc (by omega), h3.chg hc (by omega), h4⟩
theorem NOwn1.below' (h : NOwn1 w lo hi E kd E2 A n c l) (hb : Below w.heap.size w w') : NOwn1 w' lo hi E kd E2 A n c l := h.chg (Chg.of_below hb 0 0) (.inr (Nat.zero_le _))
theorem NOwn1.more (h : NOwn1 w lo hi E kd E2 A n c l) {lo' hi' : Nat} (g1 : lo' ≤ lo) (g2 : hi ≤ hi') : NOwn1 w lo' hi' E kd E2 A n c l := by
  obtain ⟨m, ss, h1, h2, h3, h4⟩ := h
  exact ⟨m, ss, Nat.le_trans g1 h1, h2.more g1 (Nat.le_refl _), h3.up g2, h4⟩
end
/-- What a function that makes such a row leaves. -/
def MkN1 (f : Value → Value) (w : World) (E : TypeId) (kd : IntKind) (E2 : TypeId) (n : Nat) (l : List (List Int)) (e : Ending) (w' : World) : Prop :=
  ∃ A c, e = .returned (f (.slice A n c)) ∧ n ≤ c ∧ c ≤ maxLen ∧ NOwn1 w' w.heap.size w'.heap.size E kd E2 A n c l ∧ Below w.heap.size w w'
/-- Cells laid one after the other onto a row of zeros. -/
theorem push1_1 {pre zs : List Value} {m : Nat} (hp : pre.length = m) (hz : m < zs.length) (u : Value) : (pre ++ zs.drop m).set m u = (pre ++ [u]) ++ zs.drop (m + 1) := by
  rw [List.set_append_right _ _ (by omega), hp, Nat.sub_self, List.drop_eq_getElem_cons hz, List.set_cons_zero]
  simp
end Go.Sep
