/- Rows of structs that hold a slice of integers each, behind an integer. No program in sight. -/
import Derived.Test.YtcndocopecnohaaRow
namespace Go.Sep
open Go.RowKit

def Nd2 (kd : IntKind) (w : World) (lo hi : Nat) (A : Option Addr) (n : Nat) (l : List (Int × List Int)) : Prop :=
  ∃ ss : List (Int × Sl), Rd w lo hi 2 A n (ss.flatMap cs1) ∧ (∀ s ∈ ss, s.2.ok kd w lo hi) ∧ ss.map (fun s : Int × Sl => (s.1, s.2.l)) = l
section
variable {kd : IntKind} {w w' : World} {lo hi n : Nat} {A : Option Addr} {l : List (Int × List Int)}
theorem Nd2.len (h : Nd2 kd w lo hi A n l) : l.length = n := by
  obtain ⟨ss, h1, _, rfl⟩ := h
  have := h1.len
  rw [flat_len cs1 2 cs1_len] at this
  rw [List.length_map]
  omega
theorem Nd2.below' (h : Nd2 kd w lo hi A n l) (hb : Below w.heap.size w w') : Nd2 kd w' lo hi A n l := by
  obtain ⟨ss, h1, h2, h3⟩ := h
  exact ⟨ss, h1.below' hb, fun s hs => (h2 s hs).below' hb, h3⟩
theorem Nd2.more (h : Nd2 kd w lo hi A n l) {lo' hi' : Nat} (g1 : lo' ≤ lo) (g2 : hi ≤ hi') : Nd2 kd w lo' hi' A n l := by
  obtain ⟨ss, h1, h2, h3⟩ := h
  exact ⟨ss, h1.more g1 g2, fun s hs => (h2 s hs).more g1 g2, h3⟩
theorem Nd2.chg (h : Nd2 kd w lo hi A n l) {a b : Nat} (hc : Chg a b w w') (hd : hi ≤ a ∨ b ≤ lo) : Nd2 kd w' lo hi A n l := by
  obtain ⟨ss, h1, h2, h3⟩ := h
  exact ⟨ss, h1.chg hc hd, fun s hs => (h2 s hs).chg hc hd, h3⟩
theorem Nd2.at_ (h : Nd2 kd w lo hi A n l) {k : Nat} (hk : k < n) :
    ∃ (b o : Nat) (x : Int) (s : Sl), A = some ⟨b, o, none⟩ ∧ b < w.heap.size ∧ l[k]? = some (x, s.l) ∧ w.cell? ⟨b, o + k * 2, none⟩ = some (.int .i64 x) ∧ w.cell? ⟨b, o + k * 2 + 1, none⟩ = some (.slice s.A s.n s.c) ∧ s.ok kd w lo hi := by
  obtain ⟨ss, h1, h2, rfl⟩ := h
  have hl := h1.len
  rw [flat_len cs1 2 cs1_len] at hl
  obtain ⟨b, o, rfl, _, _, hcell⟩ := h1.at_ (j := k * 2) (by omega)
  have hks : k < ss.length := by omega
  have e0 : (ss.flatMap cs1)[k * 2]? = some (.int .i64 ss[k].1) := by have := flat_at cs1 2 cs1_len ss k 0 (by omega); simpa [hks, cs1] using this
  have e1 : (ss.flatMap cs1)[k * 2 + 1]? = some (.slice ss[k].2.A ss[k].2.n ss[k].2.c) := by have := flat_at cs1 2 cs1_len ss k 1 (by omega); simpa [hks, cs1, Sl.v] using this
  have g0 := hcell _ _ e0
  exact ⟨b, o, ss[k].1, ss[k].2, rfl, World.block_lt_of_cell? w _ g0, by simp [hks], g0, by rw [Nat.add_assoc]; exact hcell _ _ e1, h2 _ (List.getElem_mem hks)⟩
end
/-- How many integers the slices hold. -/
def ndSum2 (l : List (Int × List Int)) : Nat := (l.map fun s => s.2.length).sum
theorem ndSum2_at {l : List (Int × List Int)} {k : Nat} {s : (Int × List Int)} (h : l[k]? = some s) : ndSum2 (l.drop k) = s.2.length + ndSum2 (l.drop (k + 1)) := by rw [at_take h]; simp [ndSum2]
theorem ndSum2_end {l : List (Int × List Int)} {n : Nat} (h : l.length = n) : ndSum2 (l.drop n) = 0 := by rw [List.drop_eq_nil_of_le (by omega)]; rfl
theorem ndSum2_le {l : List (Int × List Int)} {k : Nat} {s : (Int × List Int)} (h : l[k]? = some s) : s.2.length ≤ ndSum2 l := by
  induction l generalizing k with
  | nil => simp at h
  | cons a r ih =>
    have e : ndSum2 (a :: r) = a.2.length + ndSum2 r := by simp [ndSum2]
    rcases k with _ | k
    · simp at h; subst h; omega
    · have := ih (k := k) (by simpa using h); omega

/-- The slices of a list of structs, each in a stretch of blocks of its own. -/
def NL2 (w : World) (kd : IntKind) (E : TypeId) : Nat → Nat → List (Int × Sl) → Prop
  | lo, hi, [] => lo ≤ hi
  | lo, hi, s :: r => ∃ mid, lo ≤ mid ∧ Own w lo mid E 1 (.slice s.2.A s.2.n s.2.c) s.2.n (s.2.l.map (.int kd)) ∧ s.2.n ≤ s.2.c ∧ s.2.c ≤ maxLen ∧ NL2 w kd E mid hi r
section
variable {kd : IntKind} {E E2 : TypeId} {w w' : World} {lo mid hi n c : Nat} {A : Option Addr} {l : List (Int × List Int)} {ss a b : List (Int × Sl)} {s : (Int × Sl)}
theorem NL2.le (h : NL2 w kd E lo hi ss) : lo ≤ hi := by
  induction ss generalizing lo with
  | nil => exact h
  | cons s r ih => obtain ⟨m, h1, _, _, _, h5⟩ := h; exact Nat.le_trans h1 (ih h5)
theorem NL2.chg (h : NL2 w kd E lo hi ss) {a b : Nat} (hc : Chg a b w w') (hd : hi ≤ a ∨ b ≤ lo) : NL2 w' kd E lo hi ss := by
  induction ss generalizing lo with
  | nil => exact h
  | cons s r ih => obtain ⟨m, h1, h2, h3, h4, h5⟩ := h; have := h5.le; exact ⟨m, h1, h2.chg hc (by omega), h3, h4, ih h5 (by omega)⟩
theorem NL2.below' (h : NL2 w kd E lo hi ss) (hb : Below w.heap.size w w') : NL2 w' kd E lo hi ss := h.chg (Chg.of_below hb 0 0) (.inr (Nat.zero_le _))
theorem NL2.up (h : NL2 w kd E lo hi ss) {hi' : Nat} (hh : hi ≤ hi') : NL2 w kd E lo hi' ss := by
  induction ss generalizing lo with
  | nil => exact Nat.le_trans h hh
  | cons s r ih => obtain ⟨m, h1, h2, h3, h4, h5⟩ := h; exact ⟨m, h1, h2, h3, h4, ih h5⟩
theorem NL2.snoc (h : NL2 w kd E lo mid ss) (ho : Own w mid hi E 1 (.slice s.2.A s.2.n s.2.c) s.2.n (s.2.l.map (.int kd))) (h1 : s.2.n ≤ s.2.c) (h2 : s.2.c ≤ maxLen) (hm : mid ≤ hi) : NL2 w kd E lo hi (ss ++ [s]) := by
  induction ss generalizing lo with
  | nil => exact ⟨hi, Nat.le_trans h hm, ho.more h (Nat.le_refl _), h1, h2, Nat.le_refl _⟩
  | cons x r ih => obtain ⟨m, g1, g2, g3, g4, g5⟩ := h; exact ⟨m, g1, g2, g3, g4, ih g5⟩
theorem NL2.ok (h : NL2 w kd E lo hi ss) : ∀ s ∈ ss, s.2.ok kd w lo hi := by
  induction ss generalizing lo with
  | nil => intro s hs; cases hs
  | cons x r ih =>
    obtain ⟨m, g1, g2, g3, g4, g5⟩ := h
    intro s hs
    rcases List.mem_cons.1 hs with rfl | hs
    · exact ⟨g2.rd.more (Nat.le_refl _) g5.le, g3, g4⟩
    · exact (ih g5 s hs).more g1 (Nat.le_refl _)
theorem NL2.split (h : NL2 w kd E lo hi (a ++ s :: b)) : ∃ m1 m2, NL2 w kd E lo m1 a ∧ m1 ≤ m2 ∧ Own w m1 m2 E 1 (.slice s.2.A s.2.n s.2.c) s.2.n (s.2.l.map (.int kd)) ∧ s.2.n ≤ s.2.c ∧ s.2.c ≤ maxLen ∧ NL2 w kd E m2 hi b := by
  induction a generalizing lo with
  | nil => obtain ⟨m, g1, g2, g3, g4, g5⟩ := h; exact ⟨lo, m, Nat.le_refl _, g1, g2, g3, g4, g5⟩
  | cons x r ih =>
    obtain ⟨m, g1, g2, g3, g4, g5⟩ := h
    obtain ⟨m1, m2, k1, k2, k3, k4, k5, k6⟩ := ih g5
    exact ⟨m1, m2, ⟨m, g1, g2, g3, g4, k1⟩, k2, k3, k4, k5, k6⟩
theorem NL2.join (ha : NL2 w kd E lo mid (a ++ [s])) (hb : NL2 w kd E mid hi b) : NL2 w kd E lo hi (a ++ s :: b) := by
  induction a generalizing lo with
  | nil => obtain ⟨m, g1, g2, g3, g4, g5⟩ := ha; exact ⟨mid, Nat.le_trans g1 g5, g2.more (Nat.le_refl _) g5, g3, g4, hb⟩
  | cons x r ih => obtain ⟨m, g1, g2, g3, g4, g5⟩ := ha; exact ⟨m, g1, g2, g3, g4, ih g5⟩

/-- A row of such structs that the call owns, all of it. -/
def NOwn2 (w : World) (lo hi : Nat) (E : TypeId) (kd : IntKind) (E2 : TypeId) (A : Option Addr) (n c : Nat) (l : List (Int × List Int)) : Prop :=
  ∃ mid ss, lo ≤ mid ∧ Own w lo mid E 2 (.slice A n c) n (ss.flatMap cs1) ∧ NL2 w kd E2 mid hi ss ∧ ss.map (fun s : Int × Sl => (s.1, s.2.l)) = l
theorem NOwn2.nd (h : NOwn2 w lo hi E kd E2 A n c l) : Nd2 kd w lo hi A n l := by
  obtain ⟨m, ss, h1, h2, h3, h4⟩ := h
  exact ⟨ss, h2.rd.more (Nat.le_refl _) h3.le, fun s hs => (h3.ok s hs).more h1 (Nat.le_refl _), h4⟩
theorem NOwn2.chg (h : NOwn2 w lo hi E kd E2 A n c l) {a b : Nat} (hc : Chg a b w w') (hd : hi ≤ a ∨ b ≤ lo) : NOwn2 w' lo hi E kd E2 A n c l := by
  obtain ⟨m, ss, h1, h2, h3, h4⟩ := h
  have := h3.le
  exact ⟨m, ss, h1, h2.chg hc (by omega), h3.chg hc (by omega), h4⟩
theorem NOwn2.below' (h : NOwn2 w lo hi E kd E2 A n c l) (hb : Below w.heap.size w w') : NOwn2 w' lo hi E kd E2 A n c l := h.chg (Chg.of_below hb 0 0) (.inr (Nat.zero_le _))
theorem NOwn2.more (h : NOwn2 w lo hi E kd E2 A n c l) {lo' hi' : Nat} (g1 : lo' ≤ lo) (g2 : hi ≤ hi') : NOwn2 w lo' hi' E kd E2 A n c l := by
  obtain ⟨m, ss, h1, h2, h3, h4⟩ := h
  exact ⟨m, ss, Nat.le_trans g1 h1, h2.more g1 (Nat.le_refl _), h3.up g2, h4⟩
end
/-- What a function that makes such a row leaves. -/
def MkN2 (f : Value → Value) (w : World) (E : TypeId) (kd : IntKind) (E2 : TypeId) (n : Nat) (l : List (Int × List Int)) (e : Ending) (w' : World) : Prop :=
  ∃ A c, e = .returned (f (.slice A n c)) ∧ n ≤ c ∧ c ≤ maxLen ∧ NOwn2 w' w.heap.size w'.heap.size E kd E2 A n c l ∧ Below w.heap.size w w'
/-- Cells laid one after the other onto a row of zeros. -/
theorem push1_2 {pre zs : List Value} {m : Nat} (hp : pre.length = m) (hz : m < zs.length) (u : Value) : (pre ++ zs.drop m).set m u = (pre ++ [u]) ++ zs.drop (m + 1) := by
  rw [List.set_append_right _ _ (by omega), hp, Nat.sub_self, List.drop_eq_getElem_cons hz, List.set_cons_zero]
  simp
end Go.Sep
