/- Distances in a graph of n cells, given by a function that tells whether one cell names another: what a search from a cell finds, told without a program. -/
import Derived.Test.YtcndocopecnohaaSep
namespace Go.Hop

/-- v lies at most k steps from a. -/
def R (adj : Nat → Nat → Prop) (a : Nat) : Nat → Nat → Prop
  | 0, v => v = a
  | k + 1, v => R adj a k v ∨ ∃ u, R adj a k u ∧ adj u v
/-- d is the distance from a to v: the least number of steps; -1 where no number serves. -/
def IsD (adj : Nat → Nat → Prop) (a v : Nat) (d : Int) : Prop :=
  (d = -1 ∧ ∀ k, ¬ R adj a k v) ∨ ∃ k : Nat, d = k ∧ R adj a k v ∧ ∀ j, j < k → ¬ R adj a j v
section
variable {adj : Nat → Nat → Prop} {a : Nat}
theorem R_mono {j k v : Nat} (h : R adj a j v) (hjk : j ≤ k) : R adj a k v := by
  induction k with
  | zero => obtain rfl : j = 0 := by omega
            exact h
  | succ k ih =>
    by_cases he : j = k + 1
    · subst he; exact h
    · exact .inl (ih (by omega))
theorem IsD_one {v : Nat} {d e : Int} (h : IsD adj a v d) (h' : IsD adj a v e) : d = e := by
  rcases h with ⟨rfl, h⟩ | ⟨k, rfl, h1, h2⟩ <;> rcases h' with ⟨rfl, h'⟩ | ⟨k', rfl, h1', h2'⟩
  · rfl
  · exact absurd h1' (h k')
  · exact absurd h1 (h' k)
  · rcases Nat.lt_trichotomy k k' with hh | hh | hh
    · exact absurd h1 (h2' k hh)
    · rw [hh]
    · exact absurd h1' (h2 k' hh)

/-! ### a search with a queue -/
/-- What holds between two rounds: D the distances found so far (-1: not found yet), Q1 the found cells of the level d that are still to be looked at, Q2 those of the next level. c: a cell that is being looked at, its neighbors in S still to come. -/
structure BI (adj : Nat → Nat → Prop) (a n : Nat) (D : Nat → Int) (d : Nat) (Q1 Q2 : List Nat) (c : Option Nat) : Prop where
  sound : ∀ v, v < n → 0 ≤ D v → R adj a (D v).toNat v ∧ D v ≤ d + 1
  comp : ∀ v, v < n → ∀ j, j ≤ d → R adj a j v → 0 ≤ D v ∧ D v ≤ j
  q1 : ∀ v, v ∈ Q1 → v < n ∧ D v = d
  q2 : ∀ v, v ∈ Q2 → v < n ∧ D v = d + 1
  done : ∀ u, u < n → 0 ≤ D u → D u ≤ d → u ∉ Q1 → c ≠ some u → ∀ v, v < n → adj u v → 0 ≤ D v
  last : ∀ v, v < n → D v = d + 1 → v ∈ Q2
  cur : ∀ u, c = some u → u < n ∧ D u = d
theorem BI_start {n : Nat} {D : Nat → Int} (ha : a < n) (h0 : D a = 0) (h : ∀ v, v < n → v ≠ a → D v = -1) : BI adj a n D 0 [a] [] none where
  sound v hv hd := by
    by_cases he : v = a
    · subst he; rw [h0]; exact ⟨rfl, by omega⟩
    · have := h v hv he; omega
  comp v hv j hj hr := by
    obtain rfl : j = 0 := by omega
    obtain rfl : v = a := hr
    rw [h0]; exact ⟨by omega, by omega⟩
  q1 v hv := by
    obtain rfl : v = a := by simpa using hv
    exact ⟨ha, by rw [h0]; rfl⟩
  q2 v hv := by cases hv
  done u hu h1 h2 h3 _ := by
    by_cases he : u = a
    · subst he; simp at h3
    · have := h u hu he; omega
  last v hv hd := by
    by_cases he : v = a
    · subst he; omega
    · have := h v hv he; omega
  cur u hu := by cases hu
/-- The next level. -/
theorem BI_level {n : Nat} {D : Nat → Int} {d : Nat} {Q2 : List Nat} (hb : ∀ u v, R adj a d u → adj u v → u < n) (h : BI adj a n D d [] Q2 none) : BI adj a n D (d + 1) Q2 [] none where
  sound v hv hd := ⟨(h.sound v hv hd).1, by have := (h.sound v hv hd).2; omega⟩
  comp v hv j hj hr := by
    by_cases hjd : j ≤ d
    · exact h.comp v hv j hjd hr
    · obtain rfl : j = d + 1 := by omega
      rcases hr with hr | ⟨u, hu, hadj⟩
      · have := h.comp v hv d (Nat.le_refl _) hr
        exact ⟨this.1, by omega⟩
      · have hun := hb u v hu hadj
        have h1 := h.comp u hun d (Nat.le_refl _) hu
        have h2 := h.done u hun h1.1 h1.2 (by simp) (by simp) v hv hadj
        exact ⟨h2, by have := (h.sound v hv h2).2; omega⟩
  q1 v hv := by have := h.q2 v hv; exact ⟨this.1, by omega⟩
  q2 v hv := by cases hv
  done u hu h1 h2 h3 _ v hv hadj := by
    by_cases he : D u = d + 1
    · exact absurd (h.last u hu he) h3
    · exact h.done u hu h1 (by omega) (by simp) (by simp) v hv hadj
  last v hv hd := by have := (h.sound v hv (by omega)).2; omega
  cur u hu := by cases hu
/-- A cell is taken from the queue. -/
theorem BI_pop {n : Nat} {D : Nat → Int} {d c : Nat} {Q1 Q2 : List Nat} (h : BI adj a n D d (c :: Q1) Q2 none) : BI adj a n D d Q1 Q2 (some c) where
  sound := h.sound
  comp := h.comp
  q1 v hv := h.q1 v (List.mem_cons_of_mem _ hv)
  q2 := h.q2
  done u hu h1 h2 h3 h4 := h.done u hu h1 h2 (by
    intro hm
    rcases List.mem_cons.1 hm with rfl | hm
    · exact h4 rfl
    · exact h3 hm) (by simp)
  last := h.last
  cur u hu := by
    injection hu with hu
    subst hu
    exact h.q1 c (by simp)
/-- A neighbor that was not found yet. -/
theorem BI_new {n : Nat} {D : Nat → Int} {d c x : Nat} {Q1 Q2 : List Nat} (h : BI adj a n D d Q1 Q2 (some c)) (hx : x < n) (hadj : adj c x) (hD : D x < 0) :
    BI adj a n (fun v => if v = x then ((d : Int) + 1) else D v) d Q1 (Q2 ++ [x]) (some c) where
  sound v hv hd := by
    by_cases he : v = x
    · subst he
      simp only [if_true]
      have hc := h.cur c rfl
      have := (h.sound c hc.1 (by omega)).1
      rw [hc.2, Int.toNat_natCast] at this
      refine ⟨?_, by omega⟩
      rw [show ((d : Int) + 1).toNat = d + 1 by omega]
      exact .inr ⟨c, this, hadj⟩
    · simp only [he, if_false] at hd ⊢
      exact h.sound v hv hd
  comp v hv j hj hr := by
    by_cases he : v = x
    · subst he
      have := h.comp v hv j hj hr
      omega
    · simp only [he, if_false]
      exact h.comp v hv j hj hr
  q1 v hv := by
    have := h.q1 v hv
    have he : v ≠ x := by rintro rfl; omega
    simp only [he, if_false]
    exact this
  q2 v hv := by
    rcases List.mem_append.1 hv with hv | hv
    · have := h.q2 v hv
      have he : v ≠ x := by rintro rfl; omega
      simp only [he, if_false]
      exact this
    · obtain rfl : v = x := by simpa using hv
      simp only [if_true]
      exact ⟨hx, trivial⟩
  done u hu h1 h2 h3 h4 v hv hadj' := by
    by_cases he : u = x
    · subst he
      simp only [if_true] at h2
      omega
    · simp only [he, if_false] at h1 h2
      have := h.done u hu h1 h2 h3 h4 v hv hadj'
      by_cases hvx : v = x
      · subst hvx; simp only [if_true]; omega
      · simp only [hvx, if_false]; exact this
  last v hv hd := by
    by_cases he : v = x
    · subst he; simp
    · simp only [he, if_false] at hd
      exact List.mem_append.2 (.inl (h.last v hv hd))
  cur u hu := by
    have := h.cur u hu
    have he : u ≠ x := by rintro rfl; omega
    simp only [he, if_false]
    exact this
/-- All its neighbors are found. -/
theorem BI_shut {n : Nat} {D : Nat → Int} {d c : Nat} {Q1 Q2 : List Nat} (h : BI adj a n D d Q1 Q2 (some c)) (hall : ∀ v, v < n → adj c v → 0 ≤ D v) : BI adj a n D d Q1 Q2 none where
  sound := h.sound
  comp := h.comp
  q1 := h.q1
  q2 := h.q2
  done u hu h1 h2 h3 _ := by
    by_cases he : u = c
    · subst he; exact hall
    · exact h.done u hu h1 h2 h3 (by intro hh; injection hh with hh; exact he hh.symm)
  last := h.last
  cur u hu := by cases hu
/-- The search has come to b. -/
theorem BI_found {n : Nat} {D : Nat → Int} {d b : Nat} {Q1 Q2 : List Nat} {c : Option Nat} (h : BI adj a n D d Q1 Q2 c) (hb : b < n) (hD : 0 ≤ D b) : IsD adj a b (D b) := by
  refine .inr ⟨(D b).toNat, by omega, (h.sound b hb hD).1, fun j hj hr => ?_⟩
  by_cases hjd : j ≤ d
  · have := (h.comp b hb j hjd hr).2
    omega
  · have := (h.sound b hb hD).2
    omega
/-- The queue is empty. -/
theorem BI_empty {n : Nat} {D : Nat → Int} {d b : Nat} (ha : a < n) (hadj : ∀ u v, adj u v → v < n) (h : BI adj a n D d [] [] none) (_hb : b < n) (hD : D b < 0) : IsD adj a b (-1) := by
  have key : ∀ k v, R adj a k v → v < n ∧ 0 ≤ D v := by
    intro k
    induction k with
    | zero =>
      rintro v rfl
      exact ⟨ha, (h.comp v ha 0 (Nat.zero_le _) rfl).1⟩
    | succ k ih =>
      rintro v (hr | ⟨u, hu, huv⟩)
      · exact ih v hr
      · obtain ⟨h1, h2⟩ := ih u hu
        have h3 := hadj u v huv
        refine ⟨h3, h.done u h1 h2 ?_ (by simp) (by simp) v h3 huv⟩
        have h4 := (h.sound u h1 h2).2
        by_cases he : D u = d + 1
        · exact absurd (h.last u h1 he) (by simp)
        · omega
  exact .inl ⟨rfl, fun k hr => by have := (key k b hr).2; omega⟩

/-! ### a search level by level -/
/-- What holds in the middle of a level: S the cells seen, those before f looked at; those before E lie within s steps. -/
structure SI (adj : Nat → Nat → Prop) (a n b s f0 f E : Nat) (S : List Nat) : Prop where
  nd : S.Nodup
  lt : ∀ v, v ∈ S → v < n
  lvl : ∀ v, v ∈ S.take E ↔ R adj a s v
  low : ∀ j v, j < s → R adj a j v → v ∈ S.take f0
  new : ∀ v, v ∈ S → R adj a (s + 1) v
  nob : b ∉ S.take f
  done : ∀ u, u ∈ S.take f → ∀ v, adj u v → v ∈ S
  le : f0 ≤ f ∧ f ≤ E ∧ E ≤ S.length
theorem SI_start {n b : Nat} (ha : a < n) : SI adj a n b 0 0 0 1 [a] where
  nd := by simp
  lt v hv := by
    obtain rfl : v = a := by simpa using hv
    exact ha
  lvl v := by simp [R]
  low j v hj := by omega
  new v hv := by
    obtain rfl : v = a := by simpa using hv
    exact .inl rfl
  nob := by simp
  done u hu := by simp at hu
  le := ⟨Nat.le_refl _, by omega, by simp⟩
/-- b stands at the place that is looked at. -/
theorem SI_found {n b s f0 f E : Nat} {S : List Nat} (h : SI adj a n b s f0 f E S) (hf : f < E) (hb : S[f]? = some b) : IsD adj a b s := by
  refine .inr ⟨s, rfl, (h.lvl b).1 ?_, fun j hj hr => ?_⟩
  · rw [List.mem_iff_getElem?]
    exact ⟨f, by rw [List.getElem?_take, if_pos hf]; exact hb⟩
  · have := h.low j b hj hr
    refine h.nob ?_
    have hle := h.le.1
    rw [show S.take f0 = (S.take f).take f0 by rw [List.take_take]; congr 1; omega] at this
    exact List.mem_of_mem_take this
theorem SI_step {n b s f0 f E : Nat} {S : List Nat} {u : Nat} (h : SI adj a n b s f0 f E S) (hf : f < E) (hu : S[f]? = some u) (hub : u ≠ b) (hall : ∀ v, adj u v → v ∈ S) : SI adj a n b s f0 (f + 1) E S := by
  obtain ⟨hl, he⟩ := List.getElem?_eq_some_iff.1 hu
  have ht : S.take (f + 1) = S.take f ++ [u] := by rw [List.take_succ_eq_append_getElem hl, he]
  refine ⟨h.nd, h.lt, h.lvl, h.low, h.new, ?_, ?_, ⟨by have := h.le.1; omega, hf, h.le.2.2⟩⟩
  · rw [ht]
    intro hm
    rcases List.mem_append.1 hm with hm | hm
    · exact h.nob hm
    · exact hub (by simpa using hm : b = u).symm
  · rw [ht]
    intro x hx
    rcases List.mem_append.1 hx with hx | hx
    · exact h.done x hx
    · obtain rfl : x = u := by simpa using hx
      exact hall
/-- A neighbor that was not seen yet. -/
theorem SI_new {n b s f0 f E : Nat} {S : List Nat} {u x : Nat} (h : SI adj a n b s f0 f E S) (hf : f < E) (hu : S[f]? = some u) (hadj : adj u x) (hx : x < n) (hns : x ∉ S) : SI adj a n b s f0 f E (S ++ [x]) := by
  have hE := h.le.2.2
  have ht : ∀ k, k ≤ E → (S ++ [x]).take k = S.take k := fun k hk => List.take_append_of_le_length (by omega)
  have huR : R adj a s u := (h.lvl u).1 (by
    rw [List.mem_iff_getElem?]
    exact ⟨f, by rw [List.getElem?_take, if_pos hf]; exact hu⟩)
  refine ⟨?_, ?_, ?_, ?_, ?_, ?_, ?_, ⟨h.le.1, h.le.2.1, by simp; omega⟩⟩
  · rw [List.nodup_append]
    exact ⟨h.nd, by simp, by intro p hp q hq; obtain rfl : q = x := by simpa using hq
                             rintro rfl; exact hns hp⟩
  · intro v hv
    rcases List.mem_append.1 hv with hv | hv
    · exact h.lt v hv
    · obtain rfl : v = x := by simpa using hv
      exact hx
  · intro v; rw [ht E (Nat.le_refl _)]; exact h.lvl v
  · intro j v hj hr; rw [ht f0 (by have := h.le; omega)]; exact h.low j v hj hr
  · intro v hv
    rcases List.mem_append.1 hv with hv | hv
    · exact h.new v hv
    · obtain rfl : v = x := by simpa using hv
      exact .inr ⟨u, huR, hadj⟩
  · rw [ht f (by omega)]; exact h.nob
  · rw [ht f (by omega)]
    intro y hy v hv
    exact List.mem_append.2 (.inl (h.done y hy v hv))
/-- The next level. -/
theorem SI_level {n b s f0 E : Nat} {S : List Nat} (h : SI adj a n b s f0 E E S) : SI adj a n b (s + 1) E E S.length S where
  nd := h.nd
  lt := h.lt
  lvl v := by
    rw [List.take_length]
    refine ⟨h.new v, fun hr => ?_⟩
    rcases hr with hr | ⟨u, hu, hadj⟩
    · exact List.mem_of_mem_take ((h.lvl v).2 hr)
    · exact h.done u ((h.lvl u).2 hu) v hadj
  low j v hj hr := (h.lvl v).2 (R_mono hr (by omega))
  new v hv := .inl (h.new v hv)
  nob := h.nob
  done := h.done
  le := ⟨Nat.le_refl _, h.le.2.2, Nat.le_refl _⟩
/-- Nothing is left to be looked at. -/
theorem SI_end {n b s f0 : Nat} {S : List Nat} (h : SI adj a n b (s + 1) f0 S.length S.length S) : IsD adj a b (-1) := by
  have hl := h.lvl
  have hd := h.done
  have hn := h.nob
  rw [List.take_length] at hl hd hn
  have key : ∀ k v, R adj a k v → v ∈ S := by
    intro k
    induction k with
    | zero => intro v hr; exact (hl v).2 (R_mono hr (Nat.zero_le _))
    | succ k ih =>
      rintro v (hr | ⟨u, hu, huv⟩)
      · exact ih v hr
      · exact hd u (ih u hu) v huv
  exact .inl ⟨rfl, fun k hr => hn (key k b hr)⟩
/-- Cells seen once each are no more than the cells. -/
theorem nodup_len {S : List Nat} (n : Nat) (hd : S.Nodup) (h : ∀ v, v ∈ S → v < n) : S.length ≤ n := by
  induction n generalizing S with
  | zero =>
    cases S with
    | nil => simp
    | cons a r => have := h a (by simp); omega
  | succ n ih =>
    by_cases hm : n ∈ S
    · have := ih (hd.erase n) (fun v hv => by
        have h1 := (List.Nodup.mem_erase_iff hd).1 hv
        have h2 := h v h1.2
        have h3 := h1.1
        omega)
      rw [List.length_erase_of_mem hm] at this
      omega
    · have := ih hd (fun v hv => by
        have h2 := h v hv
        have h3 : v ≠ n := by rintro rfl; exact hm hv
        omega)
      omega
theorem SI_size {n b s f0 f E : Nat} {S : List Nat} (h : SI adj a n b s f0 f E S) : S.length ≤ n := nodup_len n h.nd h.lt
end
end Go.Hop
