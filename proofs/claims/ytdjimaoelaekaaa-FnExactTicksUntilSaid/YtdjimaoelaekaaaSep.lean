/- Plain lemmas on memory, with no program in sight: a slice value that reads as a list of cells, its blocks lying between two numbers; a change of memory that touches only blocks between two numbers, and new ones. -/
import Derived.WalkKit
import Derived.Lib.Hide
import Derived.Deep.Draws
import Derived.Deep.OwnRows
import Derived.Deep.QuietTactic
import Derived.Deep.DeepMust
import Derived.BigQuiet
namespace Go.Sep
open Go.RowKit

/-! ### A change of memory between two block numbers -/
/-- Of the blocks that were there, at most those from lo on and below hi have turned. -/
structure Chg (lo hi : Nat) (w w' : World) : Prop where
  os : w'.os = w.os
  tape : w'.tape = w.tape
  output : w'.output = w.output
  size : w.heap.size ≤ w'.heap.size
  block : ∀ k, k < w.heap.size → (k < lo ∨ hi ≤ k) → w'.heap[k]? = w.heap[k]?

theorem Chg.refl (lo hi : Nat) (w : World) : Chg lo hi w w := ⟨rfl, rfl, rfl, Nat.le_refl _, fun _ _ _ => rfl⟩
theorem Chg.trans {lo hi : Nat} {a b c : World} (h : Chg lo hi a b) (k : Chg lo hi b c) : Chg lo hi a c :=
  ⟨k.os.trans h.os, k.tape.trans h.tape, k.output.trans h.output, Nat.le_trans h.size k.size,
    fun i hi hx => (k.block i (Nat.lt_of_lt_of_le hi h.size) hx).trans (h.block i hi hx)⟩
theorem Chg.mono {lo hi lo' hi' : Nat} {w w' : World} (h : Chg lo hi w w') (h1 : lo' ≤ lo) (h2 : hi ≤ hi') : Chg lo' hi' w w' :=
  ⟨h.os, h.tape, h.output, h.size, fun k hk hx => h.block k hk (by omega)⟩
/-- What touches only new blocks, and old ones from 'lo' on, is 'Below lo'. -/
theorem Chg.below {lo hi : Nat} {w w' : World} (h : Chg lo hi w w') {B : Nat} (hB : B ≤ lo) (hw : B ≤ w.heap.size) : Below B w w' :=
  ⟨h.os, h.tape, h.output, h.size, fun k hk => h.block k (by omega) (.inl (by omega))⟩
theorem Chg.of_below {w w' : World} (h : Below w.heap.size w w') (lo hi : Nat) : Chg lo hi w w' :=
  ⟨h.os, h.tape, h.output, h.size, fun k hk _ => h.block k hk⟩
theorem Chg.of_same {w w' : World} (h : w = w') (lo hi : Nat) : Chg lo hi w w' := by subst h; exact Chg.refl _ _ _
theorem Chg.of_grown {w w' : World} {row : Option Nat} (h : w.grownBy w' row) {lo hi : Nat} (hr : ∀ g, row = some g → lo ≤ g ∧ g < hi) : Chg lo hi w w' :=
  ⟨h.os, h.tape, h.output, h.size, fun k hk hx => h.block k hk (fun e => by have := hr k e.symm; omega)⟩
theorem Chg.alloc {lo hi : Nat} {a w : World} (h : Chg lo hi a w) (o : Obj) : Chg lo hi a (w.alloc o) :=
  h.trans ⟨rfl, rfl, rfl, by simp, fun k hk _ => Below.heap_alloc _ _ _ hk⟩
theorem Chg.drew {lo hi : Nat} {a w : World} (h : Chg lo hi a w) : Chg lo hi a w.drew := ⟨h.os, h.tape, h.output, h.size, h.block⟩
theorem Chg.drewN {lo hi : Nat} {a w : World} (h : Chg lo hi a w) (n : Nat) : Chg lo hi a (w.drewN n) := ⟨h.os, h.tape, h.output, h.size, h.block⟩
theorem Chg.setCell {lo hi : Nat} {a w : World} (h : Chg lo hi a w) {p : Addr} (hp : lo ≤ p.block ∧ p.block < hi ∨ a.heap.size ≤ p.block) (u : Value) : Chg lo hi a (w.setCell p u) :=
  ⟨h.os, h.tape, h.output, by simpa [World.setCell] using h.size, fun k hk hx => (Below.heap_setCell _ _ _ _ (by omega)).trans (h.block k hk hx)⟩
theorem Chg.cell {lo hi : Nat} {w w' : World} (h : Chg lo hi w w') {p : Addr} (hp : p.block < w.heap.size) (hx : p.block < lo ∨ hi ≤ p.block) : w'.cell? p = w.cell? p :=
  World.cell?_of_block (h.block p.block hp hx)
theorem Chg.frozen {lo hi : Nat} {w w' : World} (h : Chg lo hi w w') {p : Addr} (hp : p.block < w.heap.size) (hx : p.block < lo ∨ hi ≤ p.block) : w'.frozen? p = w.frozen? p :=
  World.frozen?_of_block (h.block p.block hp hx)
/-- Two changes, the second of blocks that are new to the first. -/
theorem Chg.then_new {lo hi lo' hi' : Nat} {a b c : World} (h : Chg lo hi a b) (k : Chg lo' hi' b c) (hl : a.heap.size ≤ lo') : Chg lo hi a c :=
  ⟨k.os.trans h.os, k.tape.trans h.tape, k.output.trans h.output, Nat.le_trans h.size k.size,
    fun i hi hx => (k.block i (Nat.lt_of_lt_of_le hi h.size) (.inl (by omega))).trans (h.block i hi hx)⟩

/-! ### Below, more -/
theorem below_drewN {B : Nat} {a w : World} (h : Below B a w) (n : Nat) : Below B a (w.drewN n) := ⟨h.os, h.tape, h.output, h.size, h.block⟩
theorem below_then {B B' : Nat} {a b c : World} (h : Below B a b) (k : Below B' b c) (hB : B ≤ B') : Below B a c := h.trans (k.mono hB)
theorem bcell {W w1 : World} (hb : Below W.heap.size W w1) : (∀ b o, b < W.heap.size → w1.cell? ⟨b, o, none⟩ = W.cell? ⟨b, o, none⟩) ∧ (∀ b o, b < W.heap.size → w1.frozen? ⟨b, o, none⟩ = W.frozen? ⟨b, o, none⟩) :=
  ⟨fun b o h => hb.cell (p := ⟨b, o, none⟩) h, fun b o h => hb.frozen (p := ⟨b, o, none⟩) h⟩

/-! ### A world with more blocks behind it -/
/-- w, with the blocks os behind it, after d draws: what 'Below w.heap.size w' leaves, written out. -/
def ext (w : World) (os : Array Obj) (d : Nat) : World := { w with heap := w.heap ++ os, drawn := d }
@[go_sem, simp] theorem size_ext (w : World) (os : Array Obj) (d : Nat) : (ext w os d).heap.size = w.heap.size + os.size := by simp [ext]
theorem ext_block (w : World) (os : Array Obj) (d : Nat) (k : Nat) (h : k < w.heap.size) : (ext w os d).heap[k]? = w.heap[k]? := by
  show (w.heap ++ os)[k]? = _
  rw [Array.getElem?_append_left h]
@[go_sem] theorem cell?_ext (w : World) (os : Array Obj) (d n i : Nat) (h : n < w.heap.size) : (ext w os d).cell? ⟨n, i, none⟩ = w.cell? ⟨n, i, none⟩ := World.cell?_of_block (ext_block w os d n h)
@[go_sem] theorem frozen?_ext (w : World) (os : Array Obj) (d n i : Nat) (h : n < w.heap.size) : (ext w os d).frozen? ⟨n, i, none⟩ = w.frozen? ⟨n, i, none⟩ := World.frozen?_of_block (ext_block w os d n h)
@[go_sem] theorem setCell_ext (w : World) (os : Array Obj) (d n i : Nat) (v : Value) (h : n < w.heap.size) : (ext w os d).setCell ⟨n, i, none⟩ v = ext (w.setCell ⟨n, i, none⟩ v) os d := by
  unfold ext World.setCell
  congr 1
  apply Array.ext_getElem?
  intro k
  simp only [Array.getElem?_modify, Array.getElem?_append, Array.size_modify]
  by_cases hk : k = n
  · subst hk; simp [h]
  · by_cases hl : k < w.heap.size
    · simp [hl]
    · simp [hl, Ne.symm hk]
theorem ext_of_below {w w' : World} (h : Below w.heap.size w w') : ∃ os d, w' = ext w os d := by
  obtain ⟨heap', tape', drawn', os', output'⟩ := w'
  obtain ⟨h1, h2, h3, h4, h5⟩ := h
  simp only at h1 h2 h3 h4 h5
  refine ⟨heap'.extract w.heap.size heap'.size, drawn', ?_⟩
  subst h1 h2 h3
  unfold ext
  congr 1
  apply Array.ext_getElem?
  intro k
  rw [Array.getElem?_append]
  split
  · rename_i hk; exact h5 k hk
  · rename_i hk
    rw [Array.getElem?_extract]
    split
    · congr 1; omega
    · rw [Array.getElem?_eq_none]; omega
theorem below_ext {B : Nat} {a w : World} (h : Below B a w) (hB : B ≤ w.heap.size) (os : Array Obj) (d : Nat) : Below B a (ext w os d) :=
  h.trans ⟨rfl, rfl, rfl, by simp, fun k hk => ext_block w os d k (by omega)⟩
theorem Chg.ext {lo hi : Nat} {a w : World} (h : Chg lo hi a w) (os : Array Obj) (d : Nat) : Chg lo hi a (Sep.ext w os d) :=
  h.trans ⟨rfl, rfl, rfl, by simp, fun k hk _ => ext_block w os d k hk⟩

/-! ### Addresses -/
theorem block_of_add (a : Addr) (n : Nat) : (a.add n).block = a.block := by unfold Addr.add; split <;> rfl
theorem add_of_add (a : Addr) (i j : Nat) : (a.add i).add j = a.add (i + j) := by
  unfold Addr.add
  by_cases hi : i = 0 <;> by_cases hj : j = 0 <;> simp [hi, hj, Nat.add_assoc]

/-! ### A slice value that reads as a list of cells, its block between lo and hi -/
/-- 'Rd w lo hi size A n xs': the slice value '.slice A n c' (whatever c) reads as the cells xs (n elements of 'size' cells each); where it has an element its block lies in [lo, hi). -/
def Rd (w : World) (lo hi size : Nat) (A : Option Addr) (n : Nat) (xs : List Value) : Prop :=
  xs.length = n * size ∧ (0 < n → ∃ b o, A = some ⟨b, o, none⟩ ∧ lo ≤ b ∧ b < hi ∧ ∀ j u, xs[j]? = some u → w.cell? ⟨b, o + j, none⟩ = some u)

section
variable {w w' : World} {lo hi size n : Nat} {A : Option Addr} {xs : List Value}

theorem Rd.nil_ (w : World) (lo hi size : Nat) (A : Option Addr) : Rd w lo hi size A 0 [] := ⟨by simp, fun h => absurd h (by omega)⟩
theorem Rd.len (h : Rd w lo hi size A n xs) : xs.length = n * size := h.1
theorem Rd.more (h : Rd w lo hi size A n xs) {lo' hi' : Nat} (h1 : lo' ≤ lo) (h2 : hi ≤ hi') : Rd w lo' hi' size A n xs :=
  ⟨h.1, fun hn => by
    obtain ⟨b, o, e, h3, h4, h5⟩ := h.2 hn
    exact ⟨b, o, e, by omega, by omega, h5⟩⟩
theorem Rd.at_ (h : Rd w lo hi size A n xs) {j : Nat} (hj : j < n * size) : ∃ b o, A = some ⟨b, o, none⟩ ∧ lo ≤ b ∧ b < hi ∧ ∀ j u, xs[j]? = some u → w.cell? ⟨b, o + j, none⟩ = some u :=
  h.2 (by rcases Nat.eq_zero_or_pos n with h0 | h0; (subst h0; simp at hj); exact h0)
theorem Rd.keep (h : Rd w lo hi size A n xs) (hk : ∀ p : Addr, lo ≤ p.block → p.block < hi → w.cell? p ≠ none → w'.cell? p = w.cell? p) : Rd w' lo hi size A n xs :=
  ⟨h.1, fun hn => by
    obtain ⟨b, o, e, h3, h4, h5⟩ := h.2 hn
    exact ⟨b, o, e, h3, h4, fun j u hu => (hk ⟨b, o + j, none⟩ h3 h4 (by rw [h5 j u hu]; simp)).trans (h5 j u hu)⟩⟩
theorem Rd.chg (h : Rd w lo hi size A n xs) {a b : Nat} (hc : Chg a b w w') (hd : hi ≤ a ∨ b ≤ lo) : Rd w' lo hi size A n xs :=
  h.keep fun p h1 h2 hs => by
    obtain ⟨v, hv⟩ := Option.ne_none_iff_exists'.1 hs
    exact hc.cell (World.block_lt_of_cell? w p hv) (by omega)
theorem Rd.below (h : Rd w lo hi size A n xs) {B : Nat} (hb : Below B w w') (hB : hi ≤ B) : Rd w' lo hi size A n xs := h.keep fun p _ hp _ => hb.cell (by omega)
theorem Rd.below' (h : Rd w lo hi size A n xs) (hb : Below w.heap.size w w') : Rd w' lo hi size A n xs :=
  h.keep fun p _ _ hs => by
    obtain ⟨v, hv⟩ := Option.ne_none_iff_exists'.1 hs
    exact hb.cell (World.block_lt_of_cell? w p hv)
theorem Rd.drew (h : Rd w lo hi size A n xs) : Rd w.drew lo hi size A n xs := h
theorem Rd.drewN (h : Rd w lo hi size A n xs) (k : Nat) : Rd (w.drewN k) lo hi size A n xs := h
theorem Rd.alloc (h : Rd w lo hi size A n xs) (o : Obj) : Rd (w.alloc o) lo hi size A n xs := h.chg (a := 0) (b := 0) ((Chg.refl _ _ _).alloc o) (.inr (by omega))
theorem Rd.setCell (h : Rd w lo hi size A n xs) {p : Addr} (hp : hi ≤ p.block ∨ p.block < lo) (u : Value) : Rd (w.setCell p u) lo hi size A n xs :=
  h.keep fun q h1 h2 _ => World.cell?_setCell_other w p q u (fun e => by subst e; omega)
theorem Rd.cast (h : Rd w lo hi size A n xs) {m : Nat} {ys : List Value} (hm : n = m) (hy : xs = ys) : Rd w lo hi size A m ys := by subst hm; subst hy; exact h
theorem Rd.cut (h : Rd w lo hi size A n xs) {k cap : Nat} (hk : k ≤ n) (hc : n ≤ cap) :
    Rd w lo hi size (if cap = k then A else A.map (·.add (k * size))) (n - k) (xs.drop (k * size)) := by
  refine ⟨by rw [List.length_drop, h.1, Nat.sub_mul], fun hn => ?_⟩
  obtain ⟨b, o, rfl, h1, h2, hcell⟩ := h.2 (by omega)
  rw [if_neg (by omega)]
  refine ⟨b, o + k * size, ?_, h1, h2, fun j u hu => ?_⟩
  · simp only [Option.map_some, Option.some.injEq]
    unfold Addr.add
    split
    · rename_i h0; simp
    · rfl
  · rw [Nat.add_assoc]
    exact hcell _ u (by rw [← hu, List.getElem?_drop])
theorem Rd.take (h : Rd w lo hi size A n xs) {k : Nat} (hk : k ≤ n) : Rd w lo hi size A k (xs.take (k * size)) := by
  have hm : k * size ≤ n * size := Nat.mul_le_mul_right _ hk
  refine ⟨by rw [List.length_take, h.1]; omega, fun hn => ?_⟩
  obtain ⟨b, o, rfl, h1, h2, hcell⟩ := h.2 (by omega)
  refine ⟨b, o, rfl, h1, h2, fun j u hu => hcell j u ?_⟩
  rw [List.getElem?_take] at hu
  split at hu
  · exact hu
  · cases hu
end

/-! ### A row that the call owns, its block between lo and hi -/
/-- 'Own w lo hi e size v n xs': the kit's 'ownsRow', from block lo on, and below block hi. -/
structure Own (w : World) (lo hi : Nat) (e : TypeId) (size : Nat) (v : Value) (n : Nat) (xs : List Value) : Prop where
  row : w.ownsRow lo e size v n xs
  lt : ∀ k, v.ownBlock = some k → k < hi

section
variable {w w' : World} {lo hi size n : Nat} {e : TypeId} {v : Value} {xs : List Value}

theorem Own.len (h : Own w lo hi e size v n xs) : xs.length = n * size := h.row.1
theorem Own.of_row (h : w.ownsRow lo e size v n xs) : Own w lo w.heap.size e size v n xs := ⟨h, fun k hk => (h.lt k hk).2⟩
theorem Own.nil_ (w : World) (lo hi : Nat) (e : TypeId) (size : Nat) : Own w lo hi e size (.slice none 0 0) 0 [] := ⟨World.ownsRow_nil _ _ _ _, fun k hk => by simp [Value.ownBlock] at hk⟩
theorem Own.more (h : Own w lo hi e size v n xs) {lo' hi' : Nat} (h1 : lo' ≤ lo) (h2 : hi ≤ hi') : Own w lo' hi' e size v n xs := by
  refine ⟨⟨h.row.1, ?_⟩, fun k hk => Nat.lt_of_lt_of_le (h.lt k hk) h2⟩
  rcases h.row.2 with h0 | ⟨g, cap, cur, hv, hg, r⟩
  · exact .inl h0
  · exact .inr ⟨g, cap, cur, hv, by omega, r⟩
/-- Its shape. -/
theorem Own.form (h : Own w lo hi e size v n xs) : ∃ A cap, v = .slice A n cap ∧ n ≤ cap ∧ cap ≤ maxLen ∧ (A = none ∧ n = 0 ∧ cap = 0 ∨ ∃ g, A = some ⟨g, 0, none⟩ ∧ lo ≤ g ∧ g < hi ∧ g < w.heap.size) := by
  rcases h.row.2 with ⟨rfl, rfl⟩ | ⟨g, cap, cur, rfl, hg, hh, hn, hm, _⟩
  · exact ⟨none, 0, rfl, Nat.le_refl _, by unfold maxLen; omega, .inl ⟨rfl, rfl, rfl⟩⟩
  · exact ⟨_, cap, rfl, hn, hm, .inr ⟨g, rfl, hg, h.lt g (by simp [Value.ownBlock]), (Array.getElem?_eq_some_iff.1 hh).1⟩⟩
theorem Own.rd {A : Option Addr} {c : Nat} (h : Own w lo hi e size (.slice A n c) n xs) : Rd w lo hi size A n xs := by
  refine ⟨h.row.1, fun hn => ?_⟩
  rcases h.row.2 with ⟨_, h0⟩ | ⟨g, cap, cur, hv, hg, hh, hnc, hm, hs, ht⟩
  · omega
  · injection hv with h1 h2 h3
    subst h1
    refine ⟨g, 0, rfl, hg, h.lt g (by simp [Value.ownBlock]), fun j u hu => ?_⟩
    have := h.row.cells (g := g) (by simp [Value.ownBlock]) j u hu
    have hadd : (⟨g, 0, none⟩ : Addr).add j = ⟨g, 0 + j, none⟩ := by unfold Addr.add; split <;> simp_all
    rw [hadd] at this
    exact this
theorem Own.chg (h : Own w lo hi e size v n xs) {a b : Nat} (hc : Chg a b w w') (hd : hi ≤ a ∨ b ≤ lo) : Own w' lo hi e size v n xs := by
  refine ⟨⟨h.row.1, ?_⟩, h.lt⟩
  rcases h.row.2 with h0 | ⟨g, cap, cur, rfl, hg, hh, r⟩
  · exact .inl h0
  · have hlt := h.lt g (by simp [Value.ownBlock])
    exact .inr ⟨g, cap, cur, rfl, hg, (hc.block g (Array.getElem?_eq_some_iff.1 hh).1 (by omega)).trans hh, r⟩
theorem Own.below' (h : Own w lo hi e size v n xs) (hb : Below w.heap.size w w') : Own w' lo hi e size v n xs := h.chg (Chg.of_below hb 0 0) (.inr (by omega))
theorem Own.below (h : Own w lo hi e size v n xs) {B : Nat} (hb : Below B w w') (hB : hi ≤ B) : Own w' lo hi e size v n xs := by
  refine ⟨⟨h.row.1, ?_⟩, h.lt⟩
  rcases h.row.2 with h0 | ⟨g, cap, cur, rfl, hg, hh, r⟩
  · exact .inl h0
  · have hlt := h.lt g (by simp [Value.ownBlock])
    exact .inr ⟨g, cap, cur, rfl, hg, (hb.block g (by omega)).trans hh, r⟩
theorem Own.drew (h : Own w lo hi e size v n xs) : Own w.drew lo hi e size v n xs := ⟨h.row.drew, h.lt⟩
theorem Own.drewN (h : Own w lo hi e size v n xs) (k : Nat) : Own (w.drewN k) lo hi e size v n xs := ⟨h.row, h.lt⟩
theorem Own.alloc (h : Own w lo hi e size v n xs) (o : Obj) : Own (w.alloc o) lo hi e size v n xs := ⟨h.row.alloc o, h.lt⟩
theorem Own.cast (h : Own w lo hi e size v n xs) {m : Nat} {ys : List Value} (hm : n = m) (hy : xs = ys) : Own w lo hi e size v m ys := by subst hm; subst hy; exact h
/-- A row at a known block: one store. -/
theorem Own.stored {g cap : Nat} (h : Own w lo hi e size (.slice (some ⟨g, 0, none⟩) n cap) n xs) (j : Nat) (u : Value) :
    Own (w.setCell ⟨g, j, none⟩ u) lo hi e size (.slice (some ⟨g, 0, none⟩) n cap) n (xs.set j u) ∧ Chg lo hi w (w.setCell ⟨g, j, none⟩ u) := by
  obtain ⟨h1, h2⟩ := h.row.stored j u
  refine ⟨⟨h1, h.lt⟩, Chg.of_grown h2 fun k hk => ?_⟩
  injection hk with hk
  subst hk
  have := h.row.lt g (by simp [Value.ownBlock])
  exact ⟨this.1, h.lt g (by simp [Value.ownBlock])⟩
end

/-! ### Lists of records laid out as cells -/
section
variable {α : Type} (f : α → List Value) (sz : Nat)
/-- Element i's j-th cell. -/
theorem flat_at (hf : ∀ a, (f a).length = sz) (l : List α) (i j : Nat) (hj : j < sz) : (l.flatMap f)[i * sz + j]? = (l[i]?).bind fun a => (f a)[j]? := by
  induction l generalizing i with
  | nil => simp
  | cons a r ih =>
    rw [List.flatMap_cons]
    rcases i with _ | i
    · rw [Nat.zero_mul, Nat.zero_add, List.getElem?_append_left (by rw [hf]; exact hj)]
      simp
    · rw [List.getElem?_append_right (by rw [hf, Nat.succ_mul]; omega), hf]
      have : (i + 1) * sz + j - sz = i * sz + j := by rw [Nat.succ_mul]; omega
      rw [this, ih]
      simp
theorem flat_len (hf : ∀ a, (f a).length = sz) (l : List α) : (l.flatMap f).length = l.length * sz := by
  induction l with
  | nil => simp
  | cons a r ih => rw [List.flatMap_cons, List.length_append, hf, ih, List.length_cons, Nat.succ_mul]; omega
theorem flat_take (hf : ∀ a, (f a).length = sz) (l : List α) (k : Nat) : (l.flatMap f).take (k * sz) = (l.take k).flatMap f := by
  induction l generalizing k with
  | nil => simp
  | cons a r ih =>
    rcases k with _ | k
    · simp
    · rw [List.flatMap_cons, List.take_succ_cons, List.flatMap_cons, ← ih k, Nat.succ_mul, List.take_append, hf]
      have : k * sz + sz - sz = k * sz := by omega
      rw [this, List.take_of_length_le (by rw [hf]; omega)]
theorem flat_drop (hf : ∀ a, (f a).length = sz) (l : List α) (k : Nat) : (l.flatMap f).drop (k * sz) = (l.drop k).flatMap f := by
  induction l generalizing k with
  | nil => simp
  | cons a r ih =>
    rcases k with _ | k
    · simp
    · rw [List.flatMap_cons, List.drop_succ_cons, ← ih k, Nat.succ_mul, List.drop_append, hf]
      have : k * sz + sz - sz = k * sz := by omega
      rw [this, List.drop_eq_nil_of_le (by rw [hf]; omega)]
      simp
end

theorem ret_int {k : IntKind} {a b : Int} (h : a = b) : Ending.returned (.int k a) = .returned (.int k b) := by rw [h]
theorem ret_bool {a b : Bool} (h : a = b) : Ending.returned (.bool a) = .returned (.bool b) := by rw [h]
theorem ret_val {a b : Value} (h : a = b) : Ending.returned a = .returned b := by rw [h]

/-! ### Hiding -/
theorem hide {p : Prop} (h : p) : Hid p := h
theorem unhide {p : Prop} (h : Hid p) : p := h

/-! ### quiet calls behind draws -/
theorem quiet_add {P : Program} {f : FuncId} {args : Array Value} {w : World} {a n : Nat} {v : Value}
    (h : Calls P f args (w.drewN (a + n)) fun e w' => e = .returned v ∧ ∃ m, w' = (w.drewN (a + n)).drewN m) :
    Calls P f args (w.drewN (a + n)) fun e w'' => e = .returned v ∧ ∃ m, w'' = w.drewN (a + m) :=
  h.mono fun _ _ ⟨he, m, hm⟩ => ⟨he, n + m, by rw [hm, World.drewN_drewN, Nat.add_assoc]⟩
theorem quiet_add_left {P : Program} {f : FuncId} {args : Array Value} {w : World} {a n : Nat} {v : Value}
    (h : Calls P f args (w.drewN (a + n)) fun e w' => e = .returned v ∧ w.drewN (a + n) = w') :
    Calls P f args (w.drewN (a + n)) fun e w'' => e = .returned v ∧ ∃ m, w'' = w.drewN (a + m) :=
  h.mono fun _ _ ⟨he, hm⟩ => ⟨he, n, hm.symm⟩
theorem quiet_left {P : Program} {f : FuncId} {args : Array Value} {w : World} {n : Nat} {v : Value}
    (h : Calls P f args (w.drewN n) fun e w' => e = .returned v ∧ w.drewN n = w') : Calls P f args (w.drewN n) fun e w'' => e = .returned v ∧ ∃ m, w'' = w.drewN m :=
  h.mono fun _ _ ⟨he, hm⟩ => ⟨he, n, hm.symm⟩

end Go.Sep
