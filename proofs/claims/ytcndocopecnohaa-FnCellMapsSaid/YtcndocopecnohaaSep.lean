/- Plain lemmas on memory, with no program in sight: a slice value that reads as a list of cells, its blocks lying between two numbers; a change of memory that touches only blocks between two numbers, and new ones. -/
import Derived.WalkKit
import Derived.Lib.Hide
import Derived.Deep.Draws
import Derived.Deep.OwnRows
import Derived.Deep.QuietTactic
import Derived.Deep.DeepMust
import Derived.BigQuiet
namespace Go.Sep
open Go.RowKit

/-! ### A change of memory between two block numbers -/
/-- Of the blocks that were there, at most those from lo on and below hi have turned. -/
structure Chg (lo hi : Nat) (w w' : World) : Prop where
  os : w'.os = w.os
  tape : w'.tape = w.tape
  output : w'.output = w.output
  size : w.heap.size ≤ w'.heap.size
  block : ∀ k, k < w.heap.size → (k < lo ∨ hi ≤ k) → w'.heap[k]? = w.heap[k]?

theorem Chg.refl (lo hi : Nat) (w : World) : Chg lo hi w w := ⟨rfl, rfl, rfl, Nat.le_refl _, fun _ _ _ => rfl⟩
theorem Chg.trans {lo hi : Nat} {a b c : World} (h : Chg lo hi a b) (k : Chg lo hi b c) : Chg lo hi a c :=
  ⟨k.os.trans h.os, k.tape.trans h.tape, k.output.trans h.output, Nat.le_trans h.size k.size,
    fun i hi hx => (k.block i (Nat.lt_of_lt_of_le hi h.size) hx).trans (h.block i hi hx)⟩
theorem Chg.mono {lo hi lo' hi' : Nat} {w w' : World} (h : Chg lo hi w w') (h1 : lo' ≤ lo) (h2 : hi ≤ hi') : Chg lo' hi' w w' :=
  ⟨h.os, h.tape, h.output, h.size, fun k hk hx => h.block k hk (by omega)⟩
/-- What touches only new blocks, and old ones from 'lo' on, is 'Below lo'. -/
theorem Chg.below {lo hi : Nat} {w w' : World} (h : Chg lo hi w w') {B : Nat} (hB : B ≤ lo) (hw : B ≤ w.heap.size) : Below B w w' :=
  ⟨h.os, h.tape, h.output, h.size, fun k hk => h.block k (by omega) (.inl (by omega))⟩
theorem Chg.of_below {w w' : World} (h : Below w.heap.size w w') (lo hi : Nat) : Chg lo hi w w' :=
  ⟨h.os, h.tape, h.output, h.size, fun k hk _ => h.block k hk⟩
theorem Chg.of_same {w w' : World} (h : w = w') (lo hi : Nat) : Chg lo hi w w' := by subst h; exact Chg.refl _ _ _
theorem Chg.of_grown {w w' : World} {row : Option Nat} (h : w.grownBy w' row) {lo hi : Nat} (hr : ∀ g, row = some g → lo ≤ g ∧ g < hi) : Chg lo hi w w' :=
  ⟨h.os, h.tape, h.output, h.size, fun k hk hx => h.block k hk (fun e => by have := hr k e.symm; omega)⟩
theorem Chg.alloc {lo hi : Nat} {a w : World} (h : Chg lo hi a w) (o : Obj) : Chg lo hi a (w.alloc o) :=
  h.trans ⟨rfl, rfl, rfl, by simp, fun k hk _ => Below.heap_alloc _ _ _ hk⟩
theorem Chg.drew {lo hi : Nat} {a w : World} (h : Chg lo hi a w) : Chg lo hi a w.drew := ⟨h.os, h.tape, h.output, h.size, h.block⟩
theorem Chg.drewN {lo hi : Nat} {a w : World} (h : Chg lo hi a w) (n : Nat) : Chg lo hi a (w.drewN n) := ⟨h.os, h.tape, h.output, h.size, h.block⟩
theorem Chg.setCell {lo hi : Nat} {a w : World} (h : Chg lo hi a w) {p : Addr} (hp : lo ≤ p.block ∧ p.block < hi ∨ a.heap.size ≤ p.block) (u : Value) : Chg lo hi a (w.setCell p u) :=
  ⟨h.os, h.tape, h.output, by simpa [World.setCell] using h.size, fun k hk hx => (Below.heap_setCell _ _ _ _ (by omega)).trans (h.block k hk hx)⟩
theorem Chg.cell {lo hi : Nat} {w w' : World} (h : Chg lo hi w w') {p : Addr} (hp : p.block < w.heap.size) (hx : p.block < lo ∨ hi ≤ p.block) : w'.cell? p = w.cell? p :=
  World.cell?_of_block (h.block p.block hp hx)
theorem Chg.frozen {lo hi : Nat} {w w' : World} (h : Chg lo hi w w') {p : Addr} (hp : p.block < w.heap.size) (hx : p.block < lo ∨ hi ≤ p.block) : w'.frozen? p = w.frozen? p :=
  World.frozen?_of_block (h.block p.block hp hx)
/-- Two changes, the second of blocks that are new to the first. -/
theorem Chg.then_new {lo hi lo' hi' : Nat} {a b c : World} (h : Chg lo hi a b) (k : Chg lo' hi' b c) (hl : a.heap.size ≤ lo') : Chg lo hi a c :=
  ⟨k.os.trans h.os, k.tape.trans h.tape, k.output.trans h.output, Nat.le_trans h.size k.size,
    fun i hi hx => (k.block i (Nat.lt_of_lt_of_le hi h.size) (.inl (by omega))).trans (h.block i hi hx)⟩

/-! ### Below, more -/
theorem below_drewN {B : Nat} {a w : World} (h : Below B a w) (n : Nat) : Below B a (w.drewN n) := ⟨h.os, h.tape, h.output, h.size, h.block⟩
theorem below_then {B B' : Nat} {a b c : World} (h : Below B a b) (k : Below B' b c) (hB : B ≤ B') : Below B a c := h.trans (k.mono hB)
theorem bcell {W w1 : World} (hb : Below W.heap.size W w1) : (∀ b o, b < W.heap.size → w1.cell? ⟨b, o, none⟩ = W.cell? ⟨b, o, none⟩) ∧ (∀ b o, b < W.heap.size → w1.frozen? ⟨b, o, none⟩ = W.frozen? ⟨b, o, none⟩) :=
  ⟨fun b o h => hb.cell (p := ⟨b, o, none⟩) h, fun b o h => hb.frozen (p := ⟨b, o, none⟩) h⟩

/-! ### A block lies before what has been laid behind it (for the walk) -/
@[go_sem] theorem lt_blk0 (a : Nat) : a < a + 1 := by omega
@[go_sem, simp] theorem lt_blk1 (a b1 : Nat) : a < a + 1 + b1 := by omega
@[go_sem, simp] theorem lt_blk2 (a b1 b2 : Nat) : a < a + 1 + b1 + b2 := by omega
@[go_sem, simp] theorem lt_blk3 (a b1 b2 b3 : Nat) : a < a + 1 + b1 + b2 + b3 := by omega
@[go_sem, simp] theorem lt_blk4 (a b1 b2 b3 b4 : Nat) : a < a + 1 + b1 + b2 + b3 + b4 := by omega
@[go_sem, simp] theorem lt_blk5 (a b1 b2 b3 b4 b5 : Nat) : a < a + 1 + b1 + b2 + b3 + b4 + b5 := by omega
@[go_sem, simp] theorem lt_blk6 (a b1 b2 b3 b4 b5 b6 : Nat) : a < a + 1 + b1 + b2 + b3 + b4 + b5 + b6 := by omega
@[go_sem, simp] theorem lt_blk7 (a b1 b2 b3 b4 b5 b6 b7 : Nat) : a < a + 1 + b1 + b2 + b3 + b4 + b5 + b6 + b7 := by omega
@[go_sem, simp] theorem lt_blk8 (a b1 b2 b3 b4 b5 b6 b7 b8 : Nat) : a < a + 1 + b1 + b2 + b3 + b4 + b5 + b6 + b7 + b8 := by omega
@[go_sem, simp] theorem lt_blk9 (a b1 b2 b3 b4 b5 b6 b7 b8 b9 : Nat) : a < a + 1 + b1 + b2 + b3 + b4 + b5 + b6 + b7 + b8 + b9 := by omega
@[go_sem, simp] theorem lt_blk10 (a b1 b2 b3 b4 b5 b6 b7 b8 b9 b10 : Nat) : a < a + 1 + b1 + b2 + b3 + b4 + b5 + b6 + b7 + b8 + b9 + b10 := by omega
@[go_sem, simp] theorem lt_blk11 (a b1 b2 b3 b4 b5 b6 b7 b8 b9 b10 b11 : Nat) : a < a + 1 + b1 + b2 + b3 + b4 + b5 + b6 + b7 + b8 + b9 + b10 + b11 := by omega
@[go_sem, simp] theorem lt_blk12 (a b1 b2 b3 b4 b5 b6 b7 b8 b9 b10 b11 b12 : Nat) : a < a + 1 + b1 + b2 + b3 + b4 + b5 + b6 + b7 + b8 + b9 + b10 + b11 + b12 := by omega
@[go_sem, simp] theorem lt_blk13 (a b1 b2 b3 b4 b5 b6 b7 b8 b9 b10 b11 b12 b13 : Nat) : a < a + 1 + b1 + b2 + b3 + b4 + b5 + b6 + b7 + b8 + b9 + b10 + b11 + b12 + b13 := by omega
@[go_sem, simp] theorem lt_blk14 (a b1 b2 b3 b4 b5 b6 b7 b8 b9 b10 b11 b12 b13 b14 : Nat) : a < a + 1 + b1 + b2 + b3 + b4 + b5 + b6 + b7 + b8 + b9 + b10 + b11 + b12 + b13 + b14 := by omega
@[go_sem, simp] theorem lt_blk15 (a b1 b2 b3 b4 b5 b6 b7 b8 b9 b10 b11 b12 b13 b14 b15 : Nat) : a < a + 1 + b1 + b2 + b3 + b4 + b5 + b6 + b7 + b8 + b9 + b10 + b11 + b12 + b13 + b14 + b15 := by omega
@[go_sem, simp] theorem lt_blk16 (a b1 b2 b3 b4 b5 b6 b7 b8 b9 b10 b11 b12 b13 b14 b15 b16 : Nat) : a < a + 1 + b1 + b2 + b3 + b4 + b5 + b6 + b7 + b8 + b9 + b10 + b11 + b12 + b13 + b14 + b15 + b16 := by omega

/-! ### A block lies before what has been laid behind a world that it lies in -/
@[go_sem] theorem lt_more1 {a b : Nat} (h : a < b) (c1 : Nat) : a < b + c1 := by omega
@[go_sem] theorem lt_more2 {a b : Nat} (h : a < b) (c1 c2 : Nat) : a < b + c1 + c2 := by omega
@[go_sem] theorem lt_more3 {a b : Nat} (h : a < b) (c1 c2 c3 : Nat) : a < b + c1 + c2 + c3 := by omega
@[go_sem] theorem lt_more4 {a b : Nat} (h : a < b) (c1 c2 c3 c4 : Nat) : a < b + c1 + c2 + c3 + c4 := by omega
@[go_sem] theorem lt_more5 {a b : Nat} (h : a < b) (c1 c2 c3 c4 c5 : Nat) : a < b + c1 + c2 + c3 + c4 + c5 := by omega
@[go_sem] theorem lt_more6 {a b : Nat} (h : a < b) (c1 c2 c3 c4 c5 c6 : Nat) : a < b + c1 + c2 + c3 + c4 + c5 + c6 := by omega
@[go_sem] theorem lt_more7 {a b : Nat} (h : a < b) (c1 c2 c3 c4 c5 c6 c7 : Nat) : a < b + c1 + c2 + c3 + c4 + c5 + c6 + c7 := by omega
@[go_sem] theorem lt_more8 {a b : Nat} (h : a < b) (c1 c2 c3 c4 c5 c6 c7 c8 : Nat) : a < b + c1 + c2 + c3 + c4 + c5 + c6 + c7 + c8 := by omega
@[go_sem] theorem lt_more9 {a b : Nat} (h : a < b) (c1 c2 c3 c4 c5 c6 c7 c8 c9 : Nat) : a < b + c1 + c2 + c3 + c4 + c5 + c6 + c7 + c8 + c9 := by omega
@[go_sem] theorem lt_more10 {a b : Nat} (h : a < b) (c1 c2 c3 c4 c5 c6 c7 c8 c9 c10 : Nat) : a < b + c1 + c2 + c3 + c4 + c5 + c6 + c7 + c8 + c9 + c10 := by omega
@[go_sem] theorem lt_more11 {a b : Nat} (h : a < b) (c1 c2 c3 c4 c5 c6 c7 c8 c9 c10 c11 : Nat) : a < b + c1 + c2 + c3 + c4 + c5 + c6 + c7 + c8 + c9 + c10 + c11 := by omega
@[go_sem] theorem lt_more12 {a b : Nat} (h : a < b) (c1 c2 c3 c4 c5 c6 c7 c8 c9 c10 c11 c12 : Nat) : a < b + c1 + c2 + c3 + c4 + c5 + c6 + c7 + c8 + c9 + c10 + c11 + c12 := by omega
@[go_sem] theorem lt_more13 {a b : Nat} (h : a < b) (c1 c2 c3 c4 c5 c6 c7 c8 c9 c10 c11 c12 c13 : Nat) : a < b + c1 + c2 + c3 + c4 + c5 + c6 + c7 + c8 + c9 + c10 + c11 + c12 + c13 := by omega
@[go_sem] theorem lt_more14 {a b : Nat} (h : a < b) (c1 c2 c3 c4 c5 c6 c7 c8 c9 c10 c11 c12 c13 c14 : Nat) : a < b + c1 + c2 + c3 + c4 + c5 + c6 + c7 + c8 + c9 + c10 + c11 + c12 + c13 + c14 := by omega

/-! ### A world with more blocks behind it -/
/-- w, with the blocks os behind it, after d draws: what 'Below w.heap.size w' leaves, written out. -/
def ext (w : World) (os : Array Obj) (d : Nat) : World := { w with heap := w.heap ++ os, drawn := d }
@[go_sem, simp] theorem size_ext (w : World) (os : Array Obj) (d : Nat) : (ext w os d).heap.size = w.heap.size + os.size := by simp [ext]
@[go_sem, simp] theorem ext_drew (w : World) (os : Array Obj) (d : Nat) : ext w.drew os d = ext w os d := rfl
@[go_sem, simp] theorem ext_drewN (w : World) (n : Nat) (os : Array Obj) (d : Nat) : ext (w.drewN n) os d = ext w os d := rfl
theorem ext_block (w : World) (os : Array Obj) (d : Nat) (k : Nat) (h : k < w.heap.size) : (ext w os d).heap[k]? = w.heap[k]? := by
  show (w.heap ++ os)[k]? = _
  rw [Array.getElem?_append_left h]
@[go_sem] theorem cell?_ext (w : World) (os : Array Obj) (d n i : Nat) (h : n < w.heap.size) : (ext w os d).cell? ⟨n, i, none⟩ = w.cell? ⟨n, i, none⟩ := World.cell?_of_block (ext_block w os d n h)
@[go_sem] theorem frozen?_ext (w : World) (os : Array Obj) (d n i : Nat) (h : n < w.heap.size) : (ext w os d).frozen? ⟨n, i, none⟩ = w.frozen? ⟨n, i, none⟩ := World.frozen?_of_block (ext_block w os d n h)
@[go_sem] theorem setCell_ext (w : World) (os : Array Obj) (d n i : Nat) (v : Value) (h : n < w.heap.size) : (ext w os d).setCell ⟨n, i, none⟩ v = ext (w.setCell ⟨n, i, none⟩ v) os d := by
  unfold ext World.setCell
  congr 1
  apply Array.ext_getElem?
  intro k
  simp only [Array.getElem?_modify, Array.getElem?_append, Array.size_modify]
  by_cases hk : k = n
  · subst hk; simp [h]
  · by_cases hl : k < w.heap.size
    · simp [hl]
    · simp [hl, Ne.symm hk]
theorem ext_of_below {w w' : World} (h : Below w.heap.size w w') : ∃ os d, w' = ext w os d := by
  obtain ⟨heap', tape', drawn', os', output'⟩ := w'
  obtain ⟨h1, h2, h3, h4, h5⟩ := h
  simp only at h1 h2 h3 h4 h5
  refine ⟨heap'.extract w.heap.size heap'.size, drawn', ?_⟩
  subst h1 h2 h3
  unfold ext
  congr 1
  apply Array.ext_getElem?
  intro k
  rw [Array.getElem?_append]
  split
  · rename_i hk; exact h5 k hk
  · rename_i hk
    rw [Array.getElem?_extract]
    split
    · congr 1; omega
    · rw [Array.getElem?_eq_none]; omega
theorem below_ext {B : Nat} {a w : World} (h : Below B a w) (hB : B ≤ w.heap.size) (os : Array Obj) (d : Nat) : Below B a (ext w os d) :=
  h.trans ⟨rfl, rfl, rfl, by simp, fun k hk => ext_block w os d k (by omega)⟩
theorem Chg.ext {lo hi : Nat} {a w : World} (h : Chg lo hi a w) (os : Array Obj) (d : Nat) : Chg lo hi a (Sep.ext w os d) :=
  h.trans ⟨rfl, rfl, rfl, by simp, fun k hk _ => ext_block w os d k hk⟩

/-! ### Addresses -/
theorem block_of_add (a : Addr) (n : Nat) : (a.add n).block = a.block := by unfold Addr.add; split <;> rfl
theorem add_of_add (a : Addr) (i j : Nat) : (a.add i).add j = a.add (i + j) := by
  unfold Addr.add
  by_cases hi : i = 0 <;> by_cases hj : j = 0 <;> simp [hi, hj, Nat.add_assoc]

/-! ### A slice value that reads as a list of cells, its block between lo and hi -/
/-- 'Rd w lo hi size A n xs': the slice value '.slice A n c' (whatever c) reads as the cells xs (n elements of 'size' cells each); where it has an element its block lies in [lo, hi). -/
def Rd (w : World) (lo hi size : Nat) (A : Option Addr) (n : Nat) (xs : List Value) : Prop :=
  xs.length = n * size ∧ (0 < n → ∃ b o, A = some ⟨b, o, none⟩ ∧ lo ≤ b ∧ b < hi ∧ ∀ j u, xs[j]? = some u → w.cell? ⟨b, o + j, none⟩ = some u)

section
variable {w w' : World} {lo hi size n : Nat} {A : Option Addr} {xs : List Value}

theorem Rd.nil_ (w : World) (lo hi size : Nat) (A : Option Addr) : Rd w lo hi size A 0 [] := ⟨by simp, fun h => absurd h (by omega)⟩
theorem Rd.len (h : Rd w lo hi size A n xs) : xs.length = n * size := h.1
theorem Rd.more (h : Rd w lo hi size A n xs) {lo' hi' : Nat} (h1 : lo' ≤ lo) (h2 : hi ≤ hi') : Rd w lo' hi' size A n xs :=
  ⟨h.1, fun hn => by
    obtain ⟨b, o, e, h3, h4, h5⟩ := h.2 hn
    exact ⟨b, o, e, by omega, by omega, h5⟩⟩
theorem Rd.at_ (h : Rd w lo hi size A n xs) {j : Nat} (hj : j < n * size) : ∃ b o, A = some ⟨b, o, none⟩ ∧ lo ≤ b ∧ b < hi ∧ ∀ j u, xs[j]? = some u → w.cell? ⟨b, o + j, none⟩ = some u :=
  h.2 (by rcases Nat.eq_zero_or_pos n with h0 | h0; (subst h0; simp at hj); exact h0)
theorem Rd.keep (h : Rd w lo hi size A n xs) (hk : ∀ p : Addr, lo ≤ p.block → p.block < hi → w.cell? p ≠ none → w'.cell? p = w.cell? p) : Rd w' lo hi size A n xs :=
  ⟨h.1, fun hn => by
    obtain ⟨b, o, e, h3, h4, h5⟩ := h.2 hn
    exact ⟨b, o, e, h3, h4, fun j u hu => (hk ⟨b, o + j, none⟩ h3 h4 (by rw [h5 j u hu]; simp)).trans (h5 j u hu)⟩⟩
theorem Rd.chg (h : Rd w lo hi size A n xs) {a b : Nat} (hc : Chg a b w w') (hd : hi ≤ a ∨ b ≤ lo) : Rd w' lo hi size A n xs :=
  h.keep fun p h1 h2 hs => by
    obtain ⟨v, hv⟩ := Option.ne_none_iff_exists'.1 hs
    exact hc.cell (World.block_lt_of_cell? w p hv) (by omega)
theorem Rd.below (h : Rd w lo hi size A n xs) {B : Nat} (hb : Below B w w') (hB : hi ≤ B) : Rd w' lo hi size A n xs := h.keep fun p _ hp _ => hb.cell (by omega)
theorem Rd.below' (h : Rd w lo hi size A n xs) (hb : Below w.heap.size w w') : Rd w' lo hi size A n xs :=
  h.keep fun p _ _ hs => by
    obtain ⟨v, hv⟩ := Option.ne_none_iff_exists'.1 hs
    exact hb.cell (World.block_lt_of_cell? w p hv)
theorem Rd.drew (h : Rd w lo hi size A n xs) : Rd w.drew lo hi size A n xs := h
theorem Rd.drewN (h : Rd w lo hi size A n xs) (k : Nat) : Rd (w.drewN k) lo hi size A n xs := h
theorem Rd.alloc (h : Rd w lo hi size A n xs) (o : Obj) : Rd (w.alloc o) lo hi size A n xs := h.chg (a := 0) (b := 0) ((Chg.refl _ _ _).alloc o) (.inr (by omega))
theorem Rd.setCell (h : Rd w lo hi size A n xs) {p : Addr} (hp : hi ≤ p.block ∨ p.block < lo) (u : Value) : Rd (w.setCell p u) lo hi size A n xs :=
  h.keep fun q h1 h2 _ => World.cell?_setCell_other w p q u (fun e => by subst e; omega)
theorem Rd.cast (h : Rd w lo hi size A n xs) {m : Nat} {ys : List Value} (hm : n = m) (hy : xs = ys) : Rd w lo hi size A m ys := by subst hm; subst hy; exact h
theorem Rd.cut (h : Rd w lo hi size A n xs) {k cap : Nat} (hk : k ≤ n) (hc : n ≤ cap) :
    Rd w lo hi size (if cap = k then A else A.map (·.add (k * size))) (n - k) (xs.drop (k * size)) := by
  refine ⟨by rw [List.length_drop, h.1, Nat.sub_mul], fun hn => ?_⟩
  obtain ⟨b, o, rfl, h1, h2, hcell⟩ := h.2 (by omega)
  rw [if_neg (by omega)]
  refine ⟨b, o + k * size, ?_, h1, h2, fun j u hu => ?_⟩
  · simp only [Option.map_some, Option.some.injEq]
    unfold Addr.add
    split
    · rename_i h0; simp
    · rfl
  · rw [Nat.add_assoc]
    exact hcell _ u (by rw [← hu, List.getElem?_drop])
theorem Rd.take (h : Rd w lo hi size A n xs) {k : Nat} (hk : k ≤ n) : Rd w lo hi size A k (xs.take (k * size)) := by
  have hm : k * size ≤ n * size := Nat.mul_le_mul_right _ hk
  refine ⟨by rw [List.length_take, h.1]; omega, fun hn => ?_⟩
  obtain ⟨b, o, rfl, h1, h2, hcell⟩ := h.2 (by omega)
  refine ⟨b, o, rfl, h1, h2, fun j u hu => hcell j u ?_⟩
  rw [List.getElem?_take] at hu
  split at hu
  · exact hu
  · cases hu
end

/-! ### A row that the call owns, its block between lo and hi -/
/-- 'Own w lo hi e size v n xs': the kit's 'ownsRow', from block lo on, and below block hi. -/
structure Own (w : World) (lo hi : Nat) (e : TypeId) (size : Nat) (v : Value) (n : Nat) (xs : List Value) : Prop where
  row : w.ownsRow lo e size v n xs
  lt : ∀ k, v.ownBlock = some k → k < hi

section
variable {w w' : World} {lo hi size n : Nat} {e : TypeId} {v : Value} {xs : List Value}

theorem Own.len (h : Own w lo hi e size v n xs) : xs.length = n * size := h.row.1
theorem Own.of_row (h : w.ownsRow lo e size v n xs) : Own w lo w.heap.size e size v n xs := ⟨h, fun k hk => (h.lt k hk).2⟩
theorem Own.nil_ (w : World) (lo hi : Nat) (e : TypeId) (size : Nat) : Own w lo hi e size (.slice none 0 0) 0 [] := ⟨World.ownsRow_nil _ _ _ _, fun k hk => by simp [Value.ownBlock] at hk⟩
theorem Own.more (h : Own w lo hi e size v n xs) {lo' hi' : Nat} (h1 : lo' ≤ lo) (h2 : hi ≤ hi') : Own w lo' hi' e size v n xs := by
  refine ⟨⟨h.row.1, ?_⟩, fun k hk => Nat.lt_of_lt_of_le (h.lt k hk) h2⟩
  rcases h.row.2 with h0 | ⟨g, cap, cur, hv, hg, r⟩
  · exact .inl h0
  · exact .inr ⟨g, cap, cur, hv, by omega, r⟩
/-- Its shape. -/
theorem Own.form (h : Own w lo hi e size v n xs) : ∃ A cap, v = .slice A n cap ∧ n ≤ cap ∧ cap ≤ maxLen ∧ (A = none ∧ n = 0 ∧ cap = 0 ∨ ∃ g, A = some ⟨g, 0, none⟩ ∧ lo ≤ g ∧ g < hi ∧ g < w.heap.size) := by
  rcases h.row.2 with ⟨rfl, rfl⟩ | ⟨g, cap, cur, rfl, hg, hh, hn, hm, _⟩
  · exact ⟨none, 0, rfl, Nat.le_refl _, by unfold maxLen; omega, .inl ⟨rfl, rfl, rfl⟩⟩
  · exact ⟨_, cap, rfl, hn, hm, .inr ⟨g, rfl, hg, h.lt g (by simp [Value.ownBlock]), (Array.getElem?_eq_some_iff.1 hh).1⟩⟩
theorem Own.rd {A : Option Addr} {c : Nat} (h : Own w lo hi e size (.slice A n c) n xs) : Rd w lo hi size A n xs := by
  refine ⟨h.row.1, fun hn => ?_⟩
  rcases h.row.2 with ⟨_, h0⟩ | ⟨g, cap, cur, hv, hg, hh, hnc, hm, hs, ht⟩
  · omega
  · injection hv with h1 h2 h3
    subst h1
    refine ⟨g, 0, rfl, hg, h.lt g (by simp [Value.ownBlock]), fun j u hu => ?_⟩
    have := h.row.cells (g := g) (by simp [Value.ownBlock]) j u hu
    have hadd : (⟨g, 0, none⟩ : Addr).add j = ⟨g, 0 + j, none⟩ := by unfold Addr.add; split <;> simp_all
    rw [hadd] at this
    exact this
theorem Own.chg (h : Own w lo hi e size v n xs) {a b : Nat} (hc : Chg a b w w') (hd : hi ≤ a ∨ b ≤ lo) : Own w' lo hi e size v n xs := by
  refine ⟨⟨h.row.1, ?_⟩, h.lt⟩
  rcases h.row.2 with h0 | ⟨g, cap, cur, rfl, hg, hh, r⟩
  · exact .inl h0
  · have hlt := h.lt g (by simp [Value.ownBlock])
    exact .inr ⟨g, cap, cur, rfl, hg, (hc.block g (Array.getElem?_eq_some_iff.1 hh).1 (by omega)).trans hh, r⟩
theorem Own.below' (h : Own w lo hi e size v n xs) (hb : Below w.heap.size w w') : Own w' lo hi e size v n xs := h.chg (Chg.of_below hb 0 0) (.inr (by omega))
theorem Own.below (h : Own w lo hi e size v n xs) {B : Nat} (hb : Below B w w') (hB : hi ≤ B) : Own w' lo hi e size v n xs := by
  refine ⟨⟨h.row.1, ?_⟩, h.lt⟩
  rcases h.row.2 with h0 | ⟨g, cap, cur, rfl, hg, hh, r⟩
  · exact .inl h0
  · have hlt := h.lt g (by simp [Value.ownBlock])
    exact .inr ⟨g, cap, cur, rfl, hg, (hb.block g (by omega)).trans hh, r⟩
theorem Own.drew (h : Own w lo hi e size v n xs) : Own w.drew lo hi e size v n xs := ⟨h.row.drew, h.lt⟩
theorem Own.drewN (h : Own w lo hi e size v n xs) (k : Nat) : Own (w.drewN k) lo hi e size v n xs := ⟨h.row, h.lt⟩
theorem Own.alloc (h : Own w lo hi e size v n xs) (o : Obj) : Own (w.alloc o) lo hi e size v n xs := ⟨h.row.alloc o, h.lt⟩
theorem Own.cast (h : Own w lo hi e size v n xs) {m : Nat} {ys : List Value} (hm : n = m) (hy : xs = ys) : Own w lo hi e size v m ys := by subst hm; subst hy; exact h
/-- A row at a known block: one store. -/
theorem Own.stored {g cap : Nat} (h : Own w lo hi e size (.slice (some ⟨g, 0, none⟩) n cap) n xs) (j : Nat) (u : Value) :
    Own (w.setCell ⟨g, j, none⟩ u) lo hi e size (.slice (some ⟨g, 0, none⟩) n cap) n (xs.set j u) ∧ Chg lo hi w (w.setCell ⟨g, j, none⟩ u) := by
  obtain ⟨h1, h2⟩ := h.row.stored j u
  refine ⟨⟨h1, h.lt⟩, Chg.of_grown h2 fun k hk => ?_⟩
  injection hk with hk
  subst hk
  have := h.row.lt g (by simp [Value.ownBlock])
  exact ⟨this.1, h.lt g (by simp [Value.ownBlock])⟩
end

/-! ### Lists of records laid out as cells -/
section
variable {α : Type} (f : α → List Value) (sz : Nat)
/-- Element i's j-th cell. -/
theorem flat_at (hf : ∀ a, (f a).length = sz) (l : List α) (i j : Nat) (hj : j < sz) : (l.flatMap f)[i * sz + j]? = (l[i]?).bind fun a => (f a)[j]? := by
  induction l generalizing i with
  | nil => simp
  | cons a r ih =>
    rw [List.flatMap_cons]
    rcases i with _ | i
    · rw [Nat.zero_mul, Nat.zero_add, List.getElem?_append_left (by rw [hf]; exact hj)]
      simp
    · rw [List.getElem?_append_right (by rw [hf, Nat.succ_mul]; omega), hf]
      have : (i + 1) * sz + j - sz = i * sz + j := by rw [Nat.succ_mul]; omega
      rw [this, ih]
      simp
theorem flat_len (hf : ∀ a, (f a).length = sz) (l : List α) : (l.flatMap f).length = l.length * sz := by
  induction l with
  | nil => simp
  | cons a r ih => rw [List.flatMap_cons, List.length_append, hf, ih, List.length_cons, Nat.succ_mul]; omega
theorem flat_take (hf : ∀ a, (f a).length = sz) (l : List α) (k : Nat) : (l.flatMap f).take (k * sz) = (l.take k).flatMap f := by
  induction l generalizing k with
  | nil => simp
  | cons a r ih =>
    rcases k with _ | k
    · simp
    · rw [List.flatMap_cons, List.take_succ_cons, List.flatMap_cons, ← ih k, Nat.succ_mul, List.take_append, hf]
      have : k * sz + sz - sz = k * sz := by omega
      rw [this, List.take_of_length_le (by rw [hf]; omega)]
theorem flat_drop (hf : ∀ a, (f a).length = sz) (l : List α) (k : Nat) : (l.flatMap f).drop (k * sz) = (l.drop k).flatMap f := by
  induction l generalizing k with
  | nil => simp
  | cons a r ih =>
    rcases k with _ | k
    · simp
    · rw [List.flatMap_cons, List.drop_succ_cons, ← ih k, Nat.succ_mul, List.drop_append, hf]
      have : k * sz + sz - sz = k * sz := by omega
      rw [this, List.drop_eq_nil_of_le (by rw [hf]; omega)]
      simp
end

/-! ### A row that is filled from the front -/
/-- The first m cells are those of xs, the others still those of zs. -/
def mixed (xs zs : List Value) (m : Nat) : List Value := xs.take m ++ zs.drop m
theorem mixed_zero (xs zs : List Value) : mixed xs zs 0 = zs := by simp [mixed]
theorem mixed_all {xs zs : List Value} {m : Nat} (hx : xs.length = m) (hz : zs.length = m) : mixed xs zs m = xs := by
  simp [mixed, List.take_of_length_le (Nat.le_of_eq hx), List.drop_eq_nil_of_le (Nat.le_of_eq hz)]
theorem mixed_set {xs zs : List Value} {m : Nat} {u : Value} (hz : m < zs.length) (hu : xs[m]? = some u) : (mixed xs zs m).set m u = mixed xs zs (m + 1) := by
  have hm : m < xs.length := (List.getElem?_eq_some_iff.1 hu).1
  have hux : xs[m] = u := (List.getElem?_eq_some_iff.1 hu).2
  unfold mixed
  have hl : (xs.take m).length = m := by simp; omega
  rw [List.set_append_right _ _ (by omega), hl, Nat.sub_self, List.drop_eq_getElem_cons hz, List.set_cons_zero, List.take_succ_eq_append_getElem hm, hux]
  simp
theorem mixed_len {xs zs : List Value} {m : Nat} (hz : zs.length = xs.length) : (mixed xs zs m).length = xs.length := by
  simp [mixed]; omega
theorem zeros_len (z : Array Value) (n : Nat) : (madeCells z n).toList.length = n := by simp [madeCells]

/-- What a function that makes a slice leaves: a slice of n elements, its cells xs, in a row of the call's own; nothing that was there has turned. -/
def Mk (w : World) (E : TypeId) (sz n : Nat) (xs : List Value) (e : Ending) (w' : World) : Prop :=
  ∃ A c, e = .returned (.slice A n c) ∧ n ≤ c ∧ c ≤ maxLen ∧ Own w' w.heap.size w'.heap.size E sz (.slice A n c) n xs ∧ Below w.heap.size w w'
theorem Mk.of_row {w w' : World} {E : TypeId} {sz n c : Nat} {xs : List Value} {A : Option Addr} (h : w'.ownsRow w.heap.size E sz (.slice A n c) n xs) (hb : Below w.heap.size w w') : Mk w E sz n xs (.returned (.slice A n c)) w' := by
  have ho := Own.of_row h
  obtain ⟨A', c', hv, h1, h2, _⟩ := ho.form
  injection hv with e1 _ e3
  subst e1 e3
  exact ⟨A, c, rfl, h1, h2, ho, hb⟩

theorem Mk.of_own {w w' : World} {E : TypeId} {sz n c hi : Nat} {xs : List Value} {A : Option Addr} (h : Own w' w.heap.size hi E sz (.slice A n c) n xs) (hb : Below w.heap.size w w') (hh : hi ≤ w'.heap.size) : Mk w E sz n xs (.returned (.slice A n c)) w' := by
  obtain ⟨A', c', hv, h1, h2, _⟩ := h.form
  injection hv with e1 _ e3
  subst e1 e3
  exact ⟨A, c, rfl, h1, h2, h.more (Nat.le_refl _) hh, hb⟩
/-- The same, the slice inside a value f. -/
def MkV (f : Value → Value) (w : World) (E : TypeId) (sz n : Nat) (xs : List Value) (e : Ending) (w' : World) : Prop :=
  ∃ A c, e = .returned (f (.slice A n c)) ∧ n ≤ c ∧ c ≤ maxLen ∧ Own w' w.heap.size w'.heap.size E sz (.slice A n c) n xs ∧ Below w.heap.size w w'
/-- What lies in the blocks behind a world does not hang on that world. -/
theorem Own.swap {wA wB : World} {os : Array Obj} {d d' lo hi sz n : Nat} {e : TypeId} {v : Value} {xs : List Value} (h : Own (ext wA os d) lo hi e sz v n xs) (hs : wB.heap.size = wA.heap.size) (hlo : wA.heap.size ≤ lo) :
    Own (ext wB os d') lo hi e sz v n xs := by
  refine ⟨⟨h.row.1, ?_⟩, h.lt⟩
  rcases h.row.2 with h0 | ⟨g, cap, cur, rfl, hg, hh, r⟩
  · exact .inl h0
  · refine .inr ⟨g, cap, cur, rfl, hg, ?_, r⟩
    rw [← hh]
    show (wB.heap ++ os)[g]? = (wA.heap ++ os)[g]?
    rw [Array.getElem?_append_right (by omega), Array.getElem?_append_right (by omega), hs]
theorem Rd.swap {wA wB : World} {os : Array Obj} {d d' lo hi sz n : Nat} {A : Option Addr} {xs : List Value} (h : Rd (ext wA os d) lo hi sz A n xs) (hs : wB.heap.size = wA.heap.size) (hlo : wA.heap.size ≤ lo) :
    Rd (ext wB os d') lo hi sz A n xs :=
  h.keep fun p h1 _ _ => by
    have : (ext wB os d').heap[p.block]? = (ext wA os d).heap[p.block]? := by
      show (wB.heap ++ os)[p.block]? = (wA.heap ++ os)[p.block]?
      rw [Array.getElem?_append_right (by omega), Array.getElem?_append_right (by omega), hs]
    exact World.cell?_of_block this

/-! ### Marks -/
/-- n marks from k on, as cells of a kind. -/
def marks (f : Int → Value) (k : Int) (n : Nat) : List Value := (List.range n).map fun (i : Nat) => f (k + i)
theorem marks_len (f : Int → Value) (k : Int) (n : Nat) : (marks f k n).length = n := by simp [marks]
theorem marks_at (f : Int → Value) (k : Int) (n i : Nat) (h : i < n) : (marks f k n)[i]? = some (f (k + i)) := by simp [marks, h]

/-! ### Slices as elements of slices -/
/-- A slice value and the integers that it holds. -/
structure Sl where
  A : Option Addr
  n : Nat
  c : Nat
  l : List Int
def Sl.v (s : Sl) : Value := .slice s.A s.n s.c
/-- It reads as its integers, its block between lo and hi. -/
def Sl.ok (k : IntKind) (w : World) (lo hi : Nat) (s : Sl) : Prop := Rd w lo hi 1 s.A s.n (s.l.map (.int k)) ∧ s.n ≤ s.c ∧ s.c ≤ maxLen
theorem Sl.ok.below' {k : IntKind} {w w' : World} {lo hi : Nat} {s : Sl} (h : s.ok k w lo hi) (hb : Below w.heap.size w w') : s.ok k w' lo hi := ⟨h.1.below' hb, h.2⟩
theorem Sl.ok.more {k : IntKind} {w : World} {lo hi lo' hi' : Nat} {s : Sl} (h : s.ok k w lo hi) (h1 : lo' ≤ lo) (h2 : hi ≤ hi') : s.ok k w lo' hi' := ⟨h.1.more h1 h2, h.2⟩
theorem Sl.ok.chg {k : IntKind} {w w' : World} {lo hi a b : Nat} {s : Sl} (h : s.ok k w lo hi) (hc : Chg a b w w') (hd : hi ≤ a ∨ b ≤ lo) : s.ok k w' lo hi := ⟨h.1.chg hc hd, h.2⟩
theorem Sl.ok.len {k : IntKind} {w : World} {lo hi : Nat} {s : Sl} (h : s.ok k w lo hi) : s.l.length = s.n := by have := h.1.len; simpa using this

theorem ret_int {k : IntKind} {a b : Int} (h : a = b) : Ending.returned (.int k a) = .returned (.int k b) := by rw [h]
theorem ret_bool {a b : Bool} (h : a = b) : Ending.returned (.bool a) = .returned (.bool b) := by rw [h]
theorem ret_val {a b : Value} (h : a = b) : Ending.returned a = .returned b := by rw [h]

/-! ### Hiding -/
theorem hide {p : Prop} (h : p) : Hid p := h
theorem unhide {p : Prop} (h : Hid p) : p := h

/-! ### quiet calls behind draws -/
theorem quiet_add {P : Program} {f : FuncId} {args : Array Value} {w : World} {a n : Nat} {v : Value}
    (h : Calls P f args (w.drewN (a + n)) fun e w' => e = .returned v ∧ ∃ m, w' = (w.drewN (a + n)).drewN m) :
    Calls P f args (w.drewN (a + n)) fun e w'' => e = .returned v ∧ ∃ m, w'' = w.drewN (a + m) :=
  h.mono fun _ _ ⟨he, m, hm⟩ => ⟨he, n + m, by rw [hm, World.drewN_drewN, Nat.add_assoc]⟩
theorem quiet_add_left {P : Program} {f : FuncId} {args : Array Value} {w : World} {a n : Nat} {v : Value}
    (h : Calls P f args (w.drewN (a + n)) fun e w' => e = .returned v ∧ w.drewN (a + n) = w') :
    Calls P f args (w.drewN (a + n)) fun e w'' => e = .returned v ∧ ∃ m, w'' = w.drewN (a + m) :=
  h.mono fun _ _ ⟨he, hm⟩ => ⟨he, n, hm.symm⟩
theorem quiet_left {P : Program} {f : FuncId} {args : Array Value} {w : World} {n : Nat} {v : Value}
    (h : Calls P f args (w.drewN n) fun e w' => e = .returned v ∧ w.drewN n = w') : Calls P f args (w.drewN n) fun e w'' => e = .returned v ∧ ∃ m, w'' = w.drewN m :=
  h.mono fun _ _ ⟨he, hm⟩ => ⟨he, n, hm.symm⟩

end Go.Sep
