/- Distances in a cell map; a queue that is read at its head and appended to at its end. No function of the program is walked here. -/
import Derived.Test.YtcndocopecnohaaHopP
import Derived.Test.YtcndocopecnohaaMap
import Derived.Test.YtcndocopecnohaaApp
import Derived.ArgAppend
namespace Go.Sep
open Go.RowKit

/-- A slice somewhere in a block of the call's own: t elements xs. -/
def Qu (w : World) (lo hi : Nat) (E : TypeId) (v : Value) (t : Nat) (xs : List Value) : Prop :=
  ∃ (g off cap : Nat) (cur : Array Value), v = .slice (some ⟨g, off, none⟩) t cap ∧ lo ≤ g ∧ g < hi ∧ w.heap[g]? = some (.cells cur E (0, 0)) ∧ t ≤ cap ∧ cap ≤ maxLen ∧ off + cap ≤ cur.size ∧ (cur.toList.drop off).take t = xs
section
variable {w w' : World} {lo hi t : Nat} {E : TypeId} {v : Value} {xs : List Value}
theorem Qu.len (h : Qu w lo hi E v t xs) : xs.length = t := by
  obtain ⟨g, off, cap, cur, _, _, _, _, h1, _, h2, rfl⟩ := h
  simp
  omega
theorem Qu.more (h : Qu w lo hi E v t xs) {lo' hi' : Nat} (h1 : lo' ≤ lo) (h2 : hi ≤ hi') : Qu w lo' hi' E v t xs := by
  obtain ⟨g, off, cap, cur, a1, a2, a3, a4⟩ := h
  exact ⟨g, off, cap, cur, a1, by omega, by omega, a4⟩
theorem Qu.chg (h : Qu w lo hi E v t xs) {a b : Nat} (hc : Chg a b w w') (hd : hi ≤ a ∨ b ≤ lo) : Qu w' lo hi E v t xs := by
  obtain ⟨g, off, cap, cur, a1, a2, a3, a4, a5⟩ := h
  exact ⟨g, off, cap, cur, a1, a2, a3, (hc.block g (Array.getElem?_eq_some_iff.1 a4).1 (by omega)).trans a4, a5⟩
theorem Qu.below' (h : Qu w lo hi E v t xs) (hb : Below w.heap.size w w') : Qu w' lo hi E v t xs := h.chg (Chg.of_below hb 0 0) (.inr (Nat.zero_le _))
theorem Qu.alloc (h : Qu w lo hi E v t xs) (o : Obj) : Qu (w.alloc o) lo hi E v t xs := h.chg ((Chg.refl 0 0 w).alloc o) (.inr (Nat.zero_le _))
theorem Qu.fresh (w : World) (x : Value) (E : TypeId) : Qu (w.alloc (.cells #[x] E)) w.heap.size (w.heap.size + 1) E (.slice (some ⟨w.heap.size, 0, none⟩) 1 1) 1 [x] :=
  ⟨w.heap.size, 0, 1, #[x], rfl, Nat.le_refl _, Nat.lt_succ_self _, heap_alloc_new w _, Nat.le_refl _, by unfold maxLen; omega, by simp, by simp⟩
theorem Qu.slice (h : Qu w lo hi E v t xs) : ∃ (g off cap : Nat), v = .slice (some ⟨g, off, none⟩) t cap ∧ t ≤ cap ∧ cap ≤ maxLen ∧ g < w.heap.size := by
  obtain ⟨g, off, cap, cur, a1, _, _, a4, a5, a6, _⟩ := h
  exact ⟨g, off, cap, a1, a5, a6, (Array.getElem?_eq_some_iff.1 a4).1⟩
theorem Qu.cells {g off cap : Nat} (h : Qu w lo hi E (.slice (some ⟨g, off, none⟩) t cap) t xs) : ∀ j u, xs[j]? = some u → w.cell? ⟨g, off + j, none⟩ = some u := by
  obtain ⟨g', off', cap', cur, a1, _, _, a4, a5, _, _, rfl⟩ := h
  simp only [Value.slice.injEq, Option.some.injEq, Addr.mk.injEq, and_true, true_and] at a1
  obtain ⟨⟨rfl, rfl⟩, rfl⟩ := a1
  intro j u hu
  rw [cell_of_row w g _ cur E (0, 0) a4]
  rw [List.getElem?_take] at hu
  split at hu
  · simpa using hu
  · cases hu
/-- The head taken off. -/
theorem Qu.tail1 {g off : Nat} {x : Value} {ys : List Value} (h : Qu w lo hi E (.slice (some ⟨g, off, none⟩) (t + 1) 1) (t + 1) (x :: ys)) : Qu w lo hi E (.slice (some ⟨g, off, none⟩) t 0) t ys := by
  have hl := h.len
  obtain ⟨g', off', cap', cur, a1, a2, a3, a4, a5, _, a7, a8⟩ := h
  simp only [Value.slice.injEq, Option.some.injEq, Addr.mk.injEq, and_true, true_and] at a1
  obtain ⟨⟨rfl, rfl⟩, rfl⟩ := a1
  obtain rfl : t = 0 := by omega
  obtain rfl : ys = [] := List.eq_nil_of_length_eq_zero (by simpa using hl)
  exact ⟨g, off, 0, cur, rfl, a2, a3, a4, Nat.le_refl _, by unfold maxLen; omega, by omega, by simp⟩
theorem Qu.tail {g off cap : Nat} {x : Value} {ys : List Value} (h : Qu w lo hi E (.slice (some ⟨g, off, none⟩) (t + 1) (cap + 1)) (t + 1) (x :: ys)) : Qu w lo hi E (.slice (some ⟨g, off + 1, none⟩) t cap) t ys := by
  obtain ⟨g', off', cap', cur, a1, a2, a3, a4, a5, a6, a7, a8⟩ := h
  simp only [Value.slice.injEq, Option.some.injEq, Addr.mk.injEq, and_true, true_and] at a1
  obtain ⟨⟨rfl, rfl⟩, rfl⟩ := a1
  refine ⟨g, off + 1, cap, cur, rfl, a2, a3, a4, by omega, by omega, by omega, ?_⟩
  have := congrArg (List.drop 1) a8
  rw [List.drop_take, List.drop_drop] at this
  simpa using this
end
/-- THE LAW: 'queue = append(queue, x)'. -/
theorem wpList_quapp {P : Program} (w : World) {ops : Array Oper} {rest : List Oper} {o : Oper} {a : Act} {Q : Exit → Act → World → Prop} (hgd : o.guard = none) (s x : Operand) (t : TypeId)
    (ho : o.op = .call { callee := .builtin .append, args := #[s, x], argTypes := #[t, t] })
    (e : TypeId) (i : TypeInfo) (z : Value) (bytes lo hi : Nat) (ht : P.underlying t = some (.slice e)) (hin : P.info? e = some i) (hz : i.zero = some z)
    (hsize : i.size = 1) (hby : i.bytes = bytes) (hzs : z.cells.size = 1)
    (v : Value) (n : Nat) (xs : List Value) (hs : a.eval s = v) (hq : Qu w lo hi e v n xs)
    (ad : Addr) (c : Nat) (u : Value) (hx : a.eval x = .slice (some ad) 1 c) (hc : w.cell? ad = some u) (h1 : u.oneCell' = true)
    (h63 : n + 1 ≤ maxLen) (hbytes : (n + 1) * bytes ≤ 140737488355328) (hlo : lo ≤ w.heap.size) (_hhi : hi ≤ w.heap.size)
    (h : ∀ v' w', Qu w' lo w'.heap.size e v' (n + 1) (xs ++ [u]) → Chg lo hi w w' → wpList P ops Q rest (a.put o.dst v') w') : wpList P ops Q (o :: rest) a w := by
  obtain ⟨g, off, cap, cur, rfl, a2, a3, a4, a5, a6, a7, a8⟩ := hq
  have hl : xs.length = n := by rw [← a8]; simp; omega
  have hcell : ∀ j, w.cell? ⟨g, j, none⟩ = cur[j]? := fun j => by rw [cell_of_row w g j cur e (0, 0) a4]
  have hlt := (Array.getElem?_eq_some_iff.1 a4).1
  refine wpList_append_arg w hgd s x t ho e i z 1 bytes ht hin hz hsize hby hzs (by omega) g off n cap xs hs (by omega) (fun j y hy => ?_) ad 1 c [u] hx (by simp) (fun j y hy => ?_) (by simpa using h1) (fun hr j hj => ?_) h63 hbytes (fun hr => ?_) (fun hr v' w' h2 h3 => ?_)
  · rw [hcell]
    rw [← a8, List.getElem?_take] at hy
    split at hy
    · simpa using hy
    · cases hy
  · rcases j with _ | j
    · simp at hy; subst hy; simpa [Addr.add] using hc
    · simp at hy
  · simp only [List.length_singleton] at hj
    obtain rfl : j = 0 := by omega
    refine ⟨by rw [hcell]; simp; omega, ?_⟩
    unfold World.frozen?
    simp [a4]
  · have hch : Chg lo hi w (w.setCells g (off + n * 1) [u]) := by
      refine ⟨rfl, rfl, rfl, by simp [World.setCells], fun k hk hd => ?_⟩
      exact heap_setCell_other w ⟨g, off + n * 1, none⟩ k u (by simp; omega)
    refine h _ _ ⟨g, off, cap, cur.setIfInBounds (off + n * 1) u, rfl, a2, by simp [World.setCells]; omega, heap_setCell_same w g _ cur e u a4, by omega, a6, by simpa using a7, ?_⟩ hch
    rw [Array.toList_setIfInBounds, Nat.mul_one, List.drop_set, if_neg (by omega), Nat.add_sub_cancel_left, ← a8]
    have hcl : n < (cur.toList.drop off).length := by simp; omega
    rw [List.take_add_one, List.getElem?_set, if_pos rfl, if_pos hcl, List.take_set_of_le (Nat.le_refl _)]
    rfl
  · rcases h2.2 with ⟨_, h0⟩ | ⟨g', cap', cur', rfl, k1, k2, k3, k4, k5, k6⟩
    · omega
    · refine h _ _ ⟨g', 0, cap', cur', rfl, by omega, (Array.getElem?_eq_some_iff.1 k2).1, k2, k3, k4, by omega, by simpa using k6⟩ (Chg.of_grown h3 fun k hk => by cases hk)
end Go.Sep
namespace Go.Proofs.Ytcndocopecnohaa
open Go.RowKit Go.Sep Go.Hop

theorem hasI_iff (l : List Int) (b : Int) : hasI l b = true ↔ b ∈ l := by
  unfold hasI
  have key : ∀ (l : List Int) (k : Nat), 0 ≤ fidx (hasP b) k l ↔ b ∈ l := by
    intro l
    induction l with
    | nil => intro k; simp [fidx]
    | cons x r ih =>
      intro k
      simp only [fidx, hasP]
      by_cases hx : x = b
      · subst hx; simp
      · have : ¬ b = x := fun h => hx h.symm
        simp only [beq_iff_eq, hx, if_false, List.mem_cons, this, false_or]
        exact ih (k + 1)
  simpa using key l 0
def adjM (m : CM) (u v : Nat) : Prop := nbr m u v = true ∧ v < m.length
theorem adjM_lt {m : CM} {u v : Nat} (h : adjM m u v) : v < m.length := h.2
theorem R_lt {m : CM} {a : Nat} (ha : a < m.length) : ∀ k v, R (adjM m) a k v → v < m.length := by
  intro k
  induction k with
  | zero => rintro v rfl; exact ha
  | succ k ih =>
    rintro v (h | ⟨u, _, h⟩)
    · exact ih v h
    · exact h.2
def tgt (n : Nat) (b : Int) : Nat := if 0 ≤ b ∧ b < n then b.toNat else n
theorem tgt_iff {n u : Nat} {b : Int} (hu : u < n) : (u : Int) = b ↔ u = tgt n b := by unfold tgt; split <;> omega
/-- The number of hops from a to b. -/
def hopD (m : CM) (a b d : Int) : Prop := (∃ k : Nat, a = k ∧ k < m.length ∧ IsD (adjM m) k (tgt m.length b) d) ∨ (¬ (0 ≤ a ∧ a < m.length) ∧ d = -1)
theorem hopD_one {m : CM} {a b d e : Int} (h : hopD m a b d) (h' : hopD m a b e) : d = e := by
  rcases h with ⟨k, rfl, h1, h2⟩ | ⟨h1, rfl⟩ <;> rcases h' with ⟨k', h3, h1', h2'⟩ | ⟨h1', rfl⟩
  · obtain rfl : k = k' := by omega
    exact IsD_one h2 h2'
  · omega
  · omega
  · rfl
theorem IsD_ex {adj : Nat → Nat → Prop} {a v : Nat} : ∃ d, IsD adj a v d := by
  by_cases h : ∃ k, R adj a k v
  · obtain ⟨k, hk⟩ := h
    induction k using Nat.strongRecOn with
    | _ k ih =>
      by_cases hm : ∃ j, j < k ∧ R adj a j v
      · obtain ⟨j, hj, hr⟩ := hm
        exact ih j hj hr
      · exact ⟨k, .inr ⟨k, rfl, hk, fun j hj hr => hm ⟨j, hj, hr⟩⟩⟩
  · exact ⟨-1, .inl ⟨rfl, fun k hr => h ⟨k, hr⟩⟩⟩
theorem hopD_ex (m : CM) (a b : Int) : ∃ d, hopD m a b d := by
  by_cases h : 0 ≤ a ∧ a < m.length
  · obtain ⟨d, hd⟩ := IsD_ex (adj := adjM m) (a := a.toNat) (v := tgt m.length b)
    exact ⟨d, .inl ⟨a.toNat, by omega, by omega, hd⟩⟩
  · exact ⟨-1, .inr ⟨h, rfl⟩⟩
/-- No target: no way. -/
theorem hopD_no {m : CM} {k : Nat} {b : Int} (hk : k < m.length) (hb : ¬ (0 ≤ b ∧ b < m.length)) : hopD m k b (-1) := by
  refine .inl ⟨k, rfl, hk, .inl ⟨rfl, fun j hr => ?_⟩⟩
  have h1 := R_lt hk j _ hr
  rw [tgt, if_neg hb] at h1
  omega
/-! ### how many cells were not found yet -/
def undis (D : Nat → Int) : Nat → Nat
  | 0 => 0
  | n + 1 => undis D n + if D n < 0 then 1 else 0
theorem undis_le (D : Nat → Int) (n : Nat) : undis D n ≤ n := by
  induction n with
  | zero => exact Nat.le_refl _
  | succ n ih => unfold undis; split <;> omega
theorem undis_same {D E : Nat → Int} {n : Nat} (h : ∀ v, v < n → D v = E v) : undis D n = undis E n := by
  induction n with
  | zero => rfl
  | succ n ih => unfold undis; rw [ih (fun v hv => h v (by omega)), h n (by omega)]
theorem undis_set {D : Nat → Int} {n x : Nat} {e : Int} (hx : x < n) (hD : D x < 0) (he : 0 ≤ e) : undis (fun v => if v = x then e else D v) n + 1 = undis D n := by
  induction n with
  | zero => omega
  | succ n ih =>
    unfold undis
    by_cases hn : x = n
    · subst hn
      rw [undis_same (E := D) (fun v hv => by simp; omega)]
      simp [hD]
      omega
    · have := ih (by omega)
      have hne : ¬ n = x := by omega
      simp only [hne, if_false]
      omega
def dRow (n : Nat) (D : Nat → Int) : List Value := (List.range n).map fun v => .int .i64 (D v)
theorem dRow_at {n v : Nat} {D : Nat → Int} (h : v < n) : (dRow n D)[v]? = some (.int .i64 (D v)) := by simp [dRow, h]
theorem dRow_set {n x : Nat} {D : Nat → Int} {e : Int} : (dRow n D).set x (.int .i64 e) = dRow n (fun v => if v = x then e else D v) := by
  apply List.ext_getElem?
  intro j
  by_cases hj : j < n
  · by_cases hx : j = x
    · subst hx; simp [dRow, hj]
    · have : ¬ x = j := fun h => hx h.symm
      simp [dRow, hj, hx, this]
  · simp [dRow, hj]
theorem dRow_same {n : Nat} {D E : Nat → Int} (h : ∀ v, v < n → D v = E v) : dRow n D = dRow n E := by
  unfold dRow
  exact List.map_congr_left fun v hv => by rw [h v (by simpa using hv)]
def nI (v : Nat) : Value := .int .i64 v
theorem nI_map (S : List Nat) : S.map nI = (S.map fun v : Nat => (v : Int)).map (.int .i64) := by simp [nI]
theorem nI_has (S : List Nat) (x : Nat) : hasI (S.map fun v : Nat => (v : Int)) x = decide (x ∈ S) := by
  rw [Bool.eq_iff_iff, hasI_iff]
  simp only [List.mem_map, decide_eq_true_eq]
  exact ⟨fun ⟨a, h, e⟩ => by obtain rfl : a = x := by omega
                             exact h, fun h => ⟨x, h, rfl⟩⟩
end Go.Proofs.Ytcndocopecnohaa
