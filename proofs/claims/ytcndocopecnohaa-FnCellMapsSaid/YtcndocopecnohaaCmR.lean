/- A row of structs, each with a slice in a block of its own: a slice of it replaced. No program in sight. -/
import Derived.Test.YtcndocopecnohaaNest2
import Derived.Test.YtcndocopecnohaaCmO
namespace Go.Sep
open Go.RowKit

def dtC (s : Int × Sl) : Int × List Int := (s.1, s.2.l)
section
variable {w w' : World} {lo hi size n c g : Nat} {e E E2 : TypeId} {xs : List Value} {A : Option Addr}
/-- A row known by its block lies in that block alone. -/
theorem Own.tight (h : Own w lo hi e size (.slice (some ⟨g, 0, none⟩) n c) n xs) : Own w g (g + 1) e size (.slice (some ⟨g, 0, none⟩) n c) n xs := by
  refine ⟨⟨h.row.1, ?_⟩, fun k hk => by simp [Value.ownBlock] at hk; omega⟩
  rcases h.row.2 with ⟨h0, _⟩ | ⟨g', cap, cur, hv, hg, r⟩
  · simp at h0
  · refine .inr ⟨g', cap, cur, hv, ?_, r⟩
    simp only [Value.slice.injEq, Option.some.injEq, Addr.mk.injEq, and_true, true_and] at hv
    omega
theorem Own.mv (h : Own w lo hi e size (.slice A n c) n xs) {a : Nat} (hc : Chg a (a + 1) w w') (hd : A ≠ some ⟨a, 0, none⟩) : Own w' lo hi e size (.slice A n c) n xs := by
  refine ⟨⟨h.row.1, ?_⟩, h.lt⟩
  rcases h.row.2 with h0 | ⟨g', cap, cur, hv, hg, hh, r⟩
  · exact .inl h0
  · refine .inr ⟨g', cap, cur, hv, hg, (hc.block g' (Array.getElem?_eq_some_iff.1 hh).1 ?_).trans hh, r⟩
    simp only [Value.slice.injEq] at hv
    have : g' ≠ a := by rintro rfl; exact hd hv.1
    omega
theorem Own.blk_lt (h : Own w lo hi e size (.slice (some ⟨g, 0, none⟩) n c) n xs) : lo ≤ g ∧ g < hi ∧ g < w.heap.size := by
  have := h.row.lt g (by simp [Value.ownBlock])
  exact ⟨this.1, h.lt g (by simp [Value.ownBlock]), this.2⟩
theorem flat_set1 {ss : List (Int × Sl)} {k : Nat} {x : Int} {s s' : Sl} (hk : ss[k]? = some (x, s)) : (ss.flatMap cs1).set (k * 2 + 1) (.slice s'.A s'.n s'.c) = (ss.set k (x, s')).flatMap cs1 := by
  induction ss generalizing k with
  | nil => simp at hk
  | cons a r ih =>
    rcases k with _ | k
    · simp at hk
      subst hk
      simp [cs1, Sl.v]
    · have := ih (k := k) (by simpa using hk)
      rw [List.set_cons_succ, List.flatMap_cons, List.flatMap_cons, ← this, show (k + 1) * 2 + 1 = (cs1 a).length + (k * 2 + 1) by simp [cs1_len]; omega, List.set_append_right _ _ (by omega)]
      simp
/-- The row lies in block g; its slices lie in blocks of their own, from lo on and below hi. -/
structure OB (w : World) (E E2 : TypeId) (lo hi g c : Nat) (ss : List (Int × Sl)) : Prop where
  cap : ss.length ≤ c
  max : c ≤ maxLen
  glo : lo ≤ g
  ghi : g < hi
  row : Own w g (g + 1) E 2 (.slice (some ⟨g, 0, none⟩) ss.length c) ss.length (ss.flatMap cs1)
  one : ∀ (k : Nat) (x : Int) (s : Sl), ss[k]? = some (x, s) → s.n ≤ s.c ∧ s.c ≤ maxLen ∧ Own w lo hi E2 1 (.slice s.A s.n s.c) s.n (s.l.map (.int .i64)) ∧ s.A ≠ some ⟨g, 0, none⟩
  dif : ∀ (i j : Nat) (x y : Int) (s t : Sl) (p : Addr), ss[i]? = some (x, s) → ss[j]? = some (y, t) → s.A = some p → t.A = some p → i = j
variable {ss : List (Int × Sl)} {k : Nat} {x : Int} {s : Sl}
theorem OB.glt (h : OB w E E2 lo hi g c ss) : g < w.heap.size := h.row.blk_lt.2.2
theorem OB.chg (h : OB w E E2 lo hi g c ss) {a b : Nat} (hc : Chg a b w w') (hd : hi ≤ a ∨ b ≤ lo) : OB w' E E2 lo hi g c ss := by
  have h1 := h.glo
  have h2 := h.ghi
  exact ⟨h.cap, h.max, h.glo, h.ghi, h.row.chg hc (by omega), fun k x s hs => ⟨(h.one k x s hs).1, (h.one k x s hs).2.1, (h.one k x s hs).2.2.1.chg hc hd, (h.one k x s hs).2.2.2⟩, h.dif⟩
theorem OB.below' (h : OB w E E2 lo hi g c ss) (hb : Below w.heap.size w w') : OB w' E E2 lo hi g c ss := h.chg (Chg.of_below hb 0 0) (.inr (Nat.zero_le _))
theorem OB.up (h : OB w E E2 lo hi g c ss) {hi' : Nat} (hh : hi ≤ hi') : OB w E E2 lo hi' g c ss :=
  ⟨h.cap, h.max, h.glo, Nat.lt_of_lt_of_le h.ghi hh, h.row, fun k x s hs => ⟨(h.one k x s hs).1, (h.one k x s hs).2.1, (h.one k x s hs).2.2.1.more (Nat.le_refl _) hh, (h.one k x s hs).2.2.2⟩, h.dif⟩
theorem OB.nd (h : OB w E E2 lo hi g c ss) : Nd2 .i64 w lo hi (some ⟨g, 0, none⟩) ss.length (ss.map dtC) :=
  ⟨ss, h.row.rd.more h.glo h.ghi, fun s hs => by
    obtain ⟨k, hk⟩ := List.mem_iff_getElem?.1 hs
    obtain ⟨a1, a2, a3, _⟩ := h.one k s.1 s.2 hk
    exact ⟨a3.rd, a1, a2⟩, rfl⟩
theorem OB.at_ (h : OB w E E2 lo hi g c ss) (hk : ss[k]? = some (x, s)) : w.cell? ⟨g, k * 2, none⟩ = some (.int .i64 x) ∧ w.cell? ⟨g, k * 2 + 1, none⟩ = some (.slice s.A s.n s.c) ∧ w.frozen? ⟨g, k * 2, none⟩ = false ∧ w.frozen? ⟨g, k * 2 + 1, none⟩ = false := by
  have hkl := (List.getElem?_eq_some_iff.1 hk).1
  have e0 : (ss.flatMap cs1)[k * 2]? = some (.int .i64 x) := by have := flat_at cs1 2 cs1_len ss k 0 (by omega); simpa [hk, cs1] using this
  have e1 : (ss.flatMap cs1)[k * 2 + 1]? = some (.slice s.A s.n s.c) := by have := flat_at cs1 2 cs1_len ss k 1 (by omega); simpa [hk, cs1, Sl.v] using this
  exact ⟨(h.row.row.cellAt (k * 2) (by omega)).trans e0, (h.row.row.cellAt (k * 2 + 1) (by omega)).trans e1, h.row.row.frozenAt _, h.row.row.frozenAt _⟩
/-- Slice k replaced: the old one may have turned, or a new one was made. -/
theorem OB.put (h : OB w E E2 lo hi g c ss) (hk : ss[k]? = some (x, s)) {a hi' a' : Nat} (hch : Chg a (a + 1) w w') (ha : s.A = some ⟨a, 0, none⟩ ∨ w.heap.size ≤ a) (hw : hi ≤ w.heap.size) (hhi : hi ≤ hi')
    (s' : Sl) (h1 : s'.n ≤ s'.c) (h2 : s'.c ≤ maxLen) (hA : s'.A = some ⟨a', 0, none⟩) (hlo : lo ≤ a') (hlt : a' < hi') (ho : Own w' a' (a' + 1) E2 1 (.slice s'.A s'.n s'.c) s'.n (s'.l.map (.int .i64))) (hd : (a' = a ∧ s.A = some ⟨a, 0, none⟩) ∨ hi ≤ a') :
    OB (w'.setCell ⟨g, k * 2 + 1, none⟩ (.slice s'.A s'.n s'.c)) E E2 lo hi' g c (ss.set k (x, s')) := by
  have hkl := (List.getElem?_eq_some_iff.1 hk).1
  have hghi := h.ghi
  obtain ⟨_, _, _, hsg⟩ := h.one k x s hk
  have hag : a ≠ g := by
    rcases ha with ha | ha
    · rintro rfl; exact hsg ha
    · omega
  have ha'g : a' ≠ g := by
    rcases hd with ⟨rfl, _⟩ | hd
    · exact hag
    · omega
  have hrow := (h.row.chg hch (by omega)).stored (k * 2 + 1) (.slice s'.A s'.n s'.c)
  rw [flat_set1 hk] at hrow
  obtain ⟨hr1, hr2⟩ := hrow
  have hoth : ∀ (j : Nat) (y : Int) (t : Sl), j ≠ k → ss[j]? = some (y, t) → t.A ≠ some ⟨a, 0, none⟩ ∧ t.A ≠ some ⟨a', 0, none⟩ := by
    intro j y t hj ht
    obtain ⟨_, _, ho, _⟩ := h.one j y t ht
    have f1 : t.A ≠ some ⟨a, 0, none⟩ := by
      intro e
      rcases ha with ha | ha
      · exact hj (h.dif j k y x t s _ ht hk e ha)
      · rw [e] at ho
        have := ho.blk_lt
        omega
    refine ⟨f1, fun e => ?_⟩
    rcases hd with ⟨rfl, _⟩ | hd
    · exact f1 e
    · rw [e] at ho
      have := ho.blk_lt
      omega
  refine ⟨by rw [List.length_set]; exact h.cap, h.max, h.glo, Nat.lt_of_lt_of_le hghi hhi, by rw [List.length_set]; exact hr1, fun j y t ht => ?_, fun i j y z t u p ht hu et eu => ?_⟩
  · rw [List.getElem?_set] at ht
    split at ht
    · injection ht with ht
      injection ht with e1 e2
      subst e1 e2
      refine ⟨h1, h2, (ho.chg hr2 (by omega)).more hlo hlt, ?_⟩
      rw [hA]
      intro e
      injection e with e
      injection e with e
      exact ha'g e
    · rename_i hne
      obtain ⟨a1, a2, a3, a4⟩ := h.one j y t ht
      exact ⟨a1, a2, ((a3.mv hch (hoth j y t (Ne.symm hne) ht).1).mv hr2 a4).more (Nat.le_refl _) hhi, a4⟩
  · rw [List.getElem?_set] at ht hu
    split at ht
    · rename_i hik
      injection ht with ht
      injection ht with e1 e2
      subst e1 e2
      split at hu
      · omega
      · rename_i hne
        rw [hA] at et
        exact absurd (eu.trans et.symm) (hoth j z u (Ne.symm hne) hu).2
    · rename_i hne
      split at hu
      · injection hu with hu
        injection hu with e1 e2
        subst e1 e2
        rw [hA] at eu
        exact absurd (et.trans eu.symm) (hoth i y t (Ne.symm hne) ht).2
      · exact h.dif i j y z t u p ht hu et eu
end
section
variable {P : Program} (w : World)
theorem wp_blk {o : Oper} {a : Act} {K : Act → World → Prop} {Q : Exit → Act → World → Prop} (s x : Operand) (t : TypeId)
    (ho : o.op = .call { callee := .builtin .append, args := #[s, x], argTypes := #[t, t] })
    (e : TypeId) (i : TypeInfo) (z : Value) (size bytes g : Nat) (ht : P.underlying t = some (.slice e)) (hin : P.info? e = some i) (hz : i.zero = some z)
    (hsize : i.size = size) (hby : i.bytes = bytes) (hzs : z.cells.size = size) (hsz : 0 < size)
    (v : Value) (n : Nat) (xs : List Value) (hs : a.eval s = v) (hown : Own w g (g + 1) e size v n xs) (m c ad : Nat) (news : List Value) (hx : a.eval x = .slice (some ⟨ad, 0, none⟩) m c) (hm : 0 < m) (hl : news.length = m * size)
    (hnews : ∀ j u, news[j]? = some u → w.cell? ⟨ad, j, none⟩ = some u) (h1 : ∀ u ∈ news, u.oneCell' = true)
    (h63 : n + m ≤ maxLen) (hbytes : (n + m) * bytes ≤ 140737488355328)
    (h : ∀ g' c' w', Own w' g' (g' + 1) e size (.slice (some ⟨g', 0, none⟩) (n + m) c') (n + m) (xs ++ news) → n + m ≤ c' → c' ≤ maxLen → (g' = g ∨ w.heap.size ≤ g') → g' < w'.heap.size → Chg g (g + 1) w w' → K (a.put o.dst (.slice (some ⟨g', 0, none⟩) (n + m) c')) w') : o.wp P a w K Q := by
  obtain ⟨g', c', w', hrun, h2, h3, h4, h5, h6, h7⟩ := run_blk (P := P) w t o.type e i z size bytes g ht hin hz hsize hby hzs hsz v n xs hown m c ad news hm hl hnews h1 h63 hbytes
  unfold Oper.wp execOp
  simp only [ho, resolve, invoke, builtin, Sem.run_bind, Sem.run_pure, Result.andThen_ok, List.map_toArray, List.map_cons, List.map_nil, hs, hx, hrun]
  exact h g' c' w' h2 h3 h4 h5 h6 h7
theorem wpList_blk {ops : Array Oper} {rest : List Oper} {o : Oper} {a : Act} {Q : Exit → Act → World → Prop} (hgd : o.guard = none) (s x : Operand) (t : TypeId)
    (ho : o.op = .call { callee := .builtin .append, args := #[s, x], argTypes := #[t, t] })
    (e : TypeId) (i : TypeInfo) (z : Value) (size bytes g : Nat) (ht : P.underlying t = some (.slice e)) (hin : P.info? e = some i) (hz : i.zero = some z)
    (hsize : i.size = size) (hby : i.bytes = bytes) (hzs : z.cells.size = size) (hsz : 0 < size)
    (v : Value) (n : Nat) (xs : List Value) (hs : a.eval s = v) (hown : Own w g (g + 1) e size v n xs) (m c ad : Nat) (news : List Value) (hx : a.eval x = .slice (some ⟨ad, 0, none⟩) m c) (hm : 0 < m) (hl : news.length = m * size)
    (hnews : ∀ j u, news[j]? = some u → w.cell? ⟨ad, j, none⟩ = some u) (h1 : ∀ u ∈ news, u.oneCell' = true)
    (h63 : n + m ≤ maxLen) (hbytes : (n + m) * bytes ≤ 140737488355328)
    (h : ∀ g' c' w', Own w' g' (g' + 1) e size (.slice (some ⟨g', 0, none⟩) (n + m) c') (n + m) (xs ++ news) → n + m ≤ c' → c' ≤ maxLen → (g' = g ∨ w.heap.size ≤ g') → g' < w'.heap.size → Chg g (g + 1) w w' → wpList P ops Q rest (a.put o.dst (.slice (some ⟨g', 0, none⟩) (n + m) c')) w') : wpList P ops Q (o :: rest) a w := by
  refine wpList_plain hgd fun K hK => ?_
  exact wp_blk w s x t ho e i z size bytes g ht hin hz hsize hby hzs hsz v n xs hs hown m c ad news hx hm hl hnews h1 h63 hbytes fun g' c' w' a1 a2 a3 a4 a5 a6 => hK _ _ (h g' c' w' a1 a2 a3 a4 a5 a6)
theorem step_blk {ops : Array Oper} {o : Oper} {a : Act} {K : Act → World → Prop} {Q : Exit → Act → World → Prop} {F : Prop} (hgd : o.guard = none) (s x : Operand) (t : TypeId)
    (ho : o.op = .call { callee := .builtin .append, args := #[s, x], argTypes := #[t, t] })
    (e : TypeId) (i : TypeInfo) (z : Value) (size bytes g : Nat) (ht : P.underlying t = some (.slice e)) (hin : P.info? e = some i) (hz : i.zero = some z)
    (hsize : i.size = size) (hby : i.bytes = bytes) (hzs : z.cells.size = size) (hsz : 0 < size)
    (v : Value) (n : Nat) (xs : List Value) (hs : a.eval s = v) (hown : Own w g (g + 1) e size v n xs) (m c ad : Nat) (news : List Value) (hx : a.eval x = .slice (some ⟨ad, 0, none⟩) m c) (hm : 0 < m) (hl : news.length = m * size)
    (hnews : ∀ j u, news[j]? = some u → w.cell? ⟨ad, j, none⟩ = some u) (h1 : ∀ u ∈ news, u.oneCell' = true)
    (h63 : n + m ≤ maxLen) (hbytes : (n + m) * bytes ≤ 140737488355328)
    (h : ∀ g' c' w', Own w' g' (g' + 1) e size (.slice (some ⟨g', 0, none⟩) (n + m) c') (n + m) (xs ++ news) → n + m ≤ c' → c' ≤ maxLen → (g' = g ∨ w.heap.size ≤ g') → g' < w'.heap.size → Chg g (g + 1) w w' → K (a.put o.dst (.slice (some ⟨g', 0, none⟩) (n + m) c')) w') :
    if Region.wanted o (yielded ops a.tmps) = true then Oper.wp P o a w K Q else F := by
  have hw : Region.wanted o (yielded ops a.tmps) = true := by simp [Region.wanted, hgd]
  rw [if_pos hw]
  exact wp_blk w s x t ho e i z size bytes g ht hin hz hsize hby hzs hsz v n xs hs hown m c ad news hx hm hl hnews h1 h63 hbytes h
end
end Go.Sep
