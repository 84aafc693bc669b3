/- append onto a row of the call's own, the source whatever reads as a list of cells (nil and empty ones too): a law for the walk. No program in sight. -/
import Derived.Test.YtcndocopecnohaaSep
import Derived.OwnWalk
import Derived.Laws.CopyOwn
namespace Go.Sep
open Go.RowKit

section
variable {P : Program} (w : World)
theorem run_app_nil (base : Nat) (t ty e : TypeId) (i : TypeInfo) (size : Nat) (ht : P.underlying t = some (.slice e)) (hi : P.info? e = some i)
    (v : Value) (n : Nat) (xs : List Value) (hown : w.ownsRow base e size v n xs) (c : Nat) : (Builtin.append_ #[t, t] ty #[v, .slice none 0 c]).run P w = .ok v w := by
  rcases hown.2 with ⟨rfl, rfl⟩ | ⟨g, cap, cur, rfl, _, _, hnc, _⟩
  · simp [Builtin.append_, run_underlying ht, sizeOf, typeInfo, hi, Builtin.lenOf, Builtin.firstCells]
  · simp [Builtin.append_, run_underlying ht, sizeOf, typeInfo, hi, Builtin.lenOf, Builtin.firstCells, hnc, storeCells]

theorem run_app (t ty e : TypeId) (i : TypeInfo) (z : Value) (size bytes lo hi lo' hi' : Nat) (ht : P.underlying t = some (.slice e)) (hin : P.info? e = some i) (hz : i.zero = some z)
    (hsize : i.size = size) (hby : i.bytes = bytes) (hzs : z.cells.size = size) (hsz : 0 < size)
    (v : Value) (n : Nat) (xs : List Value) (hown : Own w lo hi e size v n xs)
    (A : Option Addr) (m c : Nat) (news : List Value) (hr : Rd w lo' hi' size A m news) (h1 : ∀ u ∈ news, u.oneCell' = true)
    (h63 : n + m ≤ maxLen) (hbytes : (n + m) * bytes ≤ 140737488355328) (hlo : lo ≤ w.heap.size) (_hhi : hi ≤ w.heap.size) :
    ∃ A' c' w', (Builtin.append_ #[t, t] ty #[v, .slice A m c]).run P w = .ok (.slice A' (n + m) c') w' ∧ Own w' lo w'.heap.size e size (.slice A' (n + m) c') (n + m) (xs ++ news) ∧ n + m ≤ c' ∧ c' ≤ maxLen ∧ Chg lo hi w w' := by
  have key : ∃ v' w', (Builtin.append_ #[t, t] ty #[v, .slice A m c]).run P w = .ok v' w' ∧ w'.ownsRow lo e size v' (n + m) (xs ++ news) ∧ w.grownBy w' v.ownBlock := by
    rcases Nat.eq_zero_or_pos m with h0 | h0
    · subst h0
      have hn : news = [] := List.eq_nil_of_length_eq_zero (by simpa using hr.1)
      subst hn
      rcases A with _ | ad
      · exact ⟨v, w, run_app_nil w lo t ty e i size ht hin v n xs hown.row c, by simpa using hown.row, World.grownBy.refl w _⟩
      · obtain ⟨v', w', hrun, h2, h3, _⟩ := run_append_own (P := P) w lo t ty e i z size bytes ht hin hz hsize hby hzs hsz v n xs hown.row ad 0 c [] (by simp) (by simp) (by simp) h63 hbytes hlo
        exact ⟨v', w', hrun, h2, h3⟩
    · obtain ⟨b, o, rfl, _, _, hcell⟩ := hr.2 h0
      obtain ⟨v', w', hrun, h2, h3, _⟩ := run_append_own (P := P) w lo t ty e i z size bytes ht hin hz hsize hby hzs hsz v n xs hown.row ⟨b, o, none⟩ m c news hr.1 (fun j u hu => by
        have := hcell j u hu
        have e1 : (⟨b, o, none⟩ : Addr).add j = ⟨b, o + j, none⟩ := by unfold Addr.add; split <;> simp_all
        rw [e1]
        exact this) h1 h63 hbytes hlo
      exact ⟨v', w', hrun, h2, h3⟩
  obtain ⟨v', w', hrun, h2, h3⟩ := key
  have ho := Own.of_row h2
  obtain ⟨A', c', hv, k1, k2, _⟩ := ho.form
  subst hv
  refine ⟨A', c', w', hrun, ho, k1, k2, Chg.of_grown h3 fun g hg => ⟨(hown.row.lt g hg).1, hown.lt g hg⟩⟩

/-- THE LAW: 'out = append(out, src..)'. -/
theorem wpList_app {ops : Array Oper} {rest : List Oper} {o : Oper} {a : Act} {Q : Exit → Act → World → Prop} (hgd : o.guard = none) (s x : Operand) (t : TypeId)
    (ho : o.op = .call { callee := .builtin .append, args := #[s, x], argTypes := #[t, t] })
    (e : TypeId) (i : TypeInfo) (z : Value) (size bytes lo hi lo' hi' : Nat) (ht : P.underlying t = some (.slice e)) (hin : P.info? e = some i) (hz : i.zero = some z)
    (hsize : i.size = size) (hby : i.bytes = bytes) (hzs : z.cells.size = size) (hsz : 0 < size)
    (v : Value) (n : Nat) (xs : List Value) (hs : a.eval s = v) (hown : Own w lo hi e size v n xs)
    (A : Option Addr) (m c : Nat) (news : List Value) (hx : a.eval x = .slice A m c) (hr : Rd w lo' hi' size A m news) (h1 : ∀ u ∈ news, u.oneCell' = true)
    (h63 : n + m ≤ maxLen) (hbytes : (n + m) * bytes ≤ 140737488355328) (hlo : lo ≤ w.heap.size) (hhi : hi ≤ w.heap.size)
    (h : ∀ A' c' w', Own w' lo w'.heap.size e size (.slice A' (n + m) c') (n + m) (xs ++ news) → n + m ≤ c' → c' ≤ maxLen → Chg lo hi w w' → wpList P ops Q rest (a.put o.dst (.slice A' (n + m) c')) w') : wpList P ops Q (o :: rest) a w := by
  refine wpList_plain hgd fun K hK => ?_
  obtain ⟨A', c', w', hrun, h2, h3, h4, h5⟩ := run_app (P := P) w t o.type e i z size bytes lo hi lo' hi' ht hin hz hsize hby hzs hsz v n xs hown A m c news hr h1 h63 hbytes hlo hhi
  unfold Oper.wp execOp
  simp only [ho, resolve, invoke, builtin, Sem.run_bind, Sem.run_pure, Result.andThen_ok, List.map_toArray, List.map_cons, List.map_nil, hs, hx, hrun]
  exact hK _ _ (h A' c' w' h2 h3 h4 h5)
theorem wp_app {o : Oper} {a : Act} {K : Act → World → Prop} {Q : Exit → Act → World → Prop} (s x : Operand) (t : TypeId)
    (ho : o.op = .call { callee := .builtin .append, args := #[s, x], argTypes := #[t, t] })
    (e : TypeId) (i : TypeInfo) (z : Value) (size bytes lo hi lo' hi' : Nat) (ht : P.underlying t = some (.slice e)) (hin : P.info? e = some i) (hz : i.zero = some z)
    (hsize : i.size = size) (hby : i.bytes = bytes) (hzs : z.cells.size = size) (hsz : 0 < size)
    (v : Value) (n : Nat) (xs : List Value) (hs : a.eval s = v) (hown : Own w lo hi e size v n xs)
    (A : Option Addr) (m c : Nat) (news : List Value) (hx : a.eval x = .slice A m c) (hr : Rd w lo' hi' size A m news) (h1 : ∀ u ∈ news, u.oneCell' = true)
    (h63 : n + m ≤ maxLen) (hbytes : (n + m) * bytes ≤ 140737488355328) (hlo : lo ≤ w.heap.size) (hhi : hi ≤ w.heap.size)
    (h : ∀ A' c' w', Own w' lo w'.heap.size e size (.slice A' (n + m) c') (n + m) (xs ++ news) → n + m ≤ c' → c' ≤ maxLen → Chg lo hi w w' → K (a.put o.dst (.slice A' (n + m) c')) w') : o.wp P a w K Q := by
  obtain ⟨A', c', w', hrun, h2, h3, h4, h5⟩ := run_app (P := P) w t o.type e i z size bytes lo hi lo' hi' ht hin hz hsize hby hzs hsz v n xs hown A m c news hr h1 h63 hbytes hlo hhi
  unfold Oper.wp execOp
  simp only [ho, resolve, invoke, builtin, Sem.run_bind, Sem.run_pure, Result.andThen_ok, List.map_toArray, List.map_cons, List.map_nil, hs, hx, hrun]
  exact h A' c' w' h2 h3 h4 h5
/-- The same as one step of a region that draws its order. -/
theorem step_app {ops : Array Oper} {o : Oper} {a : Act} {K : Act → World → Prop} {Q : Exit → Act → World → Prop} {E : Prop} (hgd : o.guard = none) (s x : Operand) (t : TypeId)
    (ho : o.op = .call { callee := .builtin .append, args := #[s, x], argTypes := #[t, t] })
    (e : TypeId) (i : TypeInfo) (z : Value) (size bytes lo hi lo' hi' : Nat) (ht : P.underlying t = some (.slice e)) (hin : P.info? e = some i) (hz : i.zero = some z)
    (hsize : i.size = size) (hby : i.bytes = bytes) (hzs : z.cells.size = size) (hsz : 0 < size)
    (v : Value) (n : Nat) (xs : List Value) (hs : a.eval s = v) (hown : Own w lo hi e size v n xs)
    (A : Option Addr) (m c : Nat) (news : List Value) (hx : a.eval x = .slice A m c) (hr : Rd w lo' hi' size A m news) (h1 : ∀ u ∈ news, u.oneCell' = true)
    (h63 : n + m ≤ maxLen) (hbytes : (n + m) * bytes ≤ 140737488355328) (hlo : lo ≤ w.heap.size) (hhi : hi ≤ w.heap.size)
    (h : ∀ A' c' w', Own w' lo w'.heap.size e size (.slice A' (n + m) c') (n + m) (xs ++ news) → n + m ≤ c' → c' ≤ maxLen → Chg lo hi w w' → K (a.put o.dst (.slice A' (n + m) c')) w') :
    if Region.wanted o (yielded ops a.tmps) = true then Oper.wp P o a w K Q else E := by
  have hw : Region.wanted o (yielded ops a.tmps) = true := by simp [Region.wanted, hgd]
  rw [if_pos hw]
  exact wp_app w s x t ho e i z size bytes lo hi lo' hi' ht hin hz hsize hby hzs hsz v n xs hs hown A m c news hx hr h1 h63 hbytes hlo hhi h
/-! ### copy -/
theorem splice_all {α : Type} {zs cs : List α} (h : zs.length = cs.length) : splice zs 0 cs = cs := by
  simp [splice, List.drop_eq_nil_of_le (Nat.le_of_eq h)]
theorem own_setRow {lo hi : Nat} {e : TypeId} {size N c g off : Nat} {xs cs : List Value} {cur : Array Value} (hown : Own w lo hi e size (.slice (some ⟨g, 0, none⟩) N c) N xs) (hg : w.heap[g]? = some (.cells cur e (0, 0))) (hfit : off + cs.length ≤ N * size) :
    Own (w.setRow g (cur.toList.take off ++ cs ++ cur.toList.drop (off + cs.length)).toArray) lo hi e size (.slice (some ⟨g, 0, none⟩) N c) N (splice xs off cs) ∧ Chg lo hi w (w.setRow g (cur.toList.take off ++ cs ++ cur.toList.drop (off + cs.length)).toArray) := by
  have hgb := hown.row.lt g (by simp [Value.ownBlock])
  have hgh := hown.lt g (by simp [Value.ownBlock])
  refine ⟨⟨⟨?_, .inr ?_⟩, hown.lt⟩, ?_⟩
  · rw [length_splice _ _ _ (by have := hown.len; omega)]
    exact hown.len
  · rcases hown.row.2 with ⟨h0, _⟩ | ⟨g', cap, cur', hv, hlo, hh, hnc, hcm, hcs, htake⟩
    · simp at h0
    · simp only [Value.slice.injEq, Option.some.injEq, Addr.mk.injEq, and_true, true_and] at hv
      obtain ⟨rfl, rfl⟩ := hv
      rw [hg] at hh
      injection hh with hh
      injection hh with hh _
      subst hh
      have hN : N * size ≤ c * size := Nat.mul_le_mul_right _ hnc
      have hcl : cur.toList.length = c * size := by simpa using hcs
      refine ⟨g, c, _, rfl, hlo, setRow_heap w g _ _ e _ hg, hnc, hcm, ?_, ?_⟩
      · simp; omega
      · rw [← htake]
        unfold splice
        apply List.ext_getElem?
        intro k
        have m1 : min (N * size) (c * size) = N * size := Nat.min_eq_left hN
        have m2 : min off (c * size) = off := Nat.min_eq_left (by omega)
        have m3 : min off (N * size) = off := Nat.min_eq_left (by omega)
        simp only [List.getElem?_take, List.getElem?_append, List.getElem?_drop, List.length_take, List.length_append, hcl, m1, m2, m3]
        by_cases hk : k < N * size
        · by_cases h1 : k < off
          · have e1 : k < off + cs.length := by omega
            simp only [hk, h1, e1, if_true]
          · by_cases h2 : k < off + cs.length
            · have e4 : k - off < cs.length := by omega
              simp only [hk, h1, h2, e4, if_true, if_false]
            · have e4 : ¬ k - off < cs.length := by omega
              have e6 : off + cs.length + (k - (off + cs.length)) = k := by omega
              have e7 : off + cs.length + (k - off - cs.length) = k := by omega
              simp only [hk, h1, h2, e4, e6, e7, if_true, if_false]
        · have h1 : ¬ k < off := by omega
          have e4 : ¬ k - off < cs.length := by omega
          have e7 : ¬ off + cs.length + (k - off - cs.length) < N * size := by omega
          simp only [hk, h1, e4, e7, if_false]
  · refine ⟨rfl, rfl, rfl, by simp [World.setRow], fun k hk hx => setRow_other w g k _ (by omega)⟩

theorem run_cpy (dT sT ty e : TypeId) (i : TypeInfo) (size lo hi : Nat) (ht : P.underlying dT = some (.slice e)) (hin : P.info? e = some i) (hsize : i.size = size)
    (dp sp : Option Addr) (dLen dCap sLen sCap N c : Nat) (A : Option Addr) (xs : List Value) (hown : Own w lo hi e size (.slice A N c) N xs) (off : Nat) (cs : List Value) (hn : cs.length = Nat.min sLen dLen * size)
    (hpos : 0 < cs.length → ∃ g, A = some ⟨g, 0, none⟩ ∧ dp = some ⟨g, off, none⟩ ∧ ∃ b o, sp = some ⟨b, o, none⟩ ∧ ∀ j v, cs[j]? = some v → w.cell? ⟨b, o + j, none⟩ = some v)
    (hfit : off + cs.length ≤ N * size) (h1 : ∀ v ∈ cs, v.oneCell' = true) :
    ∃ w', (Builtin.copy_ #[dT, sT] ty #[.slice dp dLen dCap, .slice sp sLen sCap]).run P w = .ok (goInt (Nat.min sLen dLen)) w' ∧ Own w' lo hi e size (.slice A N c) N (splice xs off cs) ∧ Chg lo hi w w' := by
  by_cases h0 : cs.length = 0
  · obtain rfl : cs = [] := List.eq_nil_of_length_eq_zero h0
    have hx : splice xs off [] = xs := by simp [splice]
    rw [hx]
    have hz : Nat.min sLen dLen * i.size = 0 := by rw [hsize, ← hn]; rfl
    refine ⟨w, ?_, hown, Chg.refl _ _ _⟩
    rcases sp with _ | sa
    · cases dp <;> simp [Builtin.copy_, run_underlying ht, Builtin.lenOf, Builtin.firstCells, sizeOf, typeInfo, hin, storeCells]
    · have hl := run_loadCells_list (P := P) w sa [] (by simp)
      simp only [List.length_nil] at hl
      cases dp <;> simp [Builtin.copy_, run_underlying ht, Builtin.lenOf, Builtin.firstCells, sizeOf, typeInfo, hin, hz, hl, storeCells]
  · obtain ⟨g, rfl, rfl, b, o, rfl, hsrc⟩ := hpos (by omega)
    obtain ⟨h2, h3⟩ : ∃ cur, w.heap[g]? = some (.cells cur e (0, 0)) := by
      rcases hown.row.2 with ⟨h0', _⟩ | ⟨g', cap, cur, hv, _, hh, _⟩
      · simp at h0'
      · simp only [Value.slice.injEq, Option.some.injEq, Addr.mk.injEq, and_true, true_and] at hv
        obtain ⟨rfl, rfl⟩ := hv
        exact ⟨cur, hh⟩
    have hsz : N * size ≤ h2.size := by
      rcases hown.row.2 with ⟨h0', _⟩ | ⟨g', cap, cur, hv, _, hh, hnc, _, hcs, _⟩
      · simp at h0'
      · simp only [Value.slice.injEq, Option.some.injEq, Addr.mk.injEq, and_true, true_and] at hv
        obtain ⟨rfl, rfl⟩ := hv
        rw [h3] at hh
        injection hh with hh
        injection hh with hh _
        subst hh
        rw [hcs]
        exact Nat.mul_le_mul_right _ hnc
    have hl := run_loadCells_list (P := P) w ⟨b, o, none⟩ cs (fun j v hv => by
      have e1 : (⟨b, o, none⟩ : Addr).add j = ⟨b, o + j, none⟩ := by unfold Addr.add; split <;> simp_all
      rw [e1]
      exact hsrc j v hv)
    have hst := run_storeCells_at P g off e cs 0 h2 w h3 (by omega) h1
    obtain ⟨k1, k2⟩ := own_setRow w (off := off) (cs := cs) hown h3 hfit
    refine ⟨_, ?_, k1, k2⟩
    rw [hn] at hl
    simp [Builtin.copy_, run_underlying ht, Builtin.lenOf, Builtin.firstCells, sizeOf, typeInfo, hin, hsize, hl, hst]

/-- THE LAW: 'copy(dst, src)'. -/
theorem wpList_cpy {ops : Array Oper} {rest : List Oper} {o : Oper} {a : Act} {Q : Exit → Act → World → Prop} (hgd : o.guard = none) (d s : Operand) (dT sT : TypeId)
    (ho : o.op = .call { callee := .builtin .copy, args := #[d, s], argTypes := #[dT, sT] })
    (e : TypeId) (i : TypeInfo) (size lo hi : Nat) (ht : P.underlying dT = some (.slice e)) (hin : P.info? e = some i) (hsize : i.size = size)
    (dp sp : Option Addr) (dLen dCap sLen sCap N c : Nat) (A : Option Addr) (xs : List Value) (hd : a.eval d = .slice dp dLen dCap) (hs : a.eval s = .slice sp sLen sCap) (hown : Own w lo hi e size (.slice A N c) N xs) (off : Nat) (cs : List Value) (hn : cs.length = Nat.min sLen dLen * size)
    (hpos : 0 < cs.length → ∃ g, A = some ⟨g, 0, none⟩ ∧ dp = some ⟨g, off, none⟩ ∧ ∃ b o, sp = some ⟨b, o, none⟩ ∧ ∀ j v, cs[j]? = some v → w.cell? ⟨b, o + j, none⟩ = some v)
    (hfit : off + cs.length ≤ N * size) (h1 : ∀ v ∈ cs, v.oneCell' = true)
    (h : ∀ w', Own w' lo hi e size (.slice A N c) N (splice xs off cs) → Chg lo hi w w' → wpList P ops Q rest (a.put o.dst (goInt (Nat.min sLen dLen))) w') : wpList P ops Q (o :: rest) a w := by
  refine wpList_plain hgd fun K hK => ?_
  obtain ⟨w', hrun, h2, h3⟩ := run_cpy (P := P) w dT sT o.type e i size lo hi ht hin hsize dp sp dLen dCap sLen sCap N c A xs hown off cs hn hpos hfit h1
  unfold Oper.wp execOp
  simp only [ho, resolve, invoke, builtin, Sem.run_bind, Sem.run_pure, Result.andThen_ok, List.map_toArray, List.map_cons, List.map_nil, hd, hs, hrun]
  exact hK _ _ (h w' h2 h3)
/-- The same as one step of a region that draws its order. -/
theorem step_cpy {ops : Array Oper} {o : Oper} {a : Act} {K : Act → World → Prop} {Q : Exit → Act → World → Prop} {E : Prop} (hgd : o.guard = none) (d s : Operand) (dT sT : TypeId)
    (ho : o.op = .call { callee := .builtin .copy, args := #[d, s], argTypes := #[dT, sT] })
    (e : TypeId) (i : TypeInfo) (size lo hi : Nat) (ht : P.underlying dT = some (.slice e)) (hin : P.info? e = some i) (hsize : i.size = size)
    (dp sp : Option Addr) (dLen dCap sLen sCap N c : Nat) (A : Option Addr) (xs : List Value) (hd : a.eval d = .slice dp dLen dCap) (hs : a.eval s = .slice sp sLen sCap) (hown : Own w lo hi e size (.slice A N c) N xs) (off : Nat) (cs : List Value) (hn : cs.length = Nat.min sLen dLen * size)
    (hpos : 0 < cs.length → ∃ g, A = some ⟨g, 0, none⟩ ∧ dp = some ⟨g, off, none⟩ ∧ ∃ b o, sp = some ⟨b, o, none⟩ ∧ ∀ j v, cs[j]? = some v → w.cell? ⟨b, o + j, none⟩ = some v)
    (hfit : off + cs.length ≤ N * size) (h1 : ∀ v ∈ cs, v.oneCell' = true)
    (h : ∀ w', Own w' lo hi e size (.slice A N c) N (splice xs off cs) → Chg lo hi w w' → K (a.put o.dst (goInt (Nat.min sLen dLen))) w') :
    if Region.wanted o (yielded ops a.tmps) = true then Oper.wp P o a w K Q else E := by
  have hw : Region.wanted o (yielded ops a.tmps) = true := by simp [Region.wanted, hgd]
  rw [if_pos hw]
  obtain ⟨w', hrun, h2, h3⟩ := run_cpy (P := P) w dT sT o.type e i size lo hi ht hin hsize dp sp dLen dCap sLen sCap N c A xs hown off cs hn hpos hfit h1
  unfold Oper.wp execOp
  simp only [ho, resolve, invoke, builtin, Sem.run_bind, Sem.run_pure, Result.andThen_ok, List.map_toArray, List.map_cons, List.map_nil, hd, hs, hrun]
  exact h w' h2 h3
end

theorem ints_one (k : IntKind) (l : List Int) : ∀ u ∈ l.map (Value.int k), u.oneCell' = true := ints_oneCell k l

/-- A new block of cells, read as a slice. -/
theorem Rd.fresh (w : World) (cs : Array Value) (E : TypeId) (sz n : Nat) (h : cs.size = n * sz) : Rd (w.alloc (.cells cs E)) w.heap.size (w.heap.size + 1) sz (some ⟨w.heap.size, 0, none⟩) n cs.toList := by
  refine ⟨by simpa using h, fun _ => ⟨w.heap.size, 0, rfl, Nat.le_refl _, Nat.lt_succ_self _, fun j u hu => ?_⟩⟩
  rw [World.cell?_alloc_new, Nat.zero_add]
  simpa using hu
/-- A new block of cells, owned. -/
theorem Own.fresh (w : World) (cs : Array Value) (E : TypeId) (sz n : Nat) (h : cs.size = n * sz) (hm : n ≤ maxLen) : Own (w.alloc (.cells cs E)) w.heap.size (w.heap.size + 1) E sz (.slice (some ⟨w.heap.size, 0, none⟩) n n) n cs.toList :=
  ⟨World.ownsRow_lit w cs n (Nat.le_refl _) hm h, fun k hk => by simp [Value.ownBlock] at hk; omega⟩
end Go.Sep
