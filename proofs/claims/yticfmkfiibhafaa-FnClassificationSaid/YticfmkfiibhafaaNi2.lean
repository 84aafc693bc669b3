/- A row of structs that hold a slice each, grown by append: the row may lie between the slices' blocks. No function of the program is walked here. -/
import Derived.Test.YticfmkfiibhafaaNest2
import Derived.Test.YticfmkfiibhafaaApp
import Derived.ArgAppend
namespace Go.Sep
open Go.RowKit

section
variable {kd : IntKind} {E E2 : TypeId} {w w' : World} {lo mid hi n c : Nat} {A : Option Addr} {l : List (Int × List Int)} {ss a b : List (Int × Sl)} {s : (Int × Sl)}
theorem NL2.down (h : NL2 w kd E lo hi ss) {lo' : Nat} (hh : lo' ≤ lo) : NL2 w kd E lo' hi ss := by
  cases ss with
  | nil => exact Nat.le_trans hh h
  | cons s r => obtain ⟨m, h1, h2, h3, h4, h5⟩ := h; exact ⟨m, Nat.le_trans hh h1, h2.more hh (Nat.le_refl _), h3, h4, h5⟩
theorem NL2.cat (ha : NL2 w kd E lo mid a) (hb : NL2 w kd E mid hi b) : NL2 w kd E lo hi (a ++ b) := by
  induction a generalizing lo with
  | nil => exact hb.down ha
  | cons x r ih => obtain ⟨m, g1, g2, g3, g4, g5⟩ := ha; exact ⟨m, g1, g2, g3, g4, ih g5⟩
def dt (s : Int × Sl) : Int × List Int := (s.1, s.2.l)
/-- Such a row, all of it the call's own. -/
def NI2 (w : World) (lo hi : Nat) (E : TypeId) (kd : IntKind) (E2 : TypeId) (A : Option Addr) (n c : Nat) (l : List (Int × List Int)) : Prop :=
  ∃ (m1 m2 : Nat) (a b : List (Int × Sl)), NL2 w kd E2 lo m1 a ∧ m1 ≤ m2 ∧ Own w m1 m2 E 2 (.slice A n c) n ((a ++ b).flatMap cs1) ∧ NL2 w kd E2 m2 hi b ∧ (a ++ b).map dt = l
theorem NI2.of (h : NOwn2 w lo hi E kd E2 A n c l) : NI2 w lo hi E kd E2 A n c l := by
  obtain ⟨m, ss, h1, h2, h3, h4⟩ := h
  exact ⟨lo, m, [], ss, Nat.le_refl _, h1, h2, h3, h4⟩
theorem NI2.nd (h : NI2 w lo hi E kd E2 A n c l) : Nd2 kd w lo hi A n l := by
  obtain ⟨m1, m2, a, b, h1, h2, h3, h4, h5⟩ := h
  have g1 := h1.le
  have g4 := h4.le
  refine ⟨a ++ b, h3.rd.more g1 g4, fun s hs => ?_, h5⟩
  rcases List.mem_append.1 hs with hs | hs
  · exact (h1.ok s hs).more (Nat.le_refl _) (by omega)
  · exact (h4.ok s hs).more (by omega) (Nat.le_refl _)
theorem NI2.le (h : NI2 w lo hi E kd E2 A n c l) : lo ≤ hi := by
  obtain ⟨m1, m2, a, b, h1, h2, h3, h4, h5⟩ := h
  have g1 := h1.le
  have g4 := h4.le
  omega
theorem NI2.chg (h : NI2 w lo hi E kd E2 A n c l) {x y : Nat} (hc : Chg x y w w') (hd : hi ≤ x ∨ y ≤ lo) : NI2 w' lo hi E kd E2 A n c l := by
  obtain ⟨m1, m2, a, b, h1, h2, h3, h4, h5⟩ := h
  have g1 := h1.le
  have g4 := h4.le
  exact ⟨m1, m2, a, b, h1.chg hc (by omega), h2, h3.chg hc (by omega), h4.chg hc (by omega), h5⟩
theorem NI2.below' (h : NI2 w lo hi E kd E2 A n c l) (hb : Below w.heap.size w w') : NI2 w' lo hi E kd E2 A n c l := h.chg (Chg.of_below hb 0 0) (.inr (Nat.zero_le _))
theorem NI2.more (h : NI2 w lo hi E kd E2 A n c l) {lo' hi' : Nat} (g1 : lo' ≤ lo) (g2 : hi ≤ hi') : NI2 w lo' hi' E kd E2 A n c l := by
  obtain ⟨m1, m2, a, b, h1, h2, h3, h4, h5⟩ := h
  exact ⟨m1, m2, a, b, h1.down g1, h2, h3, h4.up g2, h5⟩
/-- An empty one. -/
theorem NI2.fresh (w : World) (E : TypeId) (kd : IntKind) (E2 : TypeId) : NI2 (w.alloc (.cells #[] E)) w.heap.size (w.heap.size + 1) E kd E2 (some ⟨w.heap.size, 0, none⟩) 0 0 [] :=
  ⟨w.heap.size, w.heap.size + 1, [], [], Nat.le_refl _, Nat.le_succ _, by simpa using Own.fresh w #[] E 2 0 rfl (by unfold maxLen; omega), Nat.le_refl _, rfl⟩
end
section
variable {P : Program} (w : World)
/-- One struct more, its slice made behind the row and its slices. -/
theorem run_ni2 (t ty E : TypeId) (kd : IntKind) (E2 : TypeId) (i : TypeInfo) (z : Value) (bytes lo H H2 : Nat) (ht : P.underlying t = some (.slice E)) (hin : P.info? E = some i) (hz : i.zero = some z)
    (hsize : i.size = 2) (hby : i.bytes = bytes) (hzs : z.cells.size = 2)
    (g n cap : Nat) (l : List (Int × List Int)) (hown : NI2 w lo H E kd E2 (some ⟨g, 0, none⟩) n cap l) (x : Int) (s : Sl)
    (hs : Own w H H2 E2 1 (.slice s.A s.n s.c) s.n (s.l.map (.int kd))) (hs1 : s.n ≤ s.c) (hs2 : s.c ≤ maxLen) (hH : H ≤ H2) (hH2 : H2 ≤ w.heap.size)
    (ad c : Nat) (h0 : w.cell? ⟨ad, 0, none⟩ = some (.int .i64 x)) (h1 : w.cell? ⟨ad, 1, none⟩ = some (.slice s.A s.n s.c))
    (h63 : n + 1 ≤ maxLen) (hbytes : (n + 1) * bytes ≤ 140737488355328) :
    ∃ g' c' w', (Builtin.append_ #[t, t] ty #[.slice (some ⟨g, 0, none⟩) n cap, .slice (some ⟨ad, 0, none⟩) 1 c]).run P w = .ok (.slice (some ⟨g', 0, none⟩) (n + 1) c') w' ∧ NI2 w' lo w'.heap.size E kd E2 (some ⟨g', 0, none⟩) (n + 1) c' (l ++ [(x, s.l)]) ∧ n + 1 ≤ c' ∧ c' ≤ maxLen ∧ Chg lo H w w' := by
  obtain ⟨m1, m2, a, b, k1, k2, k3, k4, rfl⟩ := hown
  have g1 := k1.le
  have g4 := k4.le
  have hnews : ∀ j u, [Value.int .i64 x, .slice s.A s.n s.c][j]? = some u → w.cell? ((⟨ad, 0, none⟩ : Addr).add j) = some u := by
    intro j u hu
    rw [Addr.add_lit, Nat.zero_add]
    rcases j with _ | _ | j
    · simp at hu; subst hu; exact h0
    · simp at hu; subst hu; exact h1
    · simp at hu
  have hone : ∀ u ∈ [Value.int .i64 x, .slice s.A s.n s.c], u.oneCell' = true := by
    intro u hu
    simp at hu
    rcases hu with rfl | rfl <;> rfl
  have hfl : (a ++ b).flatMap cs1 ++ [Value.int .i64 x, .slice s.A s.n s.c] = (a ++ (b ++ [(x, s)])).flatMap cs1 := by
    simp [cs1, Sl.v]
  have hmp : (a ++ (b ++ [(x, s)])).map dt = (a ++ b).map dt ++ [(x, s.l)] := by simp [dt]
  by_cases hr : n + 1 ≤ cap
  · obtain ⟨w', hrun, r1, r2⟩ := run_append_fits (P := P) w m1 t ty E i 2 ht hin hsize g n cap _ k3.row ⟨ad, 0, none⟩ 1 c _ rfl hnews hone hr
    have hch : Chg m1 m2 w w' := Chg.of_grown r2 fun k hk => by
      injection hk with hk
      subst hk
      exact ⟨(k3.row.lt g (by simp [Value.ownBlock])).1, k3.lt g (by simp [Value.ownBlock])⟩
    rw [hfl] at r1
    have hcm : cap ≤ maxLen := by
      obtain ⟨A', c', hv, _, h2, _⟩ := k3.form
      injection hv with _ _ e3
      omega
    refine ⟨g, cap, w', hrun, ⟨m1, m2, a, b ++ [(x, s)], k1.chg hch (.inl (Nat.le_refl _)), k2, ⟨r1, fun k hk => k3.lt k hk⟩, ?_, hmp⟩, hr, hcm, hch.mono g1 g4⟩
    exact ((k4.chg hch (.inr (Nat.le_refl _))).snoc (s := (x, s)) (hs.chg hch (.inr (by omega))) hs1 hs2 hH).up (Nat.le_trans hH2 hch.size)
  · obtain ⟨v', w', hrun, r1, r2⟩ := run_append_arg_grows (P := P) w t ty E i z 2 bytes ht hin hz hsize hby hzs (by omega) ⟨g, 0, none⟩ n cap _ k3.row.1 (fun j u hu => k3.row.cells (by simp [Value.ownBlock]) j u hu) ⟨ad, 0, none⟩ 1 c _ rfl hnews (by omega) h63 hbytes
    have hch : Chg lo H w w' := (Chg.of_grown r2 (lo := lo) (hi := H) fun k hk => by cases hk)
    have hb : Below w.heap.size w w' := (Below.refl _ _).grown r2 (Nat.le_refl _) (by simp)
    rw [hfl] at r1
    obtain ⟨A', c', hv, q1, q2, _⟩ := (Own.of_row r1).form
    rcases r1.2 with ⟨_, hn0⟩ | ⟨g', cap', cur, hv', q3, q4, _⟩
    · omega
    rw [hv] at hv'
    injection hv' with e1 _ e3
    subst e1 e3 hv
    refine ⟨g', c', w', hrun, ⟨w.heap.size, w'.heap.size, a ++ (b ++ [(x, s)]), [], ?_, hch.size, by rw [List.append_nil]; exact Own.of_row r1, Nat.le_refl _, by rw [List.append_nil]; exact hmp⟩, q1, q2, hch⟩
    rw [← List.append_assoc]
    exact (((k1.below' hb).cat ((k4.below' hb).down k2)).snoc (s := (x, s)) (hs.below' hb) hs1 hs2 hH).up hH2
theorem wp_ni2 {o : Oper} {a : Act} {K : Act → World → Prop} {Q : Exit → Act → World → Prop} (s x : Operand) (t : TypeId)
    (ho : o.op = .call { callee := .builtin .append, args := #[s, x], argTypes := #[t, t] })
    (E : TypeId) (kd : IntKind) (E2 : TypeId) (i : TypeInfo) (z : Value) (bytes lo H H2 : Nat) (ht : P.underlying t = some (.slice E)) (hin : P.info? E = some i) (hz : i.zero = some z)
    (hsize : i.size = 2) (hby : i.bytes = bytes) (hzs : z.cells.size = 2)
    (g n cap : Nat) (l : List (Int × List Int)) (hse : a.eval s = .slice (some ⟨g, 0, none⟩) n cap) (hown : NI2 w lo H E kd E2 (some ⟨g, 0, none⟩) n cap l) (y : Int) (sl : Sl)
    (hs : Own w H H2 E2 1 (.slice sl.A sl.n sl.c) sl.n (sl.l.map (.int kd))) (hs1 : sl.n ≤ sl.c) (hs2 : sl.c ≤ maxLen) (hH : H ≤ H2) (hH2 : H2 ≤ w.heap.size)
    (ad c : Nat) (hx : a.eval x = .slice (some ⟨ad, 0, none⟩) 1 c) (h0 : w.cell? ⟨ad, 0, none⟩ = some (.int .i64 y)) (h1 : w.cell? ⟨ad, 1, none⟩ = some (.slice sl.A sl.n sl.c))
    (h63 : n + 1 ≤ maxLen) (hbytes : (n + 1) * bytes ≤ 140737488355328)
    (h : ∀ g' c' w', NI2 w' lo w'.heap.size E kd E2 (some ⟨g', 0, none⟩) (n + 1) c' (l ++ [(y, sl.l)]) → n + 1 ≤ c' → c' ≤ maxLen → Chg lo H w w' → K (a.put o.dst (.slice (some ⟨g', 0, none⟩) (n + 1) c')) w') : o.wp P a w K Q := by
  obtain ⟨g', c', w', hrun, h2, h3, h4, h5⟩ := run_ni2 (P := P) w t o.type E kd E2 i z bytes lo H H2 ht hin hz hsize hby hzs g n cap l hown y sl hs hs1 hs2 hH hH2 ad c h0 h1 h63 hbytes
  unfold Oper.wp execOp
  simp only [ho, resolve, invoke, builtin, Sem.run_bind, Sem.run_pure, Result.andThen_ok, List.map_toArray, List.map_cons, List.map_nil, hse, hx, hrun]
  exact h g' c' w' h2 h3 h4 h5
theorem wpList_ni2 {ops : Array Oper} {rest : List Oper} {o : Oper} {a : Act} {Q : Exit → Act → World → Prop} (hgd : o.guard = none) (s x : Operand) (t : TypeId)
    (ho : o.op = .call { callee := .builtin .append, args := #[s, x], argTypes := #[t, t] })
    (E : TypeId) (kd : IntKind) (E2 : TypeId) (i : TypeInfo) (z : Value) (bytes lo H H2 : Nat) (ht : P.underlying t = some (.slice E)) (hin : P.info? E = some i) (hz : i.zero = some z)
    (hsize : i.size = 2) (hby : i.bytes = bytes) (hzs : z.cells.size = 2)
    (g n cap : Nat) (l : List (Int × List Int)) (hse : a.eval s = .slice (some ⟨g, 0, none⟩) n cap) (hown : NI2 w lo H E kd E2 (some ⟨g, 0, none⟩) n cap l) (y : Int) (sl : Sl)
    (hs : Own w H H2 E2 1 (.slice sl.A sl.n sl.c) sl.n (sl.l.map (.int kd))) (hs1 : sl.n ≤ sl.c) (hs2 : sl.c ≤ maxLen) (hH : H ≤ H2) (hH2 : H2 ≤ w.heap.size)
    (ad c : Nat) (hx : a.eval x = .slice (some ⟨ad, 0, none⟩) 1 c) (h0 : w.cell? ⟨ad, 0, none⟩ = some (.int .i64 y)) (h1 : w.cell? ⟨ad, 1, none⟩ = some (.slice sl.A sl.n sl.c))
    (h63 : n + 1 ≤ maxLen) (hbytes : (n + 1) * bytes ≤ 140737488355328)
    (h : ∀ g' c' w', NI2 w' lo w'.heap.size E kd E2 (some ⟨g', 0, none⟩) (n + 1) c' (l ++ [(y, sl.l)]) → n + 1 ≤ c' → c' ≤ maxLen → Chg lo H w w' → wpList P ops Q rest (a.put o.dst (.slice (some ⟨g', 0, none⟩) (n + 1) c')) w') : wpList P ops Q (o :: rest) a w := by
  refine wpList_plain hgd fun K hK => ?_
  exact wp_ni2 w s x t ho E kd E2 i z bytes lo H H2 ht hin hz hsize hby hzs g n cap l hse hown y sl hs hs1 hs2 hH hH2 ad c hx h0 h1 h63 hbytes fun g' c' w' a1 a2 a3 a4 => hK _ _ (h g' c' w' a1 a2 a3 a4)
theorem step_ni2 {ops : Array Oper} {o : Oper} {a : Act} {K : Act → World → Prop} {Q : Exit → Act → World → Prop} {F : Prop} (hgd : o.guard = none) (s x : Operand) (t : TypeId)
    (ho : o.op = .call { callee := .builtin .append, args := #[s, x], argTypes := #[t, t] })
    (E : TypeId) (kd : IntKind) (E2 : TypeId) (i : TypeInfo) (z : Value) (bytes lo H H2 : Nat) (ht : P.underlying t = some (.slice E)) (hin : P.info? E = some i) (hz : i.zero = some z)
    (hsize : i.size = 2) (hby : i.bytes = bytes) (hzs : z.cells.size = 2)
    (g n cap : Nat) (l : List (Int × List Int)) (hse : a.eval s = .slice (some ⟨g, 0, none⟩) n cap) (hown : NI2 w lo H E kd E2 (some ⟨g, 0, none⟩) n cap l) (y : Int) (sl : Sl)
    (hs : Own w H H2 E2 1 (.slice sl.A sl.n sl.c) sl.n (sl.l.map (.int kd))) (hs1 : sl.n ≤ sl.c) (hs2 : sl.c ≤ maxLen) (hH : H ≤ H2) (hH2 : H2 ≤ w.heap.size)
    (ad c : Nat) (hx : a.eval x = .slice (some ⟨ad, 0, none⟩) 1 c) (h0 : w.cell? ⟨ad, 0, none⟩ = some (.int .i64 y)) (h1 : w.cell? ⟨ad, 1, none⟩ = some (.slice sl.A sl.n sl.c))
    (h63 : n + 1 ≤ maxLen) (hbytes : (n + 1) * bytes ≤ 140737488355328)
    (h : ∀ g' c' w', NI2 w' lo w'.heap.size E kd E2 (some ⟨g', 0, none⟩) (n + 1) c' (l ++ [(y, sl.l)]) → n + 1 ≤ c' → c' ≤ maxLen → Chg lo H w w' → K (a.put o.dst (.slice (some ⟨g', 0, none⟩) (n + 1) c')) w') :
    if Region.wanted o (yielded ops a.tmps) = true then Oper.wp P o a w K Q else F := by
  have hw : Region.wanted o (yielded ops a.tmps) = true := by simp [Region.wanted, hgd]
  rw [if_pos hw]
  exact wp_ni2 w s x t ho E kd E2 i z bytes lo H H2 ht hin hz hsize hby hzs g n cap l hse hown y sl hs hs1 hs2 hH hH2 ad c hx h0 h1 h63 hbytes h
end
end Go.Sep
