/- spec.l10Join. -/
import Derived.Test.YtcndocopecnohaaCmR
import Derived.Test.YtcndocopecnohaaCmQ
import Derived.Deep.CutRange
namespace Go.Sep
open Go.RowKit
structure Bx1 (w : World) (P : Nat) (u0 : Value) : Prop where
  c0 : w.cell? ⟨P, 0, none⟩ = some u0
  f0 : w.frozen? ⟨P, 0, none⟩ = false
theorem Bx1.lt {w : World} {P : Nat} {u0 : Value} (h : Bx1 w P u0) : P < w.heap.size := World.block_lt_of_cell? w _ h.c0
theorem Bx1.chg {w w' : World} {P lo hi : Nat} {u0 : Value} (h : Bx1 w P u0) (hc : Chg lo hi w w') (hx : P < lo ∨ hi ≤ P) : Bx1 w' P u0 :=
  ⟨(hc.cell (p := ⟨P, 0, none⟩) h.lt hx).trans h.c0, (hc.frozen (p := ⟨P, 0, none⟩) h.lt hx).trans h.f0⟩
theorem Bx1.below' {w w' : World} {P : Nat} {u0 : Value} (h : Bx1 w P u0) (hb : Below w.heap.size w w') : Bx1 w' P u0 := h.chg (Chg.of_below hb 0 0) (.inr (Nat.zero_le _))
theorem Bx1.new (w : World) (E : TypeId) (u0 : Value) : Bx1 (w.alloc (.cells #[u0] E)) w.heap.size u0 := ⟨by go_simp, by go_simp⟩
theorem Bx1.set {w : World} {P : Nat} {u0 : Value} (h : Bx1 w P u0) (v0 : Value) : Bx1 (w.setCell ⟨P, 0, none⟩ v0) P v0 := by
  obtain ⟨x0, y0⟩ := h
  exact ⟨by go_simp, by go_simp⟩
theorem chg1 {w : World} {P lo hi j : Nat} (h1 : lo ≤ P) (h2 : P < hi) (v0 : Value) : Chg lo hi w (w.setCell ⟨P, j, none⟩ v0) := (by (repeat' (first | (with_reducible exact Chg.refl _ _ _) | (with_reducible assumption) | (with_reducible refine Chg.alloc ?_ _) | (with_reducible refine Chg.setCell ?_ ?_ _) | (with_reducible refine Chg.drew ?_) | (with_reducible refine Chg.drewN ?_ _) | (with_reducible refine Chg.ext ?_ _ _))); all_goals (first | omega | (simp; done) | (simp; omega)))
theorem Chg.wide {lo hi a : Nat} {w w1 w2 : World} (h : Chg lo hi w w1) (k : Chg a (a + 1) w1 w2) (hl : lo ≤ a) (hh : a < hi ∨ w.heap.size ≤ a) : Chg lo hi w w2 :=
  ⟨k.os.trans h.os, k.tape.trans h.tape, k.output.trans h.output, Nat.le_trans h.size k.size, fun i hi hx => (k.block i (Nat.lt_of_lt_of_le hi h.size) (by omega)).trans (h.block i hi hx)⟩
section
variable {w : World} {lo hi g c k : Nat} {E E2 : TypeId} {ss : List (Int × Sl)} {x : Int} {s : Sl}
/-- The block of a slice of it; a block of one's choice for none. -/
theorem OB.own1 (h : OB w E E2 lo hi g c ss) (hk : ss[k]? = some (x, s)) (M : Nat) (hM : hi ≤ M) : ∃ a, Own w a (a + 1) E2 1 (.slice s.A s.n s.c) s.n (s.l.map (.int .i64)) ∧ (s.A = some ⟨a, 0, none⟩ ∧ a < w.heap.size ∨ a = M) ∧ lo ≤ a ∧ a ≠ g := by
  obtain ⟨h1, h2, h3, h4⟩ := h.one k x s hk
  have hlo := h.glo
  have hhi := h.ghi
  obtain ⟨A, cap, hv, _, _, hA⟩ := h3.form
  injection hv with e1 _ e3
  rcases hA with ⟨rfl, e0, ec⟩ | ⟨a, rfl, ha1, ha2, ha3⟩
  · rw [e1] at h3 ⊢
    have hl := h3.len
    refine ⟨M, ?_, .inr rfl, by omega, by omega⟩
    have : s.l.map (Value.int .i64) = [] := List.eq_nil_of_length_eq_zero (by omega)
    rw [this, e0, e3, ec]
    exact Own.nil_ _ _ _ _ _
  · rw [e1] at h3 h4 ⊢
    refine ⟨a, h3.tight, .inl ⟨rfl, ha3⟩, ha1, ?_⟩
    rintro rfl
    exact h4 rfl
end
end Go.Sep
namespace Go.Proofs.Ytcndocopecnohaa
open Go.RowKit Go.Sep
/-- A map under way: cell i's neighbors are those of a symmetric relation. -/
structure JM (L : CM) (n B : Nat) (rel : Nat → Nat → Bool) : Prop where
  len : L.length = n
  symm : ∀ i j, rel i j = rel j i
  irr : ∀ i, rel i i = false
  cell : ∀ i, i < n → ∃ x l, L[i]? = some (x, l) ∧ 0 ≤ x ∧ x ≤ 1 ∧ l.length ≤ B ∧ ∀ k : Nat, (k : Int) ∈ l ↔ rel i k = true
def rel2 (rel : Nat → Nat → Bool) (a b : Nat) : Nat → Nat → Bool := fun i k => rel i k || (decide (i = a ∧ k = b) || decide (i = b ∧ k = a))
theorem rel2_iff {rel : Nat → Nat → Bool} {a b i k : Nat} : rel2 rel a b i k = true ↔ rel i k = true ∨ (i = a ∧ k = b) ∨ (i = b ∧ k = a) := by simp [rel2]
theorem JM.join {L : CM} {n B a b : Nat} {rel : Nat → Nat → Bool} {x y : Int} {l l' : List Int} (h : JM L n B rel) (ha : a < n) (hb : b < n) (hab : a ≠ b) (hx : L[a]? = some (x, l)) (hy : L[b]? = some (y, l')) :
    JM ((L.set a (x, l ++ [(b : Int)])).set b (y, l' ++ [(a : Int)])) n (B + 1) (rel2 rel a b) := by
  have hlen := h.len
  refine ⟨by simp [hlen], fun i j => ?_, fun i => ?_, fun i hi => ?_⟩
  · rw [Bool.eq_iff_iff, rel2_iff, rel2_iff, h.symm i j]
    exact or_congr Iff.rfl ⟨by omega, by omega⟩
  · rw [Bool.eq_false_iff]
    intro hh
    rw [ne_eq, rel2_iff, h.irr i] at *
    rcases hh with hh | hh | hh
    · cases hh
    · omega
    · omega
  · obtain ⟨z, m, hz, h0, h1, h2, h3⟩ := h.cell i hi
    by_cases hib : i = b
    · subst hib
      rw [hy] at hz
      injection hz with hz
      injection hz with e1 e2
      subst e1 e2
      refine ⟨y, l' ++ [(a : Int)], by simp [hlen, hi], h0, h1, by simp; omega, fun k => ?_⟩
      rw [List.mem_append, h3 k, rel2_iff, List.mem_singleton]
      exact or_congr Iff.rfl ⟨by omega, by omega⟩
    · by_cases hia : i = a
      · subst hia
        rw [hx] at hz
        injection hz with hz
        injection hz with e1 e2
        subst e1 e2
        refine ⟨x, l ++ [(b : Int)], by rw [List.getElem?_set_ne (Ne.symm hib)]; simp [hlen, hi], h0, h1, by simp; omega, fun k => ?_⟩
        rw [List.mem_append, h3 k, rel2_iff, List.mem_singleton]
        exact or_congr Iff.rfl ⟨by omega, by omega⟩
      · refine ⟨z, m, by rw [List.getElem?_set_ne (Ne.symm hib), List.getElem?_set_ne (Ne.symm hia)]; exact hz, h0, h1, by omega, fun k => ?_⟩
        rw [h3 k, rel2_iff]
        exact ⟨.inl, fun hh => hh.elim id fun hh => by omega⟩
/-- Behind the first half of a join. -/
def JR (E E2 : TypeId) (w : World) (lo g c n : Nat) (ss : List (Int × Sl)) (a : Nat) (x : Int) (l : List Int) (wx : World) : Prop :=
  ∃ s : Sl, OB wx E E2 lo wx.heap.size g c (ss.set a (x, s)) ∧ s.l = l ∧ Bx1 wx w.heap.size (.slice (some ⟨g, 0, none⟩) n c) ∧ w.heap.size < wx.heap.size ∧ Chg lo w.heap.size w wx
set_option maxHeartbeats 1000000 in
set_option maxRecDepth 100000 in
theorem sJoin_any (w : World) (g c lo n a b B : Nat) (ss : List (Int × Sl)) (rel : Nat → Nat → Bool) (hO : OB w 51 3 lo w.heap.size g c ss) (hJ : JM (ss.map dtC) n B rel) (ha : a < n) (hb : b < n) (hab : a ≠ b) (hB : B ≤ 1000) :
    Calls Try.prog 56 #[.agg #[.slice (some ⟨g, 0, none⟩) n c], .int .i64 a, .int .i64 b] w fun e w' => e = .returned (.tuple #[]) ∧ ∃ ss', OB w' 51 3 lo w'.heap.size g c ss' ∧ JM (ss'.map dtC) n (B + 1) (rel2 rel a b) ∧ Chg lo w.heap.size w w' := by
  obtain ⟨i0, hi0, hz0, hz1, hz2⟩ := info_parts infoIntS
  have hl : ss.length = n := by have := hJ.len; simpa using this
  have hgl := hO.glt
  have hglo := hO.glo
  obtain ⟨x, s1, e1⟩ : ∃ x s1, ss[a]? = some (x, s1) := ⟨_, _, List.getElem?_eq_getElem (by omega)⟩
  obtain ⟨y, s2, e2⟩ : ∃ y s2, ss[b]? = some (y, s2) := ⟨_, _, List.getElem?_eq_getElem (by omega)⟩
  have d1 : (ss.map dtC)[a]? = some (x, s1.l) := by simp [e1, dtC]
  have d2 : (ss.map dtC)[b]? = some (y, s2.l) := by simp [e2, dtC]
  have hn1 : s1.n ≤ 1000 := by
    obtain ⟨_, _, q1, _, _, q2, _⟩ := hJ.cell a ha
    rw [d1] at q1
    injection q1 with q1
    injection q1 with _ q1
    subst q1
    have := (hO.one a x s1 e1).2.2.1.len
    simp at this
    omega
  have hn2 : s2.n ≤ 1000 := by
    obtain ⟨_, _, q1, _, _, q2, _⟩ := hJ.cell b hb
    rw [d2] at q1
    injection q1 with q1
    injection q1 with _ q1
    subst q1
    have := (hO.one b y s2 e2).2.2.1.len
    simp at this
    omega
  have HJ := hide (hJ.join ha hb hab d1 d2)
  have hs2A : ∀ p : Nat, s2.A = some ⟨p, 0, none⟩ → p < w.heap.size := by
    intro p hp
    have := (hO.one b y s2 e2).2.2.1
    rw [hp] at this
    exact this.blk_lt.2.1
  have hO0 : OB (w.alloc (.cells #[.slice (some ⟨g, 0, none⟩) n c] 29)) 51 3 lo w.heap.size g c ss := hO.below' (by (repeat' (first | (with_reducible exact Below.refl _ _) | (with_reducible assumption) | (with_reducible refine Below.alloc ?_ ?_ _) | (with_reducible refine below_ext ?_ ?_ _ _) | (with_reducible refine Below.setCell ?_ ?_ _) | (with_reducible refine Below.drew ?_) | (with_reducible refine below_drewN ?_ _))); all_goals (first | omega | (simp; done) | (simp; omega)))
  obtain ⟨ga, hown1, hga, hgalo, hgag⟩ := hO0.own1 e1 (w.heap.size + 2) (by omega)
  obtain ⟨_, k1, _, k2⟩ := hO0.at_ e1
  have hX := hide (Bx1.new w 29 (.slice (some ⟨g, 0, none⟩) n c))
  have han : (a : Int) < (n : Int) := by omega
  have hbn : (b : Int) < (n : Int) := by omega
  have hax : ga ≠ w.heap.size := by
    have := (hO.one a x s1 e1).2.2.1
    rcases hga with ⟨h1, _⟩ | h1
    · rw [h1] at this
      have := this.blk_lt
      omega
    · omega
  have hO1 : OB ((w.alloc (.cells #[.slice (some ⟨g, 0, none⟩) n c] 29)).alloc (.cells #[.int .i64 b] 3)).drew 51 3 lo w.heap.size g c ss := hO0.below' (by (repeat' (first | (with_reducible exact Below.refl _ _) | (with_reducible assumption) | (with_reducible refine Below.alloc ?_ ?_ _) | (with_reducible refine below_ext ?_ ?_ _ _) | (with_reducible refine Below.setCell ?_ ?_ _) | (with_reducible refine Below.drew ?_) | (with_reducible refine below_drewN ?_ _))); all_goals (first | omega | (simp; done) | (simp; omega)))
  have hX1 : Bx1 ((w.alloc (.cells #[.slice (some ⟨g, 0, none⟩) n c] 29)).alloc (.cells #[.int .i64 b] 3)).drew w.heap.size (.slice (some ⟨g, 0, none⟩) n c) := hX.out.below' (by (repeat' (first | (with_reducible exact Below.refl _ _) | (with_reducible assumption) | (with_reducible refine Below.alloc ?_ ?_ _) | (with_reducible refine below_ext ?_ ?_ _ _) | (with_reducible refine Below.setCell ?_ ?_ _) | (with_reducible refine Below.drew ?_) | (with_reducible refine below_drewN ?_ _))); all_goals (first | omega | (simp; done) | (simp; omega)))
  have hchA : Chg lo w.heap.size w ((w.alloc (.cells #[.slice (some ⟨g, 0, none⟩) n c] 29)).alloc (.cells #[.int .i64 b] 3)).drew := (((Chg.refl _ _ w).alloc _).alloc _).drew
  have HO1 := hide (And.intro hO1 (And.intro hX1 hchA))
  clear hO hJ hO0 hO1 hX1 hchA hX
  go_enter Try.func56, Try.ntmps56
  go_wp2_with fail
  go_upto_region 1 with fail
  go_cut [] from 4 to 33 (fun wx => JR 51 3 w lo g c n ss a x (s1.l ++ [(b : Int)]) wx)
  case first =>
    go_region_law (first
      | (refine step_blk _ rfl (.tmp 14) (.tmp 16) 35 rfl 3 i0 (.int .i64 0) 1 8 ga Try.underlying35 hi0 hz0 hz1 hz2 rfl (by omega) (.slice s1.A s1.n s1.c) s1.n (s1.l.map (.int .i64)) (by simp [Act.eval]) ((hown1.alloc _).drew) 1 1 (w.heap.size + 1) [.int .i64 b] (by simp [Act.eval]) (by omega) rfl (by intro j u hu; rcases j with _ | j <;> simp at hu; subst hu; go_simp) (by simp [Value.oneCell']) (by unfold maxLen; omega) (by omega) ?_; intro g2 c2 w2 hown2 hc2 hm2 hg2 hgl2 hch2; obtain ⟨_, p1, _, p2⟩ := HO1.out.1.at_ e1; have q1 := (hch2.cell (p := ⟨g, a * 2 + 1, none⟩) HO1.out.1.glt (by simp; omega)).trans p1; have q2 := (hch2.frozen (p := ⟨g, a * 2 + 1, none⟩) HO1.out.1.glt (by simp; omega)).trans p2; have q0 := (HO1.out.2.1.chg hch2 (by omega)).c0; clear p1 p2)
      | fail)
    all_goals
      clear q0 q1 q2 k1 k2
      have hs2 := hch2.size
      simp at hs2 hg2
      have hga2 : s1.A = some ⟨ga, 0, none⟩ ∨ w.heap.size + 2 ≤ ga := hga.elim (fun h => .inl h.1) (fun h => .inr (by omega))
      have hg3 : (g2 = ga ∧ s1.A = some ⟨ga, 0, none⟩) ∨ w.heap.size ≤ g2 := by
        rcases hg2 with h1 | h1
        · rcases hga with ⟨h2, _⟩ | h2
          · exact .inl ⟨h1, h2⟩
          · exact .inr (by omega)
        · exact .inr (by omega)
      have hO3 := HO1.out.1.put e1 hch2 (by simpa using hga2) (by simp; omega) (by omega) ⟨some ⟨g2, 0, none⟩, s1.n + 1, c2, s1.l ++ [(b : Int)]⟩ hc2 hm2 rfl (by omega) hgl2 (by simpa using hown2) hg3
      have HF := hide (show JR 51 3 w lo g c n ss a x (s1.l ++ [(b : Int)]) (w2.setCell ⟨g, a * 2 + 1, none⟩ (.slice (some ⟨g2, 0, none⟩) (s1.n + 1) c2)) from
        ⟨_, by simpa using hO3, rfl, (HO1.out.2.1.chg hch2 (by omega)).chg (chg1 (Nat.le_refl g) (Nat.lt_succ_self g) _) (by omega), by simp; omega, ((HO1.out.2.2.wide hch2 hgalo (by omega)).trans (chg1 (lo := lo) (hi := w.heap.size) hglo hgl _))⟩)
      clear hO3 HO1 hown1 hown2 hch2 hga hga2 hg3
      go_wp2_with fail
      go_meet
      exact HF.out
  case rest =>
    obtain ⟨s, hOc, hsl, hXc, hszc, hchc⟩ := hcut
    clear HO1 hown1 hga k1 k2
    have e3 : (ss.set a (x, s))[b]? = some (y, s2) := by rw [List.getElem?_set_ne hab]; exact e2
    obtain ⟨gb, hownb, hgb, hgblo, hgbg⟩ := hOc.own1 e3 (wc.heap.size + 1) (by omega)
    obtain ⟨_, k1, _, k2⟩ := hOc.at_ e3
    have hgl3 := hOc.glt
    have hbx : gb ≠ w.heap.size := by
      rcases hgb with ⟨h1, _⟩ | h1
      · have := hs2A gb h1
        omega
      · omega
    have hXl := hXc.lt
    have hO2 : OB (wc.alloc (.cells #[.int .i64 a] 3)).drew 51 3 lo wc.heap.size g c (ss.set a (x, s)) := hOc.below' (by (repeat' (first | (with_reducible exact Below.refl _ _) | (with_reducible assumption) | (with_reducible refine Below.alloc ?_ ?_ _) | (with_reducible refine below_ext ?_ ?_ _ _) | (with_reducible refine Below.setCell ?_ ?_ _) | (with_reducible refine Below.drew ?_) | (with_reducible refine below_drewN ?_ _))); all_goals (first | omega | (simp; done) | (simp; omega)))
    have hX2 : Bx1 (wc.alloc (.cells #[.int .i64 a] 3)).drew w.heap.size (.slice (some ⟨g, 0, none⟩) n c) := hXc.below' (by (repeat' (first | (with_reducible exact Below.refl _ _) | (with_reducible assumption) | (with_reducible refine Below.alloc ?_ ?_ _) | (with_reducible refine below_ext ?_ ?_ _ _) | (with_reducible refine Below.setCell ?_ ?_ _) | (with_reducible refine Below.drew ?_) | (with_reducible refine below_drewN ?_ _))); all_goals (first | omega | (simp; done) | (simp; omega)))
    have hchB : Chg lo w.heap.size w (wc.alloc (.cells #[.int .i64 a] 3)).drew := (hchc.alloc _).drew
    have HO2 := hide (And.intro hO2 (And.intro hX2 hchB))
    have HX := hide hXc
    have HL := hide hsl
    clear hO2 hX2 hchB hOc hchc hsl
    obtain ⟨hx0, hxf⟩ := hXc
    go_wp2_with fail
    go_region_law (first
      | (refine step_blk _ rfl (.tmp 28) (.tmp 30) 35 rfl 3 i0 (.int .i64 0) 1 8 gb Try.underlying35 hi0 hz0 hz1 hz2 rfl (by omega) (.slice s2.A s2.n s2.c) s2.n (s2.l.map (.int .i64)) (by simp [Act.eval]) ((hownb.alloc _).drew) 1 1 wc.heap.size [.int .i64 a] (by simp [Act.eval]) (by omega) rfl (by intro j u hu; rcases j with _ | j <;> simp at hu; subst hu; go_simp) (by simp [Value.oneCell']) (by unfold maxLen; omega) (by omega) ?_; intro g2 c2 w2 hown2 hc2 hm2 hg2 hgl2 hch2; obtain ⟨_, p1, _, p2⟩ := HO2.out.1.at_ e3; have q1 := (hch2.cell (p := ⟨g, b * 2 + 1, none⟩) HO2.out.1.glt (by simp; omega)).trans p1; have q2 := (hch2.frozen (p := ⟨g, b * 2 + 1, none⟩) HO2.out.1.glt (by simp; omega)).trans p2; have q0 := (HO2.out.2.1.chg hch2 (by omega)).c0; clear p1 p2)
      | fail)
    all_goals
      clear q0 q1 q2 k1 k2 hx0 hxf
      have hs2 := hch2.size
      simp at hs2 hg2
      have hgb2 : s2.A = some ⟨gb, 0, none⟩ ∨ wc.heap.size + 1 ≤ gb := hgb.elim (fun h => .inl h.1) (fun h => .inr (by omega))
      have hg3 : (g2 = gb ∧ s2.A = some ⟨gb, 0, none⟩) ∨ wc.heap.size ≤ g2 := by
        rcases hg2 with h1 | h1
        · rcases hgb with ⟨h2, _⟩ | h2
          · exact .inl ⟨h1, h2⟩
          · exact .inr (by omega)
        · exact .inr (by omega)
      have hO3 := HO2.out.1.put e3 hch2 (by simpa using hgb2) (by simp) (by omega) ⟨some ⟨g2, 0, none⟩, s2.n + 1, c2, s2.l ++ [(a : Int)]⟩ hc2 hm2 rfl (by omega) hgl2 (by simpa using hown2) hg3
      have HF := hide (show ∃ ss', OB (w2.setCell ⟨g, b * 2 + 1, none⟩ (.slice (some ⟨g2, 0, none⟩) (s2.n + 1) c2)) 51 3 lo (w2.setCell ⟨g, b * 2 + 1, none⟩ (.slice (some ⟨g2, 0, none⟩) (s2.n + 1) c2)).heap.size g c ss' ∧ JM (ss'.map dtC) n (B + 1) (rel2 rel a b) ∧ Chg lo w.heap.size w (w2.setCell ⟨g, b * 2 + 1, none⟩ (.slice (some ⟨g2, 0, none⟩) (s2.n + 1) c2)) from
        ⟨_, by simpa using hO3, by simpa [List.map_set, dtC, HL.out] using HJ.out, (HO2.out.2.2.wide hch2 hgblo (by omega)).trans (chg1 (lo := lo) (hi := w.heap.size) hglo hgl _)⟩)
      clear hO3 HO2 hownb hown2 hch2 hgb hgb2 hg3 HX HL
      go_wp2_with fail
      go_end0
      exact ⟨rfl, HF.out⟩
end Go.Proofs.Ytcndocopecnohaa
