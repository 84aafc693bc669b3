/- Secured messages drawn. -/
import Derived.Test.YtidfpmkhgogilaaProt
import Derived.Test.YtidfpmkhgogilaaDrawB
import Derived.Test.YtidfpmkhgogilaaDecS
import Derived.Test.YtidfpmkhgogilaaEncLLaw
import Derived.Deep.RegionLaw
import Derived.Laws.OwnMore
import Derived.IntWalk
namespace Go.Proofs.Ytidfpmkhgogilaa
open Go.RowKit Go.Sep

/-- A box of four cells that may be written. -/
structure Bx4 (w : World) (P : Nat) (u0 u1 u2 u3 : Value) : Prop where
  c0 : w.cell? ⟨P, 0, none⟩ = some u0
  c1 : w.cell? ⟨P, 1, none⟩ = some u1
  c2 : w.cell? ⟨P, 2, none⟩ = some u2
  c3 : w.cell? ⟨P, 3, none⟩ = some u3
  f0 : w.frozen? ⟨P, 0, none⟩ = false
  f1 : w.frozen? ⟨P, 1, none⟩ = false
  f2 : w.frozen? ⟨P, 2, none⟩ = false
  f3 : w.frozen? ⟨P, 3, none⟩ = false
theorem Bx4.lt {w : World} {P : Nat} {u0 u1 u2 u3 : Value} (h : Bx4 w P u0 u1 u2 u3) : P < w.heap.size := World.block_lt_of_cell? w _ h.c0
theorem Bx4.chg {w w' : World} {P lo hi : Nat} {u0 u1 u2 u3 : Value} (h : Bx4 w P u0 u1 u2 u3) (hc : Chg lo hi w w') (hx : P < lo ∨ hi ≤ P) : Bx4 w' P u0 u1 u2 u3 := by
  have e := h.lt
  exact ⟨(hc.cell (p := ⟨P, 0, none⟩) e hx).trans h.c0, (hc.cell (p := ⟨P, 1, none⟩) e hx).trans h.c1, (hc.cell (p := ⟨P, 2, none⟩) e hx).trans h.c2, (hc.cell (p := ⟨P, 3, none⟩) e hx).trans h.c3,
    (hc.frozen (p := ⟨P, 0, none⟩) e hx).trans h.f0, (hc.frozen (p := ⟨P, 1, none⟩) e hx).trans h.f1, (hc.frozen (p := ⟨P, 2, none⟩) e hx).trans h.f2, (hc.frozen (p := ⟨P, 3, none⟩) e hx).trans h.f3⟩
theorem Bx4.below' {w w' : World} {P : Nat} {u0 u1 u2 u3 : Value} (h : Bx4 w P u0 u1 u2 u3) (hb : Below w.heap.size w w') : Bx4 w' P u0 u1 u2 u3 := h.chg (Chg.of_below hb 0 0) (.inr (Nat.zero_le _))
theorem Bx4.new (w : World) (E : TypeId) (u0 u1 u2 u3 : Value) : Bx4 (w.alloc (.cells #[u0, u1, u2, u3] E)) w.heap.size u0 u1 u2 u3 := ⟨by go_simp, by go_simp, by go_simp, by go_simp, by go_simp, by go_simp, by go_simp, by go_simp⟩
def msg (d q : Int) (v : Value) (m : Int) : Value := .agg #[.int .i64 d, .int .i64 q, v, .int .i64 m]
theorem sKey5_any (w : World) (g : Nat) (A : Option Addr) (n c lo hi : Nat) (l : List Int) (hC : Cur w g A n c) (hr : Rd w lo hi 1 A n (l.map (.int .u8))) (hn : n ≤ 16777216) (h8 : ∀ x ∈ l, 0 ≤ x ∧ x ≤ 255) (hg : hi ≤ g) :
    Calls Try.prog 84 #[.pointer (some ⟨g, 0, none⟩)] w (Drew g A n c w fun r => 0 ≤ r ∧ r ≤ 1000) := by
  go_enter Try.func84, Try.ntmps84
  go_wp2_with fail
  refine (sBelow_any _ g A n c lo hi l _ hC hr hn h8 hg (by omega)).mono ?_
  rintro e w2 ⟨r, rfl, ⟨h0, h1⟩, hC2, hch2⟩
  have h2 := h1 (by omega)
  clear h1
  go_wp2_with fail
  go_ret
  exact ⟨_, rfl, ⟨by omega, by omega⟩, hC2, hch2⟩
theorem sWord_any (w : World) (g : Nat) (A : Option Addr) (n c lo hi : Nat) (l : List Int) (hC : Cur w g A n c) (hr : Rd w lo hi 1 A n (l.map (.int .u8))) (hn : n ≤ 16777216) (h8 : ∀ x ∈ l, 0 ≤ x ∧ x ≤ 255) (hg : hi ≤ g) :
    Calls Try.prog 88 #[.pointer (some ⟨g, 0, none⟩)] w (Drew g A n c w fun _ => True) := by
  go_enter Try.func88, Try.ntmps88
  go_wp2_with fail
  refine (sOnce_any _ g A n c lo hi l _ hC hr hn h8 hg (by omega)).mono ?_
  rintro e w1 ⟨b, rfl, hC1, hch1⟩
  have hr1 := hr.chg hch1 (.inl hg)
  have hgl := hC1.lt
  cases b
  · go_wp2_with fail
    refine (sOnce_any _ g A n c lo hi l _ hC1 hr1 hn h8 hg (by omega)).mono ?_
    rintro e w2 ⟨b, rfl, hC2, hch2⟩
    have hr2 := hr1.chg hch2 (.inl hg)
    have hgl2 := hC2.lt
    have hch12 := hch1.trans hch2
    cases b
    · go_wp2_with fail
      refine (sBelow_any _ g A n c lo hi l _ hC2 hr2 hn h8 hg (by omega)).mono ?_
      rintro e w3 ⟨r, rfl, _, hC3, hch3⟩
      have hr3 := hr2.chg hch3 (.inl hg)
      go_wp2_with fail
      refine (sBelow_any _ g A n c lo hi l _ hC3 hr3 hn h8 hg (by omega)).mono ?_
      rintro e w4 ⟨r2, rfl, _, hC4, hch4⟩
      have HF := hide (hch12.trans (hch3.trans hch4))
      clear hch1 hch2 hch12 hch3 hch4
      go_wp2_with fail
      go_ret
      exact ⟨_, rfl, trivial, hC4, HF.out⟩
    · go_wp2_with fail
      refine (sInt_any _ g A n c lo hi l (some ⟨w2.heap.size, 0, none⟩) 3 3 w2.heap.size (w2.heap.size + 1) [0, 1, 2147483646] (hC2.below' (by (repeat' (first | (with_reducible exact Below.refl _ _) | (with_reducible assumption) | (with_reducible refine Below.alloc ?_ ?_ _) | (with_reducible refine below_ext ?_ ?_ _ _) | (with_reducible refine Below.setCell ?_ ?_ _) | (with_reducible refine Below.drew ?_) | (with_reducible refine below_drewN ?_ _))); all_goals (first | omega | (simp; done) | (simp; omega)))) (hr2.below' (by (repeat' (first | (with_reducible exact Below.refl _ _) | (with_reducible assumption) | (with_reducible refine Below.alloc ?_ ?_ _) | (with_reducible refine below_ext ?_ ?_ _ _) | (with_reducible refine Below.setCell ?_ ?_ _) | (with_reducible refine Below.drew ?_) | (with_reducible refine below_drewN ?_ _))); all_goals (first | omega | (simp; done) | (simp; omega)))) hn h8 hg (by simpa using Rd.fresh w2 #[.int .i64 0, .int .i64 1, .int .i64 2147483646] 3 1 3 rfl) hgl2 (by omega) (by omega)).mono ?_
      rintro e w3 ⟨r, rfl, _, hC3, hch3⟩
      have HF := hide (hch12.trans (((Chg.refl g (g + 1) w2).alloc _).trans hch3))
      clear hch1 hch2 hch12 hch3
      go_wp2_with fail
      go_ret
      exact ⟨_, rfl, trivial, hC3, HF.out⟩
  · go_wp2_with fail
    refine (sInt_any _ g A n c lo hi l (some ⟨w1.heap.size, 0, none⟩) 3 3 w1.heap.size (w1.heap.size + 1) [-1, 2147483647, 2147483648] (hC1.below' (by (repeat' (first | (with_reducible exact Below.refl _ _) | (with_reducible assumption) | (with_reducible refine Below.alloc ?_ ?_ _) | (with_reducible refine below_ext ?_ ?_ _ _) | (with_reducible refine Below.setCell ?_ ?_ _) | (with_reducible refine Below.drew ?_) | (with_reducible refine below_drewN ?_ _))); all_goals (first | omega | (simp; done) | (simp; omega)))) (hr1.below' (by (repeat' (first | (with_reducible exact Below.refl _ _) | (with_reducible assumption) | (with_reducible refine Below.alloc ?_ ?_ _) | (with_reducible refine below_ext ?_ ?_ _ _) | (with_reducible refine Below.setCell ?_ ?_ _) | (with_reducible refine Below.drew ?_) | (with_reducible refine below_drewN ?_ _))); all_goals (first | omega | (simp; done) | (simp; omega)))) hn h8 hg (by simpa using Rd.fresh w1 #[.int .i64 (-1), .int .i64 2147483647, .int .i64 2147483648] 3 1 3 rfl) hgl (by omega) (by omega)).mono ?_
    rintro e w2 ⟨r, rfl, _, hC2, hch2⟩
    have HF := hide (hch1.trans ((((Chg.refl g (g + 1) w1).alloc _)).trans hch2))
    clear hch1 hch2
    go_wp2_with fail
    go_ret
    exact ⟨_, rfl, trivial, hC2, HF.out⟩
/-- What a call leaves that draws a key and a message. -/
def DrewM (R : Int → Int → Prop) (M : Nat) (g : Nat) (A : Option Addr) (n c : Nat) (w : World) (e : Ending) (w' : World) : Prop :=
  ∃ (key d q m : Int) (A' : Option Addr) (k c' : Nat) (bs : List Int), R key q ∧ e = .returned (.tuple #[.int .i64 key, msg d q (.slice A' k c') m]) ∧ bs.length = k ∧ k ≤ M ∧ (∀ x ∈ bs, 0 ≤ x ∧ x ≤ 255) ∧ Own w' w.heap.size w'.heap.size 5 1 (.slice A' k c') k (bs.map (.int .u8)) ∧ k ≤ c' ∧ c' ≤ maxLen ∧ Cur w' g A n c ∧ Chg g (g + 1) w w'
set_option maxHeartbeats 1000000 in
set_option maxRecDepth 100000 in
theorem sDraw8_any (w : World) (g : Nat) (A : Option Addr) (n c lo hi : Nat) (l : List Int) (hC : Cur w g A n c) (hr : Rd w lo hi 1 A n (l.map (.int .u8))) (hn : n ≤ 16777216) (h8 : ∀ x ∈ l, 0 ≤ x ∧ x ≤ 255) (hg : hi ≤ g) :
    Calls Try.prog 73 #[.pointer (some ⟨g, 0, none⟩)] w (DrewM (fun key q => (0 ≤ key ∧ key ≤ 1000) ∧ 0 ≤ q ∧ q ≤ 10) 61 g A n c w) := by
  have hgl := hC.lt
  have hC0 : Cur (w.alloc (.cells #[.int .i64 0, .int .i64 0, .slice none 0 0, .int .i64 0] 27)) g A n c := hC.below' (by (repeat' (first | (with_reducible exact Below.refl _ _) | (with_reducible assumption) | (with_reducible refine Below.alloc ?_ ?_ _) | (with_reducible refine below_ext ?_ ?_ _ _) | (with_reducible refine Below.setCell ?_ ?_ _) | (with_reducible refine Below.drew ?_) | (with_reducible refine below_drewN ?_ _))); all_goals (first | omega | (simp; done) | (simp; omega)))
  have hr0 := hr.alloc (.cells #[.int .i64 0, .int .i64 0, .slice none 0 0, .int .i64 0] 27)
  have hch0 : Chg g (g + 1) w (w.alloc (.cells #[.int .i64 0, .int .i64 0, .slice none 0 0, .int .i64 0] 27)) := (Chg.refl _ _ _).alloc _
  have hx0 := Bx4.new w 27 (.int .i64 0) (.int .i64 0) (.slice none 0 0) (.int .i64 0)
  go_enter Try.func73, Try.ntmps73
  go_wp2_with fail
  refine (sKey5_any _ g A n c lo hi l hC0 hr0 hn h8 hg).mono ?_
  rintro e w1 ⟨key, rfl, hkey, hC1, hch1⟩
  have hr1 := hr0.chg hch1 (.inl hg)
  go_wp2_with fail
  refine (sBelow_any _ g A n c lo hi l _ hC1 hr1 hn h8 hg (by omega)).mono ?_
  rintro e w2 ⟨d, rfl, ⟨hd0, hd1⟩, hC2, hch2⟩
  have hd2 := hd1 (by omega)
  have hr2 := hr1.chg hch2 (.inl hg)
  clear hd1
  go_wp2_with fail
  refine (sBelow_any _ g A n c lo hi l _ hC2 hr2 hn h8 hg (by omega)).mono ?_
  rintro e w3 ⟨q, rfl, ⟨hq0, hq1⟩, hC3, hch3⟩
  have hq2 := hq1 (by omega)
  have hr3 := hr2.chg hch3 (.inl hg)
  clear hq1
  go_wp2_with fail
  refine (sBelow_any _ g A n c lo hi l _ hC3 hr3 hn h8 hg (by omega)).mono ?_
  rintro e w4 ⟨m, rfl, ⟨hm0, hm1⟩, hC4, hch4⟩
  have hm2 := hm1 (by omega)
  have hr4 := hr3.chg hch4 (.inl hg)
  clear hm1
  go_wp2_with fail
  refine (sBytes_any _ g A n c lo hi l m hC4 hr4 hn h8 hg (by omega)).mono ?_
  rintro e w5 ⟨A5, k, c5, bs, rfl, hl, hk, hb8, hown, hkc, hcm, hC5, hch5⟩
  have hchX := hch1.trans (hch2.trans (hch3.trans (hch4.trans hch5)))
  have hx5 := hx0.chg hchX (.inr (by omega))
  have hs5 := hchX.size
  simp at hs5
  have hchA := hch0.trans hchX
  have hrd5 := hown.rd
  clear hown hch1 hch2 hch3 hch4 hch5 hchX hC0 hC1 hC2 hC3 hC4 hr0 hr1 hr2 hr3 hr4 hch0 hx0
  go_wp2_with fail
  refine (sProtect_any _ key d (1 + q) A5 k c5 _ _ bs hrd5 (by omega) hb8).mono ?_
  rintro e w6 ⟨A6, c6, rfl, hc6, hm6, ho6, hb6⟩
  have hx6 := hx5.below' hb6
  have hel := encL_len (pk key d (1 + q)) bs
  have heB := encL_B8 (pk key d (1 + q)) bs
  generalize smac key d (1 + q) (encL (pk key d (1 + q)) bs) = mac at *
  generalize encL (pk key d (1 + q)) bs = eb at *
  have hs6 := hb6.size
  obtain ⟨c0, c1, c2, c3, f0, f1, f2, f3⟩ := hx6
  have HF := hide (show DrewM (fun key q => (0 ≤ key ∧ key ≤ 1000) ∧ 0 ≤ q ∧ q ≤ 10) 61 g A n c w (.returned (.tuple #[.int .i64 key, msg d (1 + q) (.slice A6 k c6) mac])) ((((w6.setCell ⟨w.heap.size, 0, none⟩ (.int .i64 d)).setCell ⟨w.heap.size, 1, none⟩ (.int .i64 (1 + q))).setCell ⟨w.heap.size, 2, none⟩ (.slice A6 k c6)).setCell ⟨w.heap.size, 3, none⟩ (.int .i64 mac)) from by
    have hS : Chg w.heap.size (w.heap.size + 1) w6 ((((w6.setCell ⟨w.heap.size, 0, none⟩ (.int .i64 d)).setCell ⟨w.heap.size, 1, none⟩ (.int .i64 (1 + q))).setCell ⟨w.heap.size, 2, none⟩ (.slice A6 k c6)).setCell ⟨w.heap.size, 3, none⟩ (.int .i64 mac)) :=
      (((((Chg.refl w.heap.size (w.heap.size + 1) w6).setCell (p := ⟨w.heap.size, 0, none⟩) (.inl ⟨Nat.le_refl _, Nat.lt_succ_self _⟩) (.int .i64 d)).setCell (p := ⟨w.heap.size, 1, none⟩) (.inl ⟨Nat.le_refl _, Nat.lt_succ_self _⟩) (.int .i64 (1 + q))).setCell (p := ⟨w.heap.size, 2, none⟩) (.inl ⟨Nat.le_refl _, Nat.lt_succ_self _⟩) (.slice A6 k c6)).setCell (p := ⟨w.heap.size, 3, none⟩) (.inl ⟨Nat.le_refl _, Nat.lt_succ_self _⟩) (.int .i64 mac))
    exact ⟨key, d, 1 + q, mac, A6, k, c6, eb, ⟨hkey, by omega, by omega⟩, rfl, by omega, by omega, heB, (ho6.chg hS (.inr (by omega))).more (by omega) hS.size, hc6, hm6, (hC5.below' hb6).chg hS (.inl hgl), (hchA.trans (Chg.of_below hb6 g (g + 1))).then_new hS (Nat.le_refl _)⟩)
  clear hb6 ho6 hC5 hrd5 hchA hx5
  go_wp2_with fail
  exact bodyPost_ret (v := .tuple #[.int .i64 key, .agg #[.int .i64 d, .int .i64 (1 + q), .slice A6 k c6, .int .i64 mac]]) (by simp only [results, Try.results73]; go_simp) rfl HF.out
/-- What is known at the end of a draw of a message: the data's row, the cursor. -/
structure Fn8 (w : World) (g : Nat) (A : Option Addr) (n c lo hi k c' : Nat) (A' : Option Addr) (bs : List Int) (W : World) : Prop where
  own : Own W lo hi 5 1 (.slice A' k c') k (bs.map (.int .u8))
  cur : Cur W g A n c
  chg : Chg g (g + 1) w W
  size : hi ≤ W.heap.size
section
variable {w W : World} {g n c lo hi k c' : Nat} {A A' : Option Addr} {bs : List Int}
theorem Fn8.step (h : Fn8 w g A n c lo hi k c' A' bs W) {W' : World} {a b : Nat} (hc : Chg a b W W') (h1 : hi ≤ a ∨ b ≤ lo) (h2 : g < a ∨ b ≤ g) (h3 : w.heap.size ≤ a) : Fn8 w g A n c lo hi k c' A' bs W' :=
  ⟨h.own.chg hc h1, h.cur.chg hc h2, h.chg.then_new hc h3, Nat.le_trans h.size hc.size⟩
theorem Fn8.set (h : Fn8 w g A n c lo hi k c' A' bs W) {P i : Nat} (h1 : hi ≤ P ∨ P + 1 ≤ lo) (h2 : g < P ∨ P + 1 ≤ g) (h3 : w.heap.size ≤ P) (u : Value) : Fn8 w g A n c lo hi k c' A' bs (W.setCell ⟨P, i, none⟩ u) :=
  h.step ((Chg.refl P (P + 1) W).setCell (p := ⟨P, i, none⟩) (.inl ⟨Nat.le_refl _, Nat.lt_succ_self _⟩) u) h1 h2 h3
theorem Fn8.drew (h : Fn8 w g A n c lo hi k c' A' bs W) (hg : g < w.heap.size) : Fn8 w g A n c lo hi k c' A' bs W.drew :=
  h.step (a := max hi w.heap.size) (b := max hi w.heap.size) (Chg.refl _ _ W).drew (.inl (Nat.le_max_left _ _)) (.inl (Nat.lt_of_lt_of_le hg (Nat.le_max_right _ _))) (Nat.le_max_right _ _)
theorem Fn8.done (h : Fn8 w g A n c lo hi k c' A' bs W) (hl : bs.length = k) (hk : k ≤ 62) (h8 : ∀ x ∈ bs, 0 ≤ x ∧ x ≤ 255) (hkc : k ≤ c') (hcm : c' ≤ maxLen) (hlo : w.heap.size ≤ lo) (key d q m : Int) :
    DrewM (fun _ _ => True) 62 g A n c w (.returned (.tuple #[.int .i64 key, msg d q (.slice A' k c') m])) W :=
  ⟨key, d, q, m, A', k, c', bs, trivial, rfl, hl, hk, h8, h.own.more hlo h.size, hkc, hcm, h.cur, h.chg⟩
end
theorem zeros8' (N : Nat) : (madeCells (Value.int .u8 0).cells (N * 1)).toList = (List.replicate N (0 : Int)).map (.int .u8) := by
  rw [Nat.mul_one]
  show (madeCells #[Value.int .u8 0] N).toList = _
  rw [toList_madeCells_one]
  simp
theorem rdNew (X : World) (cs : Array Value) (E : TypeId) (n k : Nat) (hk : X.heap.size = k) (h : cs.size = n * 1) : Rd (X.alloc (.cells cs E)) k (k + 1) 1 (some ⟨k, 0, none⟩) n cs.toList := by
  subst hk
  exact Rd.fresh X cs E 1 n h
/-- A row of bytes does not lie in a block whose first cell is an int; so it lies before it or behind it. -/
theorem own_split {w : World} {lo hi n c P : Nat} {e : TypeId} {A : Option Addr} {bs : List Int} {d : Int} (h : Own w lo hi e 1 (.slice A n c) n (bs.map (.int .u8))) (hn : 0 < n) (hP : w.cell? ⟨P, 0, none⟩ = some (.int .i64 d)) :
    Own w lo P e 1 (.slice A n c) n (bs.map (.int .u8)) ∨ Own w (P + 1) hi e 1 (.slice A n c) n (bs.map (.int .u8)) := by
  have hlen := h.len
  obtain ⟨b, o, hA, _, _, hcell⟩ := h.rd.2 hn
  obtain ⟨A', c', hv, _, _, hA'⟩ := h.form
  injection hv with e1 _ e3
  subst e1 e3
  rcases hA' with ⟨_, h0, _⟩ | ⟨g, rfl, hg1, hg2, hg3⟩
  · omega
  · injection hA with hA
    injection hA with e1 e2 _
    subst e1 e2
    have hne : g ≠ P := by
      rintro rfl
      obtain ⟨x, hx⟩ : ∃ x, (bs.map (Value.int .u8))[0]? = some (.int .u8 x) := by
        rcases bs with _ | ⟨x, r⟩
        · simp at hlen; omega
        · exact ⟨x, rfl⟩
      have := hcell 0 _ hx
      rw [Nat.add_zero, hP] at this
      injection this with this
      injection this with this _
      cases this
    rcases Nat.lt_or_ge g P with hlt | hge
    · exact .inl ⟨h.row, fun k hk => by simp [Value.ownBlock] at hk; omega⟩
    · refine .inr ⟨⟨h.row.1, ?_⟩, h.lt⟩
      rcases h.row.2 with ⟨h0, _⟩ | ⟨g', cap, cur, hv, hg, r⟩
      · simp at h0
      · refine .inr ⟨g', cap, cur, hv, ?_, r⟩
        simp only [Value.slice.injEq, Option.some.injEq, Addr.mk.injEq, and_true, true_and] at hv
        omega
set_option maxHeartbeats 4000000 in
set_option maxRecDepth 100000 in
theorem sAny8_any (w : World) (g : Nat) (A : Option Addr) (n c lo hi : Nat) (l : List Int) (hC : Cur w g A n c) (hr : Rd w lo hi 1 A n (l.map (.int .u8))) (hn : n ≤ 16777216) (h8 : ∀ x ∈ l, 0 ≤ x ∧ x ≤ 255) (hg : hi ≤ g) :
    Calls Try.prog 83 #[.pointer (some ⟨g, 0, none⟩)] w (DrewM (fun _ _ => True) 62 g A n c w) := by
  have hgl := hC.lt
  have hx0 := Bx4.new w 27 (.int .i64 0) (.int .i64 0) (.slice none 0 0) (.int .i64 0)
  go_enter Try.func83, Try.ntmps83
  go_wp2_with fail
  refine (sDraw8_any _ g A n c lo hi l (hC.below' (by (repeat' (first | (with_reducible exact Below.refl _ _) | (with_reducible assumption) | (with_reducible refine Below.alloc ?_ ?_ _) | (with_reducible refine below_ext ?_ ?_ _ _) | (with_reducible refine Below.setCell ?_ ?_ _) | (with_reducible refine Below.drew ?_) | (with_reducible refine below_drewN ?_ _))); all_goals (first | omega | (simp; done) | (simp; omega)))) (hr.alloc _) hn h8 hg).mono ?_
  rintro e w1 ⟨key, d, q, mac, A1, k, c1, bs, ⟨⟨hk0, hk1⟩, hq0, hq1⟩, rfl, hl, hk, hb8, ho1, hkc, hcm, hC1, hch1⟩
  have hr1 := (hr.alloc (.cells #[.int .i64 0, .int .i64 0, .slice none 0 0, .int .i64 0] 27)).chg hch1 (.inl hg)
  have hx1 := hx0.chg hch1 (.inr (by omega))
  have hs1 := hch1.size
  simp at hs1
  have ho1' : Own w1 (w.heap.size + 1) w1.heap.size 5 1 (.slice A1 k c1) k (bs.map (.int .u8)) := ho1.more (by simp) (Nat.le_refl _)
  have hchA := ((Chg.refl g (g + 1) w).alloc (.cells #[.int .i64 0, .int .i64 0, .slice none 0 0, .int .i64 0] 27)).trans hch1
  have hy1 := Bx4.new w1 27 (.int .i64 d) (.int .i64 q) (.slice A1 k c1) (.int .i64 mac)
  have hbx : Below w1.heap.size w1 (w1.alloc (.cells #[.int .i64 d, .int .i64 q, .slice A1 k c1, .int .i64 mac] 27)) := (Below.refl _ _).alloc (Nat.le_refl _) _
  have hx2 := hx1.below' hbx
  have ho2 := ho1'.below' hbx
  have hC2 := hC1.below' hbx
  have hr2 := hr1.below' hbx
  have hchB := hchA.trans (Chg.of_below hbx g (g + 1))
  clear ho1 ho1' hx0 hx1 hC1 hr1 hch1 hchA hbx hC hr
  unfold msg
  go_wp2_with fail
  refine (sBelow_any _ g A n c lo hi l _ hC2 hr2 hn h8 hg (by omega)).mono ?_
  rintro e w3 ⟨z, rfl, ⟨hz0, hz1⟩, hC3, hch3⟩
  have hs3 := hch3.size
  simp at hs3
  have hgl1 : g < w1.heap.size := by omega
  have hx3 := hx2.chg hch3 (.inr (by omega))
  have hy3 := hy1.chg hch3 (.inr (by omega))
  have hr3 := hr2.chg hch3 (.inl hg)
  have hF3 : Fn8 w g A n c (w.heap.size + 1) w1.heap.size k c1 A1 bs w3 := ⟨ho2.chg hch3 (.inr (by omega)), hC3, hchB.trans hch3, by omega⟩
  have hP : w.heap.size ≠ w1.heap.size := by omega
  have hP' : w1.heap.size ≠ w.heap.size := by omega
  clear hz1 ho2 hC2 hr2 hchB hx2 hy1 hch3
  rcases (show z = 0 ∨ z = 1 ∨ z = 2 ∨ z = 3 ∨ z = 4 ∨ z = 5 ∨ 5 < z by omega) with rfl | rfl | rfl | rfl | rfl | rfl | hz6
  · go_wp2_with fail
    refine (sBelow_any _ g A n c lo hi l _ hC3 hr3 hn h8 hg (by omega)).mono ?_
    rintro e w4 ⟨r, rfl, ⟨hr0, hr4⟩, hC4, hch4⟩
    have hr5 := hr4 (by omega)
    have HF := hide (Fn8.mk (hF3.own.chg hch4 (.inr (by omega))) hC4 (hF3.chg.trans hch4) (Nat.le_trans hF3.size hch4.size))
    obtain ⟨x0, x1, x2, x3, xf0, xf1, xf2, xf3⟩ := hx3.chg hch4 (.inr (by omega))
    obtain ⟨y0, y1, y2, y3, yf0, yf1, yf2, yf3⟩ := hy3.chg hch4 (.inr (by omega))
    clear hF3 hC3 hC4 hr3 hch4 hx3 hy3 hr4
    go_wp2_with fail
    go_region_law (fail)
    all_goals
      go_wp2_with fail
      refine bodyPost_ret (v := .tuple #[.int .i64 key, .agg #[.int .i64 (r - 1), .int .i64 q, .slice A1 k c1, .int .i64 mac]]) (by simp only [results, Try.results83]; go_simp) rfl (Fn8.done (lo := (w.heap.size + 1)) (hi := w1.heap.size) ?_ hl (by omega) hb8 hkc hcm (by omega) key (r - 1) q mac)
      ((repeat' (first | (with_reducible exact HF.out) | (refine Fn8.drew ?_ hgl) | (refine Fn8.set ?_ ?_ ?_ ?_ _))); all_goals omega)
  · have hy3' := hy3
    obtain ⟨p0, p1, p2, p3, _, _, _, _⟩ := hy3
    go_wp2_with fail
    refine (sInt_any _ g A n c lo hi l (some ⟨w3.heap.size, 0, none⟩) 4 4 w3.heap.size (w3.heap.size + 1) [0, 100000, 100001, q + 1] (hC3.below' (by (repeat' (first | (with_reducible exact Below.refl _ _) | (with_reducible assumption) | (with_reducible refine Below.alloc ?_ ?_ _) | (with_reducible refine below_ext ?_ ?_ _ _) | (with_reducible refine Below.setCell ?_ ?_ _) | (with_reducible refine Below.drew ?_) | (with_reducible refine below_drewN ?_ _))); all_goals (first | omega | (simp; done) | (simp; omega)))) (hr3.below' (by (repeat' (first | (with_reducible exact Below.refl _ _) | (with_reducible assumption) | (with_reducible refine Below.alloc ?_ ?_ _) | (with_reducible refine below_ext ?_ ?_ _ _) | (with_reducible refine Below.setCell ?_ ?_ _) | (with_reducible refine Below.drew ?_) | (with_reducible refine below_drewN ?_ _))); all_goals (first | omega | (simp; done) | (simp; omega)))) hn h8 hg (by simpa using Rd.fresh w3 #[.int .i64 0, .int .i64 100000, .int .i64 100001, .int .i64 (q + 1)] 3 1 4 rfl) hC3.lt (by omega) (by omega)).mono ?_
    rintro e w4 ⟨r, rfl, _, hC4, hch4⟩
    have hch34 : Chg g (g + 1) w3 w4 := ((Chg.refl _ _ _).alloc _).trans hch4
    have HF := hide (Fn8.mk (hF3.own.chg hch34 (.inr (by omega))) hC4 (hF3.chg.trans hch34) (Nat.le_trans hF3.size hch34.size))
    obtain ⟨x0, x1, x2, x3, xf0, xf1, xf2, xf3⟩ := hx3.chg hch34 (.inr (by omega))
    obtain ⟨y0, y1, y2, y3, yf0, yf1, yf2, yf3⟩ := hy3'.chg hch34 (.inr (by omega))
    clear hF3 hC3 hC4 hr3 hch4 hch34 hx3 hy3' p0 p1 p2 p3
    go_wp2_with fail
    go_region_law (fail)
    all_goals
      go_wp2_with fail
      refine bodyPost_ret (v := .tuple #[.int .i64 key, .agg #[.int .i64 d, .int .i64 r, .slice A1 k c1, .int .i64 mac]]) (by simp only [results, Try.results83]; go_simp) rfl (Fn8.done (lo := (w.heap.size + 1)) (hi := w1.heap.size) ?_ hl (by omega) hb8 hkc hcm (by omega) key d r mac)
      ((repeat' (first | (with_reducible exact HF.out) | (refine Fn8.drew ?_ hgl) | (refine Fn8.set ?_ ?_ ?_ ?_ _))); all_goals omega)
  · go_wp2_with fail
    refine (sWord_any _ g A n c lo hi l hC3 hr3 hn h8 hg).mono ?_
    rintro e w4 ⟨r, rfl, _, hC4, hch4⟩
    have HF := hide (Fn8.mk (hF3.own.chg hch4 (.inr (by omega))) hC4 (hF3.chg.trans hch4) (Nat.le_trans hF3.size hch4.size))
    obtain ⟨x0, x1, x2, x3, xf0, xf1, xf2, xf3⟩ := hx3.chg hch4 (.inr (by omega))
    obtain ⟨y0, y1, y2, y3, yf0, yf1, yf2, yf3⟩ := hy3.chg hch4 (.inr (by omega))
    clear hF3 hC3 hC4 hr3 hch4 hx3 hy3
    go_wp2_with fail
    go_region_law (fail)
    all_goals
      go_wp2_with fail
      refine bodyPost_ret (v := .tuple #[.int .i64 key, .agg #[.int .i64 d, .int .i64 q, .slice A1 k c1, .int .i64 r]]) (by simp only [results, Try.results83]; go_simp) rfl (Fn8.done (lo := (w.heap.size + 1)) (hi := w1.heap.size) ?_ hl (by omega) hb8 hkc hcm (by omega) key d q r)
      ((repeat' (first | (with_reducible exact HF.out) | (refine Fn8.drew ?_ hgl) | (refine Fn8.set ?_ ?_ ?_ ?_ _))); all_goals omega)
  · have hfr := rdNew w3 #[.int .u8 1] 5 1 w3.heap.size rfl rfl
    have hy3' := hy3
    obtain ⟨p0, p1, p2, p3, _, _, _, _⟩ := hy3
    obtain ⟨i0, hi0, hz0, hz1, hz2⟩ := info_parts infoByteS
    go_wp2_with (at_builtin; refine wpList_app _ rfl (.tmp 36) (.tmp 37) 22 rfl 5 i0 (.int .u8 0) 1 1 (w.heap.size + 1) w1.heap.size w3.heap.size (w3.heap.size + 1) Try.underlying22 hi0 hz0 hz1 hz2 rfl (by omega) _ k _ rfl (hF3.own.alloc _) _ 1 1 _ rfl hfr (by simp [Value.oneCell']) (by unfold maxLen; omega) (by omega) (by first | omega | (simp <;> omega)) (by first | omega | (simp <;> omega)) ?_; intro A4 c4 w4 hown4 hc4 hm4 hch4; have hch34 : Chg (w.heap.size + 1) w1.heap.size w3 w4 := ((Chg.refl _ _ _).alloc _).trans hch4; obtain ⟨x0, x1, x2, x3, xf0, xf1, xf2, xf3⟩ := hx3.chg hch34 (.inl (by omega)); obtain ⟨y0, y1, y2, y3, yf0, yf1, yf2, yf3⟩ := hy3'.chg hch34 (.inr (Nat.le_refl _)))
    have hown5 : Own w4 (w.heap.size + 1) w4.heap.size 5 1 (.slice A4 (k + 1) c4) (k + 1) ((bs ++ [1]).map (.int .u8)) := by simpa using hown4
    have hs34 := hch34.size
    have hsp := own_split hown5 (by omega) y0
    have hbs8 : ∀ x ∈ bs ++ [1], 0 ≤ x ∧ x ≤ 255 := fun x hx => by
      rcases List.mem_append.1 hx with h | h
      · exact hb8 x h
      · simp only [List.mem_singleton] at h; subst h; omega
    have hch5 : Chg g (g + 1) w w4 := hF3.chg.then_new hch34 (by omega)
    have hC5 : Cur w4 g A n c := hC3.chg hch34 (.inl (by omega))
    have hbl : (bs ++ [1]).length = k + 1 := by simp [hl]
    rcases hsp with hs | hs
    · have HF := hide (Fn8.mk hs hC5 hch5 (by omega))
      clear hs hown4 hown5 hch4 hch34 hch5 hC5 hF3 hC3 hr3 hx3 hy3' hfr p0 p1 p2 p3
      go_region_law (fail)
      all_goals
        go_wp2_with fail
        refine bodyPost_ret (v := .tuple #[.int .i64 key, .agg #[.int .i64 d, .int .i64 q, .slice A4 (k + 1) c4, .int .i64 mac]]) (by simp only [results, Try.results83]; go_simp) rfl (Fn8.done (lo := (w.heap.size + 1)) (hi := w1.heap.size) ?_ hbl (by omega) hbs8 hc4 hm4 (by omega) key d q mac)
        ((repeat' (first | (with_reducible exact HF.out) | (refine Fn8.drew ?_ hgl) | (refine Fn8.set ?_ ?_ ?_ ?_ _))); all_goals omega)
    · have HF := hide (Fn8.mk hs hC5 hch5 (Nat.le_refl _))
      clear hs hown4 hown5 hch4 hch34 hch5 hC5 hF3 hC3 hr3 hx3 hy3' hfr p0 p1 p2 p3
      go_region_law (fail)
      all_goals
        go_wp2_with fail
        refine bodyPost_ret (v := .tuple #[.int .i64 key, .agg #[.int .i64 d, .int .i64 q, .slice A4 (k + 1) c4, .int .i64 mac]]) (by simp only [results, Try.results83]; go_simp) rfl (Fn8.done (lo := (w1.heap.size + 1)) (hi := w4.heap.size) ?_ hbl (by omega) hbs8 hc4 hm4 (by omega) key d q mac)
        ((repeat' (first | (with_reducible exact HF.out) | (refine Fn8.drew ?_ hgl) | (refine Fn8.set ?_ ?_ ?_ ?_ _))); all_goals omega)
  · go_wp2_with fail
    refine (sBelow_any _ g A n c lo hi l _ hC3 hr3 hn h8 hg (by omega)).mono ?_
    rintro e w4 ⟨t, rfl, ⟨ht0, ht1⟩, hC4, hch4⟩
    have ht3 := ht1 (by omega)
    obtain ⟨j, rfl⟩ : ∃ j : Nat, t = j := ⟨t.toNat, by omega⟩
    have hx4 := hx3.chg hch4 (.inr (by omega))
    have hy4 := hy3.chg hch4 (.inr (by omega))
    have hchC := hF3.chg.trans hch4
    have hs4 := hch4.size
    obtain ⟨i0, hi0, hz0, hz1, hz2⟩ := info_parts infoByteS
    have HEJ := hide (show (59 : Int) + (j : Int) = ((59 + j : Nat) : Int) by omega)
    have hXX := hide (And.intro hx4 hy4)
    clear ht1 hch4 hx3 hy3 hF3 hC3 hr3 hx4 hy4
    go_wp2_with (at_make; refine wpList_make_full _ rfl _ _ 22 rfl w4.heap.size 5 i0 (.int .u8 0) 1 Try.underlying22 hi0 hz0 hz1 _ _ _ _ (59 + j) rfl rfl HEJ.out HEJ.out (by rw [hz2]; omega) (by unfold maxLen; omega) (Nat.le_refl _) ?_; intro w5 hown5 hgrow5; have hb5 : Below w4.heap.size w4 w5 := (Below.refl _ _).grown hgrow5 (Nat.le_refl _) (by simp); obtain ⟨x0, x1, x2, x3, xf0, xf1, xf2, xf3⟩ := hXX.out.1.below' hb5; obtain ⟨y0, y1, y2, y3, yf0, yf1, yf2, yf3⟩ := hXX.out.2.below' hb5)
    have ho5 := Own.of_row hown5
    rw [zeros8'] at ho5
    have hs5 := hb5.size
    have HF := hide (Fn8.mk ho5 (hC4.below' hb5) (hchC.trans (Chg.of_below hb5 g (g + 1))) (Nat.le_refl _))
    have hz8 : ∀ x ∈ List.replicate (59 + j) (0 : Int), 0 ≤ x ∧ x ≤ 255 := fun x hx => by rw [List.eq_of_mem_replicate hx]; omega
    clear hb5 hown5 hgrow5 ho5 hC4 hchC hXX
    go_region_law (fail)
    all_goals
      go_wp2_with fail
      refine bodyPost_ret (v := .tuple #[.int .i64 key, .agg #[.int .i64 d, .int .i64 q, .slice (some ⟨w4.heap.size, 0, none⟩) (59 + j) (59 + j), .int .i64 mac]]) (by simp only [results, Try.results83]; go_simp) rfl (Fn8.done (lo := w4.heap.size) (hi := w5.heap.size) ?_ (by simp) (by omega) hz8 (Nat.le_refl _) (by unfold maxLen; omega) (by omega) key d q mac)
      ((repeat' (first | (with_reducible exact HF.out) | (refine Fn8.drew ?_ hgl) | (refine Fn8.set ?_ ?_ ?_ ?_ _))); all_goals omega)
  · have HF := hide hF3
    obtain ⟨x0, x1, x2, x3, xf0, xf1, xf2, xf3⟩ := hx3
    obtain ⟨y0, y1, y2, y3, yf0, yf1, yf2, yf3⟩ := hy3
    clear hF3 hC3 hr3
    go_wp2_with fail
    go_region_law (fail)
    all_goals
      go_wp2_with fail
      refine bodyPost_ret (v := .tuple #[.int .i64 (key + 1), .agg #[.int .i64 d, .int .i64 q, .slice A1 k c1, .int .i64 mac]]) (by simp only [results, Try.results83]; go_simp) rfl (Fn8.done (lo := (w.heap.size + 1)) (hi := w1.heap.size) ?_ hl (by omega) hb8 hkc hcm (by omega) (key + 1) d q mac)
      ((repeat' (first | (with_reducible exact HF.out) | (refine Fn8.drew ?_ hgl) | (refine Fn8.set ?_ ?_ ?_ ?_ _))); all_goals omega)
  · have e0 : (z == 0) = false := by simp; omega
    have e1 : (z == 1) = false := by simp; omega
    have e2 : (z == 2) = false := by simp; omega
    have e3 : (z == 3) = false := by simp; omega
    have e4 : (z == 4) = false := by simp; omega
    have e5 : (z == 5) = false := by simp; omega
    have HF := hide hF3
    obtain ⟨x0, x1, x2, x3, xf0, xf1, xf2, xf3⟩ := hx3
    obtain ⟨y0, y1, y2, y3, yf0, yf1, yf2, yf3⟩ := hy3
    clear hF3 hC3 hr3
    go_wp2_with fail
    go_region_law (fail)
    all_goals
      go_wp2_with fail
      refine bodyPost_ret (v := .tuple #[.int .i64 key, .agg #[.int .i64 d, .int .i64 q, .slice A1 k c1, .int .i64 mac]]) (by simp only [results, Try.results83]; go_simp) rfl (Fn8.done (lo := w.heap.size + 1) (hi := w1.heap.size) ?_ hl (by omega) hb8 hkc hcm (by omega) key d q mac)
      ((repeat' (first | (with_reducible exact HF.out) | (refine Fn8.drew ?_ hgl) | (refine Fn8.set ?_ ?_ ?_ ?_ _))); all_goals omega)
end Go.Proofs.Ytidfpmkhgogilaa
