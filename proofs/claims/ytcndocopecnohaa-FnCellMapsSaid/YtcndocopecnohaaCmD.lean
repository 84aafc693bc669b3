/- spec.l10Draw and spec.DrawMap: the map that is drawn comes out of a symmetric relation. -/
import Derived.Test.YtcndocopecnohaaCmJ
import Derived.Test.YtcndocopecnohaaDraw
import Derived.Test.YtcndocopecnohaaNCell
namespace Go.Sep
open Go.RowKit
def nilC (x : Int) : Int × Sl := (x, ⟨none, 0, 0, []⟩)
section
variable {w : World} {lo hi c n : Nat} {E E2 : TypeId} {A : Option Addr} {xs : List Int}
theorem nilC_at {k : Nat} {x : Int} {s : Sl} (h : (xs.map nilC)[k]? = some (x, s)) : s = ⟨none, 0, 0, []⟩ ∧ x ∈ xs := by
  rw [List.getElem?_map] at h
  cases e : xs[k]? with
  | none => simp [e] at h
  | some y =>
    simp [e, nilC] at h
    obtain ⟨rfl, rfl⟩ := h
    exact ⟨rfl, List.mem_of_getElem? e⟩
theorem OB.low {g : Nat} {ss : List (Int × Sl)} (h : OB w E E2 lo hi g c ss) {lo' : Nat} (hl : lo' ≤ lo) : OB w E E2 lo' hi g c ss := by
  have h1 := h.glo
  exact ⟨h.cap, h.max, by omega, h.ghi, h.row, fun k x s hs => ⟨(h.one k x s hs).1, (h.one k x s hs).2.1, (h.one k x s hs).2.2.1.more hl (Nat.le_refl _), (h.one k x s hs).2.2.2⟩, h.dif⟩
/-- A row of structs with nil slices. -/
theorem OB.start (h : Own w lo hi E 2 (.slice A n c) n ((xs.map nilC).flatMap cs1)) (hx : xs.length = n) (hn : 0 < n) : ∃ G, A = some ⟨G, 0, none⟩ ∧ OB w E E2 lo hi G c (xs.map nilC) := by
  obtain ⟨A', cap, hv, h1, h2, h3⟩ := h.form
  injection hv with e1 _ e3
  subst e1 e3
  rcases h3 with ⟨_, h0, _⟩ | ⟨G, rfl, g1, g2, _⟩
  · omega
  · have hl : (xs.map nilC).length = n := by simpa using hx
    refine ⟨G, rfl, by omega, h2, g1, g2, by rw [hl]; exact h.tight, fun k x s hs => ?_, fun i j x y s t p hs _ ep _ => ?_⟩
    · obtain ⟨rfl, _⟩ := nilC_at hs
      exact ⟨Nat.le_refl _, by unfold maxLen; simp, Own.nil_ _ _ _ _ _, by simp⟩
    · obtain ⟨rfl, _⟩ := nilC_at hs
      cases ep
end
end Go.Sep
namespace Go.Proofs.Ytcndocopecnohaa
open Go.RowKit Go.Sep
theorem JM.start {xs : List Int} {n : Nat} (hx : xs.length = n) (h : ∀ x ∈ xs, 0 ≤ x ∧ x ≤ 1) : JM ((xs.map nilC).map dtC) n 0 (fun _ _ => false) :=
  ⟨by simpa using hx, fun _ _ => rfl, fun _ => rfl, fun i hi => ⟨xs[i]'(by omega), [], by simp [nilC, dtC, hx ▸ hi], (h _ (List.getElem_mem _)).1, (h _ (List.getElem_mem _)).2, Nat.le_refl _, fun k => by simp⟩⟩
/-- The two boxes, the cursor, and what was there. -/
structure D0 (g : Nat) (A : Option Addr) (n0 c0 : Nat) (w : World) (v : Value) (wr : World) : Prop where
  mb : Bx1 wr (w.heap.size + 1) v
  rb : Bx1 wr w.heap.size (.slice none 0 0)
  cu : Cur wr g A n0 c0
  ch : Chg g (g + 1) w wr
theorem D0.below' {g n0 c0 : Nat} {A : Option Addr} {w wr wx : World} {v : Value} (h : D0 g A n0 c0 w v wr) (hb : Below wr.heap.size wr wx) : D0 g A n0 c0 w v wx :=
  ⟨h.mb.below' hb, h.rb.below' hb, h.cu.below' hb, h.ch.trans (Chg.of_below hb _ _)⟩
/-- The cursor was turned. -/
theorem D0.cur {g n0 c0 : Nat} {A : Option Addr} {w wr wx : World} {v : Value} (h : D0 g A n0 c0 w v wr) (hg : g < w.heap.size) (hC : Cur wx g A n0 c0) (hc : Chg g (g + 1) wr wx) : D0 g A n0 c0 w v wx :=
  ⟨h.mb.chg hc (.inr (by omega)), h.rb.chg hc (.inr (by omega)), hC, h.ch.trans hc⟩
/-- Blocks behind the boxes have turned. -/
theorem D0.own {g n0 c0 lo hi : Nat} {A : Option Addr} {w wr wx : World} {v : Value} (h : D0 g A n0 c0 w v wr) (hg : g < w.heap.size) (hc : Chg lo hi wr wx) (hl : w.heap.size + 2 ≤ lo) : D0 g A n0 c0 w v wx :=
  ⟨h.mb.chg hc (.inl (by omega)), h.rb.chg hc (.inl (by omega)), h.cu.chg hc (.inl (by omega)), h.ch.then_new hc (by omega)⟩
/-- A store into the map's box. -/
theorem D0.box {g n0 c0 : Nat} {A : Option Addr} {w wr : World} {v : Value} (h : D0 g A n0 c0 w v wr) (hg : g < w.heap.size) (u : Value) : D0 g A n0 c0 w u (wr.setCell ⟨w.heap.size + 1, 0, none⟩ u) := by
  have hc : Chg (w.heap.size + 1) (w.heap.size + 2) wr (wr.setCell ⟨w.heap.size + 1, 0, none⟩ u) := chg1 (Nat.le_refl _) (by omega) u
  exact ⟨h.mb.set u, h.rb.chg hc (.inl (by omega)), h.cu.chg hc (.inl (by omega)), h.ch.then_new hc (by omega)⟩
/-- The first loop. -/
def D1 (g : Nat) (A : Option Addr) (n0 c0 : Nat) (w : World) (k : Nat) (wr : World) : Prop :=
  ∃ (A' : Option Addr) (c' : Nat) (xs : List Int), xs.length = k ∧ (∀ x ∈ xs, 0 ≤ x ∧ x ≤ 1) ∧ Own wr (w.heap.size + 2) wr.heap.size 51 2 (.slice A' k c') k ((xs.map nilC).flatMap cs1) ∧ D0 g A n0 c0 w (.slice A' k c') wr
/-- The second loop. -/
def D2 (g : Nat) (A : Option Addr) (n0 c0 : Nat) (w : World) (G n c B : Nat) (wr : World) : Prop :=
  ∃ (ss : List (Int × Sl)) (rel : Nat → Nat → Bool), OB wr 51 3 (w.heap.size + 2) wr.heap.size G c ss ∧ JM (ss.map dtC) n B rel ∧ D0 g A n0 c0 w (.slice (some ⟨G, 0, none⟩) n c) wr
theorem D2.cur {g n0 c0 G n c B : Nat} {A : Option Addr} {w wr wx : World} (h : D2 g A n0 c0 w G n c B wr) (hg : g < w.heap.size) (hC : Cur wx g A n0 c0) (hc : Chg g (g + 1) wr wx) : D2 g A n0 c0 w G n c B wx := by
  obtain ⟨ss, rel, h1, h2, h3⟩ := h
  exact ⟨ss, rel, (h1.chg hc (.inr (by omega))).up hc.size, h2, h3.cur hg hC hc⟩
/-- A map whose first k cells have their neighbors ascending. -/
structure J4 (L : CM) (n k : Nat) (rel : Nat → Nat → Bool) : Prop where
  len : L.length = n
  symm : ∀ i j, rel i j = rel j i
  irr : ∀ i, rel i i = false
  done : ∀ i, i < k → ∃ x, L[i]? = some (x, nbL n rel i) ∧ 0 ≤ x ∧ x ≤ 1
  todo : ∀ i, k ≤ i → i < n → ∃ x l, L[i]? = some (x, l) ∧ 0 ≤ x ∧ x ≤ 1 ∧ l.length ≤ 1000 ∧ ∀ j : Nat, (j : Int) ∈ l ↔ rel i j = true
theorem J4.start {L : CM} {n B : Nat} {rel : Nat → Nat → Bool} (h : JM L n B rel) (hB : B ≤ 1000) : J4 L n 0 rel :=
  ⟨h.len, h.symm, h.irr, fun i hi => absurd hi (Nat.not_lt_zero _), fun i _ hi => by
    obtain ⟨x, l, h1, h2, h3, h4, h5⟩ := h.cell i hi
    exact ⟨x, l, h1, h2, h3, by omega, h5⟩⟩
theorem J4.next {L : CM} {n k : Nat} {rel : Nat → Nat → Bool} {x : Int} {l : List Int} (h : J4 L n k rel) (hk : k < n) (hx : L[k]? = some (x, l)) : J4 (L.set k (x, nbL n rel k)) n (k + 1) rel := by
  have hlen := h.len
  refine ⟨by simpa using h.len, h.symm, h.irr, fun i hi => ?_, fun i hi hin => ?_⟩
  · by_cases hik : i = k
    · subst hik
      obtain ⟨y, _, h1, h2, h3, _⟩ := h.todo i (Nat.le_refl _) hk
      rw [hx] at h1
      injection h1 with h1
      injection h1 with h1
      subst h1
      exact ⟨x, by simp [hlen, hk], h2, h3⟩
    · obtain ⟨y, h1, h2⟩ := h.done i (by omega)
      exact ⟨y, by rw [List.getElem?_set_ne (Ne.symm hik)]; exact h1, h2⟩
  · obtain ⟨y, l', h1, h2⟩ := h.todo i (by omega) hin
    exact ⟨y, l', by rw [List.getElem?_set_ne (by omega)]; exact h1, h2⟩
theorem J4.fin {L : CM} {n : Nat} {rel : Nat → Nat → Bool} (h : J4 L n n rel) (h2 : 2 ≤ n) (h5 : n ≤ 5) : SymM L n rel :=
  ⟨h.len, by omega, by omega, fun i hi => by
    obtain ⟨x, h1, h3, h4⟩ := h.done i hi
    exact ⟨x, h1, h3, by omega⟩, h.symm, h.irr⟩
/-- The fourth loop. -/
def D4 (g : Nat) (A : Option Addr) (n0 c0 : Nat) (w : World) (G n c k : Nat) (rel : Nat → Nat → Bool) (wr : World) : Prop :=
  ∃ ss : List (Int × Sl), OB wr 51 3 (w.heap.size + 2) wr.heap.size G c ss ∧ J4 (ss.map dtC) n k rel ∧ D0 g A n0 c0 w (.slice (some ⟨G, 0, none⟩) n c) wr
/-- What the draw leaves. -/
def Drew10 (g : Nat) (A : Option Addr) (n0 c0 : Nat) (w : World) (e : Ending) (w' : World) : Prop :=
  ∃ (G n c : Nat) (ss : List (Int × Sl)) (rel : Nat → Nat → Bool), e = .returned (.agg #[.slice (some ⟨G, 0, none⟩) n c]) ∧ 2 ≤ n ∧ n ≤ 5 ∧ OB w' 51 3 w.heap.size w'.heap.size G c ss ∧ SymM (ss.map dtC) n rel ∧ Cur w' g A n0 c0 ∧ Chg g (g + 1) w w'
set_option maxHeartbeats 2000000 in
set_option maxRecDepth 100000 in
theorem sDraw10_any (w : World) (g : Nat) (A : Option Addr) (n0 c0 lo hi : Nat) (l : List Int) (hC : Cur w g A n0 c0) (hr : Rd w lo hi 1 A n0 (l.map (.int .u8))) (hn0 : n0 ≤ 16777216) (h8 : ∀ x ∈ l, 0 ≤ x ∧ x ≤ 255) (hg : hi ≤ g) :
    Calls Try.prog 48 #[.pointer (some ⟨g, 0, none⟩)] w (Drew10 g A n0 c0 w) := by
  obtain ⟨iC, hiC, hzC0, hzC1, hzC2⟩ := info_parts infoCell
  obtain ⟨i0, hi0, hz0, hz1, hz2⟩ := info_parts infoIntS
  have hgl := hC.lt
  have hD0 : D0 g A n0 c0 w (.slice none 0 0) ((w.alloc (.cells #[.slice none 0 0] 29)).alloc (.cells #[.slice none 0 0] 29)) :=
    ⟨by simpa using Bx1.new (w.alloc (.cells #[.slice none 0 0] 29)) 29 (.slice none 0 0), (Bx1.new w 29 (.slice none 0 0)).below' (by (repeat' (first | (with_reducible exact Below.refl _ _) | (with_reducible assumption) | (with_reducible refine Below.alloc ?_ ?_ _) | (with_reducible refine below_ext ?_ ?_ _ _) | (with_reducible refine Below.setCell ?_ ?_ _) | (with_reducible refine Below.drew ?_) | (with_reducible refine below_drewN ?_ _))); all_goals (first | omega | (simp; done) | (simp; omega))), hC.below' (by (repeat' (first | (with_reducible exact Below.refl _ _) | (with_reducible assumption) | (with_reducible refine Below.alloc ?_ ?_ _) | (with_reducible refine below_ext ?_ ?_ _ _) | (with_reducible refine Below.setCell ?_ ?_ _) | (with_reducible refine Below.drew ?_) | (with_reducible refine below_drewN ?_ _))); all_goals (first | omega | (simp; done) | (simp; omega))), ((Chg.refl _ _ w).alloc _).alloc _⟩
  have HB := hide (fun W h h' (m : Int) (hm : m ≤ 16777216) => sBelow_any W g A n0 c0 lo hi l m h h' hn0 h8 hg hm)
  have HO1 := hide (fun W h h' (m : Int) (hm : m ≤ 16777216) => sOnce_any W g A n0 c0 lo hi l m h h' hn0 h8 hg hm)
  have hbox : ((w.alloc (.cells #[.slice none 0 0] 29)).alloc (.cells #[.slice none 0 0] 29)).heap.size = w.heap.size + 2 := by simp
  have HR := hide hr
  clear hr h8 hC
  go_enter Try.func48, Try.ntmps48
  go_wp2_with fail
  refine (unhide HB _ hD0.cu (HR.out.below' (by (repeat' (first | (with_reducible exact Below.refl _ _) | (with_reducible assumption) | (with_reducible refine Below.alloc ?_ ?_ _) | (with_reducible refine below_ext ?_ ?_ _ _) | (with_reducible refine Below.setCell ?_ ?_ _) | (with_reducible refine Below.drew ?_) | (with_reducible refine below_drewN ?_ _))); all_goals (first | omega | (simp; done) | (simp; omega)))) _ (by omega)).mono ?_
  rintro e w1 ⟨x, rfl, ⟨hx0, hx1⟩, hC1, hch1⟩
  have hx4 := hx1 (by omega)
  obtain ⟨n, hn⟩ : ∃ n : Nat, 2 + x = (n : Int) := ⟨(2 + x).toNat, by omega⟩
  have hn2 : 2 ≤ n := by omega
  have hn5 : n ≤ 5 := by omega
  have hs1 := hch1.size
  rw [hbox] at hs1
  have HD1 := hide (show D1 g A n0 c0 w 0 w1 from ⟨none, 0, [], rfl, by simp, by simpa using Own.nil_ w1 (w.heap.size + 2) w1.heap.size 51 2, hD0.cur hgl hC1 hch1⟩)
  clear hx1 hD0 hC1 hch1 hbox
  go_wp2_with fail
  clear hn hx0 hx4
  go_loopw [5] (fun i wr => ∃ k : Nat, k ≤ n ∧ i = .int .i64 k ∧ D1 g A n0 c0 w k wr) (fun i _ => n - (intOf i).toNat)
  case atStart => exact ⟨0, Nat.zero_le _, rfl, HD1.out⟩
  case round =>
    clear HD1
    obtain ⟨k, hk, rfl, A', c', xs, hxl, hx01, hown, hD⟩ := hrel
    have hrw := HR.out.chg hD.ch (.inl hg)
    have hsz := hD.rb.lt
    have hbx := hD.mb.lt
    by_cases hlt : k < n
    · have hlt' : (k : Int) < (n : Int) := by omega
      have q0 := hD.mb.c0
      have q1 := hD.mb.f0
      have HDr := hide (hD.below' (show Below wr.heap.size wr wr.drew from (by (repeat' (first | (with_reducible exact Below.refl _ _) | (with_reducible assumption) | (with_reducible refine Below.alloc ?_ ?_ _) | (with_reducible refine below_ext ?_ ?_ _ _) | (with_reducible refine Below.setCell ?_ ?_ _) | (with_reducible refine Below.drew ?_) | (with_reducible refine below_drewN ?_ _))); all_goals (first | omega | (simp; done) | (simp; omega)))))
      have HO := hide (hown.drew)
      have HRr := hide (show Rd wr.drew lo hi 1 A n0 (l.map (.int .u8)) from hrw.drew)
      clear hD hown hrw
      go_wp2_with fail
      go_region_law (first
        | (go_simp; go_at_call 54; (with_reducible refine (unhide HB _ HDr.out.cu HRr.out (2 : Int) (by omega)).mono ?_); rintro e w2 ⟨z, rfl, ⟨hzz0, hzz1⟩, hC2, hch2⟩; have HD2 := hide (HDr.out.cur hgl hC2 hch2); have r0 := HD2.out.mb.c0; have r1 := HD2.out.mb.f0; have hs2 := hch2.size; (try simp at hs2); have hbx2 : w.heap.size + 1 < w2.heap.size := by omega)
        | (refine step_app _ rfl (.tmp 21) (.tmp 25) 27 rfl 51 iC (.agg #[.int .i64 0, .slice none 0 0]) 2 32 (w.heap.size + 2) wr.heap.size w2.heap.size (w2.heap.size + 1) Try.underlying27 hiC hzC0 hzC1 hzC2 rfl (by omega) (.slice A' k c') k _ (by simp [Act.eval]) ((HO.out.chg hch2 (.inr (by omega))).alloc _) (some ⟨w2.heap.size, 0, none⟩) 1 1 [.int .i64 z, .slice none 0 0] (by simp [Act.eval]) (by simpa using Rd.fresh w2 #[.int .i64 z, .slice none 0 0] 51 2 1 rfl) (by simp [Value.oneCell']) (by unfold maxLen; omega) (by omega) (by first | omega | (simp <;> omega)) (by first | omega | (simp <;> omega)) ?_; intro A3 c3 w3 hown3 hc3 hm3 hch3; have HD3 := hide ((HD2.out.below' (show Below w2.heap.size w2 _ from (by (repeat' (first | (with_reducible exact Below.refl _ _) | (with_reducible assumption) | (with_reducible refine Below.alloc ?_ ?_ _) | (with_reducible refine below_ext ?_ ?_ _ _) | (with_reducible refine Below.setCell ?_ ?_ _) | (with_reducible refine Below.drew ?_) | (with_reducible refine below_drewN ?_ _))); all_goals (first | omega | (simp; done) | (simp; omega))))).own hgl hch3 (by omega)); have t0 := HD3.out.mb.c0; have t1 := HD3.out.mb.f0)
        | fail)
      all_goals
        have hzz2 := hzz1 (by omega)
        have HREL := hide (show D1 g A n0 c0 w (k + 1) (w3.setCell ⟨w.heap.size + 1, 0, none⟩ (.slice A3 (k + 1) c3)) from
          ⟨A3, c3, xs ++ [z], by simp [hxl], by intro y hy; rcases List.mem_append.1 hy with h | h; exact hx01 y h; simp at h; omega, by simpa [nilC, cs1, Sl.v] using hown3.chg (chg1 (Nat.le_refl (w.heap.size + 1)) (Nat.lt_succ_self (w.heap.size + 1)) (.slice A3 (k + 1) c3)) (.inr (Nat.le_refl _)), HD3.out.box hgl _⟩)
        clear t0 t1 r0 r1 q0 q1 HD3 HD2 HDr HO HRr hch3 hch2 hown3 hC2
        go_wp2_with fail
        go_roundw
        case rel => exact ⟨k + 1, by omega, by go_num, HREL.out⟩
        case measure => simp [intOf] <;> omega
    · have hkn : k = n := by omega
      rw [hkn] at hown hxl hD
      obtain ⟨G, rfl, hOB⟩ := OB.start (E2 := 3) hown hxl (by omega)
      have HD2 := hide (show D2 g A n0 c0 w G n c' 0 wr from ⟨_, _, hOB, JM.start hxl hx01, hD⟩)
      have hlt' : ¬ (k : Int) < (n : Int) := by omega
      clear hown hD hOB hrw hkn hlt hk hx01 hxl
      go_wp2_with fail
      clear hlt'
      go_loopw [6] (fun i wx => ∃ b B : Nat, 1 ≤ b ∧ b ≤ n ∧ i = .int .i64 b ∧ B ≤ 8 * b ∧ D2 g A n0 c0 w G n c' B wx) (fun i _ => n - (intOf i).toNat)
      case atStart => exact ⟨1, 0, by omega, by omega, rfl, by omega, HD2.out⟩
      case round =>
        clear HD2
        obtain ⟨b, B, hb1, hbn, rfl, hB, hD2⟩ := hrel
        have HD2 := hide hD2
        clear hD2
        by_cases hlt : b < n
        · have hlt' : (b : Int) < (n : Int) := by omega
          go_wp2_with fail
          go_loopw [7] (fun i wx => ∃ a B' : Nat, a ≤ b ∧ i = .int .i64 a ∧ B' ≤ 8 * b + a ∧ D2 g A n0 c0 w G n c' B' wx) (fun i _ => b - (intOf i).toNat)
          case atStart => exact ⟨0, B, by omega, rfl, by omega, HD2.out⟩
          case round =>
            clear HD2
            obtain ⟨a, B', ha, rfl, hB', hD2⟩ := hrel
            have HD2 := hide hD2
            clear hD2
            by_cases hlt2 : a < b
            · have hlt2' : (a : Int) < (b : Int) := by omega
              cases hab : ((a : Int) == (b : Int) - 1)
              case true =>
                go_wp2_with fail
                refine (unhide HO1 _ HD2.out.choose_spec.choose_spec.2.2.cu (HR.out.chg HD2.out.choose_spec.choose_spec.2.2.ch (.inl hg)) _ (by omega)).mono ?_
                rintro e wz ⟨r1, rfl, hC1, hch1⟩
                have HE1 := hide (HD2.out.cur hgl hC1 hch1)
                clear hC1 hch1
                cases r1
                case false =>
                  obtain ⟨ss, rel, hO, hJ, hD⟩ := HE1.out
                  have q0 := hD.mb.c0
                  go_wp2_with fail
                  refine (sJoin_any _ G c' _ n a b B' ss rel hO hJ (by omega) (by omega) (by omega) (by omega)).mono ?_
                  rintro e w9 ⟨rfl, ss9, hO9, hJ9, hch9⟩
                  have HREL := hide (show D2 g A n0 c0 w G n c' (B' + 1) w9 from ⟨ss9, _, hO9, hJ9, hD.own hgl hch9 (Nat.le_refl _)⟩)
                  clear q0 hO hJ hD hO9 hJ9 hch9
                  go_wp2_with fail
                  go_roundw
                  case rel => exact ⟨a + 1, B' + 1, by omega, by go_num, by omega, HREL.out⟩
                  case measure => simp [intOf] <;> omega
                case true =>
                  go_wp2_with fail
                  refine (unhide HO1 _ HE1.out.choose_spec.choose_spec.2.2.cu (HR.out.chg HE1.out.choose_spec.choose_spec.2.2.ch (.inl hg)) _ (by omega)).mono ?_
                  rintro e wy ⟨r2, rfl, hC2, hch2⟩
                  have HE2 := hide (HE1.out.cur hgl hC2 hch2)
                  clear hC2 hch2
                  cases r2
                  case true =>
                    obtain ⟨ss, rel, hO, hJ, hD⟩ := HE2.out
                    have q0 := hD.mb.c0
                    go_wp2_with fail
                    refine (sJoin_any _ G c' _ n a b B' ss rel hO hJ (by omega) (by omega) (by omega) (by omega)).mono ?_
                    rintro e w9 ⟨rfl, ss9, hO9, hJ9, hch9⟩
                    have HREL := hide (show D2 g A n0 c0 w G n c' (B' + 1) w9 from ⟨ss9, _, hO9, hJ9, hD.own hgl hch9 (Nat.le_refl _)⟩)
                    clear q0 hO hJ hD hO9 hJ9 hch9
                    go_wp2_with fail
                    go_roundw
                    case rel => exact ⟨a + 1, B' + 1, by omega, by go_num, by omega, HREL.out⟩
                    case measure => simp [intOf] <;> omega
                  case false =>
                    go_wp2_with fail
                    go_roundw
                    case rel => exact ⟨a + 1, B', by omega, by go_num, by omega, HE2.out⟩
                    case measure => simp [intOf] <;> omega
              case false =>
                go_wp2_with fail
                refine (unhide HO1 _ HD2.out.choose_spec.choose_spec.2.2.cu (HR.out.chg HD2.out.choose_spec.choose_spec.2.2.ch (.inl hg)) _ (by omega)).mono ?_
                rintro e wy ⟨r2, rfl, hC2, hch2⟩
                have HE2 := hide (HD2.out.cur hgl hC2 hch2)
                clear hC2 hch2
                cases r2
                case true =>
                  obtain ⟨ss, rel, hO, hJ, hD⟩ := HE2.out
                  have q0 := hD.mb.c0
                  go_wp2_with fail
                  refine (sJoin_any _ G c' _ n a b B' ss rel hO hJ (by omega) (by omega) (by omega) (by omega)).mono ?_
                  rintro e w9 ⟨rfl, ss9, hO9, hJ9, hch9⟩
                  have HREL := hide (show D2 g A n0 c0 w G n c' (B' + 1) w9 from ⟨ss9, _, hO9, hJ9, hD.own hgl hch9 (Nat.le_refl _)⟩)
                  clear q0 hO hJ hD hO9 hJ9 hch9
                  go_wp2_with fail
                  go_roundw
                  case rel => exact ⟨a + 1, B' + 1, by omega, by go_num, by omega, HREL.out⟩
                  case measure => simp [intOf] <;> omega
                case false =>
                  go_wp2_with fail
                  go_roundw
                  case rel => exact ⟨a + 1, B', by omega, by go_num, by omega, HE2.out⟩
                  case measure => simp [intOf] <;> omega
            · have hlt2' : ¬ (a : Int) < (b : Int) := by omega
              go_wp2_with fail
              go_roundw
              case rel => exact ⟨b + 1, B', by omega, by omega, by go_num, by omega, HD2.out⟩
              case measure => simp [intOf] <;> omega
        · have hlt' : ¬ (b : Int) < (n : Int) := by omega
          obtain ⟨ss0, rel, hO0, hJ0, hD0⟩ := HD2.out
          have HD4 := hide (show D4 g A n0 c0 w G n c' 0 rel wr from ⟨ss0, hO0, J4.start hJ0 (by omega), hD0⟩)
          clear HD2 hO0 hJ0 hD0
          go_wp2_with fail
          clear hlt' hlt
          go_loopw [8] (fun i wx => ∃ k : Nat, k ≤ n ∧ i = .int .i64 k ∧ D4 g A n0 c0 w G n c' k rel wx) (fun i _ => n - (intOf i).toNat)
          case atStart => exact ⟨0, Nat.zero_le _, rfl, HD4.out⟩
          case round =>
            clear HD4
            obtain ⟨i, hin, rfl, ss, hO, hJ, hD⟩ := hrel
            have hl : ss.length = n := by have := hJ.len; simpa using this
            have q0 := hD.mb.c0
            by_cases hlt : i < n
            · have hlt' : (i : Int) < (n : Int) := by omega
              obtain ⟨x1, s1, e1⟩ : ∃ x s, ss[i]? = some (x, s) := ⟨_, _, List.getElem?_eq_getElem (by omega)⟩
              have d1 : (ss.map dtC)[i]? = some (x1, s1.l) := by simp [e1, dtC]
              obtain ⟨hs1n, hmem⟩ : s1.l.length ≤ 1000 ∧ ∀ j : Nat, (j : Int) ∈ s1.l ↔ rel i j = true := by
                obtain ⟨_, _, p1, _, _, p2, p3⟩ := hJ.todo i (Nat.le_refl _) hlt
                rw [d1] at p1
                injection p1 with p1
                injection p1 with _ p1
                subst p1
                exact ⟨p2, p3⟩
              have HN := hide (hJ.next hlt d1)
              have HOB := hide hO
              have HD := hide hD
              have HM := hide hmem
              have hown0 : Own (wr.alloc (.cells #[] 3)) wr.heap.size (wr.heap.size + 1) 3 1 (.slice (some ⟨wr.heap.size, 0, none⟩) 0 0) 0 ([].map (Value.int .i64)) := by
                simpa using Own.fresh wr #[] 3 1 0 rfl (by unfold maxLen; omega)
              have HW0 := hide hown0
              have hGl := hO.glt
              have hbl := hD.mb.lt
              have HE1 := hide e1
              have hglo := hO.glo
              clear hown0 hmem hO hJ hD e1 d1 q0
              obtain ⟨wo, hwo⟩ : ∃ wo, wo = wr := ⟨_, rfl⟩
              subst hwo
              go_wp2_with fail
              go_loopw [9, 10] (fun q p wx => ∃ (j t a' cc : Nat) (acc : List Int), j ≤ n ∧ t ≤ j ∧ p = .int .i64 j ∧ q = .slice (some ⟨a', 0, none⟩) t cc ∧ Hid (acc.length = t) ∧ Hid (acc = ((List.range j).filter (rel i)).map fun z : Nat => (z : Int)) ∧ Own wx wo.heap.size wx.heap.size 3 1 (.slice (some ⟨a', 0, none⟩) t cc) t (acc.map (.int .i64)) ∧ t ≤ cc ∧ cc ≤ maxLen ∧ Below wo.heap.size wo wx ∧ wo.heap.size + 1 ≤ wx.heap.size) (fun _ p _ => n - (intOf p).toNat)
              case atStart => exact ⟨0, 0, _, 0, [], Nat.zero_le _, Nat.le_refl _, rfl, rfl, hide rfl, hide (by simp), by simpa using HW0.out, Nat.le_refl _, by unfold maxLen; omega, (by (repeat' (first | (with_reducible exact Below.refl _ _) | (with_reducible assumption) | (with_reducible refine Below.alloc ?_ ?_ _) | (with_reducible refine below_ext ?_ ?_ _ _) | (with_reducible refine Below.setCell ?_ ?_ _) | (with_reducible refine Below.drew ?_) | (with_reducible refine below_drewN ?_ _))); all_goals (first | omega | (simp; done) | (simp; omega))), by simp⟩
              case round =>
                clear HW0
                obtain ⟨j, t, a', cc, acc, hj, htj, rfl, rfl, HL, HF, hown, htc, hcm, hb, hz⟩ := hrel
                have HOx := hide (HOB.out.below' hb)
                have HDx := hide (HD.out.below' hb)
                obtain ⟨_, k1, _, k2⟩ := HOx.out.at_ HE1.out
                have q0 := HDx.out.mb.c0
                have hGx : G < _ := HOx.out.glt
                have hown' := hide hown
                have hbx' := hide hb
                clear hown hb
                by_cases hltj : j < n
                · have hltj' : (j : Int) < (n : Int) := by omega
                  have HS := hide (sHas_any _ s1.A s1.n s1.c _ _ s1.l (j : Int) (HOx.out.one i x1 s1 HE1.out).2.2.1.rd (by have := (HOx.out.one i x1 s1 HE1.out).2.2.1.len; simp at this; omega))
                  have hhas : hasI s1.l (j : Int) = rel i j := by rw [Bool.eq_iff_iff, hasI_iff, HM.out]
                  rw [hhas] at HS
                  clear hhas
                  cases hrj : rel i j
                  case false =>
                    rw [hrj] at HS
                    have HG := hide (show acc = ((List.range (j + 1)).filter (rel i)).map fun z : Nat => (z : Int) by rw [List.range_succ, List.filter_append, List.map_append, ← HF.out]; simp [hrj])
                    clear HF hrj
                    go_wp2_with fail
                    refine (unhide HS).mono ?_
                    rintro e w' ⟨rfl, rfl⟩
                    go_wp2_with fail
                    go_roundw
                    case rel => exact ⟨j + 1, t, a', cc, acc, by omega, by omega, by go_num, rfl, HL, HG, hown'.out, htc, hcm, hbx'.out, hz⟩
                    case measure => simp [intOf] <;> omega
                  case true =>
                    rw [hrj] at HS
                    have HG := hide (show acc ++ [(j : Int)] = ((List.range (j + 1)).filter (rel i)).map fun z : Nat => (z : Int) by rw [List.range_succ, List.filter_append, List.map_append, ← HF.out]; simp [hrj])
                    clear HF hrj
                    go_wp2_with fail
                    refine (unhide HS).mono ?_
                    rintro e w' ⟨rfl, rfl⟩
                    have hfr : Rd (wr.alloc (.cells #[.int .i64 j] 3)) wr.heap.size (wr.heap.size + 1) 1 (some ⟨wr.heap.size, 0, none⟩) 1 [.int .i64 j] := by simpa using Rd.fresh wr #[.int .i64 j] 3 1 1 rfl
                    go_wp2_with (at_builtin; refine wpList_app _ rfl (.tmp 74) (.tmp 76) 35 rfl 3 i0 (.int .i64 0) 1 8 wo.heap.size wr.heap.size wr.heap.size (wr.heap.size + 1) Try.underlying35 hi0 hz0 hz1 hz2 rfl (by omega) _ t _ rfl (hown'.out.alloc _) _ 1 1 _ rfl hfr (by simp [Value.oneCell']) (by unfold maxLen; omega) (by omega) (by first | omega | (simp <;> omega)) (by first | omega | (simp <;> omega)) ?_; intro A4 c4 w4 hown4 hc4 hm4 hch4)
                    obtain ⟨a4, rfl⟩ : ∃ a4, A4 = some ⟨a4, 0, none⟩ := by
                      obtain ⟨A5, c5, hv, _, _, h5⟩ := hown4.form
                      injection hv with e1
                      rcases h5 with ⟨_, h0, _⟩ | ⟨g5, h6, _⟩
                      · omega
                      · exact ⟨g5, e1.trans h6⟩
                    have hsz4 := hch4.size
                    simp at hsz4
                    have hb4 : Below wo.heap.size wo w4 := below_then hbx'.out ((((Chg.refl wo.heap.size wr.heap.size wr).alloc _).trans hch4).below (B := wo.heap.size) (Nat.le_refl _) (by omega)) (Nat.le_refl _)
                    have hown5 : Own w4 wo.heap.size w4.heap.size 3 1 (.slice (some ⟨a4, 0, none⟩) (t + 1) c4) (t + 1) ((acc ++ [(j : Int)]).map (Value.int .i64)) := by simpa using hown4
                    have HW5 := hide hown5
                    clear hown4 hown5 hch4 hfr k1 k2 q0 HS
                    go_wp2_with fail
                    go_roundw
                    case rel => exact ⟨j + 1, t + 1, a4, c4, acc ++ [(j : Int)], by omega, by omega, by go_num, rfl, hide (by simp [HL.out]), HG, HW5.out, hc4, hm4, hb4, by omega⟩
                    case measure => simp [intOf] <;> omega
                · have hltj' : ¬ (j : Int) < (n : Int) := by omega
                  have hjn : j = n := by omega
                  have HG : Hid (acc = nbL n rel i) := hide (by rw [HF.out, hjn]; rfl)
                  obtain ⟨ha1, ha2, ha3⟩ := hown'.out.blk_lt
                  have hO3 := HOB.out.put HE1.out (Chg.of_below hbx'.out wo.heap.size (wo.heap.size + 1)) (.inr (Nat.le_refl _)) (Nat.le_refl _) hbx'.out.size ⟨some ⟨a', 0, none⟩, t, cc, acc⟩ htc hcm rfl (by omega) ha2 hown'.out.tight (.inr ha1)
                  have HREL := hide (show D4 g A n0 c0 w G n c' (i + 1) rel (wr.setCell ⟨G, i * 2 + 1, none⟩ (.slice (some ⟨a', 0, none⟩) t cc)) from
                    ⟨_, by simpa using hO3, by simpa [List.map_set, dtC, HG.out] using HN.out, HDx.out.own hgl (chg1 (Nat.le_refl G) (Nat.lt_succ_self G) _) hglo⟩)
                  clear hO3 HF hjn HG ha1 ha2 ha3
                  go_wp2_with fail
                  go_roundw
                  case rel => exact ⟨i + 1, by omega, by go_num, HREL.out⟩
                  case measure => simp [intOf] <;> omega
            · have hlt' : ¬ (i : Int) < (n : Int) := by omega
              have hin2 : i = n := by omega
              rw [hin2] at hJ
              have q1 := hD.rb.c0
              have q2 := hD.rb.f0
              have hrl := hD.rb.lt
              have hc : Chg w.heap.size (w.heap.size + 1) wr (wr.setCell ⟨w.heap.size, 0, none⟩ (.slice (some ⟨G, 0, none⟩) n c')) := chg1 (Nat.le_refl _) (Nat.lt_succ_self _) _
              have HF := hide (show Drew10 g A n0 c0 w (.returned (.agg #[.slice (some ⟨G, 0, none⟩) n c'])) (wr.setCell ⟨w.heap.size, 0, none⟩ (.slice (some ⟨G, 0, none⟩) n c')) from
                ⟨G, n, c', ss, rel, rfl, hn2, hn5, by simpa using (hO.chg hc (.inr (by omega))).low (Nat.le_add_right _ 2), hJ.fin hn2 hn5, hD.cu.chg hc (.inl hgl), hD.ch.then_new hc (Nat.le_refl _)⟩)
              clear hO hJ hD hin2 hc
              go_wp2_with fail
              exact bodyPost_ret (v := .agg #[.slice (some ⟨G, 0, none⟩) n c']) (by simp only [results, Try.results48]; go_simp) rfl HF.out
/-- What spec.DrawMap leaves. -/
def DrewMap (w : World) (e : Ending) (w' : World) : Prop :=
  ∃ (G n c : Nat) (m : CM) (rel : Nat → Nat → Bool), e = .returned (.agg #[.slice (some ⟨G, 0, none⟩) n c]) ∧ 2 ≤ n ∧ n ≤ 5 ∧ Nd2 .i64 w' w.heap.size w'.heap.size (some ⟨G, 0, none⟩) n m ∧ SymM m n rel ∧ Below w.heap.size w w'
set_option maxRecDepth 100000 in
theorem sDrawMap_any (w : World) (A : Option Addr) (n c : Nat) (l : List Int) (hr : Rd w 0 w.heap.size 1 A n (l.map (.int .u8))) (hn : n ≤ 16777216) (h8 : ∀ x ∈ l, 0 ≤ x ∧ x ≤ 255) :
    Calls Try.prog 30 #[.slice A n c] w (DrewMap w) := by
  have hX := Bx1.new w 29 (.slice none 0 0)
  have hr0 : Rd (w.alloc (.cells #[.slice none 0 0] 29)) 0 w.heap.size 1 A n (l.map (.int .u8)) := hr.alloc _
  have hb0 : Below w.heap.size w (w.alloc (.cells #[.slice none 0 0] 29)) := (by (repeat' (first | (with_reducible exact Below.refl _ _) | (with_reducible assumption) | (with_reducible refine Below.alloc ?_ ?_ _) | (with_reducible refine below_ext ?_ ?_ _ _) | (with_reducible refine Below.setCell ?_ ?_ _) | (with_reducible refine Below.drew ?_) | (with_reducible refine below_drewN ?_ _))); all_goals (first | omega | (simp; done) | (simp; omega)))
  go_enter Try.func30, Try.ntmps30
  go_wp2_with fail
  refine (sNew_any _ A n c _ _ l hr0 hn h8).mono ?_
  rintro e w1 ⟨g, rfl, hg, hC1, hb1⟩
  simp at hg
  have hr1 := hr0.below' hb1
  have hX1 := hX.below' hb1
  have hs1 := hb1.size
  simp at hs1
  have hbA : Below w.heap.size w w1 := below_then hb0 hb1 (by simp)
  clear hX hr hr0 hb0 hb1
  go_wp2_with fail
  refine (sDraw10_any _ g A n c _ _ l hC1 hr1 hn h8 (by omega)).mono ?_
  rintro e w2 ⟨G, k, c', ss, rel, rfl, hk2, hk5, hO, hS, _, hch⟩
  have hs2 := hch.size
  have hX2 := hX1.chg hch (.inl (by omega))
  have hbB : Below w.heap.size w w2 := below_then hbA (hch.below (B := w.heap.size) (by omega) (by omega)) (Nat.le_refl _)
  have hc3 : Chg w.heap.size (w.heap.size + 1) w2 (w2.setCell ⟨w.heap.size, 0, none⟩ (.slice (some ⟨G, 0, none⟩) k c')) := chg1 (Nat.le_refl _) (Nat.lt_succ_self _) _
  have hl : (ss.map dtC).length = k := hS.len
  have HF := hide (show DrewMap w (.returned (.agg #[.slice (some ⟨G, 0, none⟩) k c'])) (w2.setCell ⟨w.heap.size, 0, none⟩ (.slice (some ⟨G, 0, none⟩) k c')) from
    ⟨G, k, c', ss.map dtC, rel, rfl, hk2, hk5, by
      have h1 := (hO.chg hc3 (.inr (by omega))).nd
      simp only [List.length_map] at hl
      rw [hl] at h1
      exact h1.more (by omega) (by simp), hS, below_then hbB (hc3.below (B := w.heap.size) (Nat.le_refl _) (by omega)) (Nat.le_refl _)⟩)
  have q0 := hX2.c0
  have q1 := hX2.f0
  clear hO hS hch hX1 hX2 hbA hbB hc3 hr1 hC1 hl
  go_wp2_with fail
  exact bodyPost_ret (v := .agg #[.slice (some ⟨G, 0, none⟩) k c']) (by simp only [results, Try.results30]; go_simp) rfl HF.out
end Go.Proofs.Ytcndocopecnohaa
