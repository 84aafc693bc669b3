/- Copies of bearers; placeBearer and SetBearer: what both sides make. -/
import Derived.Test.YticfmkfiibhafaaSetP
import Derived.Test.YticfmkfiibhafaaIns
import Derived.Deep.RegionLaw
import Derived.Deep.RegionHeld3
namespace Go.Proofs.Yticfmkfiibhafaa
open Go.RowKit Go.Sep

theorem own_open {w : World} {lo hi : Nat} {e : TypeId} {size n c : Nat} {A : Option Addr} {xs : List Value} (h : Own w lo hi e size (.slice A n c) n xs) (hn : 0 < n) : ∃ g, A = some ⟨g, 0, none⟩ ∧ lo ≤ g ∧ g < hi ∧ g < w.heap.size ∧ n ≤ c ∧ c ≤ maxLen := by
  obtain ⟨A', c', hv, h1, h2, hA⟩ := h.form
  injection hv with e1 _ e3
  subst e1 e3
  rcases hA with ⟨_, hz, _⟩ | ⟨g, rfl, hg1, hg2, hg3⟩
  · omega
  · exact ⟨g, rfl, hg1, hg2, hg3, h1, h2⟩
theorem own0 (X : World) (E : TypeId) (sz k : Nat) (hk : X.heap.size = k) : Own (X.alloc (.cells #[] E)) k (k + 1) E sz (.slice (some ⟨k, 0, none⟩) 0 0) 0 [] := by
  subst hk
  simpa using Own.fresh X #[] E sz 0 (by simp) (by unfold maxLen; omega)
theorem rdBox (X : World) (cs : Array Value) (E : TypeId) (sz k : Nat) (hk : X.heap.size = k) (h : cs.size = 1 * sz) : Rd (X.alloc (.cells cs E)) k (k + 1) sz (some ⟨k, 0, none⟩) 1 cs.toList := by
  subst hk
  exact Rd.fresh X cs E sz 1 h
/-- What was boxed reads so in a later world. -/
theorem box3 {w w2 : World} {x y z : Value} {E : TypeId} (hb : Below (w.alloc (.cells #[x, y, z] E)).heap.size (w.alloc (.cells #[x, y, z] E)) w2) :
    w2.cell? ⟨w.heap.size, 0, none⟩ = some x ∧ w2.cell? ⟨w.heap.size, 1, none⟩ = some y ∧ w2.cell? ⟨w.heap.size, 2, none⟩ = some z ∧ Below w.heap.size w w2 ∧ w.heap.size + 1 ≤ w2.heap.size := by
  have hs := hb.size
  simp at hs
  obtain ⟨h, _⟩ := bcell hb
  exact ⟨(h _ _ (by simp)).trans (by go_simp), (h _ _ (by simp)).trans (by go_simp), (h _ _ (by simp)).trans (by go_simp), below_then ((Below.refl _ _).alloc (Nat.le_refl _) _) hb (by simp), hs⟩
theorem c3_one (l : List (Int × Int × Int)) : ∀ u ∈ l.flatMap c3, u.oneCell' = true := by
  intro u hu
  obtain ⟨p, _, hp⟩ := List.mem_flatMap.1 hu
  simp only [c3, List.mem_cons, List.not_mem_nil, or_false] at hp
  rcases hp with rfl | rfl | rfl <;> simp [Value.oneCell']
theorem take_c3 (l : List (Int × Int × Int)) (k : Nat) : (l.flatMap c3).take (k * 3) = (l.take k).flatMap c3 := flat_take c3 3 c3_len l k
theorem drop_c3 (l : List (Int × Int × Int)) (k : Nat) : (l.flatMap c3).drop (k * 3) = (l.drop k).flatMap c3 := flat_drop c3 3 c3_len l k
section
variable {l : List (Int × Int × Int)} {n lo hi c k : Nat} {A : Option Addr} {W : World}
theorem Rd.cutE3 (h : Rd W lo hi 3 A n (l.flatMap c3)) (hk : k ≤ n) (hc : n ≤ c) (hce : c = k) : Rd W lo hi 3 A (n - k) ((l.drop k).flatMap c3) := by
  have := h.cut hk hc
  rw [if_pos hce, drop_c3] at this
  exact this
theorem Rd.cutN3 (h : Rd W lo hi 3 A n (l.flatMap c3)) (hk : k ≤ n) (hc : n ≤ c) (hce : ¬ c = k) : Rd W lo hi 3 (A.map (fun x => x.add (k * 3))) (n - k) ((l.drop k).flatMap c3) := by
  have := h.cut hk hc
  rw [if_neg hce, drop_c3] at this
  exact this
theorem Rd.take3 (h : Rd W lo hi 3 A n (l.flatMap c3)) (hk : k ≤ n) : Rd W lo hi 3 A k ((l.take k).flatMap c3) := by
  have := h.take hk
  rw [take_c3] at this
  exact this
end
/-- A struct stored over another one. -/
theorem set_c3 (l : List (Int × Int × Int)) (i : Nat) (x y z : Int) (h : i < l.length) : (((l.flatMap c3).set (i * 3) (.int .i64 x)).set (i * 3 + 1) (.int .i64 y)).set (i * 3 + 2) (.int .i64 z) = (l.set i (x, y, z)).flatMap c3 := by
  have e : l = l.take i ++ l[i] :: l.drop (i + 1) := by rw [List.getElem_cons_drop, List.take_append_drop]
  have ht : ((l.take i).flatMap c3).length = i * 3 := by rw [flat_len c3 3 c3_len, List.length_take, Nat.min_eq_left (by omega)]
  generalize l[i] = t at e
  generalize hT : l.take i = T at e ht
  generalize l.drop (i + 1) = D at e
  subst e
  have hTl : T.length = i := by rw [← hT, List.length_take, Nat.min_eq_left (by omega)]
  obtain ⟨a, b, c⟩ := t
  have h1 := set_at (T := T.flatMap c3) (D := c3 (a, b, c) ++ D.flatMap c3) ht 0 (.int .i64 x)
  rw [Nat.add_zero] at h1
  rw [List.flatMap_append, List.flatMap_cons, h1]
  have h2 := set_at (T := T.flatMap c3) (D := (c3 (a, b, c) ++ D.flatMap c3).set 0 (.int .i64 x)) ht 1 (.int .i64 y)
  rw [h2]
  have h3 := set_at (T := T.flatMap c3) (D := ((c3 (a, b, c) ++ D.flatMap c3).set 0 (.int .i64 x)).set 1 (.int .i64 y)) ht 2 (.int .i64 z)
  have h4 : (T ++ (a, b, c) :: D).set i (x, y, z) = T ++ (x, y, z) :: D := by
    rw [List.set_append_right _ _ (by omega), hTl, Nat.sub_self, List.set_cons_zero]
  rw [h3, h4, List.flatMap_append, List.flatMap_cons]
  simp [c3]
theorem own_put3 {wr : World} {lo hi n c g i : Nat} {e : TypeId} {l : List (Int × Int × Int)} {x y z : Int} (h : Own wr lo hi e 3 (.slice (some ⟨g, 0, none⟩) n c) n (l.flatMap c3)) (hl : l.length = n) (hi' : i < n) :
    Own (((wr.setCell ⟨g, i * 3, none⟩ (.int .i64 x)).setCell ⟨g, i * 3 + 1, none⟩ (.int .i64 y)).setCell ⟨g, i * 3 + 2, none⟩ (.int .i64 z)) lo hi e 3 (.slice (some ⟨g, 0, none⟩) n c) n ((l.set i (x, y, z)).flatMap c3) ∧
      Chg lo hi wr (((wr.setCell ⟨g, i * 3, none⟩ (.int .i64 x)).setCell ⟨g, i * 3 + 1, none⟩ (.int .i64 y)).setCell ⟨g, i * 3 + 2, none⟩ (.int .i64 z)) := by
  obtain ⟨h1, k1⟩ := h.stored (i * 3) (.int .i64 x)
  obtain ⟨h2, k2⟩ := h1.stored (i * 3 + 1) (.int .i64 y)
  obtain ⟨h3, k3⟩ := h2.stored (i * 3 + 2) (.int .i64 z)
  rw [set_c3 l i x y z (by omega)] at h3
  exact ⟨h3, k1.trans (k2.trans k3)⟩
theorem c3_app (l r : List (Int × Int × Int)) (t : Int × Int × Int) : (l ++ t :: r).flatMap c3 = l.flatMap c3 ++ (Value.int .i64 t.1 :: .int .i64 t.2.1 :: .int .i64 t.2.2 :: r.flatMap c3) := by
  rw [List.flatMap_append, List.flatMap_cons]
  rfl
theorem own_ins3 {w : World} {lo hi n c g k : Nat} {e : TypeId} {l : List (Int × Int × Int)} {z0 z1 z2 : Value} {x y z : Int} (h : Own w lo hi e 3 (.slice (some ⟨g, 0, none⟩) (n + 1) c) (n + 1) (splice (l.flatMap c3 ++ [z0, z1, z2]) ((k + 1) * 3) ((l.drop k).flatMap c3))) (hl : l.length = n) (hk : k ≤ n) :
    Own (((w.setCell ⟨g, k * 3, none⟩ (.int .i64 x)).setCell ⟨g, k * 3 + 1, none⟩ (.int .i64 y)).setCell ⟨g, k * 3 + 2, none⟩ (.int .i64 z)) lo hi e 3 (.slice (some ⟨g, 0, none⟩) (n + 1) c) (n + 1) ((l.take k ++ (x, y, z) :: l.drop k).flatMap c3) ∧
      Chg lo hi w (((w.setCell ⟨g, k * 3, none⟩ (.int .i64 x)).setCell ⟨g, k * 3 + 1, none⟩ (.int .i64 y)).setCell ⟨g, k * 3 + 2, none⟩ (.int .i64 z)) := by
  have ht : ((l.take k).flatMap c3).length = k * 3 := by rw [flat_len c3 3 c3_len, List.length_take, Nat.min_eq_left (by omega)]
  obtain ⟨h1, k1⟩ := h.stored (k * 3) (.int .i64 x)
  obtain ⟨h2, k2⟩ := h1.stored (k * 3 + 1) (.int .i64 y)
  obtain ⟨h3, k3⟩ := h2.stored (k * 3 + 2) (.int .i64 z)
  refine ⟨?_, k1.trans (k2.trans k3)⟩
  have e1 : l.flatMap c3 ++ [z0, z1, z2] = (l.take k).flatMap c3 ++ ((l.drop k).flatMap c3 ++ [z0, z1, z2]) := by rw [← List.append_assoc, ← List.flatMap_append, List.take_append_drop]
  rw [e1, Nat.succ_mul, ins3 z0 z1 z2 _ _ _ ht] at h3
  rw [c3_app]
  exact h3
theorem iCopyBe_any (w : World) (A : Option Addr) (n c lo hi : Nat) (l : List (Int × Int × Int)) (hr : Rd w lo hi 3 A n (l.flatMap c3)) (hn : n ≤ 1048576) :
    Calls Try.prog 65 #[.slice A n c] w (Mk w 46 3 n (l.flatMap c3)) := by
  obtain ⟨i0, hi0, hz0, hz1, hz2⟩ := info_parts infoBearer
  have hlen := hr.len
  go_enter Try.func65, Try.ntmps65
  go_wp2_with (first
    | (at_make; refine wpList_make_full _ rfl _ _ 25 rfl w.heap.size 46 i0 (.agg #[.int .i64 0, .int .i64 0, .int .i64 0]) 3 Try.underlying25 hi0 hz0 hz1 _ _ _ _ n rfl rfl rfl rfl (by rw [hz2]; omega) (by unfold maxLen; omega) (Nat.le_refl _) ?_; intro w1 hown1 hgrow1; have hown := Own.of_row hown1; have hb1 : Below w.heap.size w w1 := (Below.refl _ _).grown hgrow1 (Nat.le_refl _) (by simp); have hr1 := hr.below' hb1; clear hown1 hgrow1)
    | (refine wpList_cpy (o := ⟨some 9, _, _, _, _, _⟩) _ rfl (.tmp 7) (.tmp 8) 25 25 rfl 46 i0 3 w.heap.size w1.heap.size Try.underlying25 hi0 hz1 _ _ n n n c n n _ _ rfl rfl hown 0 (l.flatMap c3) (by rw [hlen]; simp) ?_ (by omega) (c3_one l) ?_))
  · intro hp
    obtain ⟨b, o, hA, _, _, hcell⟩ := hr1.2 (by omega)
    exact ⟨_, rfl, rfl, b, o, hA, hcell⟩
  · intro w2 hown2 hch2
    rw [splice_all (by rw [zeros_len]; omega)] at hown2
    have hb2 : Below w.heap.size w w2 := below_then hb1 (hch2.below (Nat.le_refl _) hb1.size) (Nat.le_refl _)
    go_wp2_with fail
    go_ret
    exact Mk.of_own hown2 hb2 hch2.size
theorem sCopyBe_any (w : World) (A : Option Addr) (n c lo hi : Nat) (l : List (Int × Int × Int)) (hr : Rd w lo hi 3 A n (l.flatMap c3)) (hn : n ≤ 1048576) :
    Calls Try.prog 63 #[.slice A n c] w (Mk w 46 3 n (l.flatMap c3)) := by
  obtain ⟨i0, hi0, hz0, hz1, hz2⟩ := info_parts infoBearer
  have hown0 := own0 w 46 3 w.heap.size rfl
  go_enter Try.func63, Try.ntmps63
  go_wp2_with (at_builtin; refine wpList_app _ rfl (.tmp 3) (.tmp 4) 25 rfl 46 i0 (.agg #[.int .i64 0, .int .i64 0, .int .i64 0]) 3 24 w.heap.size (w.heap.size + 1) lo hi Try.underlying25 hi0 hz0 hz1 hz2 rfl (by omega) _ 0 [] rfl hown0 A n c (l.flatMap c3) rfl (hr.alloc _) (c3_one l) (by unfold maxLen; omega) (by omega) (by first | omega | (simp <;> omega)) (by first | omega | (simp <;> omega)) ?_; intro A4 c4 w4 hown4 hc4 hm4 hch4)
  have hb4 : Below w.heap.size w w4 := ((Chg.refl w.heap.size (w.heap.size + 1) w).alloc _).trans hch4 |>.below (Nat.le_refl _) (Nat.le_refl _)
  rw [Nat.zero_add, List.nil_append] at hown4
  go_wp2_with fail
  go_ret
  exact Mk.of_own hown4 hb4 (Nat.le_refl _)
end Go.Proofs.Yticfmkfiibhafaa
