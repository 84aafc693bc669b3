/- Copies of bytes; a slice made with room behind it. -/
import Derived.Test.YticfmkfiibhafaaApp
import Derived.Test.YticfmkfiibhafaaByteS
import Derived.Deep.RegionHeld3
import Derived.Deep.RegionLaw
namespace Go.Proofs.Yticfmkfiibhafaa
open Go.RowKit Go.Sep

/-- Each is a byte. -/
def B8 (l : List Int) : Prop := ∀ x ∈ l, 0 ≤ x ∧ x ≤ 255
theorem B8.at_ {l : List Int} (h : B8 l) (k : Nat) (hk : k < l.length) : 0 ≤ l[k] ∧ l[k] ≤ 255 := h _ (List.getElem_mem hk)
theorem B8.of_wf {l : List Int} (h : ∀ x ∈ l, (Lit.int .u8 x).wf = true) : B8 l := fun x hx => by
  have := h x hx
  have hmin : IntKind.u8.min = 0 := rfl
  have hmax : IntKind.u8.max = 255 := rfl
  simp only [Lit.wf, Bool.and_eq_true, decide_eq_true_eq, hmin, hmax] at this
  exact this
/-- A row with its block taken apart. -/
theorem own_open {w : World} {lo hi : Nat} {e : TypeId} {size n c : Nat} {A : Option Addr} {xs : List Value} (h : Own w lo hi e size (.slice A n c) n xs) (hn : 0 < n) : ∃ g, A = some ⟨g, 0, none⟩ ∧ lo ≤ g ∧ g < hi ∧ g < w.heap.size ∧ n ≤ c ∧ c ≤ maxLen := by
  obtain ⟨A', c', hv, h1, h2, hA⟩ := h.form
  injection hv with e1 _ e3
  subst e1 e3
  rcases hA with ⟨_, hz, _⟩ | ⟨g, rfl, hg1, hg2, hg3⟩
  · omega
  · exact ⟨g, rfl, hg1, hg2, hg3, h1, h2⟩

theorem iCopyB_any (w : World) (A : Option Addr) (n c lo hi : Nat) (l : List Int) (hr : Rd w lo hi 1 A n (l.map (.int .u8))) (hn : n ≤ 16777216) :
    Calls Try.prog 73 #[.slice A n c] w (Mk w 5 1 n (l.map (.int .u8))) := by
  obtain ⟨i0, hi0, hz0, hz1, hz2⟩ := info_parts infoByteS
  have hlen := hr.len
  go_enter Try.func73, Try.ntmps73
  go_wp2_with (first
    | (at_make; refine wpList_make_full _ rfl _ _ 51 rfl w.heap.size 5 i0 (.int .u8 0) 1 Try.underlying51 hi0 hz0 hz1 _ _ _ _ n rfl rfl rfl rfl (by rw [hz2]; omega) (by unfold maxLen; omega) (Nat.le_refl _) ?_; intro w1 hown1 hgrow1; have hown := Own.of_row hown1; have hb1 : Below w.heap.size w w1 := (Below.refl _ _).grown hgrow1 (Nat.le_refl _) (by simp); have hr1 := hr.below' hb1; clear hown1 hgrow1)
    | (refine wpList_cpy (o := ⟨some 9, _, _, _, _, _⟩) _ rfl (.tmp 7) (.tmp 8) 51 51 rfl 5 i0 1 w.heap.size w1.heap.size Try.underlying51 hi0 hz1 _ _ n n n c n n _ _ rfl rfl hown 0 (l.map (.int .u8)) (by rw [hlen]; simp) ?_ (by omega) (ints_one _ _) ?_))
  · intro hp
    obtain ⟨b, o, hA, _, _, hcell⟩ := hr1.2 (by omega)
    exact ⟨_, rfl, rfl, b, o, hA, hcell⟩
  · intro w2 hown2 hch2
    rw [splice_all (by rw [zeros_len]; omega)] at hown2
    have hb2 : Below w.heap.size w w2 := below_then hb1 (hch2.below (Nat.le_refl _) hb1.size) (Nat.le_refl _)
    go_wp2_with fail
    go_ret
    exact Mk.of_own hown2 hb2 hch2.size

/-- A slice cut at its front. -/
theorem cutE {l : List Int} {lo hi n c e : Nat} {A : Option Addr} (he : e ≤ n) (hc : n ≤ c) (hce : c = e) {W : World} (h : Rd W lo hi 1 A n (l.map (.int .u8))) : Rd W lo hi 1 A (n - e) ((l.drop e).map (.int .u8)) := by
  have := h.cut he hc
  rw [if_pos hce, Nat.mul_one, List.map_drop.symm] at this
  exact this
theorem cutN {l : List Int} {lo hi n c e : Nat} {A : Option Addr} (he : e ≤ n) (hc : n ≤ c) (hce : ¬ c = e) {W : World} (h : Rd W lo hi 1 A n (l.map (.int .u8))) : Rd W lo hi 1 (A.map (fun x => x.add e)) (n - e) ((l.drop e).map (.int .u8)) := by
  have := h.cut he hc
  rw [if_neg hce, Nat.mul_one, List.map_drop.symm] at this
  exact this
theorem takeL {l : List Int} {lo hi n k : Nat} {A : Option Addr} (hk : k ≤ n) {W : World} (h : Rd W lo hi 1 A n (l.map (.int .u8))) : Rd W lo hi 1 A k ((l.take k).map (.int .u8)) := by
  have := h.take hk
  rw [Nat.mul_one, List.map_take.symm] at this
  exact this
/-- make with room behind. -/
theorem wpList_make_cap {P : Program} (w : World) {ops : Array Oper} {rest : List Oper} {o : Oper} {a : Act} {Q : Exit → Act → World → Prop}
    (hg : o.guard = none) (l c : Operand) (t : TypeId) (hop : o.op = Op.makeSlice t l c)
    (e : TypeId) (i : TypeInfo) (z : Value) (size : Nat) (h1 : P.underlying t = some (.slice e)) (h2 : P.info? e = some i) (h3 : i.zero = some z) (h4 : i.size = size)
    (kl kc : IntKind) (L C : Int) (n N : Nat) (hl : a.eval l = .int kl L) (hc : a.eval c = .int kc C) (hL : L = (n : Int)) (hC : C = (N : Int)) (hnN : n ≤ N) (b2 : i.bytes * N ≤ 281474976710656) (b3 : N ≤ maxLen)
    (hK : ∀ w', Own w' w.heap.size w'.heap.size e size (.slice (some ⟨w.heap.size, 0, none⟩) n N) n ((madeCells z.cells (N * size)).toList.take (n * size)) → Below w.heap.size w w' → wpList P ops Q rest (a.put o.dst (.slice (some ⟨w.heap.size, 0, none⟩) n N)) w') :
    wpList P ops Q (o :: rest) a w := by
  refine wpList_plain hg fun K hK' => ?_
  subst hL hC h4
  have h63 : (N : Int) ≤ 9223372036854775807 := by unfold maxLen at b3; omega
  have hb' : (i.bytes : Int) * (N : Int) ≤ 281474976710656 := by
    have h : ((i.bytes * N : Nat) : Int) ≤ 281474976710656 := by omega
    rwa [Int.natCast_mul] at h
  have hrun := run_make (P := P) w t e i z h1 h2 h3 kl kc n N (by omega) (by omega) hb' h63
  simp only [Int.toNat_natCast] at hrun
  have hs : (madeCells z.cells (N * i.size)).size = N * i.size := size_madeCells _ _
  have hm : n * i.size ≤ N * i.size := Nat.mul_le_mul_right _ hnN
  unfold Oper.wp
  simp [execOp, hop, hl, hc, hrun, Result.andThen]
  refine hK' _ _ (hK _ ⟨⟨by rw [List.length_take, Array.length_toList, hs]; omega, .inr ⟨w.heap.size, N, _, rfl, Nat.le_refl _, heap_alloc_new w _, hnN, b3, hs, rfl⟩⟩, fun k hk => ?_⟩ ((Below.refl _ _).alloc (Nat.le_refl _) _))
  simp [Value.ownBlock] at hk
  subst hk
  simp
end Go.Proofs.Yticfmkfiibhafaa
