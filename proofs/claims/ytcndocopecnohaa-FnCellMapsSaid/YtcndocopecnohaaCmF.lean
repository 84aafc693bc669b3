/- What the law on cell maps needs to know of a map out of a symmetric relation; the small functions of the laws. -/
import Derived.Test.YtcndocopecnohaaCmQ
import Derived.Test.YtcndocopecnohaaCmD
namespace Go.Proofs.Ytcndocopecnohaa
open Go.RowKit Go.Sep Go.Hop

theorem ciL_mem {m : CM} {k : Nat} {x : Int} {s : List Int} (h : m[k]? = some (x, s)) (k0 : Nat) : ((k0 + k : Nat) : Int) ∈ ciL x k0 m := by
  induction m generalizing k k0 with
  | nil => simp at h
  | cons q r ih =>
    obtain ⟨y, t⟩ := q
    rcases k with _ | k
    · simp at h
      obtain ⟨rfl, rfl⟩ := h
      simp [ciL]
    · have := ih (k := k) (by simpa using h) (k0 + 1)
      rw [show k0 + 1 + k = k0 + (k + 1) by omega] at this
      unfold ciL
      split
      · exact List.mem_cons_of_mem _ this
      · exact this
theorem ndSum2_bound {m : CM} {B : Nat} (h : ∀ q ∈ m, q.2.length ≤ B) : ndSum2 m ≤ m.length * B := by
  induction m with
  | nil => simp [ndSum2]
  | cons q r ih =>
    have h1 := h q (by simp)
    have h2 := ih fun p hp => h p (List.mem_cons_of_mem _ hp)
    have e : ndSum2 (q :: r) = q.2.length + ndSum2 r := by simp [ndSum2]
    rw [e, List.length_cons, Nat.succ_mul]
    omega
theorem nbL_len (n i : Nat) (rel : Nat → Nat → Bool) : (nbL n rel i).length ≤ n := by
  unfold nbL
  rw [List.length_map]
  exact Nat.le_trans (List.length_filter_le _ _) (by simp)
section
variable {m : CM} {n : Nat} {rel : Nat → Nat → Bool}
theorem SymM.mem (h : SymM m n rel) {q : Int × List Int} (hq : q ∈ m) : 0 ≤ q.1 ∧ q.1 ≤ 2 ∧ q.2.length ≤ n := by
  obtain ⟨i, hi⟩ := List.mem_iff_getElem?.1 hq
  have hin : i < n := by have := (List.getElem?_eq_some_iff.1 hi).1; have := h.len; omega
  obtain ⟨x, h1, h2, h3⟩ := h.cell i hin
  rw [h1] at hi
  injection hi with hi
  subst hi
  exact ⟨h2, h3, nbL_len _ _ _⟩
theorem SymM.sum (h : SymM m n rel) : ndSum2 m ≤ 1048576 := by
  have h1 := ndSum2_bound (m := m) (B := 6) fun q hq => by have := (h.mem hq).2.2; have := h.hi; omega
  have := h.len; have := h.hi
  omega
/-- The sum of the areas' sizes, so far. -/
def areaSum (m : CM) : Nat → Nat
  | 0 => 0
  | k + 1 => areaSum m k + (ciL (k : Int) 0 m).length
theorem SymM.total (h : SymM m n rel) : areaSum m 3 = n := by
  have := ciL_total m 0 fun q hq => ⟨(h.mem hq).1, (h.mem hq).2.1⟩
  have h2 := h.len
  show 0 + (ciL 0 0 m).length + (ciL 1 0 m).length + (ciL 2 0 m).length = n
  omega
theorem SymM.tot_le (h : SymM m n rel) {k : Nat} (hk : k ≤ 3) : areaSum m k ≤ n := by
  have := h.total
  rcases (show k = 0 ∨ k = 1 ∨ k = 2 ∨ k = 3 by omega) with rfl | rfl | rfl | rfl <;> simp only [areaSum] at * <;> omega
theorem SymM.home (h : SymM m n rel) {a : Nat} (ha : a < n) : ∃ x : Int, areaO m (a : Int) = x ∧ hasI (ciL x 0 m) (a : Int) = true := by
  obtain ⟨x, h1, _⟩ := h.cell a ha
  refine ⟨x, areaO_yes h1, ?_⟩
  rw [hasI_iff]
  have := ciL_mem h1 0
  simpa using this
theorem SymM.hop (h : SymM m n rel) {a b : Nat} (ha : a < n) (hb : b < n) : ∃ d : Int, hopD m a b d ∧ IsD (adjM m) a b d := by
  obtain ⟨d, hd⟩ := IsD_ex (adj := adjM m) (a := a) (v := b)
  have ht : tgt m.length (b : Int) = b := by unfold tgt; rw [h.len, if_pos (by omega)]; simp
  exact ⟨d, .inl ⟨a, rfl, by rw [h.len]; exact ha, by rw [ht]; exact hd⟩, hd⟩
theorem SymM.hop_of (h : SymM m n rel) {a b : Nat} {d : Int} (ha : a < n) (hb : b < n) (hd : IsD (adjM m) a b d) : hopD m a b d := by
  have ht : tgt m.length (b : Int) = b := by unfold tgt; rw [h.len, if_pos (by omega)]; simp
  exact .inl ⟨a, rfl, by rw [h.len]; exact ha, by rw [ht]; exact hd⟩
theorem SymM.near (h : SymM m n rel) {a b : Nat} {d : Int} (hb : b < n) (hd : IsD (adjM m) a b d) : Go.Proofs.Ytcndocopecnohaa.nbr m (a : Int) (b : Int) = (d == 1) := by
  rw [Bool.eq_iff_iff, beq_iff_eq, IsD_one' h.adj_irr hd]
  unfold adjM
  rw [h.len]
  exact ⟨fun x => ⟨x, hb⟩, fun x => x.1⟩
/-- What the law says of three cells. -/
theorem SymM.facts (h : SymM m n rel) {a b c : Nat} (ha : a < n) (hb : b < n) (hc : c < n) : ∃ ab bc ac : Int,
    hopD m a b ab ∧ hopD m b c bc ∧ hopD m a c ac ∧ hopD m b a ab ∧ Go.Proofs.Ytcndocopecnohaa.nbr m (a : Int) (b : Int) = (ab == 1) ∧ Go.Proofs.Ytcndocopecnohaa.nbr m (b : Int) (a : Int) = (ab == 1) ∧
    (ab == 0) = ((a : Int) == (b : Int)) ∧ ab < n ∧ -1 ≤ ab ∧ bc < n ∧ -1 ≤ bc ∧ (0 ≤ ab → 0 ≤ bc → 0 ≤ ac ∧ ac ≤ ab + bc) := by
  obtain ⟨ab, h1, d1⟩ := h.hop ha hb
  obtain ⟨bc, h2, d2⟩ := h.hop hb hc
  obtain ⟨ac, h3, d3⟩ := h.hop ha hc
  have d4 := IsD_symm h.adj_symm d1
  have hlt : ∀ u v, adjM m u v → v < n := fun u v hv => by have := adjM_lt hv; have := h.len; omega
  refine ⟨ab, bc, ac, h1, h2, h3, h.hop_of hb ha d4, h.near hb d1, h.near ha d4, ?_, IsD_lt ha hlt d1, ?_, IsD_lt hb hlt d2, ?_, IsD_tri d1 d2 d3⟩
  · rw [Bool.eq_iff_iff, beq_iff_eq, beq_iff_eq, IsD_zero d1]
    omega
  · rcases d1 with ⟨rfl, _⟩ | ⟨k, rfl, _⟩ <;> omega
  · rcases d2 with ⟨rfl, _⟩ | ⟨k, rfl, _⟩ <;> omega
end
theorem big_any (w : World) (A : Option Addr) (n c : Nat) (_hn : n ≤ 9223372036854775807) :
    Calls Try.prog 29 #[.slice A n c] w fun e w' => e = .returned (.bool (decide ((1048576 : Int) < (n : Int)))) ∧ w = w' := by
  go_enter Try.func29, Try.ntmps29
  go_wp2_with fail
  go_ret
  exact ⟨rfl, rfl⟩
theorem u8_in {l : List Int} (h : ∀ x ∈ l, (Lit.int .u8 x).wf = true) : ∀ x ∈ l, 0 ≤ x ∧ x ≤ 255 := fun x hx => by
  have := h x hx
  have hmin : IntKind.u8.min = 0 := rfl
  have hmax : IntKind.u8.max = 255 := rfl
  simp only [Lit.wf, Bool.and_eq_true, decide_eq_true_eq, hmin, hmax] at this
  exact this
theorem at_any (w : World) (A : Option Addr) (n c lo hi : Nat) (l : List Int) (hr : Rd w lo hi 1 A n (l.map (.int .u8))) (hn : n ≤ 1048576) (h8 : ∀ x ∈ l, 0 ≤ x ∧ x ≤ 255) (i : Nat) (hi20 : i ≤ 20) (x : Int) (hxi : x = (i : Int)) :
    Calls Try.prog 31 #[.slice A n c, .int .i64 x] w fun e w' => (∃ v : Int, e = .returned (.int .i64 v) ∧ 0 ≤ v ∧ v ≤ 255) ∧ w = w' := by
  subst hxi
  have hlen : l.length = n := by simpa using hr.len
  by_cases hlt : i < n
  · obtain ⟨b, o, rfl, _, _, hcell⟩ := hr.at_ (j := i) (by omega)
    have hx := hcell i (.int .u8 (l[i]'(by omega))) (by simp [show i < l.length by omega])
    have hb8 := h8 (l[i]'(by omega)) (List.getElem_mem _)
    generalize l[i]'(by omega) = z at hx hb8
    have hlt' : (i : Int) < (n : Int) := by omega
    clear hcell hr
    go_enter Try.func31, Try.ntmps31
    go_wp2_with fail
    go_ret
    exact ⟨⟨_, rfl, by omega, by omega⟩, rfl⟩
  · have hlt' : ¬ (i : Int) < (n : Int) := by omega
    clear hr
    go_enter Try.func31, Try.ntmps31
    go_wp2_with fail
    go_ret
    exact ⟨⟨_, rfl, by omega, by omega⟩, rfl⟩
theorem contains_any (w : World) (A : Option Addr) (n c lo hi : Nat) (l : List Int) (v : Int) (hr : Rd w lo hi 1 A n (l.map (.int .i64))) (hn : n ≤ 1048576) :
    Calls Try.prog 32 #[.slice A n c, .int .i64 v] w fun e w' => e = .returned (.bool (hasI l v)) ∧ w = w' := by
  have hll : l.length = n := by simpa using hr.len
  unfold hasI
  go_enter Try.func32, Try.ntmps32
  go_wp2_with fail
  go_loop [5] (fun i => ∃ k : Nat, k ≤ n ∧ i = .int .i64 k ∧ Hid (fidx (hasP v) 0 l = fidx (hasP v) k (l.drop k))) (fun i => n - (intOf i).toNat)
  case atStart => exact ⟨0, Nat.zero_le _, rfl, hide (by simp)⟩
  case round =>
    obtain ⟨k, hk, rfl, HF⟩ := hrel
    by_cases hlt : k < n
    · obtain ⟨b, o, rfl, _, _, hcell⟩ := hr.at_ (j := k) (by omega)
      have hkl : k < l.length := by omega
      have hx := hcell k (.int .i64 l[k]) (by simp [hkl])
      have hg : l[k]? = some l[k] := List.getElem?_eq_getElem hkl
      generalize l[k] = z at hx hg
      clear hcell hr
      cases he : (z == v)
      · have HG := hide (HF.out.trans (fidx_miss hg he))
        clear HF hg
        go_wp2_with fail
        go_round
        case rel => exact ⟨k + 1, by omega, by go_num, HG⟩
        case measure => simp [intOf] <;> omega
      · have HG := hide (HF.out.trans (fidx_hit hg he))
        clear HF hg
        go_wp2_with fail
        go_ret
        exact ⟨ret_bool (by rw [HG.out]; simp), rfl⟩
    · obtain rfl : k = n := by omega
      have HG := hide (HF.out.trans (fidx_end hll))
      clear HF
      go_wp2_with fail
      go_ret
      exact ⟨ret_bool (by rw [HG.out]; rfl), rfl⟩
end Go.Proofs.Ytcndocopecnohaa
