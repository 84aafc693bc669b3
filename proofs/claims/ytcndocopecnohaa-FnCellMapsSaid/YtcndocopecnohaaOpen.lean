/- Arguments opened: a slice of integers, or of structs of two or three integers, as a list of cells. No program in sight. -/
import Derived.WalkKit
import Derived.ProofKit
import Derived.OpenShut
import Derived.ShutString
import Derived.ChangeOld
import Derived.Below
import Derived.Lib.SmallJoins
import Derived.Deep.Slices
import Derived.Deep.Fields
import Derived.ChangeSame
import Derived.Test.YtcndocopecnohaaSep
namespace Go.Sep
open Go.ChangeShapes Go.WideShapes Go.ChangeAt Go.RowKit Go.Deep

section
variable {H : Type} {enc : TypeId × Value → H} {P : Program} {w : World} {held : Bool}
/-- A slice of integers that came in. -/
theorem open_flat1 {t e : TypeId} {k : IntKind} {A : Option Addr} {n c : Nat} {d : DataW H} {p : List MemPlace} (ht : P.underlying t = some (.slice e)) (he : P.underlying e = some (.int k)) (hc : P.cellsOf e = 1)
    (h : DataW.Trod enc P w 0 (fun _ => true) held t (.slice A n c) d p) :
    ∃ l : List Int, l.length = n ∧ Rd w 0 w.heap.size 1 A n (l.map (.int k)) ∧ (∀ x ∈ l, (Lit.int k x).wf = true) ∧ n ≤ c ∧ c ≤ maxLen := by
  obtain ⟨fuel, hf⟩ := h
  rcases open_ints ht he hc hf with ⟨hcs, _⟩ | ⟨a, n', c', zs, hcs, _, hl, hm, hz, _, hcell, hwz⟩
  · simp [Value.cells] at hcs
    obtain ⟨rfl, rfl, rfl⟩ := hcs
    exact ⟨[], rfl, Rd.nil_ _ _ _ _ _, by simp, Nat.le_refl _, by unfold maxLen; omega⟩
  · simp [Value.cells] at hcs
    obtain ⟨rfl, rfl, rfl⟩ := hcs
    simp only [if_true] at hz
    refine ⟨zs.take n, by rw [List.length_take]; omega, ⟨by simp; omega, fun hn => ?_⟩, fun x hx => hwz x (List.mem_of_mem_take hx), hl, hm⟩
    have hsp : a.spot = none := by
      have h0 := World.cell?_spot (hcell 0 (by omega))
      simpa [Addr.add] using h0
    obtain ⟨b, off, spot⟩ := a
    simp only at hsp
    subst hsp
    have hb := World.block_lt_of_cell? w _ (hcell 0 (by omega))
    rw [block_of_add] at hb
    refine ⟨b, off, rfl, Nat.zero_le _, hb, fun j u hu => ?_⟩
    simp only [List.getElem?_map, List.getElem?_take, Option.map_eq_some_iff] at hu
    obtain ⟨z, hz1, rfl⟩ := hu
    split at hz1
    · rename_i hj
      have h1 := hcell j (by omega)
      rw [List.getD_eq_getElem?_getD, hz1] at h1
      have : (⟨b, off, none⟩ : Addr).add j = ⟨b, off + j, none⟩ := by unfold Addr.add; split <;> simp_all
      rwa [this] at h1
    · cases hz1
/-- A slice of integers in one cell (a field). -/
theorem open_flatF {t e : TypeId} {k : IntKind} {v : Value} {y : DataW H × List MemPlace} {fuel : Nat} (ht : P.underlying t = some (.slice e)) (he : P.underlying e = some (.int k)) (hc : P.cellsOf e = 1)
    (hf : DataW.trod enc P w 0 (fun _ => true) held fuel t [v] = some y) :
    ∃ s : Sl, v = s.v ∧ s.ok k w 0 w.heap.size ∧ ∀ x ∈ s.l, (Lit.int k x).wf = true := by
  rcases open_ints ht he hc hf with ⟨hcs, _⟩ | ⟨a, n', c', zs, hcs, _, hl, hm, hz, _, hcell, hwz⟩
  · simp at hcs
    subst hcs
    exact ⟨⟨none, 0, 0, []⟩, rfl, ⟨Rd.nil_ _ _ _ _ _, Nat.le_refl _, by unfold maxLen; simp⟩, by simp⟩
  · simp at hcs
    subst hcs
    simp only [if_true] at hz
    refine ⟨⟨some a, n', c', zs.take n'⟩, rfl, ⟨⟨by simp; omega, fun hn => ?_⟩, hl, hm⟩, fun x hx => hwz x (List.mem_of_mem_take hx)⟩
    have hsp : a.spot = none := by
      have h0 := World.cell?_spot (hcell 0 (by simp only at hn; omega))
      simpa [Addr.add] using h0
    obtain ⟨b, off, spot⟩ := a
    simp only at hsp hn
    subst hsp
    have hb := World.block_lt_of_cell? w _ (hcell 0 (by omega))
    rw [block_of_add] at hb
    refine ⟨b, off, rfl, Nat.zero_le _, hb, fun j u hu => ?_⟩
    simp only [List.getElem?_map, List.getElem?_take, Option.map_eq_some_iff] at hu
    obtain ⟨z, hz1, rfl⟩ := hu
    split at hz1
    · rename_i hj
      have h1 := hcell j (by omega)
      rw [List.getD_eq_getElem?_getD, hz1] at h1
      have : (⟨b, off, none⟩ : Addr).add j = ⟨b, off + j, none⟩ := by unfold Addr.add; split <;> simp_all
      rwa [this] at h1
    · cases hz1

/-- A struct of one field, by value. -/
theorem open_agg1 {r : Reach} {b0 : Nat} {t : TypeId} {f0 : Field} {v : Value} {d : DataW H} {p : List MemPlace} (hs : P.underlying t = some (.struct #[f0])) (hone : oneCellFields P #[f0] = true) (hC : P.cellsOf t = 1)
    (hv : Value.okWide P w r b0 t v) (h : DataW.Trod enc P w 0 (fun _ => true) held t v d p) :
    ∃ (v0 : Value) (y0 : DataW H × List MemPlace) (n : Nat), v = .agg #[v0] ∧ DataW.trod enc P w 0 (fun _ => true) held n f0.type [v0] = some y0 := by
  obtain ⟨cs, rfl, hsz⟩ := okWide_struct hs hv
  obtain ⟨l⟩ := cs
  match l, hsz.trans hC with
  | [c0], _ =>
    obtain ⟨fuel, hf⟩ := h
    obtain ⟨y0, n, hx, _, h0⟩ := trod_struct1 hs hf
    obtain ⟨o0, k0⟩ := hone_of hone 0 f0 rfl
    exact ⟨c0, y0, n, rfl, by simpa [Value.cells, o0, k0] using h0⟩

/-- A slice of structs of one-cell fields: its cells. -/
theorem open_fields {t e : TypeId} {fs : Array Field} {A : Option Addr} {n c : Nat} {fuel : Nat} {x : DataW H × List MemPlace} (ht : P.underlying t = some (.slice e)) (he : P.underlying e = some (.struct fs))
    (hone : oneCellFields P fs = true) (hC : P.cellsOf e = fs.size) (hpos : 0 < fs.size) (h : DataW.trod enc P w 0 (fun _ => true) held fuel t [.slice A n c] = some x) :
    n ≤ c ∧ c ≤ maxLen ∧ (0 < n → ∃ b o, A = some ⟨b, o, none⟩ ∧ b < w.heap.size ∧ ∀ i, i < n → ∃ m, ∀ (j : Nat) (f : Field), fs[j]? = some f → ∃ (v : Value) (y : DataW H × List MemPlace),
      w.cell? ⟨b, o + (i * fs.size + j), none⟩ = some v ∧ DataW.trod enc P w 0 (fun _ => true) held m f.type [v] = some y) := by
  rcases open_slice ht h with ⟨h0, _⟩ | ⟨a, len, cap, m, n', D, Pl, hcs, hb, hl, hm, hmm, hx, hi⟩
  · simp at h0
    obtain ⟨rfl, rfl, rfl⟩ := h0
    exact ⟨Nat.le_refl _, by unfold maxLen; simp, fun h => absurd h (by omega)⟩
  · simp at hcs
    obtain ⟨rfl, rfl, rfl⟩ := hcs
    simp only [if_true] at hmm
    subst hmm
    have key : ∀ i, i < n → ∃ q, ∀ (j : Nat) (f : Field), fs[j]? = some f → ∃ (v : Value) (y : DataW H × List MemPlace),
        w.cell? (a.add (i * fs.size + j)) = some v ∧ DataW.trod enc P w 0 (fun _ => true) held q f.type [v] = some y := by
      intro i hin
      obtain ⟨cs', hc, ht'⟩ := hi i (by omega)
      rw [hC] at hc
      obtain ⟨ys, q, hq, hy, hlen, hyl, hf⟩ := DataW.trod_struct he ht'
      obtain ⟨_, hcl, hat⟩ := World.cells?_some hc
      refine ⟨q, fun j f hj => ?_⟩
      obtain ⟨ho, hk⟩ := hone_of hone j f hj
      have hjl : j < fs.size := (Array.getElem?_eq_some_iff.1 hj).1
      have hcell := hat j hjl
      have hv : cs'[j]? = some (cs'[j]'(by omega)) := List.getElem?_eq_getElem (by omega)
      have h1 := hf j f hj
      rw [ho, hk] at h1
      have hone' : (cs'.drop j).take 1 = [cs'[j]'(by omega)] := by
        rw [List.drop_eq_getElem_cons (by omega)]
        rfl
      rw [hone'] at h1
      have hys : ys[j]? = some (ys[j]'(by omega)) := List.getElem?_eq_getElem (by omega)
      refine ⟨_, _, ?_, h1.trans hys⟩
      rw [← Go.Deep.add_add, hcell, hv]
    refine ⟨hl, hm, fun hn => ?_⟩
    obtain ⟨q0, hq0⟩ := key 0 hn
    obtain ⟨v0, _, hc0, _⟩ := hq0 0 (fs[0]) (by simp)
    have hsp : a.spot = none := by
      have h0 := World.cell?_spot hc0
      simpa [Addr.add] using h0
    obtain ⟨b, off, spot⟩ := a
    simp only at hsp
    subst hsp
    have hbl := World.block_lt_of_cell? w _ hc0
    rw [block_of_add] at hbl
    refine ⟨b, off, rfl, hbl, fun i hin => ?_⟩
    obtain ⟨q, hq⟩ := key i hin
    refine ⟨q, fun j f hj => ?_⟩
    obtain ⟨v, y, h1, h2⟩ := hq j f hj
    refine ⟨v, y, ?_, h2⟩
    have : (⟨b, off, none⟩ : Addr).add (i * fs.size + j) = ⟨b, off + (i * fs.size + j), none⟩ := by unfold Addr.add; split <;> simp_all
    rwa [this] at h1

/-- From cells element by element to a reading. -/
theorem rd_of_cells {α : Type} (f : α → List Value) (sz : Nat) (hf : ∀ a, (f a).length = sz) (l : List α) {b o n : Nat} (hl : l.length = n) (hb : b < w.heap.size)
    (h : ∀ i a, l[i]? = some a → ∀ j u, (f a)[j]? = some u → w.cell? ⟨b, o + (i * sz + j), none⟩ = some u) : Rd w 0 w.heap.size sz (some ⟨b, o, none⟩) n (l.flatMap f) := by
  refine ⟨by rw [flat_len f sz hf, hl], fun _ => ⟨b, o, rfl, Nat.zero_le _, hb, fun j u hu => ?_⟩⟩
  rcases Nat.eq_zero_or_pos sz with h0 | h0
  · have : (l.flatMap f).length = 0 := by rw [flat_len f sz hf, h0, Nat.mul_zero]
    have : l.flatMap f = [] := List.eq_nil_of_length_eq_zero this
    rw [this] at hu
    simp at hu
  · have hj : j = (j / sz) * sz + j % sz := by rw [Nat.mul_comm]; exact (Nat.div_add_mod j sz).symm
    rw [hj, flat_at f sz hf l (j / sz) (j % sz) (Nat.mod_lt _ h0)] at hu
    cases hli : l[j / sz]? with
    | none => rw [hli] at hu; simp at hu
    | some a =>
      rw [hli] at hu
      have := h (j / sz) a hli (j % sz) u (by simpa using hu)
      rwa [← hj] at this

def c2 (p : Int × Int) : List Value := [.int .i64 p.1, .int .i64 p.2]
def c3 (p : Int × Int × Int) : List Value := [.int .i64 p.1, .int .i64 p.2.1, .int .i64 p.2.2]
theorem c2_len (p : Int × Int) : (c2 p).length = 2 := rfl
theorem c3_len (p : Int × Int × Int) : (c3 p).length = 3 := rfl

/-- A list out of its elements, one by one. -/
theorem list_of {α : Type} {n : Nat} {R : Nat → α → Prop} (h : ∀ i, i < n → ∃ a, R i a) : ∃ l : List α, l.length = n ∧ ∀ i a, l[i]? = some a → R i a := by
  induction n with
  | zero => exact ⟨[], rfl, by simp⟩
  | succ n ih =>
    obtain ⟨l, hl, hR⟩ := ih fun i hi => h i (by omega)
    obtain ⟨a, ha⟩ := h n (by omega)
    refine ⟨l ++ [a], by simp [hl], fun i x hx => ?_⟩
    rw [List.getElem?_append] at hx
    split at hx
    · exact hR i x hx
    · rename_i hi
      have : i - l.length = 0 := by
        rcases Nat.eq_zero_or_pos (i - l.length) with e | e
        · exact e
        · rw [List.getElem?_eq_none (by simp; omega)] at hx; cases hx
      rw [this] at hx
      simp at hx
      subst hx
      have : i = n := by omega
      rw [this]
      exact ha

theorem open_rows2 {t e ti : TypeId} {f0 f1 : Field} {A : Option Addr} {n c : Nat} {d : DataW H} {p : List MemPlace} (ht : P.underlying t = some (.slice e)) (he : P.underlying e = some (.struct #[f0, f1])) (hti : P.underlying ti = some (.int .i64))
    (hone : oneCellFields P #[f0, f1] = true) (hC : P.cellsOf e = 2) (hf : f0.type = ti ∧ f1.type = ti) (h : DataW.Trod enc P w 0 (fun _ => true) held t (.slice A n c) d p) :
    ∃ l : List (Int × Int), l.length = n ∧ Rd w 0 w.heap.size 2 A n (l.flatMap c2) ∧ n ≤ c ∧ c ≤ maxLen := by
  obtain ⟨fuel, hfu⟩ := h
  obtain ⟨h1, h2, h3⟩ := open_fields ht he hone hC (by simp) (by simpa [Value.cells] using hfu)
  rcases Nat.eq_zero_or_pos n with h0 | h0
  · subst h0
    exact ⟨[], rfl, Rd.nil_ _ _ _ _ _, h1, h2⟩
  · obtain ⟨b, o, rfl, hb, hi⟩ := h3 h0
    obtain ⟨l, hl, hR⟩ := list_of (R := fun i (a : Int × Int) => w.cell? ⟨b, o + (i * 2 + 0), none⟩ = some (.int .i64 a.1) ∧ w.cell? ⟨b, o + (i * 2 + 1), none⟩ = some (.int .i64 a.2)) (n := n) fun i hin => by
      obtain ⟨m, hm⟩ := hi i hin
      obtain ⟨v0, y0, e0, t0⟩ := hm 0 f0 rfl
      obtain ⟨v1, y1, e1, t1⟩ := hm 1 f1 rfl
      rw [hf.1] at t0
      rw [hf.2] at t1
      obtain ⟨x0, q0, _, _⟩ := DataW.trod_int hti t0
      obtain ⟨x1, q1, _, _⟩ := DataW.trod_int hti t1
      simp at q0 q1
      subst q0 q1
      exact ⟨(x0, x1), e0, e1⟩
    refine ⟨l, hl, rd_of_cells c2 2 c2_len l hl hb fun i a ha j u hu => ?_, h1, h2⟩
    obtain ⟨g0, g1⟩ := hR i a ha
    match j, hu with
    | 0, hu => simp [c2] at hu; subst hu; exact g0
    | 1, hu => simp [c2] at hu; subst hu; exact g1
theorem open_rows3 {t e ti : TypeId} {f0 f1 f2 : Field} {A : Option Addr} {n c : Nat} {d : DataW H} {p : List MemPlace} (ht : P.underlying t = some (.slice e)) (he : P.underlying e = some (.struct #[f0, f1, f2])) (hti : P.underlying ti = some (.int .i64))
    (hone : oneCellFields P #[f0, f1, f2] = true) (hC : P.cellsOf e = 3) (hf : f0.type = ti ∧ f1.type = ti ∧ f2.type = ti) (h : DataW.Trod enc P w 0 (fun _ => true) held t (.slice A n c) d p) :
    ∃ l : List (Int × Int × Int), l.length = n ∧ Rd w 0 w.heap.size 3 A n (l.flatMap c3) ∧ n ≤ c ∧ c ≤ maxLen := by
  obtain ⟨fuel, hfu⟩ := h
  obtain ⟨h1, h2, h3⟩ := open_fields ht he hone hC (by simp) (by simpa [Value.cells] using hfu)
  rcases Nat.eq_zero_or_pos n with h0 | h0
  · subst h0
    exact ⟨[], rfl, Rd.nil_ _ _ _ _ _, h1, h2⟩
  · obtain ⟨b, o, rfl, hb, hi⟩ := h3 h0
    obtain ⟨l, hl, hR⟩ := list_of (R := fun i (a : Int × Int × Int) => w.cell? ⟨b, o + (i * 3 + 0), none⟩ = some (.int .i64 a.1) ∧ w.cell? ⟨b, o + (i * 3 + 1), none⟩ = some (.int .i64 a.2.1) ∧ w.cell? ⟨b, o + (i * 3 + 2), none⟩ = some (.int .i64 a.2.2)) (n := n) fun i hin => by
      obtain ⟨m, hm⟩ := hi i hin
      obtain ⟨v0, y0, e0, t0⟩ := hm 0 f0 rfl
      obtain ⟨v1, y1, e1, t1⟩ := hm 1 f1 rfl
      obtain ⟨v2, y2, e2, t2⟩ := hm 2 f2 rfl
      rw [hf.1] at t0
      rw [hf.2.1] at t1
      rw [hf.2.2] at t2
      obtain ⟨x0, q0, _, _⟩ := DataW.trod_int hti t0
      obtain ⟨x1, q1, _, _⟩ := DataW.trod_int hti t1
      obtain ⟨x2, q2, _, _⟩ := DataW.trod_int hti t2
      simp at q0 q1 q2
      subst q0 q1 q2
      exact ⟨(x0, x1, x2), e0, e1, e2⟩
    refine ⟨l, hl, rd_of_cells c3 3 c3_len l hl hb fun i a ha j u hu => ?_, h1, h2⟩
    obtain ⟨g0, g1, g2⟩ := hR i a ha
    match j, hu with
    | 0, hu => simp [c3] at hu; subst hu; exact g0
    | 1, hu => simp [c3] at hu; subst hu; exact g1
    | 2, hu => simp [c3] at hu; subst hu; exact g2

def cs0 (s : Sl) : List Value := [s.v]
def cs1 (p : Int × Sl) : List Value := [.int .i64 p.1, p.2.v]
theorem cs0_len (s : Sl) : (cs0 s).length = 1 := rfl
theorem cs1_len (p : Int × Sl) : (cs1 p).length = 2 := rfl
/-- A slice of structs of one field, a slice of integers. -/
theorem open_nest0 {t e ts ti : TypeId} {f0 : Field} {k : IntKind} {A : Option Addr} {n c fuel : Nat} {x : DataW H × List MemPlace} (ht : P.underlying t = some (.slice e)) (he : P.underlying e = some (.struct #[f0])) (hts : P.underlying ts = some (.slice ti)) (hti : P.underlying ti = some (.int k)) (hc1 : P.cellsOf ti = 1)
    (hone : oneCellFields P #[f0] = true) (hC : P.cellsOf e = 1) (hf : f0.type = ts) (hfu : DataW.trod enc P w 0 (fun _ => true) held fuel t [.slice A n c] = some x) :
    ∃ l : List Sl, l.length = n ∧ Rd w 0 w.heap.size 1 A n (l.flatMap cs0) ∧ (∀ s ∈ l, s.ok k w 0 w.heap.size) ∧ n ≤ c ∧ c ≤ maxLen := by
  obtain ⟨h1, h2, h3⟩ := open_fields ht he hone hC (by simp) hfu
  rcases Nat.eq_zero_or_pos n with h0 | h0
  · subst h0
    exact ⟨[], rfl, Rd.nil_ _ _ _ _ _, by simp, h1, h2⟩
  · obtain ⟨b, o, rfl, hb, hi⟩ := h3 h0
    obtain ⟨l, hl, hR⟩ := list_of (R := fun i (a : Sl) => w.cell? ⟨b, o + (i * 1 + 0), none⟩ = some a.v ∧ a.ok k w 0 w.heap.size) (n := n) fun i hin => by
      obtain ⟨m, hm⟩ := hi i hin
      obtain ⟨v0, y0, e0, t0⟩ := hm 0 f0 rfl
      rw [hf] at t0
      obtain ⟨s, rfl, hs, _⟩ := open_flatF hts hti hc1 t0
      exact ⟨s, e0, hs⟩
    refine ⟨l, hl, rd_of_cells cs0 1 cs0_len l hl hb fun i a ha j u hu => ?_, fun s hs => ?_, h1, h2⟩
    · match j, hu with
      | 0, hu => simp [cs0] at hu; subst hu; exact (hR i a ha).1
    · obtain ⟨i, hi1, hi2⟩ := List.getElem_of_mem hs
      exact (hR i s (by rw [← hi2]; exact List.getElem?_eq_getElem hi1)).2
/-- A slice of structs of two fields, an integer and a slice of integers. -/
theorem open_nest1 {t e tn ts ti : TypeId} {f0 f1 : Field} {k : IntKind} {A : Option Addr} {n c fuel : Nat} {x : DataW H × List MemPlace} (ht : P.underlying t = some (.slice e)) (he : P.underlying e = some (.struct #[f0, f1])) (htn : P.underlying tn = some (.int .i64)) (hts : P.underlying ts = some (.slice ti)) (hti : P.underlying ti = some (.int k)) (hc1 : P.cellsOf ti = 1)
    (hone : oneCellFields P #[f0, f1] = true) (hC : P.cellsOf e = 2) (hf : f0.type = tn ∧ f1.type = ts) (hfu : DataW.trod enc P w 0 (fun _ => true) held fuel t [.slice A n c] = some x) :
    ∃ l : List (Int × Sl), l.length = n ∧ Rd w 0 w.heap.size 2 A n (l.flatMap cs1) ∧ (∀ s ∈ l, s.2.ok k w 0 w.heap.size) ∧ n ≤ c ∧ c ≤ maxLen := by
  obtain ⟨h1, h2, h3⟩ := open_fields ht he hone hC (by simp) hfu
  rcases Nat.eq_zero_or_pos n with h0 | h0
  · subst h0
    exact ⟨[], rfl, Rd.nil_ _ _ _ _ _, by simp, h1, h2⟩
  · obtain ⟨b, o, rfl, hb, hi⟩ := h3 h0
    obtain ⟨l, hl, hR⟩ := list_of (R := fun i (a : Int × Sl) => w.cell? ⟨b, o + (i * 2 + 0), none⟩ = some (.int .i64 a.1) ∧ w.cell? ⟨b, o + (i * 2 + 1), none⟩ = some a.2.v ∧ a.2.ok k w 0 w.heap.size) (n := n) fun i hin => by
      obtain ⟨m, hm⟩ := hi i hin
      obtain ⟨v0, y0, e0, t0⟩ := hm 0 f0 rfl
      obtain ⟨v1, y1, e1, t1⟩ := hm 1 f1 rfl
      rw [hf.1] at t0
      rw [hf.2] at t1
      obtain ⟨x0, q0, _, _⟩ := DataW.trod_int htn t0
      simp at q0
      subst q0
      obtain ⟨s, rfl, hs, _⟩ := open_flatF hts hti hc1 t1
      exact ⟨(x0, s), e0, e1, hs⟩
    refine ⟨l, hl, rd_of_cells cs1 2 cs1_len l hl hb fun i a ha j u hu => ?_, fun s hs => ?_, h1, h2⟩
    · obtain ⟨g0, g1, _⟩ := hR i a ha
      match j, hu with
      | 0, hu => simp [cs1] at hu; subst hu; exact g0
      | 1, hu => simp [cs1] at hu; subst hu; exact g1
    · obtain ⟨i, hi1, hi2⟩ := List.getElem_of_mem hs
      exact (hR i s (by rw [← hi2]; exact List.getElem?_eq_getElem hi1)).2.2
end
end Go.Sep
