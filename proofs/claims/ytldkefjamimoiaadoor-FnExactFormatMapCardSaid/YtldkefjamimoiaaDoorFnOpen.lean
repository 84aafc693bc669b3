/- A slice of structs of an integer and a slice of integers, opened, with the ranges of what it holds. No program in sight. -/
import Derived.Test.YtldkefjamimoiaaDoorOpen
namespace Go.Sep
open Go.ChangeShapes Go.WideShapes Go.ChangeAt Go.RowKit Go.Deep
section
variable {H : Type} {enc : TypeId × Value → H} {P : Program} {w : World} {held : Bool}
set_option linter.unusedVariables false
theorem open_nest1w {t e tn ts ti : TypeId} {f0 f1 : Field} {k : IntKind} {A : Option Addr} {n c fuel : Nat} {x : DataW H × List MemPlace} (ht : P.underlying t = some (.slice e)) (he : P.underlying e = some (.struct #[f0, f1])) (htn : P.underlying tn = some (.int .i64)) (hts : P.underlying ts = some (.slice ti)) (hti : P.underlying ti = some (.int k)) (hc1 : P.cellsOf ti = 1)
    (hone : oneCellFields P #[f0, f1] = true) (hC : P.cellsOf e = 2) (hf : f0.type = tn ∧ f1.type = ts) (hfu : DataW.trod enc P w 0 (fun _ => true) held fuel t [.slice A n c] = some x) :
    ∃ l : List (Int × Sl), l.length = n ∧ Rd w 0 w.heap.size 2 A n (l.flatMap cs1) ∧ (∀ s ∈ l, s.2.ok k w 0 w.heap.size) ∧ (n ≤ c ∧ c ≤ maxLen) ∧ ∀ s ∈ l, (Lit.int .i64 s.1).wf = true ∧ ∀ x ∈ s.2.l, (Lit.int k x).wf = true := by
  obtain ⟨h1, h2, h3⟩ := open_fields ht he hone hC (by simp) hfu
  rcases Nat.eq_zero_or_pos n with h0 | h0
  · subst h0
    exact ⟨[], rfl, Rd.nil_ _ _ _ _ _, by simp, ⟨h1, h2⟩, by simp⟩
  · obtain ⟨b, o, rfl, hb, hi⟩ := h3 h0
    obtain ⟨l, hl, hR⟩ := list_of (R := fun i (a : Int × Sl) => w.cell? ⟨b, o + (i * 2 + 0), none⟩ = some (.int .i64 a.1) ∧ w.cell? ⟨b, o + (i * 2 + 1), none⟩ = some a.2.v ∧ a.2.ok k w 0 w.heap.size ∧ (Lit.int .i64 a.1).wf = true ∧ ∀ x ∈ a.2.l, (Lit.int k x).wf = true) (n := n) fun i hin => by
      obtain ⟨m, hm⟩ := hi i hin
      obtain ⟨v0, y0, e0, t0⟩ := hm 0 f0 rfl
      obtain ⟨v1, y1, e1, t1⟩ := hm 1 f1 rfl
      rw [hf.1] at t0
      rw [hf.2] at t1
      obtain ⟨x0, q0, _, hw0⟩ := DataW.trod_int htn t0
      simp at q0
      subst q0
      obtain ⟨s, rfl, hs, hw1⟩ := open_flatF hts hti hc1 t1
      exact ⟨(x0, s), e0, e1, hs, hw0, hw1⟩
    refine ⟨l, hl, rd_of_cells cs1 2 cs1_len l hl hb fun i a ha j u hu => ?_, fun s hs => ?_, ⟨h1, h2⟩, fun s hs => ?_⟩
    · obtain ⟨g0, g1, _⟩ := hR i a ha
      match j, hu with
      | 0, hu => simp [cs1] at hu; subst hu; exact g0
      | 1, hu => simp [cs1] at hu; subst hu; exact g1
    · obtain ⟨i, hi1, hi2⟩ := List.getElem_of_mem hs
      exact (hR i s (by rw [← hi2]; exact List.getElem?_eq_getElem hi1)).2.2.1
    · obtain ⟨i, hi1, hi2⟩ := List.getElem_of_mem hs
      exact (hR i s (by rw [← hi2]; exact List.getElem?_eq_getElem hi1)).2.2.2
end
end Go.Sep
