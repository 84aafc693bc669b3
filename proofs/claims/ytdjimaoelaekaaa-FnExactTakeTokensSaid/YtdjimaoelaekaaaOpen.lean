/- Arguments opened: a slice of integers, or of structs of two or three integers, as a list of cells. No program in sight. -/
import Derived.WalkKit
import Derived.ProofKit
import Derived.OpenShut
import Derived.ShutString
import Derived.ChangeOld
import Derived.Below
import Derived.Lib.SmallJoins
import Derived.Test.YtdjimaoelaekaaaSep
namespace Go.Sep
open Go.ChangeShapes Go.WideShapes Go.ChangeAt Go.RowKit

section
variable {H : Type} {enc : TypeId × Value → H} {P : Program} {w : World} {held : Bool}
/-- A slice of integers that came in. -/
theorem open_flat1 {t e : TypeId} {k : IntKind} {A : Option Addr} {n c : Nat} {d : DataW H} {p : List MemPlace} (ht : P.underlying t = some (.slice e)) (he : P.underlying e = some (.int k)) (hc : P.cellsOf e = 1)
    (h : DataW.Trod enc P w 0 (fun _ => true) held t (.slice A n c) d p) :
    ∃ l : List Int, l.length = n ∧ Rd w 0 w.heap.size 1 A n (l.map (.int k)) ∧ (∀ x ∈ l, (Lit.int k x).wf = true) ∧ n ≤ c ∧ c ≤ maxLen := by
  obtain ⟨fuel, hf⟩ := h
  rcases open_ints ht he hc hf with ⟨hcs, _⟩ | ⟨a, n', c', zs, hcs, _, hl, hm, hz, _, hcell, hwz⟩
  · simp [Value.cells] at hcs
    obtain ⟨rfl, rfl, rfl⟩ := hcs
    exact ⟨[], rfl, Rd.nil_ _ _ _ _ _, by simp, Nat.le_refl _, by unfold maxLen; omega⟩
  · simp [Value.cells] at hcs
    obtain ⟨rfl, rfl, rfl⟩ := hcs
    simp only [if_true] at hz
    refine ⟨zs.take n, by rw [List.length_take]; omega, ⟨by simp; omega, fun hn => ?_⟩, fun x hx => hwz x (List.mem_of_mem_take hx), hl, hm⟩
    have hsp : a.spot = none := by
      have h0 := World.cell?_spot (hcell 0 (by omega))
      simpa [Addr.add] using h0
    obtain ⟨b, off, spot⟩ := a
    simp only at hsp
    subst hsp
    have hb := World.block_lt_of_cell? w _ (hcell 0 (by omega))
    rw [block_of_add] at hb
    refine ⟨b, off, rfl, Nat.zero_le _, hb, fun j u hu => ?_⟩
    simp only [List.getElem?_map, List.getElem?_take, Option.map_eq_some_iff] at hu
    obtain ⟨z, hz1, rfl⟩ := hu
    split at hz1
    · rename_i hj
      have h1 := hcell j (by omega)
      rw [List.getD_eq_getElem?_getD, hz1] at h1
      have : (⟨b, off, none⟩ : Addr).add j = ⟨b, off + j, none⟩ := by unfold Addr.add; split <;> simp_all
      rwa [this] at h1
    · cases hz1
end
end Go.Sep
