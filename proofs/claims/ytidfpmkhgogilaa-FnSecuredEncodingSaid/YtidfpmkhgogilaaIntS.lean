/- The laws' helpers on []int: a copy, a comparison, the size, marks written and read. -/
import Derived.Test.YtidfpmkhgogilaaProg
import Derived.Test.YtidfpmkhgogilaaSep
namespace Go.Proofs.Ytidfpmkhgogilaa
open Go.RowKit Go.Sep

theorem infoIntS : (Try.prog.info? 3).map (fun i => (i.zero, i.size, i.bytes)) = some (some (.int .i64 0), 1, 8) := by kernel_rfl

/-- A row of zeros, filled from the front: one more. -/
theorem fillIntS {w wr : World} {l : List Int} {zs : List Value} {n k : Nat} {u : Value} (hzl : zs.length = n) (hll : (l.map (Value.int .i64)).length = n * 1) (hlt : k < n) (hu : (l.map (Value.int .i64))[k]? = some u)
    (h : wr.ownsRow w.heap.size 3 1 (.slice (some ⟨w.heap.size, 0, none⟩) n n) n (mixed (l.map (.int .i64)) zs k)) (hb : Below w.heap.size w wr) :
    (wr.setCell ⟨w.heap.size, k, none⟩ u).ownsRow w.heap.size 3 1 (.slice (some ⟨w.heap.size, 0, none⟩) n n) n (mixed (l.map (.int .i64)) zs (k + 1)) ∧ Below w.heap.size w (wr.setCell ⟨w.heap.size, k, none⟩ u) := by
  have h1 := (h.stored k u).1
  rw [mixed_set (by omega) hu] at h1
  exact ⟨h1, hb.setCell (Nat.le_refl _) _⟩





end Go.Proofs.Ytidfpmkhgogilaa
