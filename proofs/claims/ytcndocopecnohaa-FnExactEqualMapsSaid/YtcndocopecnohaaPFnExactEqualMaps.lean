/- The statement FnExactEqualMaps: for every input the call returns true and writes nothing that was there. The walk stands in the text EqMLaw; here its result is read as the given row. -/
import Derived.Test.YtcndocopecnohaaRows
import Derived.Test.YtcndocopecnohaaEqMLaw
import Derived.Test.YtcndocopecnohaaOpen
namespace Go.Proofs.Ytcndocopecnohaa.fnExactEqualMaps
open Go.ChangeShapes Go.WideShapes Go.ChangeAt Go.RowKit Go.Sep
set_option linter.unusedVariables false
theorem own : ownKnob Try.prog.godebug = none := by kernel_rfl
theorem laidOut : laidOutB Try.prog = true := by kernel_rfl
set_option maxRecDepth 100000 in
theorem lifted (os : Os) (started : os.Started) (H : Type) (enc : TypeId × Value → H) :
    ReturnsInHanded {} Try.checked os 6 .any (Rows.fnExactEqualMapsSpec.pre6 enc Try.prog Try.f6 Rows.fnExactEqualMapsRow.domain false) (Rows.fnExactEqualMapsSpec.post enc Try.prog Try.f6 false true false false) := by
  refine returnsInHanded_of_change (C := Try.checked) own started (by kernel_rfl) Try.func6
    (ChangeSpec.witness6 (enc := enc) (C := Try.checked) false ⟨#[], #[.agg #[.slice none 0 0], .agg #[.slice none 0 0]], []⟩ 8 (by kernel_rfl) (by kernel_rfl) (by kernel_rfl) (by kernel_rfl)) ?_
  intro W base args ds gs before hval0 hW hcnd _
  have hval : ∀ (j : Nat) t v, Try.f6.params[j]? = some t → args[j]? = some v → Value.okWide Try.prog W .any base t v := hval0
  have hW' := hW
  obtain ⟨p, q, hA0, hV, rfl, hfz, hnd⟩ := hW
  have hA : DataW.TrodAll enc Try.prog W 0 (fun _ => true) true Try.f6.params.toList args.toList ds p := hA0
  rw [Try.params6] at hA hval
  obtain ⟨v0, vs0, d0, ds0, p0, q0, hargs, rfl, rfl, h0, r0⟩ := trodAll_cons hA
  obtain ⟨v1, vs1, d1, ds1, p1, q1, rfl, rfl, rfl, h1, r1⟩ := trodAll_cons r0
  obtain ⟨rfl, rfl, rfl⟩ := trodAll_nil r1
  obtain rfl : args = #[v0, v1] := by cases args; simp_all
  obtain ⟨rfl, rfl⟩ := trodVars_none hV
  have k0 := h0
  have lt0 : ∀ x ∈ p0, x.block < W.heap.size := by obtain ⟨m, hm⟩ := k0; exact DataW.trod_lt m _ _ _ hm
  have k1 := h1
  have lt1 : ∀ x ∈ p1, x.block < W.heap.size := by obtain ⟨m, hm⟩ := k1; exact DataW.trod_lt m _ _ _ hm
  obtain ⟨x0_0, y0_0, m0, rfl, t0_0⟩ := open_agg1 Try.underlying24 (by kernel_rfl) (by kernel_rfl) (hval 0 24 v0 rfl rfl) h0
  obtain ⟨A0, n0, c0, rfl⟩ : ∃ A n c, x0_0 = Value.slice A n c := by
    rcases Go.Deep.open_slice Try.underlying22 t0_0 with ⟨hh, _⟩ | ⟨a, len, cap, m, n2, D, Pl, hcs, _⟩
    · exact ⟨none, 0, 0, by simpa using hh⟩
    · exact ⟨some a, len, cap, by simpa using hcs⟩
  obtain ⟨l0, hl0, hr0, hs0, hc0⟩ := open_nest1 Try.underlying22 Try.underlying63 Try.underlying3 Try.underlying35 Try.underlying3 (by kernel_rfl) (by kernel_rfl) (by kernel_rfl) ⟨rfl, rfl⟩ t0_0
  obtain ⟨x1_0, y1_0, m1, rfl, t1_0⟩ := open_agg1 Try.underlying24 (by kernel_rfl) (by kernel_rfl) (hval 1 24 v1 rfl rfl) h1
  obtain ⟨A1, n1, c1, rfl⟩ : ∃ A n c, x1_0 = Value.slice A n c := by
    rcases Go.Deep.open_slice Try.underlying22 t1_0 with ⟨hh, _⟩ | ⟨a, len, cap, m, n2, D, Pl, hcs, _⟩
    · exact ⟨none, 0, 0, by simpa using hh⟩
    · exact ⟨some a, len, cap, by simpa using hcs⟩
  obtain ⟨l1, hl1, hr1, hs1, hc1⟩ := open_nest1 Try.underlying22 Try.underlying63 Try.underlying3 Try.underlying35 Try.underlying3 (by kernel_rfl) (by kernel_rfl) (by kernel_rfl) ⟨rfl, rfl⟩ t1_0
  clear hA0 hval0
  refine (walk A0 n0 c0 l0 A1 n1 c1 l1 W hl0 hr0 hs0 hc0 hl1 hr1 hs1 hc1).mono fun e W' ⟨he, bel⟩ => ?_
  subst he
  exact ⟨_, rfl, _, _, _, [], _, [], hW', trodAll_mk1 (shut_bool Try.underlying4 _), (trodAll_cons_mk (Below.trod laidOut (by kernel_rfl) (of_decide_eq_true (by kernel_rfl)) k0 bel lt0) (trodAll_cons_mk (Below.trod laidOut (by kernel_rfl) (of_decide_eq_true (by kernel_rfl)) k1 bel lt1) trodAll_mk0)), rfl, bel.frame _, fun h => by cases h⟩
theorem over : Rows.fnExactEqualMapsRow.holds Try.pinned (OpenSpec.ofChange Rows.fnExactEqualMapsSpec) :=
  OpenClaim.holds_of_wide 6 Try.f6 rfl rfl rfl rfl rfl rfl rfl ⟨rfl, rfl, rfl, rfl, rfl⟩ rfl rfl rfl rfl rfl (by kernel_rfl) Try.func6 (by kernel_rfl)
    (of_decide_eq_true (by kernel_rfl)) (by unfold Func.isWrapper; first | (rw [if_pos (by decide +kernel)]; kernel_rfl) | (rw [if_neg (by decide +kernel)]; exact ⟨rfl, rfl⟩))
    (fun os started H enc _ => lifted os started H enc)
/-- The given statement. -/
theorem proved : Rows.FnExactEqualMapsSaid := over
#print axioms proved
end Go.Proofs.Ytcndocopecnohaa.fnExactEqualMaps
