/- append onto a row that lies in one block, told with the block where it ends up. No program in sight. -/
import Derived.Test.YtcndocopecnohaaApp
import Derived.ArgAppend
namespace Go.Sep
open Go.RowKit

section
variable {P : Program} (w : World)
theorem run_blk (t ty e : TypeId) (i : TypeInfo) (z : Value) (size bytes g : Nat) (ht : P.underlying t = some (.slice e)) (hin : P.info? e = some i) (hz : i.zero = some z)
    (hsize : i.size = size) (hby : i.bytes = bytes) (hzs : z.cells.size = size) (hsz : 0 < size)
    (v : Value) (n : Nat) (xs : List Value) (hown : Own w g (g + 1) e size v n xs) (m c ad : Nat) (news : List Value) (hm : 0 < m) (hl : news.length = m * size)
    (hnews : ∀ j u, news[j]? = some u → w.cell? ⟨ad, j, none⟩ = some u) (h1 : ∀ u ∈ news, u.oneCell' = true)
    (h63 : n + m ≤ maxLen) (hbytes : (n + m) * bytes ≤ 140737488355328) :
    ∃ g' c' w', (Builtin.append_ #[t, t] ty #[v, .slice (some ⟨ad, 0, none⟩) m c]).run P w = .ok (.slice (some ⟨g', 0, none⟩) (n + m) c') w' ∧ Own w' g' (g' + 1) e size (.slice (some ⟨g', 0, none⟩) (n + m) c') (n + m) (xs ++ news) ∧ n + m ≤ c' ∧ c' ≤ maxLen ∧ (g' = g ∨ w.heap.size ≤ g') ∧ g' < w'.heap.size ∧ Chg g (g + 1) w w' := by
  have hn2 : ∀ j u, news[j]? = some u → w.cell? ((⟨ad, 0, none⟩ : Addr).add j) = some u := fun j u hu => by rw [Addr.add_lit, Nat.zero_add]; exact hnews j u hu
  have fin : ∀ (v' : Value) (w' : World), (Builtin.append_ #[t, t] ty #[v, .slice (some ⟨ad, 0, none⟩) m c]).run P w = .ok v' w' → w'.ownsRow w.heap.size e size v' (n + m) (xs ++ news) → w.grownBy w' none →
      ∃ g' c' w', (Builtin.append_ #[t, t] ty #[v, .slice (some ⟨ad, 0, none⟩) m c]).run P w = .ok (.slice (some ⟨g', 0, none⟩) (n + m) c') w' ∧ Own w' g' (g' + 1) e size (.slice (some ⟨g', 0, none⟩) (n + m) c') (n + m) (xs ++ news) ∧ n + m ≤ c' ∧ c' ≤ maxLen ∧ (g' = g ∨ w.heap.size ≤ g') ∧ g' < w'.heap.size ∧ Chg g (g + 1) w w' := by
    intro v' w' hrun r1 r2
    rcases r1.2 with ⟨_, h0⟩ | ⟨g', cap, cur, rfl, q1, q2, q3, q4, q5⟩
    · omega
    · exact ⟨g', cap, w', hrun, ⟨⟨r1.1, .inr ⟨g', cap, cur, rfl, Nat.le_refl _, q2, q3, q4, q5⟩⟩, fun k hk => by simp [Value.ownBlock] at hk; omega⟩, q3, q4, .inr q1, (Array.getElem?_eq_some_iff.1 q2).1, Chg.of_grown r2 fun k hk => by cases hk⟩
  rcases hown.row.2 with ⟨rfl, rfl⟩ | ⟨g1, cap, cur, rfl, k1, k2, k3, k4, k5⟩
  · have hx : xs = [] := List.eq_nil_of_length_eq_zero (by have := hown.len; omega)
    subst hx
    obtain ⟨v', w', hrun, r1, r2, _⟩ := run_append_own (P := P) w w.heap.size t ty e i z size bytes ht hin hz hsize hby hzs hsz (.slice none 0 0) 0 [] (World.ownsRow_nil _ _ _ _) ⟨ad, 0, none⟩ m c news hl hn2 h1 h63 hbytes (Nat.le_refl _)
    exact fin v' w' hrun r1 r2
  · have hg1 := hown.lt g1 (by simp [Value.ownBlock])
    obtain rfl : g1 = g := by omega
    by_cases hr : n + m ≤ cap
    · obtain ⟨w', hrun, r1, r2⟩ := run_append_fits (P := P) w g1 t ty e i size ht hin hsize g1 n cap xs hown.row ⟨ad, 0, none⟩ m c news hl hn2 h1 hr
      have hch : Chg g1 (g1 + 1) w w' := Chg.of_grown r2 fun k hk => by injection hk with hk; subst hk; omega
      exact ⟨g1, cap, w', hrun, ⟨r1, fun k hk => by simp [Value.ownBlock] at hk; omega⟩, hr, k4, .inl rfl, Nat.lt_of_lt_of_le (Array.getElem?_eq_some_iff.1 k2).1 hch.size, hch⟩
    · obtain ⟨v', w', hrun, r1, r2⟩ := run_append_arg_grows (P := P) w t ty e i z size bytes ht hin hz hsize hby hzs hsz ⟨g1, 0, none⟩ n cap xs hown.row.1 (fun j u hu => hown.row.cells (by simp [Value.ownBlock]) j u hu) ⟨ad, 0, none⟩ m c news hl hn2 (by omega) h63 hbytes
      exact fin v' w' hrun r1 r2
end
end Go.Sep
