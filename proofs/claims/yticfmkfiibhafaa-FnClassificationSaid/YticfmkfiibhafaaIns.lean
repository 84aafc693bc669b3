/- Plain lemmas: a struct laid into a row, what lies behind it moved on by one place. No program in sight. -/
import Derived.Test.YticfmkfiibhafaaApp
namespace Go.Sep
open Go.RowKit

theorem set_at {T D : List Value} {t : Nat} (ht : T.length = t) (j : Nat) (u : Value) : (T ++ D).set (t + j) u = T ++ D.set j u := by
  rw [List.set_append_right _ _ (by omega)]
  congr 2
  omega
theorem splice_at {T Z D : List Value} {t k : Nat} (ht : T.length = t) (hz : Z.length = k) : splice (T ++ (D ++ Z)) (t + k) D = T ++ ((D ++ Z).take k ++ D) := by
  have h1 : (T ++ (D ++ Z)).take (t + k) = T ++ (D ++ Z).take k := by
    rw [List.take_append, List.take_of_length_le (by omega)]
    congr 2
    omega
  have h2 : (T ++ (D ++ Z)).drop (t + k + D.length) = [] := List.drop_eq_nil_of_le (by simp; omega)
  unfold splice
  rw [h1, h2, List.append_nil, List.append_assoc]
theorem ins2 {T D : List Value} {t : Nat} (z0 z1 a b : Value) (ht : T.length = t) : ((splice (T ++ (D ++ [z0, z1])) (t + 2) D).set t a).set (t + 1) b = T ++ (a :: b :: D) := by
  rw [splice_at (Z := [z0, z1]) (k := 2) ht rfl]
  obtain ⟨u, v, h⟩ : ∃ u v, (D ++ [z0, z1]).take 2 = [u, v] := by
    rcases D with _ | ⟨x, _ | ⟨y, r⟩⟩
    · exact ⟨_, _, rfl⟩
    · exact ⟨_, _, rfl⟩
    · exact ⟨_, _, rfl⟩
  rw [h]
  have h1 := set_at (D := [u, v] ++ D) ht 0 a
  rw [Nat.add_zero] at h1
  rw [h1]
  have h2 := set_at (D := ([u, v] ++ D).set 0 a) ht 1 b
  rw [h2]
  simp
theorem ins3 {T D : List Value} {t : Nat} (z0 z1 z2 a b c : Value) (ht : T.length = t) : (((splice (T ++ (D ++ [z0, z1, z2])) (t + 3) D).set t a).set (t + 1) b).set (t + 2) c = T ++ (a :: b :: c :: D) := by
  rw [splice_at (Z := [z0, z1, z2]) (k := 3) ht rfl]
  obtain ⟨u, v, x, h⟩ : ∃ u v x, (D ++ [z0, z1, z2]).take 3 = [u, v, x] := by
    rcases D with _ | ⟨x, _ | ⟨y, _ | ⟨z, r⟩⟩⟩
    · exact ⟨_, _, _, rfl⟩
    · exact ⟨_, _, _, rfl⟩
    · exact ⟨_, _, _, rfl⟩
    · exact ⟨_, _, _, rfl⟩
  rw [h]
  have h1 := set_at (D := [u, v, x] ++ D) ht 0 a
  rw [Nat.add_zero] at h1
  rw [h1]
  have h2 := set_at (D := ([u, v, x] ++ D).set 0 a) ht 1 b
  rw [h2]
  have h3 := set_at (D := (([u, v, x] ++ D).set 0 a).set 1 b) ht 2 c
  rw [h3]
  simp
end Go.Sep
