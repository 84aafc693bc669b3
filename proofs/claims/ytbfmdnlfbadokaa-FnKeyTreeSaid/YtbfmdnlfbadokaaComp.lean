/- IsCompromised. -/
import Derived.Test.YtbfmdnlfbadokaaPre2
import Derived.Test.YtbfmdnlfbadokaaNest1
namespace Go.Proofs.Ytbfmdnlfbadokaa
open Go.RowKit Go.Sep

def preB (p : List Int) : List Int → Bool := fun s => pre s p
def comp (l : List (List Int)) (p : List Int) : Bool := decide (0 ≤ fidx (preB p) 0 l)
set_option maxRecDepth 100000 in
theorem sComp_any (w : World) (A B : Option Addr) (n m c c' lo hi lo' hi' : Nat) (l : List (List Int)) (p : List Int) (hr : Nd1 .i64 w lo hi A n l) (hr' : Rd w lo' hi' 1 B m (p.map (.int .i64))) (hn : n ≤ 1048576) (hm : m ≤ c') (hc : c' ≤ 9223372036854775807) :
    Calls Try.prog 35 #[.slice A n c, .agg #[.slice B m c']] w fun e w' => e = .returned (.bool (comp l p)) ∧ Below w.heap.size w w' := by
  have hll := hr.len
  unfold comp
  go_enter Try.func35, Try.ntmps35
  go_wp2_with fail
  go_loopw [5] (fun i wr => ∃ k : Nat, k ≤ n ∧ i = .int .i64 k ∧ Hid (fidx (preB p) 0 l = fidx (preB p) k (l.drop k)) ∧ Below w.heap.size w wr ∧ w.heap.size < wr.heap.size ∧ wr.cell? ⟨w.heap.size, 0, none⟩ = some (.slice B m c')) (fun i _ => n - (intOf i).toNat)
  case atStart => exact ⟨0, Nat.zero_le _, rfl, hide (by simp), (by (repeat' (first | (with_reducible exact Below.refl _ _) | (with_reducible assumption) | (with_reducible refine Below.alloc ?_ ?_ _) | (with_reducible refine below_ext ?_ ?_ _ _) | (with_reducible refine Below.setCell ?_ ?_ _) | (with_reducible refine Below.drew ?_) | (with_reducible refine below_drewN ?_ _))); all_goals (first | omega | (simp; done) | (simp; omega))), by simp, World.cell?_alloc_new _ _ _ _⟩
  case round =>
    obtain ⟨k, hk, rfl, HF, hb, hz, hbox⟩ := hrel
    by_cases hlt : k < n
    · obtain ⟨b, o, ⟨sA, sn, sc, sl⟩, rfl, hbl, hx, hx0, hs⟩ := (hr.below' hb).at_ hlt
      obtain rfl : sl.length = sn := by simpa using hs.1.len
      have hsn : sl.length ≤ 9223372036854775807 := by have := hs.2.1; have := hs.2.2; simp only at *; unfold maxLen at *; omega
      have hkn : (k : Int) < (n : Int) := by omega
      have HP := hide (fun W h h' => sPre_any W sA B sl.length m sc c' lo hi lo' hi' sl p h h' hsn (by omega))
      have HS := hide hs.1
      have HR2 := hide (hr'.below' hb)
      simp only at hx hx0
      cases he : pre sl p
      · have HG := hide (HF.out.trans (fidx_miss hx (by simpa [preB] using he)))
        rw [he] at HP
        clear hr hr' HF hx hs he
        go_wp2_with fail
        go_region_held3 (fun w' => w'.cell? ⟨w.heap.size, 0, none⟩ = some (.slice B m c') ∧ w'.cell? ⟨b, o + k, none⟩ = some (.slice sA sl.length sc)) (first | (go_simp; done) | go_keep)
          (first | (go_at_call 77; refine (unhide HP _ (HS.out.below' (by (repeat' (first | (with_reducible exact Below.refl _ _) | (with_reducible assumption) | (with_reducible refine Below.alloc ?_ ?_ _) | (with_reducible refine below_ext ?_ ?_ _ _) | (with_reducible refine Below.setCell ?_ ?_ _) | (with_reducible refine Below.drew ?_) | (with_reducible refine below_drewN ?_ _))); all_goals (first | omega | (simp; done) | (simp; omega)))) (HR2.out.below' (by (repeat' (first | (with_reducible exact Below.refl _ _) | (with_reducible assumption) | (with_reducible refine Below.alloc ?_ ?_ _) | (with_reducible refine below_ext ?_ ?_ _ _) | (with_reducible refine Below.setCell ?_ ?_ _) | (with_reducible refine Below.drew ?_) | (with_reducible refine below_drewN ?_ _))); all_goals (first | omega | (simp; done) | (simp; omega))))).mono ?_; rintro e w1 ⟨rfl, hb1⟩; obtain ⟨os1, d1, rfl⟩ := ext_of_below hb1; clear hb1))
        all_goals
          go_wp2_with fail
          go_roundw
          case rel => exact ⟨k + 1, by omega, by go_num, HG, below_then (B' := wr.heap.size) hb (by (repeat' (first | (with_reducible exact Below.refl _ _) | (with_reducible assumption) | (with_reducible refine Below.alloc ?_ ?_ _) | (with_reducible refine below_ext ?_ ?_ _ _) | (with_reducible refine Below.setCell ?_ ?_ _) | (with_reducible refine Below.drew ?_) | (with_reducible refine below_drewN ?_ _))); all_goals (first | omega | (simp; done) | (simp; omega))) hb.size, (by first | omega | (simp <;> omega)), by go_simp⟩
          case measure => simp [intOf] <;> omega
      · have HG := hide (HF.out.trans (fidx_hit hx (by simpa [preB] using he)))
        rw [he] at HP
        clear hr hr' HF hx hs he
        go_wp2_with fail
        go_region_held3 (fun w' => w'.cell? ⟨w.heap.size, 0, none⟩ = some (.slice B m c') ∧ w'.cell? ⟨b, o + k, none⟩ = some (.slice sA sl.length sc)) (first | (go_simp; done) | go_keep)
          (first | (go_at_call 77; refine (unhide HP _ (HS.out.below' (by (repeat' (first | (with_reducible exact Below.refl _ _) | (with_reducible assumption) | (with_reducible refine Below.alloc ?_ ?_ _) | (with_reducible refine below_ext ?_ ?_ _ _) | (with_reducible refine Below.setCell ?_ ?_ _) | (with_reducible refine Below.drew ?_) | (with_reducible refine below_drewN ?_ _))); all_goals (first | omega | (simp; done) | (simp; omega)))) (HR2.out.below' (by (repeat' (first | (with_reducible exact Below.refl _ _) | (with_reducible assumption) | (with_reducible refine Below.alloc ?_ ?_ _) | (with_reducible refine below_ext ?_ ?_ _ _) | (with_reducible refine Below.setCell ?_ ?_ _) | (with_reducible refine Below.drew ?_) | (with_reducible refine below_drewN ?_ _))); all_goals (first | omega | (simp; done) | (simp; omega))))).mono ?_; rintro e w1 ⟨rfl, hb1⟩; obtain ⟨os1, d1, rfl⟩ := ext_of_below hb1; clear hb1))
        all_goals
          go_wp2_with fail
          go_ret
          exact ⟨ret_bool (by rw [HG.out]; simp), below_then (B' := wr.heap.size) hb (by (repeat' (first | (with_reducible exact Below.refl _ _) | (with_reducible assumption) | (with_reducible refine Below.alloc ?_ ?_ _) | (with_reducible refine below_ext ?_ ?_ _ _) | (with_reducible refine Below.setCell ?_ ?_ _) | (with_reducible refine Below.drew ?_) | (with_reducible refine below_drewN ?_ _))); all_goals (first | omega | (simp; done) | (simp; omega))) hb.size⟩
    · obtain rfl : k = n := by omega
      have HG := hide (HF.out.trans (fidx_end hll))
      clear HF
      go_wp2_with fail
      go_ret
      exact ⟨ret_bool (by rw [HG.out]; rfl), (by (repeat' (first | (with_reducible exact Below.refl _ _) | (with_reducible assumption) | (with_reducible refine Below.alloc ?_ ?_ _) | (with_reducible refine below_ext ?_ ?_ _ _) | (with_reducible refine Below.setCell ?_ ?_ _) | (with_reducible refine Below.drew ?_) | (with_reducible refine below_drewN ?_ _))); all_goals (first | omega | (simp; done) | (simp; omega)))⟩
set_option maxRecDepth 100000 in
theorem iComp_any (w : World) (A B : Option Addr) (n m c c' lo hi lo' hi' : Nat) (l : List (List Int)) (p : List Int) (hr : Nd1 .i64 w lo hi A n l) (hr' : Rd w lo' hi' 1 B m (p.map (.int .i64))) (hn : n ≤ 1048576) (hm : m ≤ c') (hc : c' ≤ 9223372036854775807) :
    Calls Try.prog 37 #[.slice A n c, .agg #[.slice B m c']] w fun e w' => e = .returned (.bool (comp l p)) ∧ Below w.heap.size w w' := by
  have hll := hr.len
  unfold comp
  go_enter Try.func37, Try.ntmps37
  go_wp2_with fail
  go_loopw [9] (fun i wr => ∃ k : Nat, k ≤ n ∧ i = .int .i64 k ∧ Hid (fidx (preB p) 0 l = fidx (preB p) k (l.drop k)) ∧ Below w.heap.size w wr ∧ w.heap.size < wr.heap.size ∧ wr.cell? ⟨w.heap.size, 0, none⟩ = some (.slice B m c')) (fun i _ => n - (intOf i).toNat)
  case atStart => exact ⟨0, Nat.zero_le _, rfl, hide (by simp), (by (repeat' (first | (with_reducible exact Below.refl _ _) | (with_reducible assumption) | (with_reducible refine Below.alloc ?_ ?_ _) | (with_reducible refine below_ext ?_ ?_ _ _) | (with_reducible refine Below.setCell ?_ ?_ _) | (with_reducible refine Below.drew ?_) | (with_reducible refine below_drewN ?_ _))); all_goals (first | omega | (simp; done) | (simp; omega))), by simp, World.cell?_alloc_new _ _ _ _⟩
  case round =>
    obtain ⟨k, hk, rfl, HF, hb, hz, hbox⟩ := hrel
    by_cases hlt : k < n
    · obtain ⟨b, o, ⟨sA, sn, sc, sl⟩, rfl, hbl, hx, hx0, hs⟩ := (hr.below' hb).at_ hlt
      obtain rfl : sl.length = sn := by simpa using hs.1.len
      have hsn : sl.length ≤ 9223372036854775807 := by have := hs.2.1; have := hs.2.2; simp only at *; unfold maxLen at *; omega
      have hkn : (k : Int) < (n : Int) := by omega
      have HP := hide (fun W h h' => iPre_any W sA B sl.length m sc c' lo hi lo' hi' sl p h h' hsn hm hc)
      have HS := hide hs.1
      have HR2 := hide (hr'.below' hb)
      simp only at hx hx0
      cases he : pre sl p
      · have HG := hide (HF.out.trans (fidx_miss hx (by simpa [preB] using he)))
        rw [he] at HP
        clear hr hr' HF hx hs he
        go_wp2_with (go_at_call 43; refine (unhide HP _ (HS.out.below' (by (repeat' (first | (with_reducible exact Below.refl _ _) | (with_reducible assumption) | (with_reducible refine Below.alloc ?_ ?_ _) | (with_reducible refine below_ext ?_ ?_ _ _) | (with_reducible refine Below.setCell ?_ ?_ _) | (with_reducible refine Below.drew ?_) | (with_reducible refine below_drewN ?_ _))); all_goals (first | omega | (simp; done) | (simp; omega)))) (HR2.out.below' (by (repeat' (first | (with_reducible exact Below.refl _ _) | (with_reducible assumption) | (with_reducible refine Below.alloc ?_ ?_ _) | (with_reducible refine below_ext ?_ ?_ _ _) | (with_reducible refine Below.setCell ?_ ?_ _) | (with_reducible refine Below.drew ?_) | (with_reducible refine below_drewN ?_ _))); all_goals (first | omega | (simp; done) | (simp; omega))))).mono ?_; rintro e w1 ⟨rfl, hb1⟩; obtain ⟨os1, d1, rfl⟩ := ext_of_below hb1; clear hb1)
        go_roundw
        case rel => exact ⟨k + 1, by omega, by go_num, HG, below_then (B' := wr.heap.size) hb (by (repeat' (first | (with_reducible exact Below.refl _ _) | (with_reducible assumption) | (with_reducible refine Below.alloc ?_ ?_ _) | (with_reducible refine below_ext ?_ ?_ _ _) | (with_reducible refine Below.setCell ?_ ?_ _) | (with_reducible refine Below.drew ?_) | (with_reducible refine below_drewN ?_ _))); all_goals (first | omega | (simp; done) | (simp; omega))) hb.size, (by first | omega | (simp <;> omega)), by go_simp⟩
        case measure => simp [intOf] <;> omega
      · have HG := hide (HF.out.trans (fidx_hit hx (by simpa [preB] using he)))
        rw [he] at HP
        clear hr hr' HF hx hs he
        go_wp2_with (go_at_call 43; refine (unhide HP _ (HS.out.below' (by (repeat' (first | (with_reducible exact Below.refl _ _) | (with_reducible assumption) | (with_reducible refine Below.alloc ?_ ?_ _) | (with_reducible refine below_ext ?_ ?_ _ _) | (with_reducible refine Below.setCell ?_ ?_ _) | (with_reducible refine Below.drew ?_) | (with_reducible refine below_drewN ?_ _))); all_goals (first | omega | (simp; done) | (simp; omega)))) (HR2.out.below' (by (repeat' (first | (with_reducible exact Below.refl _ _) | (with_reducible assumption) | (with_reducible refine Below.alloc ?_ ?_ _) | (with_reducible refine below_ext ?_ ?_ _ _) | (with_reducible refine Below.setCell ?_ ?_ _) | (with_reducible refine Below.drew ?_) | (with_reducible refine below_drewN ?_ _))); all_goals (first | omega | (simp; done) | (simp; omega))))).mono ?_; rintro e w1 ⟨rfl, hb1⟩; obtain ⟨os1, d1, rfl⟩ := ext_of_below hb1; clear hb1)
        go_ret
        exact ⟨ret_bool (by rw [HG.out]; simp), below_then (B' := wr.heap.size) hb (by (repeat' (first | (with_reducible exact Below.refl _ _) | (with_reducible assumption) | (with_reducible refine Below.alloc ?_ ?_ _) | (with_reducible refine below_ext ?_ ?_ _ _) | (with_reducible refine Below.setCell ?_ ?_ _) | (with_reducible refine Below.drew ?_) | (with_reducible refine below_drewN ?_ _))); all_goals (first | omega | (simp; done) | (simp; omega))) hb.size⟩
    · obtain rfl : k = n := by omega
      have HG := hide (HF.out.trans (fidx_end hll))
      clear HF
      go_wp2_with fail
      go_ret
      exact ⟨ret_bool (by rw [HG.out]; rfl), (by (repeat' (first | (with_reducible exact Below.refl _ _) | (with_reducible assumption) | (with_reducible refine Below.alloc ?_ ?_ _) | (with_reducible refine below_ext ?_ ?_ _ _) | (with_reducible refine Below.setCell ?_ ?_ _) | (with_reducible refine Below.drew ?_) | (with_reducible refine below_drewN ?_ _))); all_goals (first | omega | (simp; done) | (simp; omega)))⟩
end Go.Proofs.Ytbfmdnlfbadokaa
