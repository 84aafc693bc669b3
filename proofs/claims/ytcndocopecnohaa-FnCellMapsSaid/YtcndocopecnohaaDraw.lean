/- The cursor of a draw: what l1New, l1Byte, l1Below, l1Once, l1Int and l1Bytes return: a number in range, the cursor still good. -/
import Derived.Test.YtcndocopecnohaaProg
import Derived.Test.YtcndocopecnohaaApp
import Derived.Laws.BitsLemmas
import Derived.Laws.BitsAllLaws
namespace Go.Proofs.Ytcndocopecnohaa
open Go.RowKit Go.Sep

/-- Block g is a cursor over a slice of n bytes. -/
def Cur (w : World) (g : Nat) (A : Option Addr) (n c : Nat) : Prop :=
  ∃ (k : Nat) (h : Int), w.cell? ⟨g, 0, none⟩ = some (.slice A n c) ∧ w.cell? ⟨g, 1, none⟩ = some (.int .i64 k) ∧ w.cell? ⟨g, 2, none⟩ = some (.int .i64 h) ∧ w.frozen? ⟨g, 1, none⟩ = false ∧ w.frozen? ⟨g, 2, none⟩ = false ∧ k ≤ n
theorem Cur.lt {w : World} {g : Nat} {A : Option Addr} {n c : Nat} (h : Cur w g A n c) : g < w.heap.size := by
  obtain ⟨k, q, h0, _⟩ := h
  exact World.block_lt_of_cell? w _ h0
theorem Cur.chg {w w' : World} {g : Nat} {A : Option Addr} {n c a b : Nat} (h : Cur w g A n c) (hc : Chg a b w w') (hd : g < a ∨ b ≤ g) : Cur w' g A n c := by
  have hl := h.lt
  obtain ⟨k, q, h0, h1, h2, h3, h4, h5⟩ := h
  exact ⟨k, q, (hc.cell hl hd).trans h0, (hc.cell hl hd).trans h1, (hc.cell hl hd).trans h2, (hc.frozen hl hd).trans h3, (hc.frozen hl hd).trans h4, h5⟩
theorem Cur.below' {w w' : World} {g : Nat} {A : Option Addr} {n c : Nat} (h : Cur w g A n c) (hb : Below w.heap.size w w') : Cur w' g A n c := h.chg (Chg.of_below hb 0 0) (.inr (by omega))

theorem and255 (x : Int) : 0 ≤ bits .and .i64 x 255 ∧ bits .and .i64 x 255 ≤ 255 := by
  have e : bits .and .i64 x 255 = IntKind.i64.wrap ((BitVec.ofInt 64 x &&& BitVec.ofInt 64 255).toNat : Int) := rfl
  have h : (BitVec.ofInt 64 x &&& BitVec.ofInt 64 255).toNat ≤ 255 := by
    rw [BitVec.toNat_and]
    refine Nat.le_trans Nat.and_le_right ?_
    decide
  rw [e, IntKind.wrap_i64]
  omega

theorem sNew_any (w : World) (A : Option Addr) (n c lo hi : Nat) (l : List Int) (hr : Rd w lo hi 1 A n (l.map (.int .u8))) (hn : n ≤ 16777216) (h8 : ∀ x ∈ l, 0 ≤ x ∧ x ≤ 255) :
    Calls Try.prog 47 #[.slice A n c] w fun e w' => ∃ g, e = .returned (.pointer (some ⟨g, 0, none⟩)) ∧ w.heap.size ≤ g ∧ Cur w' g A n c ∧ Below w.heap.size w w' := by
  have hlen : l.length = n := by simpa using hr.len
  go_enter Try.func47, Try.ntmps47
  go_wp2_with fail
  go_loop [3, 4] (fun q i => ∃ (k : Nat) (h : Int), k ≤ n ∧ i = .int .i64 k ∧ q = .int .i64 h) (fun _ i => n - (intOf i).toNat)
  case atStart => exact ⟨0, _, Nat.zero_le _, rfl, rfl⟩
  case round =>
    obtain ⟨k, h, hk, rfl, rfl⟩ := hrel
    by_cases hlt : k < n ∧ k < 4000
    · obtain ⟨hl1, hl2⟩ := hlt
      obtain ⟨b, o, rfl, _, _, hcell⟩ := hr.at_ (j := k) (by omega)
      have hx := hcell k (.int .u8 (l[k]'(by omega))) (by simp [show k < l.length by omega])
      obtain ⟨hz0, hz1⟩ := h8 (l[k]'(by omega)) (List.getElem_mem _)
      generalize l[k]'(by omega) = z at hx hz0 hz1
      clear hcell hr
      have d1 : decide ((k : Int) < (n : Int)) = true := by simp; omega
      have d2 : decide ((k : Int) < 4000) = true := by simp; omega
      go_wp2_with fail
      go_round
      case rel => exact ⟨k + 1, _, by omega, by go_num, rfl⟩
      case measure => simp [intOf] <;> omega
    · have hb2 : ∀ (x : Int), Below w.heap.size w (w.alloc (.cells #[.slice A n c, .int .i64 0, .int .i64 x] 66)) := fun x => (Below.refl _ _).alloc (Nat.le_refl _) _
      have HC := hide (show ∀ (x : Int), Cur (w.alloc (.cells #[.slice A n c, .int .i64 0, .int .i64 x] 66)) w.heap.size A n c from fun x => ⟨0, x, by go_simp, by go_simp, by go_simp, by go_simp, by go_simp, Nat.zero_le _⟩)
      have HB := hide hb2
      clear hb2
      by_cases hl1 : k < n
      · have d1 : decide ((k : Int) < (n : Int)) = true := by simp; omega
        have d2 : decide ((k : Int) < 4000) = false := by simp; omega
        clear hlt
        go_wp2_with fail
        go_ret
        exact ⟨_, rfl, Nat.le_refl _, HC.out _, HB.out _⟩
      · have d1 : decide ((k : Int) < (n : Int)) = false := by simp; omega
        clear hlt
        go_wp2_with fail
        go_ret
        exact ⟨_, rfl, Nat.le_refl _, HC.out _, HB.out _⟩

set_option maxHeartbeats 800000 in
theorem sByte_any (w : World) (g : Nat) (A : Option Addr) (n c lo hi : Nat) (l : List Int) (hC : Cur w g A n c) (hr : Rd w lo hi 1 A n (l.map (.int .u8))) (hn : n ≤ 16777216) (h8 : ∀ x ∈ l, 0 ≤ x ∧ x ≤ 255) (hg : hi ≤ g) :
    Calls Try.prog 59 #[.pointer (some ⟨g, 0, none⟩)] w fun e w' => ∃ r : Int, e = .returned (.int .i64 r) ∧ 0 ≤ r ∧ r ≤ 255 ∧ Cur w' g A n c ∧ Chg g (g + 1) w w' := by
  have hlen : l.length = n := by simpa using hr.len
  obtain ⟨k, h, q0, q1, q2, f1, f2, hk⟩ := hC
  have hgl : g < w.heap.size := World.block_lt_of_cell? w _ q0
  have HC2 := hide (fun (x : Int) => (show Chg g (g + 1) w (w.setCell ⟨g, 2, none⟩ (.int .i64 x)) from (Chg.refl g (g + 1) w).setCell (.inl ⟨Nat.le_refl _, Nat.lt_succ_self _⟩) _))
  by_cases hlt : k < n
  · obtain ⟨b, o, rfl, hb1, hb2, hcell⟩ := hr.at_ (j := k) (by omega)
    have hbg : b ≠ g := by omega
    have hgb : g ≠ b := by omega
    have hx := hcell k (.int .u8 (l[k]'(by omega))) (by simp [show k < l.length by omega])
    obtain ⟨hz0, hz1⟩ := h8 (l[k]'(by omega)) (List.getElem_mem _)
    generalize l[k]'(by omega) = z at hx hz0 hz1
    have hkn : (k : Int) < (n : Int) := by omega
    clear hcell hr
    go_enter Try.func59, Try.ntmps59
    go_wp2_with fail
    go_quiet (fail)
    have HX := and255 (bits .xor .i64 (wrap64 (wrap64 (h * 6364136223846793005) + 1442695040888963407) / 8589934592) (wrap64 (wrap64 (h * 6364136223846793005) + 1442695040888963407) / 140737488355328))
    generalize bits .and .i64 (bits .xor .i64 (wrap64 (wrap64 (h * 6364136223846793005) + 1442695040888963407) / 8589934592) (wrap64 (wrap64 (h * 6364136223846793005) + 1442695040888963407) / 140737488355328)) 255 = x at HX ⊢
    go_wp2_with fail
    go_quiet (fail)
    go_wp2_with fail
    go_quiet (fail)
    go_wp2_with fail
    go_ret
    have HY := and255 (x + z)
    exact ⟨bits .and .i64 (x + z) 255, rfl, HY.1, HY.2, ⟨k + 1, wrap64 (wrap64 (h * 6364136223846793005) + 1442695040888963407), by go_simp, by rw [show (((k + 1 : Nat) : Int)) = (k : Int) + 1 by omega]; go_simp, by go_simp, by go_simp, by go_simp, hlt⟩, ((HC2.out _).drewN _).setCell (.inl ⟨Nat.le_refl _, Nat.lt_succ_self _⟩) _⟩
  · have hkn : ¬ (k : Int) < (n : Int) := by omega
    have hkn2 : decide ((k : Int) < (n : Int)) = false := by simp; omega
    go_enter Try.func59, Try.ntmps59
    go_wp2_with fail
    go_quiet (fail)
    have HX := and255 (bits .xor .i64 (wrap64 (wrap64 (h * 6364136223846793005) + 1442695040888963407) / 8589934592) (wrap64 (wrap64 (h * 6364136223846793005) + 1442695040888963407) / 140737488355328))
    generalize bits .and .i64 (bits .xor .i64 (wrap64 (wrap64 (h * 6364136223846793005) + 1442695040888963407) / 8589934592) (wrap64 (wrap64 (h * 6364136223846793005) + 1442695040888963407) / 140737488355328)) 255 = x at HX ⊢
    go_wp2_with fail
    go_quiet (fail)
    go_wp2_with fail
    go_ret
    exact ⟨x, rfl, HX.1, HX.2, ⟨k, wrap64 (wrap64 (h * 6364136223846793005) + 1442695040888963407), by go_simp, by go_simp, by go_simp, by go_simp, by go_simp, hk⟩, ((HC2.out _).drewN _).drewN _⟩

/-- What a call that only turns the cursor leaves. -/
def Drew (g : Nat) (A : Option Addr) (n c : Nat) (w : World) (R : Int → Prop) (e : Ending) (w' : World) : Prop :=
  ∃ r : Int, e = .returned (.int .i64 r) ∧ R r ∧ Cur w' g A n c ∧ Chg g (g + 1) w w'
theorem emod_in {x m : Int} (hm : 0 < m) : 0 ≤ x % m ∧ x % m < m := ⟨Int.emod_nonneg x (by omega), Int.emod_lt_of_pos x hm⟩
theorem sBelow_any (w : World) (g : Nat) (A : Option Addr) (n c lo hi : Nat) (l : List Int) (m : Int) (hC : Cur w g A n c) (hr : Rd w lo hi 1 A n (l.map (.int .u8))) (hn : n ≤ 16777216) (h8 : ∀ x ∈ l, 0 ≤ x ∧ x ≤ 255) (hg : hi ≤ g) (hm : m ≤ 16777216) :
    Calls Try.prog 54 #[.pointer (some ⟨g, 0, none⟩), .int .i64 m] w (Drew g A n c w fun r => 0 ≤ r ∧ (0 < m → r < m)) := by
  have HB := hide (fun W h h' => sByte_any W g A n c lo hi l h h' hn h8 hg)
  by_cases h0 : m ≤ 0
  · go_enter Try.func54, Try.ntmps54
    go_wp2_with fail
    go_ret
    exact ⟨0, rfl, ⟨Int.le_refl _, fun h => absurd h (by omega)⟩, hC, Chg.refl _ _ _⟩
  · have hm0 : (m == 0) = false := by simp; omega
    have hm1 : m ≠ 0 := by omega
    by_cases h1 : m ≤ 256
    · go_enter Try.func54, Try.ntmps54
      go_wp2_with fail
      refine (unhide HB _ hC hr).mono ?_
      rintro e w1 ⟨r1, rfl, h10, h11, hC1, hch1⟩
      go_wp2_with fail
      go_ret
      exact ⟨_, rfl, ⟨(emod_in (by omega)).1, fun h => (emod_in h).2⟩, hC1, hch1⟩
    · go_enter Try.func54, Try.ntmps54
      go_wp2_with fail
      refine (unhide HB _ hC hr).mono ?_
      rintro e w1 ⟨r1, rfl, h10, h11, hC1, hch1⟩
      go_wp2_with fail
      refine (unhide HB _ hC1 (hr.chg hch1 (.inl hg))).mono ?_
      rintro e w2 ⟨r2, rfl, h20, h21, hC2, hch2⟩
      have hch2' := hch1.trans hch2
      go_wp2_with fail
      refine (unhide HB _ hC2 (hr.chg hch2' (.inl hg))).mono ?_
      rintro e w3 ⟨r3, rfl, h30, h31, hC3, hch3⟩
      go_wp2_with fail
      go_ret
      exact ⟨(r1 * 65536 + r2 * 256 + r3) % m, by go_num, ⟨(emod_in (by omega)).1, fun h => (emod_in h).2⟩, hC3, hch2'.trans hch3⟩
theorem sOnce_any (w : World) (g : Nat) (A : Option Addr) (n c lo hi : Nat) (l : List Int) (m : Int) (hC : Cur w g A n c) (hr : Rd w lo hi 1 A n (l.map (.int .u8))) (hn : n ≤ 16777216) (h8 : ∀ x ∈ l, 0 ≤ x ∧ x ≤ 255) (hg : hi ≤ g) (hm : m ≤ 16777216) :
    Calls Try.prog 55 #[.pointer (some ⟨g, 0, none⟩), .int .i64 m] w fun e w' => ∃ b : Bool, e = .returned (.bool b) ∧ Cur w' g A n c ∧ Chg g (g + 1) w w' := by
  have HB := hide (fun W h h' => sBelow_any W g A n c lo hi l m h h' hn h8 hg hm)
  go_enter Try.func55, Try.ntmps55
  go_wp2_with fail
  refine (unhide HB _ hC hr).mono ?_
  rintro e w1 ⟨r1, rfl, hR1, hC1, hch1⟩
  go_wp2_with fail
  go_ret
  exact ⟨_, rfl, hC1, hch1⟩
end Go.Proofs.Ytcndocopecnohaa
