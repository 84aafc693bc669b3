/- What the hash functions return: a fold of one step over the values. -/
import Derived.Test.YtbfmdnlfbadokaaInt
import Derived.Test.YtbfmdnlfbadokaaApp
namespace Go.Proofs.Ytbfmdnlfbadokaa
open Go.RowKit Go.Sep

/-- One step of the hash. -/
def hs (a v : Int) : Int := (a * 1000003 + v % 2147483647 + 13) % 2147483647
theorem hs_bd (a v : Int) : 0 ≤ hs a v ∧ hs a v < 2147483647 := by unfold hs; omega
/-- The keyed hash. -/
def kh (key : Int) (l : List Int) : Int := hs (l.foldl hs (hs 11 key)) key
theorem kh_bd (key : Int) (l : List Int) : 0 ≤ kh key l ∧ kh key l < 2147483647 := hs_bd _ _
/-- A derived key. -/
def dk (key x : Int) : Int := max 1 (kh key [9, x])
theorem fold_bd (l : List Int) (a : Int) (h : 0 ≤ a ∧ a < 2147483647) : 0 ≤ l.foldl hs a ∧ l.foldl hs a < 2147483647 := by
  induction l generalizing a with
  | nil => exact h
  | cons x r ih => exact ih _ (hs_bd _ _)
theorem fold_snoc (l : List Int) (a : Int) (k : Nat) (z : Int) (h : l[k]? = some z) : (l.take (k + 1)).foldl hs a = hs ((l.take k).foldl hs a) z := by
  obtain ⟨hk, hz⟩ := List.getElem?_eq_some_iff.1 h
  rw [List.take_succ_eq_append_getElem hk, List.foldl_append, hz]
  rfl

theorem tmod_facts (p q : Int) (hq : 0 < q) : (0 ≤ p.tmod q ∧ p.tmod q = p % q ∧ p % q < q) ∨ (p.tmod q < 0 ∧ p.tmod q + q = p % q ∧ -q < p.tmod q ∧ p % q < q) := by
  have h1 := Int.emod_nonneg p (by omega : q ≠ 0)
  have h2 := Int.emod_lt_of_pos p hq
  have h := Int.tmod_eq_emod (a := p) (b := q)
  split at h
  · left; omega
  · rename_i hn
    right
    have h0 : p % q ≠ 0 := fun e => hn (.inr (Int.dvd_of_emod_eq_zero e))
    have : (q.natAbs : Int) = q := by omega
    omega
theorem iMod_any (p q : Int) (w : World) (h1 : 1 ≤ q) (h2 : q ≤ 1000000000000) :
    Calls Try.prog 106 #[.int .i64 p, .int .i64 q] w fun e w' => e = .returned (.int .i64 (p % q)) ∧ w = w' := by
  have hin := inR_mk h1 h2
  rcases tmod_facts p q (by omega) with ⟨g1, g2, g3⟩ | ⟨g1, g2, g3, g4⟩
  · have G := hide g2
    have g3' : p.tmod q < q := by omega
    clear g2 g3
    go_enter Try.func106, Try.ntmps106
    go_wp2_with (go_at_call 71; refine (inRange_any _ _ _ _).mono ?_; rintro e w' ⟨rfl, rfl⟩)
    go_ret
    exact ⟨ret_int G.out, rfl⟩
  · have G := hide g2
    clear g2 g4
    go_enter Try.func106, Try.ntmps106
    go_wp2_with (go_at_call 71; refine (inRange_any _ _ _ _).mono ?_; rintro e w' ⟨rfl, rfl⟩)
    go_ret
    exact ⟨ret_int G.out, rfl⟩
theorem sMod_any (p q : Int) (w : World) (h1 : 1 ≤ q) (h2 : q ≤ 1000000000000) :
    Calls Try.prog 101 #[.int .i64 p, .int .i64 q] w fun e w' => e = .returned (.int .i64 (p % q)) ∧ w = w' := by
  have hin := inR_mk h1 h2
  have hf : (p.tmod q + q) % q = p % q ∧ -q < p.tmod q ∧ p.tmod q < q := by
    rcases tmod_facts p q (by omega) with ⟨g1, g2, g3⟩ | ⟨g1, g2, g3, g4⟩
    · rw [g2, Int.add_emod_right, Int.emod_emod_of_dvd p (Int.dvd_refl q)]
      omega
    · rw [g2, Int.emod_emod_of_dvd p (Int.dvd_refl q)]
      omega
  obtain ⟨g1, g2, g3⟩ := hf
  have G := hide g1
  clear g1
  go_enter Try.func101, Try.ntmps101
  go_wp2_with (go_at_call 69; refine (l1In_any _ _ _ _).mono ?_; rintro e w' ⟨rfl, rfl⟩)
  go_ret
  exact ⟨ret_int G.out, rfl⟩
theorem iStep_any (a v : Int) (w : World) (h1 : 0 ≤ a) (h2 : a < 2147483647) :
    Calls Try.prog 97 #[.int .i64 a, .int .i64 v] w fun e w' => e = .returned (.int .i64 (hs a v)) ∧ w = w' := by
  have h3 : 0 ≤ v % 2147483647 := by omega
  have h4 : v % 2147483647 < 2147483647 := by omega
  go_enter Try.func97, Try.ntmps97
  go_wp2_with (go_at_call 106; refine (iMod_any _ _ _ (by omega) (by omega)).mono ?_; rintro e w' ⟨rfl, rfl⟩)
  go_ret
  exact ⟨rfl, rfl⟩
theorem sHash_any (w : World) (A : Option Addr) (n c lo hi : Nat) (l : List Int) (hr : Rd w lo hi 1 A n (l.map (.int .i64))) (hn : n ≤ 9223372036854775807) :
    Calls Try.prog 104 #[.slice A n c] w fun e w' => e = .returned (.int .i64 (l.foldl hs 11)) ∧ w = w' := by
  have hlen := hr.len
  go_enter Try.func104, Try.ntmps104
  go_wp2_with fail
  go_loop [3, 4] (fun q i => ∃ (k : Nat) (a : Int), k ≤ n ∧ i = .int .i64 k ∧ q = .int .i64 a ∧ 0 ≤ a ∧ a < 2147483647 ∧ Hid (a = (l.take k).foldl hs 11)) (fun _ i => n - (intOf i).toNat)
  case atStart => exact ⟨0, 11, Nat.zero_le _, rfl, rfl, by omega, by omega, hide rfl⟩
  case round =>
    obtain ⟨k, a, hk, rfl, rfl, ha1, ha2, HA⟩ := hrel
    by_cases hlt : k < n
    · obtain ⟨b, o, rfl, _, _, hcell⟩ := hr.at_ (j := k) (by omega)
      have hkl : k < l.length := by simpa using (by omega : k < (l.map (Value.int .i64)).length)
      have hx := hcell k (.int .i64 l[k]) (by simp [hkl])
      have HF := hide (fold_snoc l 11 k l[k] (List.getElem?_eq_getElem hkl))
      have hbd := hs_bd a l[k]
      generalize l[k] = z at hx HF hbd
      unfold hs at hbd
      have h3 : 0 ≤ z % 2147483647 := by omega
      have h4 : z % 2147483647 < 2147483647 := by omega
      clear hcell hkl hr
      go_wp2_with (go_at_call 101; refine (sMod_any _ _ _ (by omega) (by omega)).mono ?_; rintro e w' ⟨rfl, rfl⟩)
      go_round
      case rel => exact ⟨k + 1, _, by omega, by go_num, rfl, hbd.1, hbd.2, hide (by rw [HF.out, ← HA.out]; rfl)⟩
      case measure => simp [intOf] <;> omega
    · go_wp2_with fail
      go_ret
      exact ⟨ret_int (by rw [HA.out, List.take_of_length_le (by simp at hlen; omega)]), rfl⟩
theorem iKH_any (w : World) (key : Int) (A : Option Addr) (n c lo hi : Nat) (l : List Int) (hr : Rd w lo hi 1 A n (l.map (.int .i64))) (hn : n ≤ 9223372036854775807) :
    Calls Try.prog 80 #[.int .i64 key, .slice A n c] w fun e w' => e = .returned (.int .i64 (kh key l)) ∧ w = w' := by
  have hlen := hr.len
  have hb0 := hs_bd 11 key
  go_enter Try.func80, Try.ntmps80
  go_wp2_with (go_at_call 97; refine (iStep_any _ _ _ (by omega) (by omega)).mono ?_; rintro e w' ⟨rfl, rfl⟩)
  go_loop [5, 12] (fun q i => ∃ (k : Nat) (a : Int), k ≤ n ∧ i = .int .i64 k ∧ q = .int .i64 a ∧ 0 ≤ a ∧ a < 2147483647 ∧ Hid (a = (l.take k).foldl hs (hs 11 key))) (fun _ i => n - (intOf i).toNat)
  case atStart => exact ⟨0, hs 11 key, Nat.zero_le _, rfl, rfl, by omega, by omega, hide rfl⟩
  case round =>
    obtain ⟨k, a, hk, rfl, rfl, ha1, ha2, HA⟩ := hrel
    by_cases hlt : k < n
    · obtain ⟨b, o, rfl, _, _, hcell⟩ := hr.at_ (j := k) (by omega)
      have hkl : k < l.length := by simpa using (by omega : k < (l.map (Value.int .i64)).length)
      have hx := hcell k (.int .i64 l[k]) (by simp [hkl])
      have HF := hide (fold_snoc l (hs 11 key) k l[k] (List.getElem?_eq_getElem hkl))
      have hbd := hs_bd a l[k]
      generalize l[k] = z at hx HF hbd
      clear hcell hkl hr
      go_wp2_with (go_at_call 97; refine (iStep_any _ _ _ (by omega) (by omega)).mono ?_; rintro e w' ⟨rfl, rfl⟩)
      go_round
      case rel => exact ⟨k + 1, _, by omega, by go_num, rfl, hbd.1, hbd.2, hide (by rw [HF.out, ← HA.out])⟩
      case measure => simp [intOf] <;> omega
    · have HL := hide (show a = l.foldl hs (hs 11 key) by rw [HA.out, List.take_of_length_le (by simp at hlen; omega)])
      clear HA
      go_wp2_with (go_at_call 97; refine (iStep_any _ _ _ (by omega) (by omega)).mono ?_; rintro e w' ⟨rfl, rfl⟩)
      go_ret
      exact ⟨ret_int (by rw [HL.out]; rfl), rfl⟩
theorem infoI : (Try.prog.info? 3).map (fun i => (i.zero, i.size, i.bytes)) = some (some (.int .i64 0), 1, 8) := by kernel_rfl
theorem sKH_any (w : World) (key : Int) (A : Option Addr) (n c lo hi : Nat) (l : List Int) (hr : Rd w lo hi 1 A n (l.map (.int .i64))) (hn : n ≤ 16777216) (_hhi : hi ≤ w.heap.size) :
    Calls Try.prog 92 #[.int .i64 key, .slice A n c] w fun e w' => e = .returned (.int .i64 (kh key l)) ∧ Below w.heap.size w w' := by
  obtain ⟨i0, hi0, hz0, hz1, hz2⟩ := info_parts infoI
  go_enter Try.func92, Try.ntmps92
  go_wp2_with (first
    | (at_builtin; refine wpList_app _ rfl (.tmp 6) (.tmp 7) 40 rfl 3 i0 (.int .i64 0) 1 8 w.heap.size (w.heap.size + 1) lo hi Try.underlying40 hi0 hz0 hz1 hz2 rfl (by omega) _ 1 [.int .i64 key] rfl (Own.fresh w #[.int .i64 key] 3 1 1 rfl (by unfold maxLen; omega)) A n c _ rfl (hr.alloc _) (ints_one _ _) (by unfold maxLen; omega) (by omega) (by simp) (by simp) ?_; intro A1 c1 w1 hown1 hc1 hm1 hch1)
    | (at_builtin; refine wpList_app _ rfl (.tmp 8) (.tmp 10) 40 rfl 3 i0 (.int .i64 0) 1 8 w.heap.size w1.heap.size w1.heap.size (w1.heap.size + 1) Try.underlying40 hi0 hz0 hz1 hz2 rfl (by omega) _ (1 + n) _ rfl (hown1.alloc _) _ 1 1 _ rfl (Rd.fresh w1 #[.int .i64 key] 3 1 1 rfl) (by simp [Value.oneCell']) (by unfold maxLen; omega) (by omega) (by have := hch1.size; simp at this ⊢; omega) (by simp) ?_; intro A2 c2 w2 hown2 hc2 hm2 hch2))
  have hl2 : ([Value.int .i64 key] ++ l.map (.int .i64)) ++ #[Value.int .i64 key].toList = (key :: (l ++ [key])).map (.int .i64) := by simp
  rw [hl2] at hown2
  have hrd := hown2.rd
  have hbel : Below w.heap.size w w2 := by
    have e1 := ((Chg.refl w.heap.size (w.heap.size + 1) w).alloc (.cells #[.int .i64 key] 3))
    exact below_then (below_then (e1.below (Nat.le_refl _) (Nat.le_refl _)) (hch1.below (Nat.le_refl _) (by simp)) (Nat.le_refl _)) (((Chg.refl w.heap.size w1.heap.size w1).alloc (.cells #[.int .i64 key] 3)).trans (hch2.mono (Nat.le_refl _) (Nat.le_refl _)) |>.below (Nat.le_refl _) (by have := hch1.size; simp at this; omega)) (Nat.le_refl _)
  go_wp2_with (go_at_call 104; refine (sHash_any _ _ _ _ _ _ _ hrd (by omega)).mono ?_; rintro e w' ⟨rfl, rfl⟩)
  go_ret
  exact ⟨ret_int (by simp [kh]), hbel⟩
theorem iDK_any (w : World) (key x : Int) :
    Calls Try.prog 44 #[.int .i64 key, .int .i64 x] w fun e w' => e = .returned (.int .i64 (dk key x)) ∧ Below w.heap.size w w' := by
  have hbd := kh_bd key [9, x]
  have hdk : dk key x = max 1 (kh key [9, x]) := rfl
  have HD := hide hdk
  clear hdk
  have hrd := Rd.fresh w #[.int .i64 9, .int .i64 x] 3 1 2 rfl
  have HK := hide (iKH_any (w.alloc (.cells #[.int .i64 9, .int .i64 x] 3)) key _ 2 2 _ _ [9, x] hrd (by omega))
  generalize kh key [9, x] = h at HK HD hbd
  cases hz : (h == 0)
  all_goals
    have HZ := hide hz
    go_enter Try.func44, Try.ntmps44
    go_wp2_with (go_at_call 80; refine (unhide HK).mono ?_; rintro e w' ⟨rfl, rfl⟩)
    go_ret
    exact ⟨ret_int (by rw [HD.out]; have := HZ.out; simp at this; omega), (by (repeat' (first | (with_reducible exact Below.refl _ _) | (with_reducible assumption) | (with_reducible refine Below.alloc ?_ ?_ _) | (with_reducible refine below_ext ?_ ?_ _ _) | (with_reducible refine Below.setCell ?_ ?_ _) | (with_reducible refine Below.drew ?_) | (with_reducible refine below_drewN ?_ _))); all_goals (first | omega | (simp; done) | (simp; omega)))⟩
theorem sDK_any (w : World) (key x : Int) :
    Calls Try.prog 73 #[.int .i64 key, .int .i64 x] w fun e w' => e = .returned (.int .i64 (dk key x)) ∧ Below w.heap.size w w' := by
  have hrd := Rd.fresh w #[.int .i64 9, .int .i64 x] 3 1 2 rfl
  have HK := hide (sKH_any (w.alloc (.cells #[.int .i64 9, .int .i64 x] 3)) key _ 2 2 _ _ [9, x] hrd (by omega) (by simp))
  go_enter Try.func73, Try.ntmps73
  go_wp2_with (first | (go_at_call 92; refine (unhide HK).mono ?_; rintro e w1 ⟨rfl, hb1⟩; obtain ⟨os1, d1, rfl⟩ := ext_of_below hb1; clear hb1) | (go_at_call 94; refine (sMax_any _ _ _).mono ?_; rintro e w' ⟨rfl, rfl⟩))
  go_ret
  exact ⟨rfl, (by (repeat' (first | (with_reducible exact Below.refl _ _) | (with_reducible assumption) | (with_reducible refine Below.alloc ?_ ?_ _) | (with_reducible refine below_ext ?_ ?_ _ _) | (with_reducible refine Below.setCell ?_ ?_ _) | (with_reducible refine Below.drew ?_) | (with_reducible refine below_drewN ?_ _))); all_goals (first | omega | (simp; done) | (simp; omega)))⟩
end Go.Proofs.Ytbfmdnlfbadokaa
