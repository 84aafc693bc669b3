/- Lists of integers, written: l10Ints and joinInts. -/
import Derived.Test.YtldkefjamimoiaaDoorFi
import Derived.Test.YtldkefjamimoiaaDoorIntS
import Derived.Test.YtldkefjamimoiaaDoorNest2
namespace Go.Proofs.YtldkefjamimoiaaDoor
open Go.RowKit Go.Sep

def mkB (l : List UInt8) : ByteArray := ⟨l.toArray⟩
theorem mkB_size (l : List UInt8) : (mkB l).size = l.length := by simp [mkB, ByteArray.size]
theorem mkB_app (a b : List UInt8) : mkB a ++ mkB b = mkB (a ++ b) := by
  apply ByteArray.ext
  rw [ByteArray.data_append]
  simp [mkB]
def i64R (x : Int) : Prop := -9223372036854775808 ≤ x ∧ x ≤ 9223372036854775807
def jL (sep : List UInt8) (ws : List (List UInt8)) : List UInt8 := Lib.join ws sep
theorem jL_snoc {sep x : List UInt8} {ws : List (List UInt8)} (h : ws ≠ []) : jL sep (ws ++ [x]) = (jL sep ws ++ sep) ++ x := by
  cases ws with
  | nil => exact absurd rfl h
  | cons y r =>
    unfold jL
    rw [List.cons_append, Lib.join_cons, Lib.join_cons]
    simp [Lib.joinTail]
theorem jL_one (sep x : List UInt8) : jL sep [x] = x := Lib.join_one x sep
theorem jL_len (sep : List UInt8) (ws : List (List UInt8)) (B : Nat) (h : ∀ x ∈ ws, x.length ≤ B) : (jL sep ws).length ≤ (B + sep.length) * ws.length := by
  cases ws with
  | nil => simp [jL, Lib.join_nil]
  | cons y r =>
    unfold jL
    rw [Lib.join_cons, List.length_append, List.length_cons]
    have h1 := h y (by simp)
    have h2 : (Lib.joinTail sep r).length ≤ (B + sep.length) * r.length := by
      have hr : ∀ x ∈ r, x.length ≤ B := fun x hx => h x (List.mem_cons_of_mem _ hx)
      clear h h1
      induction r with
      | nil => simp [Lib.joinTail]
      | cons z t ih =>
        have h3 := ih (fun x hx => hr x (List.mem_cons_of_mem _ hx))
        have h4 := hr z (by simp)
        simp only [Lib.joinTail, List.map_cons, List.flatten_cons, List.length_append, List.length_cons] at h3 ⊢
        rw [Nat.mul_succ]
        omega
    rw [Nat.mul_succ]
    omega
theorem itoa_len {x : Int} (h : i64R x) : (Lib.itoa x).length ≤ 21 := Lib.itoa_length_le x h.1 h.2
theorem ints_len {sep : List UInt8} {l : List Int} (h : ∀ x ∈ l, i64R x) : (jL sep (l.map Lib.itoa)).length ≤ (21 + sep.length) * l.length := by
  have := jL_len sep (l.map Lib.itoa) 21 (fun x hx => by obtain ⟨y, hy, rfl⟩ := List.mem_map.1 hx; exact itoa_len (h y hy))
  simpa using this
set_option maxRecDepth 100000 in
theorem sInts_any (w : World) (A : Option Addr) (n c lo hi : Nat) (l : List Int) (sep : List UInt8) (hr : Rd w lo hi 1 A n (l.map (.int .i64))) (hn : n ≤ 1048576) (hI : ∀ x ∈ l, i64R x) (hs : sep.length ≤ 10) :
    Calls Tryd.prog 14 #[.slice A n c, .string (mkB sep)] w fun e w' => e = .returned (.string (mkB (jL sep (l.map Lib.itoa)))) ∧ Below w.heap.size w w' := by
  have hll : l.length = n := by simpa using hr.len
  have hsz := mkB_size sep
  go_enter Tryd.func14, Tryd.ntmps14
  go_wp2_with fail
  go_loopw [5, 6] (fun s i wr => ∃ (k : Nat) (S : List UInt8), k ≤ n ∧ i = .int .i64 k ∧ s = .string (mkB S) ∧ Hid (S = jL sep ((l.take k).map Lib.itoa)) ∧ Below w.heap.size w wr) (fun _ i _ => n - (intOf i).toNat)
  case atStart => exact ⟨0, [], Nat.zero_le _, rfl, rfl, hide rfl, Below.refl _ _⟩
  case round =>
    obtain ⟨k, S, hk, rfl, rfl, HS, hb⟩ := hrel
    have hbs := hb.size
    by_cases hlt : k < n
    · obtain ⟨b, o, rfl, _, _, hcell⟩ := (hr.below' hb).at_ (j := k) (by omega)
      have hkl : k < l.length := by omega
      have hx := hcell k (.int .i64 l[k]) (by simp [hkl])
      have hi := hI l[k] (List.getElem_mem hkl)
      have htk : l.take (k + 1) = l.take k ++ [l[k]] := List.take_succ_eq_append_getElem hkl
      have hSl : S.length ≤ 31 * 1048576 := by
        rw [HS.out]
        have h1 := ints_len (sep := sep) (l := l.take k) (fun x hx => hI x (List.mem_of_mem_take hx))
        have h2 : (l.take k).length ≤ 1048576 := by simp; omega
        have h3 : (21 + sep.length) * (l.take k).length ≤ 31 * 1048576 := Nat.mul_le_mul (by omega) h2
        omega
      have hSz := mkB_size S
      have hfz := fiB_size l[k] hi.1 hi.2
      have HF := hide (fun W => sFI_any l[k] hi.1 hi.2 W)
      have hkI : (k : Int) < (n : Int) := by omega
      generalize l[k] = z at hx hi htk hfz HF
      have hfi : fiB z = mkB (Lib.itoa z) := rfl
      clear hcell
      by_cases hk0 : k = 0
      · subst hk0
        obtain rfl : S = [] := by rw [HS.out]; rfl
        have HG := hide (show mkB [] ++ fiB z = mkB (jL sep ((l.take (0 + 1)).map Lib.itoa)) by rw [htk, hfi, mkB_app]; simp [jL_one])
        rw [Nat.add_zero] at hx
        clear HS htk hfi
        go_wp2_with fail
        refine (unhide HF _).mono ?_
        rintro e w1 ⟨rfl, hb1⟩
        have hbw := below_then hb hb1 hbs
        clear hb1 hx
        go_wp2_with fail
        go_roundw
        case rel => exact ⟨1, jL sep ((l.take (0 + 1)).map Lib.itoa), by omega, by go_num, by rw [← HG.out], hide rfl, hbw⟩
        case measure => simp [intOf] <;> omega
      · have hk0I : (0 : Int) < (k : Int) := by omega
        have hne : (l.take k).map Lib.itoa ≠ [] := by
          intro h
          have := congrArg List.length h
          rw [List.length_map, List.length_take, List.length_nil] at this
          omega
        have HG := hide (show (mkB S ++ mkB sep) ++ fiB z = mkB (jL sep ((l.take (k + 1)).map Lib.itoa)) by rw [htk, hfi, mkB_app, mkB_app, List.map_append, List.map_cons, List.map_nil, jL_snoc hne, ← HS.out])
        have hz2 : (mkB S ++ mkB sep).size = S.length + sep.length := by rw [mkB_app, mkB_size, List.length_append]
        clear HS htk hfi hne
        go_wp2_with fail
        refine (unhide HF _).mono ?_
        rintro e w1 ⟨rfl, hb1⟩
        have hbw := below_then hb hb1 hbs
        clear hb1 hx
        go_wp2_with fail
        go_roundw
        case rel => exact ⟨k + 1, jL sep ((l.take (k + 1)).map Lib.itoa), by omega, by go_num, by rw [← HG.out], hide rfl, hbw⟩
        case measure => simp [intOf] <;> omega
    · obtain rfl : k = n := by omega
      have HG := hide (show S = jL sep (l.map Lib.itoa) by rw [HS.out, List.take_of_length_le (by omega)])
      go_wp2_with fail
      go_ret
      exact ⟨by first | (rw [HG.out]; rfl) | rfl, hb⟩
theorem infoStr : (Tryd.prog.info? 9).map (fun i => (i.zero, i.size, i.bytes)) = some (some (.string ⟨#[]⟩), 1, 16) := by kernel_rfl
/-- A row of strings that the call has made, a part of it written. -/
theorem strs_at {w : World} {lo hi n c g : Nat} {E : TypeId} {xs : List Value} (h : Own w lo hi E 1 (.slice (some ⟨g, 0, none⟩) n c) n xs) {k : Nat} (hk : k < n) : ∃ old, w.cell? ⟨g, k, none⟩ = some old ∧ w.frozen? ⟨g, k, none⟩ = false := by
  have hl := h.len
  have h1 := h.row.cellAt k (by omega)
  rw [List.getElem?_eq_getElem (by omega)] at h1
  exact ⟨_, h1, h.row.frozenAt k⟩
theorem strs_all {w : World} {lo hi c g : Nat} {E : TypeId} {bs : List ByteArray} (h : Own w lo hi E 1 (.slice (some ⟨g, 0, none⟩) bs.length c) bs.length (bs.map Value.string)) : ∀ (j : Nat) x, bs[j]? = some x → w.cell? ⟨g, 0 + j, none⟩ = some (.string x) := by
  intro j x hx
  have hj := (List.getElem?_eq_some_iff.1 hx).1
  rw [Nat.zero_add, h.row.cellAt j (by omega)]
  simp [hx]
set_option maxRecDepth 100000 in
theorem iInts_any (w : World) (A : Option Addr) (c lo hi : Nat) (l : List Int) (sep : List UInt8) (hr : Rd w lo hi 1 A l.length (l.map (.int .i64))) (hn : l.length ≤ 1048576) (hI : ∀ x ∈ l, i64R x) (hs : sep.length ≤ 10) (hT : TB w) :
    Calls Tryd.prog 17 #[.slice A l.length c, .string (mkB sep)] w fun e w' => e = .returned (.string (mkB (jL sep (l.map Lib.itoa)))) ∧ Below w.heap.size w w' := by
  obtain ⟨ti, hti, hz0, hz1, hz2⟩ := info_parts infoStr
  have hjl := ints_len (sep := sep) hI
  have hjl2 : (21 + sep.length) * l.length ≤ 31 * 1048576 := Nat.mul_le_mul (by omega) hn
  go_enter Tryd.func17, Tryd.ntmps17
  go_wp2_with (at_make; refine wpList_make_full _ rfl _ _ 41 rfl w.heap.size 9 ti (.string ⟨#[]⟩) 1 Tryd.underlying41 hti hz0 hz1 _ _ _ _ l.length rfl rfl rfl rfl (by rw [hz2]; omega) (by unfold maxLen; omega) (Nat.le_refl _) ?_; intro w1 hown1 hgrow1)
  have hb1 : Below w.heap.size w w1 := (Below.refl _ _).grown hgrow1 (Nat.le_refl _) (by simp)
  have hzl := zeros_len (Value.string ⟨#[]⟩).cells (l.length * 1)
  have hO1 : Own w1 w.heap.size (w.heap.size + 1) 9 1 (.slice (some ⟨w.heap.size, 0, none⟩) l.length l.length) l.length _ := ⟨hown1, fun k hk => by simp [Value.ownBlock] at hk; omega⟩
  have hlt1 := (hown1.lt w.heap.size (by simp [Value.ownBlock])).2
  generalize (madeCells (Value.string ⟨#[]⟩).cells (l.length * 1)).toList = zs at hO1 hzl hown1
  clear hown1 hgrow1
  go_wp2_with fail
  go_loopw [13] (fun i wr => ∃ k : Nat, k ≤ l.length ∧ i = .int .i64 k ∧ Own wr w.heap.size (w.heap.size + 1) 9 1 (.slice (some ⟨w.heap.size, 0, none⟩) l.length l.length) l.length (mixed ((l.map fiB).map Value.string) zs k) ∧ Below w.heap.size w wr ∧ w.heap.size < wr.heap.size) (fun i _ => l.length - (intOf i).toNat)
  case atStart => exact ⟨0, Nat.zero_le _, rfl, by rw [mixed_zero]; exact hO1, hb1, hlt1⟩
  case round =>
    clear hO1 hb1 hlt1
    obtain ⟨k, hk, rfl, hown, hb, hz⟩ := hrel
    by_cases hlt : k < l.length
    · obtain ⟨b, o, rfl, _, _, hcell⟩ := (hr.below' hb).at_ (j := k) (by omega)
      have hx := hcell k (.int .i64 l[k]) (by simp [hlt])
      have hi := hI l[k] (List.getElem_mem hlt)
      have hfz := fiB_size l[k] hi.1 hi.2
      have hu : ((l.map fiB).map Value.string)[k]? = some (.string (fiB l[k])) := by simp [hlt]
      have HF := hide (fun W h => iFI_any l[k] hi.1 hi.2 W h)
      have hkI : (k : Int) < (l.length : Int) := by omega
      generalize l[k] = z at hx hi hfz hu HF
      have HT := hide (hT.below' hb)
      have HU := hide hu
      have HO := hide hown
      have HB := hide hb
      clear hcell hu hown hb
      go_wp2_with fail
      refine (unhide HF _ HT.out).mono ?_
      rintro e w2 ⟨rfl, hb2⟩
      have hs2 := hb2.size
      have hown2 := HO.out.below' hb2
      obtain ⟨old, hdst, hfr⟩ := strs_at hown2 hlt
      obtain ⟨h1, h2⟩ := hown2.stored k (.string (fiB z))
      rw [mixed_set (by omega) HU.out] at h1
      have HREL := hide (And.intro h1 (And.intro (below_then (below_then HB.out hb2 HB.out.size) (h2.below (B := w.heap.size) (Nat.le_refl _) (by omega)) (Nat.le_refl _)) (show w.heap.size < _ from Nat.lt_of_lt_of_le (by omega) h2.size)))
      clear hb2 hown2 h1 h2 hx HO HB
      go_wp2_with fail
      go_roundw
      case rel => exact ⟨k + 1, by omega, by go_num, HREL.out⟩
      case measure => simp [intOf] <;> omega
    · obtain rfl : k = l.length := by omega
      rw [mixed_all (by simp) (by omega)] at hown
      have HJ := Tryd.strings_Join w.heap.size 0 l.length (l.map fiB) (mkB sep) wr (strs_all (by rw [List.length_map]; exact hown)) hz (by simp; omega) (by simp) (by
        have e : (l.map fiB).map (·.data.toList) = l.map Lib.itoa := by simp [fiB]
        rw [e]
        show (jL sep (l.map Lib.itoa)).length ≤ _
        omega)
      rw [List.length_map, show (l.map fiB).map (·.data.toList) = l.map Lib.itoa by simp [fiB]] at HJ
      have HJ2 := hide HJ
      clear HJ hown
      go_wp2_with fail
      refine (unhide HJ2).mono ?_
      rintro e w2 ⟨rfl, hb2⟩
      have hbw := below_then hb hb2 hb.size
      clear hb2
      go_wp2_with fail
      go_ret
      exact ⟨rfl, hbw⟩
end Go.Proofs.YtldkefjamimoiaaDoor
