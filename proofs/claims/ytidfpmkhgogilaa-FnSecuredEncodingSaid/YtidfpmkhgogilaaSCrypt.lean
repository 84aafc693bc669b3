/- The reference's encryption and decryption. -/
import Derived.Test.YtidfpmkhgogilaaCrypt
namespace Go.Proofs.Ytidfpmkhgogilaa
open Go.RowKit Go.Sep

set_option maxRecDepth 100000 in
theorem sEncrypt_any (w : World) (key : Int) (A : Option Addr) (n c lo hi : Nat) (l : List Int) (hr : Rd w lo hi 1 A n (l.map (.int .u8))) (hn : n ≤ 16777216) (h8 : B8 l) :
    Calls Try.prog 89 #[.int .i64 key, .slice A n c] w (Mk w 5 1 n ((encL key l).map (.int .u8))) := by
  have hlen : l.length = n := by simpa using hr.len
  obtain ⟨i0, hi0, hz0, hz1, hz2⟩ := info_parts infoByteS
  go_enter Try.func89, Try.ntmps89
  go_wp2_with fail
  go_loopw [5, 6] (fun q i wr => ∃ (k : Nat) (A' : Option Addr) (c' : Nat), k ≤ n ∧ i = .int .i64 k ∧ q = .slice A' k c' ∧ Own wr w.heap.size wr.heap.size 5 1 (.slice A' k c') k (((encL key l).take k).map (.int .u8)) ∧ Below w.heap.size w wr) (fun _ i _ => n - (intOf i).toNat)
  case atStart => exact ⟨0, _, 0, Nat.zero_le _, rfl, rfl, (Own.fresh w #[] 5 1 0 rfl (by unfold maxLen; omega)).more (Nat.le_refl _) (by simp), (by (repeat' (first | (with_reducible exact Below.refl _ _) | (with_reducible assumption) | (with_reducible refine Below.alloc ?_ ?_ _) | (with_reducible refine below_ext ?_ ?_ _ _) | (with_reducible refine Below.setCell ?_ ?_ _) | (with_reducible refine Below.drew ?_) | (with_reducible refine below_drewN ?_ _))); all_goals (first | omega | (simp; done) | (simp; omega)))⟩
  case round =>
    obtain ⟨k, A', c', hk, rfl, rfl, hown, hb⟩ := hrel
    by_cases hlt : k < n
    · obtain ⟨b, o, rfl, _, _, hcell⟩ := (hr.below' hb).at_ (j := k) (by omega)
      have hkl : k < l.length := by omega
      have hx := hcell k (.int .u8 l[k]) (by simp [hkl])
      have hxlt := World.block_lt_of_cell? wr _ hx
      obtain ⟨b', o', hbo, _, _, hcell0⟩ := hr.at_ (j := k) (by omega)
      have hbl : b < w.heap.size := by
        injection hbo with hbo
        injection hbo with hbo _
        subst hbo
        exact World.block_lt_of_cell? w _ (hcell0 k _ (List.getElem?_eq_getElem (by simpa using hkl)))
      clear hcell0 hbo
      have HF := hide (show ((encL key l).take (k + 1)).map (Value.int .u8) = ((encL key l).take k).map (Value.int .u8) ++ #[Value.int .u8 ((l[k] + kb key k) % 256)].toList from by
        have h1 := encL_at key l k hkl
        obtain ⟨h2, h3⟩ := List.getElem?_eq_some_iff.1 h1
        rw [List.take_succ_eq_append_getElem h2, h3]
        simp)
      have hbd := h8.at_ k hkl
      have HK := hide (fun W (h1 : Rd W wr.heap.size (wr.heap.size + 1) 1 (some ⟨wr.heap.size, 0, none⟩) 1 ([(k : Int)].map (.int .i64))) (h2 : wr.heap.size + 1 ≤ W.heap.size) => sKH_any W key _ 1 1 _ _ [(k : Int)] h1 (by omega) h2)
      have hkb := kh_bd key [(k : Int)]
      have hkd : kb key k = kh key [(k : Int)] % 256 := rfl
      rw [hkd] at HF
      clear hkd
      generalize l[k] = z at hx HF hbd
      generalize kh key [(k : Int)] = h at HF HK hkb
      obtain ⟨hz0', hz1'⟩ := hbd
      obtain ⟨hh0, hh1⟩ := hkb
      have hm0 : 0 ≤ h % 256 := by omega
      have hm1' : h % 256 ≤ 255 := by omega
      have e0 : h.tmod 256 = h % 256 := Int.tmod_eq_emod_of_nonneg hh0
      generalize h % 256 = q at HF e0 hm0 hm1'
      have e1 : IntKind.i64.wrap q = q := IntWalk.i64_in _ (by omega)
      have e5 : IntKind.i64.wrap z = z := IntWalk.i64_in _ (by omega)
      have e3 : (z + q).tmod 256 = (z + q) % 256 := Int.tmod_eq_emod_of_nonneg (by omega)
      have e4 : IntKind.i64.wrap (z + q) = z + q := IntWalk.i64_in _ (by omega)
      have HX := hide (show (0 : Int) ≤ (z + q) % 256 ∧ (z + q) % 256 ≤ 255 by omega)
      generalize (z + q) % 256 = y at HF e3 HX
      have e6 : IntKind.u8.wrap y = y := by rw [u8_wrap]; have := HX.out; omega
      have hsz := hb.size
      have HO := hide hown
      clear hcell hkl hown HX
      have hlt' : (k : Int) < (n : Int) := by omega
      go_wp2_with fail
      go_region_held3 (fun w' => w'.cell? ⟨b, o + k, none⟩ = some (.int .u8 z)) (first | (go_simp; done) | go_keep)
        (first
        | (go_at_call 93; refine (unhide HK _ ((Rd.fresh wr #[.int .i64 k] 3 1 1 rfl).below' (by clear e0 e1 e4 e5 e6; (repeat' (first | (with_reducible exact Below.refl _ _) | (with_reducible assumption) | (with_reducible refine Below.alloc ?_ ?_ _) | (with_reducible refine below_ext ?_ ?_ _ _) | (with_reducible refine Below.setCell ?_ ?_ _) | (with_reducible refine Below.drew ?_) | (with_reducible refine below_drewN ?_ _))); all_goals (first | omega | (simp; done) | (simp; omega)))) (by simp)).mono ?_; rintro e w3 ⟨rfl, hb3⟩; obtain ⟨os3, d3, rfl⟩ := ext_of_below hb3; clear hb3)
        | (refine step_app _ rfl (.tmp 14) (.tmp 28) 22 rfl 5 i0 (.int .u8 0) 1 1 w.heap.size wr.heap.size (wr.heap.size + 1 + os3.size) (wr.heap.size + 1 + os3.size + 1) Try.underlying22 hi0 hz0 hz1 hz2 rfl (Nat.lt_succ_self 0) (.slice A' k c') k _ (by first | rfl | simp [Act.eval, Act.put]) (HO.out.below' (by clear e0 e1 e3 e4 e5 e6; (repeat' (first | (with_reducible exact Below.refl _ _) | (with_reducible assumption) | (with_reducible refine Below.alloc ?_ ?_ _) | (with_reducible refine below_ext ?_ ?_ _ _) | (with_reducible refine Below.setCell ?_ ?_ _) | (with_reducible refine Below.drew ?_) | (with_reducible refine below_drewN ?_ _))); all_goals (first | omega | (simp; done) | (simp; omega)))) (some ⟨wr.heap.size + 1 + os3.size, 0, none⟩) 1 1 [.int .u8 y] (by first | rfl | simp [Act.eval, Act.put]) (by clear e0 e1 e3 e4 e5 e6; simpa using Rd.fresh (ext (wr.alloc (.cells #[.int .i64 k] 3)) os3 d3) #[.int .u8 y] 5 1 1 rfl) (by simp [Value.oneCell']) (by clear e0 e1 e3 e4 e5 e6; unfold maxLen; omega) (by clear e0 e1 e3 e4 e5 e6; omega) (by clear e0 e1 e3 e4 e5 e6; first | omega | (simp; omega)) (by clear e0 e1 e3 e4 e5 e6; first | omega | (simp; omega)) ?_; intro A4 c4 w4 hown4 hc4 hm4 hch4; have hb4 : Below w.heap.size w w4 := below_then (by clear e0 e1 e3 e4 e5 e6; (repeat' (first | (with_reducible exact Below.refl _ _) | (with_reducible assumption) | (with_reducible refine Below.alloc ?_ ?_ _) | (with_reducible refine below_ext ?_ ?_ _ _) | (with_reducible refine Below.setCell ?_ ?_ _) | (with_reducible refine Below.drew ?_) | (with_reducible refine below_drewN ?_ _))); all_goals (first | omega | (simp; done) | (simp; omega))) (hch4.below (Nat.le_refl _) (by clear e0 e1 e3 e4 e5 e6; first | omega | (simp; omega))) (Nat.le_refl _); rw [← HF.out] at hown4; have hq4 : w4.cell? ⟨b, o + k, none⟩ = some (.int .u8 z) := (hch4.cell (p := ⟨b, o + k, none⟩) (by clear e0 e1 e3 e4 e5 e6; first | omega | (simp; omega)) (.inl hbl)).trans (by clear e0 e1 e3 e4 e5 e6; go_simp); clear hch4))
      all_goals
        clear e0 e1 e3 e4 e5 e6
        go_wp2_with fail
        go_roundw
        case rel => exact ⟨k + 1, _, _, by omega, by go_num, rfl, hown4, hb4⟩
        case measure => simp [intOf] <;> omega
    · have HL := hide (show (encL key l).take k = encL key l from List.take_of_length_le (by rw [encL_len]; omega))
      obtain rfl : k = n := by omega
      rw [HL.out] at hown
      go_wp2_with fail
      go_ret
      exact Mk.of_own hown hb (Nat.le_refl _)
end Go.Proofs.Ytidfpmkhgogilaa
