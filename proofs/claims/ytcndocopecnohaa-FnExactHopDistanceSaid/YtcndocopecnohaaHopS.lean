/- HopDistance of the specification, walked. -/
import Derived.Test.YtcndocopecnohaaHopM
namespace Go.Proofs.Ytcndocopecnohaa
open Go.RowKit Go.Sep Go.Hop

set_option maxHeartbeats 2000000 in
set_option maxRecDepth 100000 in
theorem sHop_any (w : World) (A : Option Addr) (n c lo hi : Nat) (m : CM) (a b d : Int) (hr : Nd2 .i64 w lo hi A n m) (hn : n ≤ 1048576) (hs0 : ndSum2 m ≤ 1048576) (hd : hopD m a b d) :
    Calls Try.prog 25 #[.agg #[.slice A n c], .int .i64 a, .int .i64 b] w fun e w' => e = .returned (.int .i64 d) ∧ Below w.heap.size w w' := by
  have hl := hr.len
  have HC := hide (fun W => l1In_any a 0 ((n : Int) - 1) W)
  rcases cell_cases n a with ⟨h, h'⟩ | ⟨k0, rfl, hk0, h⟩
  · rw [h] at HC
    obtain rfl : d = -1 := hopD_one hd (.inr ⟨by omega, rfl⟩)
    clear h h' hd
    go_enter Try.func25, Try.ntmps25
    go_wp2_with (go_at_call 34; refine (unhide HC _).mono ?_; rintro e w' ⟨rfl, rfl⟩)
    go_ret
    exact ⟨rfl, (by (repeat' (first | (with_reducible exact Below.refl _ _) | (with_reducible assumption) | (with_reducible refine Below.alloc ?_ ?_ _) | (with_reducible refine below_ext ?_ ?_ _ _) | (with_reducible refine Below.setCell ?_ ?_ _) | (with_reducible refine Below.drew ?_) | (with_reducible refine below_drewN ?_ _))); all_goals (first | omega | (simp; done) | (simp; omega)))⟩
  · rw [h] at HC
    obtain ⟨i0, hi0, hz0, hz1, hz2⟩ := info_parts infoIntS
    have HD := hide hd
    have hown0 : Own ((w.alloc (.cells #[.slice A n c] 29)).alloc (.cells #[.int .i64 k0] 3)) (w.heap.size + 1) (w.heap.size + 1 + 1) 3 1 (.slice (some ⟨w.heap.size + 1, 0, none⟩) 1 1) 1 ([k0].map nI) := by
      simpa [nI] using Own.fresh (w.alloc (.cells #[.slice A n c] 29)) #[.int .i64 k0] 3 1 1 rfl (by unfold maxLen; omega)
    have HS0 := hide (SI_start (adj := adjM m) (a := k0) (n := n) (b := tgt n b) hk0)
    clear h hd
    go_enter Try.func25, Try.ntmps25
    go_wp2_with (go_at_call 34; refine (unhide HC _).mono ?_; rintro e w' ⟨rfl, rfl⟩)
    go_loopw [7, 8, 9] (fun q fr st wr => ∃ (s f t : Nat) (A' : Option Addr) (c' : Nat) (S : List Nat), q = .slice A' t c' ∧ fr = .int .i64 f ∧ st = .int .i64 s ∧ (s = 0 → f < t) ∧ s ≤ f ∧ Hid (S.length = t) ∧ Hid (SI (adjM m) k0 n (tgt n b) s f f t S) ∧ Own wr (w.heap.size + 1) wr.heap.size 3 1 (.slice A' t c') t (S.map nI) ∧ Below w.heap.size w wr ∧ w.heap.size + 1 ≤ wr.heap.size ∧ wr.cell? ⟨w.heap.size, 0, none⟩ = some (.slice A n c)) (fun _ fr _ _ => n - (intOf fr).toNat)
    case atStart => exact ⟨0, 0, 1, _, _, [k0], rfl, rfl, rfl, fun _ => by omega, by omega, hide rfl, HS0, by simpa using hown0, (by (repeat' (first | (with_reducible exact Below.refl _ _) | (with_reducible assumption) | (with_reducible refine Below.alloc ?_ ?_ _) | (with_reducible refine below_ext ?_ ?_ _ _) | (with_reducible refine Below.setCell ?_ ?_ _) | (with_reducible refine Below.drew ?_) | (with_reducible refine below_drewN ?_ _))); all_goals (first | omega | (simp; done) | (simp; omega))), by simp, by go_simp⟩
    case round =>
      clear hown0 HS0 HC
      obtain ⟨s, f, t, A1, c1, S, rfl, rfl, rfl, h0, hsf, HL, HS, hown, hb, hz, hbox⟩ := hrel
      by_cases hft : f < t
      · have hftI : (f : Int) < (t : Int) := by omega
        have htn : t ≤ n := by have := SI_size HS.out; rw [HL.out] at this; exact this
        have HREL := hide (And.intro HL.out (And.intro HS.out (And.intro hown (And.intro hb (And.intro hz hbox)))))
        clear HL HS hown hb hz hbox h0
        go_wp2_with fail
        go_loopw [7, 8] (fun q fr wr => ∃ (f' t' : Nat) (A' : Option Addr) (c' : Nat) (S' : List Nat), q = .slice A' t' c' ∧ fr = .int .i64 f' ∧ f ≤ f' ∧ f' ≤ t ∧ t ≤ t' ∧ Hid (S'.length = t') ∧ Hid (SI (adjM m) k0 n (tgt n b) s f f' t S') ∧ Own wr (w.heap.size + 1) wr.heap.size 3 1 (.slice A' t' c') t' (S'.map nI) ∧ Below w.heap.size w wr ∧ w.heap.size + 1 ≤ wr.heap.size ∧ wr.cell? ⟨w.heap.size, 0, none⟩ = some (.slice A n c)) (fun _ fr _ => t - (intOf fr).toNat)
        case atStart => exact ⟨f, t, A1, c1, S, rfl, rfl, Nat.le_refl _, by omega, Nat.le_refl _, hide HREL.out.1, hide HREL.out.2.1, HREL.out.2.2⟩
        case round =>
          clear HREL
          obtain ⟨f', t', A2, c2, S2, rfl, rfl, hf1, hf2, htt, HL, HS, hown, hb, hz, hbox⟩ := hrel
          have htn2 : t' ≤ n := by have := SI_size HS.out; rw [HL.out] at this; exact this
          by_cases hlt : f' < t
          · have hltI : (f' : Int) < (t : Int) := by omega
            have hltI2 : (f' : Int) < (t' : Int) := by omega
            obtain ⟨u, hu⟩ : ∃ u, S2[f']? = some u := ⟨_, List.getElem?_eq_getElem (by have := HL.out; omega)⟩
            have hun : u < n := HS.out.lt u (List.mem_of_getElem? hu)
            obtain ⟨bs, os, hA2, hbs, _, hcell⟩ := hown.rd.at_ (j := f') (by omega)
            subst hA2
            have hx := hcell f' (nI u) (by simp [hu])
            unfold nI at hx
            have HU := hide hu
            clear hcell hu
            have htg := tgt_iff (b := b) hun
            by_cases hub : (u : Int) = b
            · have HE := hide (hopD_one HD.out (.inl ⟨k0, rfl, by omega, by rw [hl]; exact SI_found HS.out hlt (by rw [← htg.1 hub]; exact HU.out)⟩))
              clear HS hown htg
              go_wp2_with fail
              go_ret
              exact ⟨ret_int HE.out.symm, hb⟩
            · have hne : u ≠ tgt n b := fun h => hub (htg.2 h)
              have HNE := hide hne
              have HREL := hide (And.intro HL.out (And.intro HS.out (And.intro HU.out (And.intro hown (And.intro hb (And.intro hz hbox))))))
              have hube : ((u : Int) == b) = false := by simpa using hub
              clear HL HS hown hb hz htg hne HU hub
              go_wp2_with fail
              clear hx hbox
              go_loopw [7, 11] (fun q xx wr => ∃ (x t3 : Nat) (A' : Option Addr) (c' : Nat) (S3 : List Nat), q = .slice A' t3 c' ∧ xx = .int .i64 x ∧ x ≤ n ∧ t' ≤ t3 ∧ Hid (S3.length = t3) ∧ Hid (SI (adjM m) k0 n (tgt n b) s f f' t S3) ∧ Hid (S3[f']? = some u) ∧ Hid (∀ v, v < x → adjM m u v → v ∈ S3) ∧ Own wr (w.heap.size + 1) wr.heap.size 3 1 (.slice A' t3 c') t3 (S3.map nI) ∧ Below w.heap.size w wr ∧ w.heap.size + 1 ≤ wr.heap.size ∧ wr.cell? ⟨w.heap.size, 0, none⟩ = some (.slice A n c)) (fun _ xx _ => n - (intOf xx).toNat)
              case atStart => exact ⟨0, t', _, c2, S2, rfl, rfl, Nat.zero_le _, Nat.le_refl _, hide HREL.out.1, hide HREL.out.2.1, hide HREL.out.2.2.1, hide (fun v hv => absurd hv (Nat.not_lt_zero _)), HREL.out.2.2.2⟩
              case round =>
                clear HREL
                obtain ⟨x, t3, A3, c3, S3, rfl, rfl, hxn, htt3, HL, HS, HU, HV, hown, hb, hz, hbox⟩ := hrel
                have htn3 : t3 ≤ n := by have := SI_size HS.out; rw [HL.out] at this; exact this
                by_cases hxl : x < n
                · have hxI : (x : Int) < (n : Int) := by omega
                  have hf3 : (f' : Int) < (t3 : Int) := by omega
                  obtain ⟨b3, o3, hA3, hb3l, _, hcell⟩ := hown.rd.at_ (j := f') (by omega)
                  subst hA3
                  have hx3 := hcell f' (nI u) (by simp [HU.out])
                  unfold nI at hx3
                  clear hcell
                  have HM := hide (hr.below' hb)
                  have HN := hide (fun W h => sAreNeighbors_any W A n c lo hi m u x h hn hs0)
                  have HO := hide hown
                  have HB := hide hb
                  have HH := hide (fun W h => sHas_any W (some ⟨b3, o3, none⟩) t3 c3 (w.heap.size + 1) wr.heap.size (S3.map fun v : Nat => (v : Int)) x h (by omega))
                  rw [nI_has] at HH
                  clear hown hb
                  have hlw : w.heap.size < wr.heap.size := by omega
                  cases hadj : nbr m u x
                  · rw [hadj] at HN
                    have HV' := hide (show ∀ v, v < x + 1 → adjM m u v → v ∈ S3 from fun v hv ha => by
                      by_cases he : v = x
                      · subst he; have := ha.1; rw [hadj] at this; cases this
                      · exact HV.out v (by omega) ha)
                    clear hadj HV HH
                    go_wp2_with fail
                    first
                    | go_region_law (first | (go_simp; go_at_call 15; (with_reducible refine (unhide HN _ (HM.out.below' (by (repeat' (first | (with_reducible exact Below.refl _ _) | (with_reducible assumption) | (with_reducible refine Below.alloc ?_ ?_ _) | (with_reducible refine below_ext ?_ ?_ _ _) | (with_reducible refine Below.setCell ?_ ?_ _) | (with_reducible refine Below.drew ?_) | (with_reducible refine below_drewN ?_ _))); all_goals (first | omega | (simp; done) | (simp; omega))))).mono ?_); rintro e wa ⟨rfl, hba⟩; have hbA : Below wr.heap.size wr wa := below_then (show Below wr.heap.size wr _ from (by (repeat' (first | (with_reducible exact Below.refl _ _) | (with_reducible assumption) | (with_reducible refine Below.alloc ?_ ?_ _) | (with_reducible refine below_ext ?_ ?_ _ _) | (with_reducible refine Below.setCell ?_ ?_ _) | (with_reducible refine Below.drew ?_) | (with_reducible refine below_drewN ?_ _))); all_goals (first | omega | (simp; done) | (simp; omega)))) hba (by first | exact Nat.le_refl _ | simp)) | fail)
                    | fail
                    all_goals
                      go_wp2_with fail
                      go_roundw
                      case rel => exact ⟨x + 1, t3, _, c3, S3, rfl, by go_num, by omega, by omega, HL, HS, HU, HV', (HO.out.below' hbA).more (Nat.le_refl _) hbA.size, below_then HB.out hbA HB.out.size, by have := hbA.size; omega, (hbA.cell (p := ⟨w.heap.size, 0, none⟩) hlw).trans hbox⟩
                      case measure => simp [intOf] <;> omega
                  · rw [hadj] at HN
                    by_cases hmem : x ∈ S3
                    · rw [decide_eq_true hmem] at HH
                      have HV' := hide (show ∀ v, v < x + 1 → adjM m u v → v ∈ S3 from fun v hv ha => by
                        by_cases he : v = x
                        · subst he; exact hmem
                        · exact HV.out v (by omega) ha)
                      clear hadj HV hmem
                      go_wp2_with fail
                      go_region_law (first
                        | (go_simp; go_at_call 15; (with_reducible refine (unhide HN _ (HM.out.below' (by (repeat' (first | (with_reducible exact Below.refl _ _) | (with_reducible assumption) | (with_reducible refine Below.alloc ?_ ?_ _) | (with_reducible refine below_ext ?_ ?_ _ _) | (with_reducible refine Below.setCell ?_ ?_ _) | (with_reducible refine Below.drew ?_) | (with_reducible refine below_drewN ?_ _))); all_goals (first | omega | (simp; done) | (simp; omega))))).mono ?_); rintro e wa ⟨rfl, hba⟩; have hbA : Below wr.heap.size wr wa := below_then (show Below wr.heap.size wr _ from (by (repeat' (first | (with_reducible exact Below.refl _ _) | (with_reducible assumption) | (with_reducible refine Below.alloc ?_ ?_ _) | (with_reducible refine below_ext ?_ ?_ _ _) | (with_reducible refine Below.setCell ?_ ?_ _) | (with_reducible refine Below.drew ?_) | (with_reducible refine below_drewN ?_ _))); all_goals (first | omega | (simp; done) | (simp; omega)))) hba (by first | exact Nat.le_refl _ | simp))
                        | (go_simp; go_at_call 38; (with_reducible refine (unhide HH _ (by have := (HO.out.below' hbA).rd; rw [nI_map] at this; exact this)).mono ?_); rintro e wb ⟨rfl, rfl⟩)
                        | fail)
                      all_goals
                        go_wp2_with fail
                        go_roundw
                        case rel => exact ⟨x + 1, t3, _, c3, S3, rfl, by go_num, by omega, by omega, HL, HS, HU, HV', (HO.out.below' hbA).more (Nat.le_refl _) hbA.size, below_then HB.out hbA HB.out.size, by have := hbA.size; omega, (hbA.cell (p := ⟨w.heap.size, 0, none⟩) hlw).trans hbox⟩
                        case measure => simp [intOf] <;> omega
                    · rw [decide_eq_false hmem] at HH
                      have HSn := hide (SI_new HS.out hlt HU.out (show adjM m u x from ⟨hadj, by omega⟩) hxl hmem)
                      have HV' := hide (show ∀ v, v < x + 1 → adjM m u v → v ∈ S3 ++ [x] from fun v hv ha => by
                        by_cases he : v = x
                        · subst he; simp
                        · exact List.mem_append.2 (.inl (HV.out v (by omega) ha)))
                      have HUn := hide (show (S3 ++ [x])[f']? = some u by rw [List.getElem?_append_left (by rw [HL.out]; omega)]; exact HU.out)
                      have HLn := hide (show (S3 ++ [x]).length = t3 + 1 by simp [HL.out])
                      clear hadj HV hmem HS HU HL
                      go_wp2_with fail
                      go_region_law (first
                        | (go_simp; go_at_call 15; (with_reducible refine (unhide HN _ (HM.out.below' (by (repeat' (first | (with_reducible exact Below.refl _ _) | (with_reducible assumption) | (with_reducible refine Below.alloc ?_ ?_ _) | (with_reducible refine below_ext ?_ ?_ _ _) | (with_reducible refine Below.setCell ?_ ?_ _) | (with_reducible refine Below.drew ?_) | (with_reducible refine below_drewN ?_ _))); all_goals (first | omega | (simp; done) | (simp; omega))))).mono ?_); rintro e wa ⟨rfl, hba⟩; have hbA : Below wr.heap.size wr wa := below_then (show Below wr.heap.size wr _ from (by (repeat' (first | (with_reducible exact Below.refl _ _) | (with_reducible assumption) | (with_reducible refine Below.alloc ?_ ?_ _) | (with_reducible refine below_ext ?_ ?_ _ _) | (with_reducible refine Below.setCell ?_ ?_ _) | (with_reducible refine Below.drew ?_) | (with_reducible refine below_drewN ?_ _))); all_goals (first | omega | (simp; done) | (simp; omega)))) hba (by first | exact Nat.le_refl _ | simp))
                        | (go_simp; go_at_call 38; (with_reducible refine (unhide HH _ (by have := (HO.out.below' hbA).rd; rw [nI_map] at this; exact this)).mono ?_); rintro e wb ⟨rfl, rfl⟩)
                        | fail)
                      all_goals
                        have hownA := (HO.out.below' hbA).more (Nat.le_refl _) hbA.size
                        have hbxA := (hbA.cell (p := ⟨w.heap.size, 0, none⟩) hlw).trans hbox
                        have hbwA := below_then HB.out hbA HB.out.size
                        have hszA := hbA.size
                        clear hba hbA hbox hx3
                        have hfr : Rd (wa.alloc (.cells #[.int .i64 x] 3)) wa.heap.size (wa.heap.size + 1) 1 (some ⟨wa.heap.size, 0, none⟩) 1 [.int .i64 x] := by simpa using Rd.fresh wa #[.int .i64 x] 3 1 1 rfl
                        go_wp2_with (at_builtin; refine wpList_app _ rfl (.tmp 61) (.tmp 63) 35 rfl 3 i0 (.int .i64 0) 1 8 (w.heap.size + 1) wa.heap.size wa.heap.size (wa.heap.size + 1) Try.underlying35 hi0 hz0 hz1 hz2 rfl (by omega) _ t3 _ rfl (hownA.alloc _) _ 1 1 _ rfl hfr (by simp [Value.oneCell']) (by unfold maxLen; omega) (by omega) (by first | omega | (simp <;> omega)) (by first | omega | (simp <;> omega)) ?_; intro A4 c4 w4 hown4 hc4 hm4 hch4)
                        have hsz4 := hch4.size
                        have hb4 : Below w.heap.size w w4 := below_then hbwA ((((Chg.refl (w.heap.size + 1) wa.heap.size wa).alloc _).trans hch4).below (B := w.heap.size) (by omega) hbwA.size) (Nat.le_refl _)
                        have hbx4 := (hch4.cell (p := ⟨w.heap.size, 0, none⟩) (by simp; omega) (.inl (by simp))).trans ((World.cell?_alloc_old wa (.cells #[.int .i64 x] 3) ⟨w.heap.size, 0, none⟩ (by simp; omega)).trans hbxA)
                        have hown5 : Own w4 (w.heap.size + 1) w4.heap.size 3 1 (.slice A4 (t3 + 1) c4) (t3 + 1) ((S3 ++ [x]).map nI) := by simpa [nI] using hown4
                        clear hownA hown4 hch4 hbwA hfr hbxA
                        go_wp2_with fail
                        go_roundw
                        case rel => exact ⟨x + 1, t3 + 1, _, _, S3 ++ [x], rfl, by go_num, by omega, by omega, HLn, HSn, HUn, HV', hown5, hb4, by simp at hsz4; omega, hbx4⟩
                        case measure => simp [intOf] <;> omega
                · obtain rfl : x = n := by omega
                  have HS' := hide (SI_step HS.out hlt HU.out HNE.out (fun v hv => HV.out v (by have := hv.2; omega) hv))
                  clear HS HV HU HNE
                  have hsx : IntKind.i64.wrap ((f' : Int) + 1) = (f' : Int) + 1 := by rw [IntKind.wrap_i64]; omega
                  go_wp2_with fail
                  go_roundw
                  case rel => exact ⟨f' + 1, t3, A3, c3, S3, rfl, by go_num, by omega, by omega, by omega, HL, HS', hown, hb, hz, hbox⟩
                  case measure => simp [intOf] <;> omega
          · obtain rfl : f' = t := by omega
            have HS' := hide (SI_level HS.out)
            clear HS
            go_wp2_with fail
            go_roundw
            case rel => exact ⟨s + 1, f', t', A2, c2, S2, rfl, rfl, by go_num, by omega, by omega, HL, by rw [← HL.out]; exact HS', hown, hb, hz, hbox⟩
            case measure => simp [intOf] <;> omega
      · have hft' : f = t := by have := HS.out.le; omega
        subst hft'
        obtain ⟨s', rfl⟩ : ∃ s', s = s' + 1 := ⟨s - 1, by omega⟩
        have HE := hide (hopD_one HD.out (.inl ⟨k0, rfl, by omega, by rw [hl]; have := HS.out; rw [← HL.out] at this; exact SI_end this⟩))
        clear HS
        go_wp2_with fail
        go_ret
        exact ⟨ret_int HE.out.symm, hb⟩
end Go.Proofs.Ytcndocopecnohaa
