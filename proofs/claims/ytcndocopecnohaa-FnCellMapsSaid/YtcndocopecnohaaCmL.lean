/- The law FnCellMaps, walked. -/
import Derived.Test.YtcndocopecnohaaCmF
import Derived.Test.YtcndocopecnohaaIvMI
import Derived.Test.YtcndocopecnohaaHopI
import Derived.Test.YtcndocopecnohaaCia
import Derived.Deep.CutRange
namespace Go.Proofs.Ytcndocopecnohaa
open Go.RowKit Go.Sep Go.Hop

theorem modN {v : Int} {k : Nat} (_h0 : 0 ≤ v) (hk : 0 < k) : ∃ a : Nat, v % (k : Int) = (a : Int) ∧ a < k := by
  have h1 := Int.emod_nonneg v (b := (k : Int)) (by omega)
  have h2 := Int.emod_lt_of_pos v (b := (k : Int)) (by omega)
  exact ⟨(v % (k : Int)).toNat, by omega, by omega⟩
/-- The map's box and its cells, in a later world. -/
structure ML (P lo : Nat) (w : World) (G k c : Nat) (m : CM) (wr : World) : Prop where
  box : Bx1 wr P (.slice (some ⟨G, 0, none⟩) k c)
  nd : Nd2 .i64 wr lo wr.heap.size (some ⟨G, 0, none⟩) k m
  bel : Below w.heap.size w wr
theorem ML.below' {P lo G k c : Nat} {w wr wx : World} {m : CM} (h : ML P lo w G k c m wr) (hb : Below wr.heap.size wr wx) : ML P lo w G k c m wx :=
  ⟨h.box.below' hb, (h.nd.below' hb).more (Nat.le_refl _) hb.size, below_then h.bel hb h.bel.size⟩
set_option maxHeartbeats 6000000 in
set_option maxRecDepth 100000 in
theorem fnCellMaps.walk (A : Option Addr) (n c : Nat) (l : List Int) (w : World) (_hl : l.length = n) (hr : Rd w 0 w.heap.size 1 A n (l.map (.int .u8))) (hw : ∀ x ∈ l, (Lit.int .u8 x).wf = true) (hc : n ≤ c ∧ c ≤ maxLen) :
    Calls Try.prog 9 #[.slice A n c] w fun e w' => e = .returned (.bool true) ∧ Below w.heap.size w w' := by
  have hn : n ≤ 9223372036854775807 := by have := hc.1; have := hc.2; unfold maxLen at this; omega
  have HG := hide (fun W => big_any W A n c hn)
  by_cases hbig : (1048576 : Int) < (n : Int)
  · rw [show decide ((1048576 : Int) < (n : Int)) = true by simpa using hbig] at HG
    clear hbig
    go_enter Try.func9, Try.ntmps9
    go_wp2_with (go_at_call 29; refine (unhide HG _).mono ?_; rintro e w' ⟨rfl, rfl⟩)
    go_ret
    exact ⟨rfl, (by (repeat' (first | (with_reducible exact Below.refl _ _) | (with_reducible assumption) | (with_reducible refine Below.alloc ?_ ?_ _) | (with_reducible refine below_ext ?_ ?_ _ _) | (with_reducible refine Below.setCell ?_ ?_ _) | (with_reducible refine Below.drew ?_) | (with_reducible refine below_drewN ?_ _))); all_goals (first | omega | (simp; done) | (simp; omega)))⟩
  rw [show decide ((1048576 : Int) < (n : Int)) = false by simpa using hbig] at HG
  have hn2 : n ≤ 1048576 := by omega
  have h8 := u8_in hw
  clear hbig hw
  go_enter Try.func9, Try.ntmps9
  go_wp2_with (go_at_call 29; refine (unhide HG _).mono ?_; rintro e w' ⟨rfl, rfl⟩)
  refine (sDrawMap_any _ A n c l hr (by omega) h8).mono ?_
  rintro e w1 ⟨G, k, c', m, rel, rfl, hk2, hk5, hN, hS, hb1⟩
  have hs1 := hb1.size
  have hX := Bx1.new w1 29 (.slice (some ⟨G, 0, none⟩) k c')
  have HM := hide (show ML w1.heap.size w.heap.size w G k c' m (w1.alloc (.cells #[.slice (some ⟨G, 0, none⟩) k c'] 29)) from
    ⟨hX, (hN.below' (by (repeat' (first | (with_reducible exact Below.refl _ _) | (with_reducible assumption) | (with_reducible refine Below.alloc ?_ ?_ _) | (with_reducible refine below_ext ?_ ?_ _ _) | (with_reducible refine Below.setCell ?_ ?_ _) | (with_reducible refine Below.drew ?_) | (with_reducible refine below_drewN ?_ _))); all_goals (first | omega | (simp; done) | (simp; omega)))).more (Nat.le_refl _) (by simp), (by (repeat' (first | (with_reducible exact Below.refl _ _) | (with_reducible assumption) | (with_reducible refine Below.alloc ?_ ?_ _) | (with_reducible refine below_ext ?_ ?_ _ _) | (with_reducible refine Below.setCell ?_ ?_ _) | (with_reducible refine Below.drew ?_) | (with_reducible refine below_drewN ?_ _))); all_goals (first | omega | (simp; done) | (simp; omega)))⟩)
  have hsum := hS.sum
  have HRd := hide (fun (W : World) (hb : Below w.heap.size w W) => hr.below' hb)
  have HV := hide (fun W h => iIsValidMap_any W (some ⟨G, 0, none⟩) k c' w.heap.size (W.heap.size) m h (by omega) hsum)
  rw [hS.valid] at HV
  clear hX hN HG hr hb1
  go_wp2_with fail
  refine (unhide HV _ HM.out.nd).mono ?_
  rintro e w2 ⟨rfl, hb2⟩
  have HM2 := hide (HM.out.below' hb2)
  have q0 := HM2.out.box.c0
  have hP := HM2.out.box.lt
  have HC := hide (fun W (p : Int) h => iCia_any W (some ⟨G, 0, none⟩) k c' w.heap.size W.heap.size m p h (by omega))
  clear HM HV hb2
  go_wp2_with fail
  clear q0
  go_loopw [5, 6] (fun t i wr => ∃ j : Nat, j ≤ 3 ∧ i = .int .i64 j ∧ t = .int .i64 (areaSum m j : Nat) ∧ ML w1.heap.size w.heap.size w G k c' m wr) (fun _ i _ => 3 - (intOf i).toNat)
  case atStart => exact ⟨0, by omega, rfl, rfl, HM2.out⟩
  case round =>
    clear HM2
    obtain ⟨j, hj, rfl, rfl, hM⟩ := hrel
    have q0 := hM.box.c0
    have hPr := hM.box.lt
    have HM := hide hM
    clear hM
    by_cases hlt : j < 3
    · have hlt' : (j : Int) < 3 := by omega
      have htl := hS.tot_le (k := j + 1) (by omega)
      have hte : areaSum m (j + 1) = areaSum m j + (ciL (j : Int) 0 m).length := rfl
      generalize areaSum m (j + 1) = T2 at htl hte
      have HT := hide (show areaSum m (j + 1) = areaSum m j + (ciL (j : Int) 0 m).length from rfl)
      generalize areaSum m j = T1 at hte HT ⊢
      go_wp2_with fail
      refine (unhide HC _ _ HM.out.nd).mono ?_
      rintro e w3 ⟨A3, c3, rfl, _, _, _, hb3⟩
      have HM3 := hide (HM.out.below' hb3)
      clear HM q0 hb3
      generalize (ciL (j : Int) 0 m).length = cl at hte HT ⊢
      have hT2 : (T1 : Int) + (cl : Int) ≤ 5 := by omega
      clear hte htl
      go_wp2_with fail
      go_roundw
      case rel => exact ⟨j + 1, by omega, by go_num, by rw [HT.out]; go_num, HM3.out⟩
      case measure => simp [intOf] <;> omega
    · have hj3 : j = 3 := by omega
      subst hj3
      have HT := hS.total
      rw [HT]
      clear HT HC hlt hj
      go_wp2_with fail
      clear q0
      refine (at_any _ A n c _ _ l (HRd.out _ HM.out.bel) hn2 h8 0 (by omega) _ rfl).mono ?_
      rintro e w3 ⟨⟨v, rfl, hv0, hv1⟩, rfl⟩
      have hk0 : ((k : Int) == 0) = false := by simp; omega
      go_wp2_with fail
      obtain ⟨a, ha, hak⟩ : ∃ a : Nat, v % (k : Int) = (a : Int) ∧ a < k := modN hv0 (by omega)
      rw [ha]
      clear ha hv0 hv1
      refine (at_any _ A n c _ _ l (HRd.out _ HM.out.bel) hn2 h8 1 (by omega) _ rfl).mono ?_
      rintro e w3 ⟨⟨v, rfl, hv0, hv1⟩, rfl⟩
      go_wp2_with fail
      obtain ⟨b, hb, hbk⟩ : ∃ b : Nat, v % (k : Int) = (b : Int) ∧ b < k := modN hv0 (by omega)
      rw [hb]
      clear hb hv0 hv1
      refine (at_any _ A n c _ _ l (HRd.out _ HM.out.bel) hn2 h8 2 (by omega) _ rfl).mono ?_
      rintro e w3 ⟨⟨v, rfl, hv0, hv1⟩, rfl⟩
      have q0 := HM.out.box.c0
      go_wp2_with fail
      obtain ⟨d, hd, hdk⟩ : ∃ d : Nat, v % (k : Int) = (d : Int) ∧ d < k := modN hv0 (by omega)
      rw [hd]
      clear hd hv0 hv1
      clear hk0
      obtain ⟨ab, bc, ac, f1, f2, f3, f4, f5, f6, f7, f8, f9, f10, f11, f12⟩ := hS.facts hak hbk hdk
      have HH := hide (fun W (x y z : Int) h hd => iHop_any W (some ⟨G, 0, none⟩) k c' w.heap.size W.heap.size m x y z h (by omega) hsum hd)
      have HN := hide (fun W (x y : Int) h => iAreNeighbors_any W (some ⟨G, 0, none⟩) k c' w.heap.size W.heap.size m x y h (by omega) hsum)
      have HNab := hide (HN.out · a b)
      have HNba := hide (HN.out · b a)
      rw [f5] at HNab
      rw [f6] at HNba
      clear HN f5 f6
      refine (unhide HH _ _ _ ab HM.out.nd f1).mono ?_
      rintro e w4 ⟨rfl, hb4⟩
      have HM4 := hide (HM.out.below' hb4)
      have q4 := HM4.out.box.c0
      have hP4 := HM4.out.box.lt
      clear HM q0 hb4 hPr f1
      go_wp2_with fail
      clear q4
      refine (unhide HH _ _ _ bc HM4.out.nd f2).mono ?_
      rintro e w5 ⟨rfl, hb5⟩
      have HM5 := hide (HM4.out.below' hb5)
      have q5 := HM5.out.box.c0
      have hP5 := HM5.out.box.lt
      clear HM4 hb5 hP4 f2
      go_wp2_with fail
      clear q5
      refine (unhide HH _ _ _ ac HM5.out.nd f3).mono ?_
      rintro e w6 ⟨rfl, hb6⟩
      have HM6 := hide (HM5.out.below' hb6)
      have q6 := HM6.out.box.c0
      have hP6 := HM6.out.box.lt
      clear HM5 hb6 hP5 f3
      have F8 := hide f8
      have F9 := hide f9
      have F10 := hide f10
      have F11 := hide f11
      have F12 := hide f12
      have HHba := hide (fun W h => HH.out W b a ab h f4)
      have HMd := hide (show ML w1.heap.size w.heap.size w G k c' m w6.drew from HM6.out.below' (by (repeat' (first | (with_reducible exact Below.refl _ _) | (with_reducible assumption) | (with_reducible refine Below.alloc ?_ ?_ _) | (with_reducible refine below_ext ?_ ?_ _ _) | (with_reducible refine Below.setCell ?_ ?_ _) | (with_reducible refine Below.drew ?_) | (with_reducible refine below_drewN ?_ _))); all_goals (first | omega | (simp; done) | (simp; omega))))
      clear f4 f8 f9 f10 f11 f12 HH
      go_wp2_with fail
      go_cut [95] from 57 to 95 (fun s wx => s = .bool false ∧ ML w1.heap.size w.heap.size w G k c' m wx)
      case first =>
        refine wp_region_any (by kernel_rfl) ?_
        try (change wpAny _ _ _ _ _ _ _ (World.drew _))
        refine wpAny_take (i := 0) (v := ?_) rfl (by kernel_rfl) (by kernel_rfl) (by kernel_rfl) (fun _ _ _ h => h) (Or.inl ⟨by rfl, ?_⟩) ?_
        rotate_left
        · intro w; go_simp <;> with_reducible rfl
        try go_simp
        refine wpAny_take (i := 1) (v := ?_) rfl (by kernel_rfl) (by kernel_rfl) (by kernel_rfl) (fun _ _ _ h => h) (Or.inl ⟨by rfl, ?_⟩) ?_
        rotate_left
        · intro w; go_simp <;> with_reducible rfl
        try go_simp
        refine wpAny_take (i := 2) (v := ?_) rfl (by kernel_rfl) (by kernel_rfl) (by kernel_rfl) (fun _ _ _ h => h) (Or.inl ⟨by rfl, ?_⟩) ?_
        rotate_left
        · intro w; go_simp <;> with_reducible rfl
        try go_simp
        refine wpAny_take (i := 3) (v := ?_) rfl (by kernel_rfl) (by kernel_rfl) (by kernel_rfl) (fun _ _ _ h => h) (Or.inl ⟨by rfl, ?_⟩) ?_
        rotate_left
        · intro w; go_simp <;> with_reducible rfl
        try go_simp
        refine wpAny_take (i := 5) (v := ?_) rfl (by kernel_rfl) (by kernel_rfl) (by kernel_rfl) (fun _ _ _ h => h) (Or.inl ⟨by rfl, ?_⟩) ?_
        rotate_left
        · intro w; go_simp <;> with_reducible rfl
        try go_simp
        refine wpAny_take (i := 6) (v := ?_) rfl (by kernel_rfl) (by kernel_rfl) (by kernel_rfl) (fun _ _ _ h => h) (Or.inl ⟨by rfl, ?_⟩) ?_
        rotate_left
        · intro w; go_simp <;> with_reducible rfl
        try go_simp
        refine wpAny_take (i := 9) (v := ?_) rfl (by kernel_rfl) (by kernel_rfl) (by kernel_rfl) (fun _ _ _ h => h) (Or.inl ⟨by rfl, ?_⟩) ?_
        rotate_left
        · intro w; go_simp <;> with_reducible rfl
        try go_simp
        refine wpAny_take (i := 10) (v := ?_) rfl (by kernel_rfl) (by kernel_rfl) (by kernel_rfl) (fun _ _ _ h => h) (Or.inl ⟨by rfl, ?_⟩) ?_
        rotate_left
        · intro w; go_simp <;> with_reducible rfl
        try go_simp
        refine wpAny_ready (rs := [4, 8]) (by kernel_rfl) (by simp) ?_
        refine AllReady.cons rfl (fun K hK => ?_) ?_
        · go_simp
          first | (refine hK _ _ ?_; clear hK K) | skip
          refine wpAny_ready (rs := [7, 8]) (by kernel_rfl) (by simp) ?_
          refine AllReady.cons rfl (fun K hK => ?_) ?_
          · (go_simp; go_at_call 16; (with_reducible refine (unhide HNab _ HMd.out.nd).mono ?_); rintro e wa ⟨rfl, hba⟩; have HMa := hide (HMd.out.below' hba); have qa := HMa.out.box.c0; have hPa := HMa.out.box.lt)
            try go_simp
            first | (refine hK _ _ ?_; clear hK K) | skip
            refine wpAny_ready (rs := [8]) (by kernel_rfl) (by simp) ?_
            refine AllReady.cons rfl (fun K hK => ?_) AllReady.nil
            go_simp
            first | (refine hK _ _ ?_; clear hK K) | skip
            refine wpAny_ready (rs := [11]) (by kernel_rfl) (by simp) ?_
            refine AllReady.cons rfl (fun K hK => ?_) AllReady.nil
            (go_simp; go_at_call 16; (with_reducible refine (unhide HNba _ HMa.out.nd).mono ?_); rintro e wb ⟨rfl, hbb⟩; have HMb := hide (HMa.out.below' hbb); have qb := HMb.out.box.c0; have hPb := HMb.out.box.lt)
            try go_simp
            first | (refine hK _ _ ?_; clear hK K) | skip
            refine wpAny_take (i := 12) (v := ?_) rfl (by kernel_rfl) (by kernel_rfl) (by kernel_rfl) (fun _ _ _ h => h) (Or.inl ⟨by rfl, ?_⟩) ?_
            rotate_left
            · intro w; go_simp <;> with_reducible rfl
            try go_simp
            refine wpAny_take (i := 13) (v := ?_) rfl (by kernel_rfl) (by kernel_rfl) (by kernel_rfl) (fun _ _ _ h => h) (Or.inl ⟨by rfl, ?_⟩) ?_
            rotate_left
            · intro w; go_simp <;> with_reducible rfl
            try go_simp
            refine wpAny_take (i := 14) (v := ?_) rfl (by kernel_rfl) (by kernel_rfl) (by kernel_rfl) (fun _ _ _ h => h) (Or.inl ⟨by rfl, ?_⟩) ?_
            rotate_left
            · intro w; go_simp <;> with_reducible rfl
            try go_simp
            refine wpAny_take (i := 16) (v := ?_) rfl (by kernel_rfl) (by kernel_rfl) (by kernel_rfl) (fun _ _ _ h => h) (Or.inl ⟨by rfl, ?_⟩) ?_
            rotate_left
            · intro w; go_simp <;> with_reducible rfl
            try go_simp
            refine wpAny_take (i := 17) (v := ?_) rfl (by kernel_rfl) (by kernel_rfl) (by kernel_rfl) (fun _ _ _ h => h) (Or.inl ⟨by rfl, ?_⟩) ?_
            rotate_left
            · intro w; go_simp <;> with_reducible rfl
            try go_simp
            refine wpAny_take (i := 19) (v := ?_) rfl (by kernel_rfl) (by kernel_rfl) (by kernel_rfl) (fun _ _ _ h => h) (Or.inl ⟨by rfl, ?_⟩) ?_
            rotate_left
            · intro w; go_simp <;> with_reducible rfl
            try go_simp
            refine wpAny_take (i := 20) (v := ?_) rfl (by kernel_rfl) (by kernel_rfl) (by kernel_rfl) (fun _ _ _ h => h) (Or.inl ⟨by rfl, ?_⟩) ?_
            rotate_left
            · intro w; go_simp <;> with_reducible rfl
            try go_simp
            refine wpAny_ready (rs := [15]) (by kernel_rfl) (by simp) ?_
            refine AllReady.cons rfl (fun K hK => ?_) AllReady.nil
            go_simp
            first | (refine hK _ _ ?_; clear hK K) | skip
            refine wpAny_ready (rs := [18]) (by kernel_rfl) (by simp) ?_
            refine AllReady.cons rfl (fun K hK => ?_) AllReady.nil
            (go_simp; go_at_call 16; (with_reducible refine (unhide HNab _ HMb.out.nd).mono ?_); rintro e wc ⟨rfl, hbc⟩; have HMc := hide (HMb.out.below' hbc); have qc := HMc.out.box.c0; have hPc := HMc.out.box.lt)
            try go_simp
            first | (refine hK _ _ ?_; clear hK K) | skip
            refine wpAny_take (i := 21) (v := ?_) rfl (by kernel_rfl) (by kernel_rfl) (by kernel_rfl) (fun _ _ _ h => h) (Or.inl ⟨by rfl, ?_⟩) ?_
            rotate_left
            · intro w; go_simp <;> with_reducible rfl
            try go_simp
            refine wpAny_take (i := 22) (v := ?_) rfl (by kernel_rfl) (by kernel_rfl) (by kernel_rfl) (fun _ _ _ h => h) (Or.inl ⟨by rfl, ?_⟩) ?_
            rotate_left
            · intro w; go_simp <;> with_reducible rfl
            try go_simp
            refine wpAny_take (i := 23) (v := ?_) rfl (by kernel_rfl) (by kernel_rfl) (by kernel_rfl) (fun _ _ _ h => h) (Or.inl ⟨by rfl, ?_⟩) ?_
            rotate_left
            · intro w; go_simp <;> with_reducible rfl
            try go_simp
            refine wpAny_take (i := 24) (v := ?_) rfl (by kernel_rfl) (by kernel_rfl) (by kernel_rfl) (fun _ _ _ h => h) (Or.inl ⟨by rfl, ?_⟩) ?_
            rotate_left
            · intro w; go_simp <;> with_reducible rfl
            try go_simp
            refine wpAny_take (i := 26) (v := ?_) rfl (by kernel_rfl) (by kernel_rfl) (by kernel_rfl) (fun _ _ _ h => h) (Or.inl ⟨by rfl, ?_⟩) ?_
            rotate_left
            · intro w; go_simp <;> with_reducible rfl
            try go_simp
            refine wpAny_take (i := 27) (v := ?_) rfl (by kernel_rfl) (by kernel_rfl) (by kernel_rfl) (fun _ _ _ h => h) (Or.inl ⟨by rfl, ?_⟩) ?_
            rotate_left
            · intro w; go_simp <;> with_reducible rfl
            try go_simp
            refine wpAny_ready (rs := [25]) (by kernel_rfl) (by simp) ?_
            refine AllReady.cons rfl (fun K hK => ?_) AllReady.nil
            go_simp
            first | (refine hK _ _ ?_; clear hK K) | skip
            refine wpAny_ready (rs := [28]) (by kernel_rfl) (by simp) ?_
            refine AllReady.cons rfl (fun K hK => ?_) AllReady.nil
            (go_simp; go_at_call 26; (with_reducible refine (unhide HHba _ HMc.out.nd).mono ?_); rintro e wz ⟨rfl, hbz⟩; have HMz := hide (HMc.out.below' hbz); have qz := HMz.out.box.c0; have hPz := HMz.out.box.lt)
            try go_simp
            first | (refine hK _ _ ?_; clear hK K) | skip
            refine wpAny_take (i := 29) (v := ?_) rfl (by kernel_rfl) (by kernel_rfl) (by kernel_rfl) (fun _ _ _ h => h) (Or.inl ⟨by rfl, ?_⟩) ?_
            rotate_left
            · intro w; go_simp <;> with_reducible rfl
            try go_simp
            refine wpAny_take (i := 30) (v := ?_) rfl (by kernel_rfl) (by kernel_rfl) (by kernel_rfl) (fun _ _ _ h => h) (Or.inl ⟨by rfl, ?_⟩) ?_
            rotate_left
            · intro w; go_simp <;> with_reducible rfl
            try go_simp
            refine wpAny_take (i := 31) (v := ?_) rfl (by kernel_rfl) (by kernel_rfl) (by kernel_rfl) (fun _ _ _ h => h) (Or.inl ⟨by rfl, ?_⟩) ?_
            rotate_left
            · intro w; go_simp <;> with_reducible rfl
            try go_simp
            refine wpAny_take (i := 32) (v := ?_) rfl (by kernel_rfl) (by kernel_rfl) (by kernel_rfl) (fun _ _ _ h => h) (Or.inl ⟨by rfl, ?_⟩) ?_
            rotate_left
            · intro w; go_simp <;> with_reducible rfl
            try go_simp
            refine wpAny_take (i := 33) (v := ?_) rfl (by kernel_rfl) (by kernel_rfl) (by kernel_rfl) (fun _ _ _ h => h) (Or.inl ⟨by rfl, ?_⟩) ?_
            rotate_left
            · intro w; go_simp <;> with_reducible rfl
            try go_simp
            refine wpAny_take (i := 34) (v := ?_) rfl (by kernel_rfl) (by kernel_rfl) (by kernel_rfl) (fun _ _ _ h => h) (Or.inl ⟨by rfl, ?_⟩) ?_
            rotate_left
            · intro w; go_simp <;> with_reducible rfl
            try go_simp
            refine wpAny_take (i := 35) (v := ?_) rfl (by kernel_rfl) (by kernel_rfl) (by kernel_rfl) (fun _ _ _ h => h) (Or.inl ⟨by rfl, ?_⟩) ?_
            rotate_left
            · intro w; go_simp <;> with_reducible rfl
            try go_simp
            refine wpAny_take (i := 36) (v := ?_) rfl (by kernel_rfl) (by kernel_rfl) (by kernel_rfl) (fun _ _ _ h => h) (Or.inl ⟨by rfl, ?_⟩) ?_
            rotate_left
            · intro w; go_simp <;> with_reducible rfl
            try go_simp
            refine wpAny_take (i := 37) (v := ?_) rfl (by kernel_rfl) (by kernel_rfl) (by kernel_rfl) (fun _ _ _ h => h) (Or.inl ⟨by rfl, ?_⟩) ?_
            rotate_left
            · intro w; go_simp <;> with_reducible rfl
            try go_simp
            refine wpAny_take (i := 38) (v := ?_) rfl (by kernel_rfl) (by kernel_rfl) (by kernel_rfl) (fun _ _ _ h => h) (Or.inl ⟨by rfl, ?_⟩) ?_
            rotate_left
            · intro w; go_simp <;> with_reducible rfl
            try go_simp
            refine wpAny_done (by kernel_rfl) ?_ _
            go_wp2_with fail
            go_meet
            exact ⟨rfl, HMz.out⟩
          refine AllReady.cons rfl (fun K hK => ?_) AllReady.nil
          · go_simp
            first | (refine hK _ _ ?_; clear hK K) | skip
            refine wpAny_ready (rs := [7]) (by kernel_rfl) (by simp) ?_
            refine AllReady.cons rfl (fun K hK => ?_) AllReady.nil
            (go_simp; go_at_call 16; (with_reducible refine (unhide HNab _ HMd.out.nd).mono ?_); rintro e wa ⟨rfl, hba⟩; have HMa := hide (HMd.out.below' hba); have qa := HMa.out.box.c0; have hPa := HMa.out.box.lt)
            try go_simp
            first | (refine hK _ _ ?_; clear hK K) | skip
            refine wpAny_ready (rs := [11]) (by kernel_rfl) (by simp) ?_
            refine AllReady.cons rfl (fun K hK => ?_) AllReady.nil
            (go_simp; go_at_call 16; (with_reducible refine (unhide HNba _ HMa.out.nd).mono ?_); rintro e wb ⟨rfl, hbb⟩; have HMb := hide (HMa.out.below' hbb); have qb := HMb.out.box.c0; have hPb := HMb.out.box.lt)
            try go_simp
            first | (refine hK _ _ ?_; clear hK K) | skip
            refine wpAny_take (i := 12) (v := ?_) rfl (by kernel_rfl) (by kernel_rfl) (by kernel_rfl) (fun _ _ _ h => h) (Or.inl ⟨by rfl, ?_⟩) ?_
            rotate_left
            · intro w; go_simp <;> with_reducible rfl
            try go_simp
            refine wpAny_take (i := 13) (v := ?_) rfl (by kernel_rfl) (by kernel_rfl) (by kernel_rfl) (fun _ _ _ h => h) (Or.inl ⟨by rfl, ?_⟩) ?_
            rotate_left
            · intro w; go_simp <;> with_reducible rfl
            try go_simp
            refine wpAny_take (i := 14) (v := ?_) rfl (by kernel_rfl) (by kernel_rfl) (by kernel_rfl) (fun _ _ _ h => h) (Or.inl ⟨by rfl, ?_⟩) ?_
            rotate_left
            · intro w; go_simp <;> with_reducible rfl
            try go_simp
            refine wpAny_take (i := 16) (v := ?_) rfl (by kernel_rfl) (by kernel_rfl) (by kernel_rfl) (fun _ _ _ h => h) (Or.inl ⟨by rfl, ?_⟩) ?_
            rotate_left
            · intro w; go_simp <;> with_reducible rfl
            try go_simp
            refine wpAny_take (i := 17) (v := ?_) rfl (by kernel_rfl) (by kernel_rfl) (by kernel_rfl) (fun _ _ _ h => h) (Or.inl ⟨by rfl, ?_⟩) ?_
            rotate_left
            · intro w; go_simp <;> with_reducible rfl
            try go_simp
            refine wpAny_take (i := 19) (v := ?_) rfl (by kernel_rfl) (by kernel_rfl) (by kernel_rfl) (fun _ _ _ h => h) (Or.inl ⟨by rfl, ?_⟩) ?_
            rotate_left
            · intro w; go_simp <;> with_reducible rfl
            try go_simp
            refine wpAny_take (i := 20) (v := ?_) rfl (by kernel_rfl) (by kernel_rfl) (by kernel_rfl) (fun _ _ _ h => h) (Or.inl ⟨by rfl, ?_⟩) ?_
            rotate_left
            · intro w; go_simp <;> with_reducible rfl
            try go_simp
            refine wpAny_ready (rs := [15]) (by kernel_rfl) (by simp) ?_
            refine AllReady.cons rfl (fun K hK => ?_) AllReady.nil
            go_simp
            first | (refine hK _ _ ?_; clear hK K) | skip
            refine wpAny_ready (rs := [18]) (by kernel_rfl) (by simp) ?_
            refine AllReady.cons rfl (fun K hK => ?_) AllReady.nil
            (go_simp; go_at_call 16; (with_reducible refine (unhide HNab _ HMb.out.nd).mono ?_); rintro e wc ⟨rfl, hbc⟩; have HMc := hide (HMb.out.below' hbc); have qc := HMc.out.box.c0; have hPc := HMc.out.box.lt)
            try go_simp
            first | (refine hK _ _ ?_; clear hK K) | skip
            refine wpAny_take (i := 21) (v := ?_) rfl (by kernel_rfl) (by kernel_rfl) (by kernel_rfl) (fun _ _ _ h => h) (Or.inl ⟨by rfl, ?_⟩) ?_
            rotate_left
            · intro w; go_simp <;> with_reducible rfl
            try go_simp
            refine wpAny_take (i := 22) (v := ?_) rfl (by kernel_rfl) (by kernel_rfl) (by kernel_rfl) (fun _ _ _ h => h) (Or.inl ⟨by rfl, ?_⟩) ?_
            rotate_left
            · intro w; go_simp <;> with_reducible rfl
            try go_simp
            refine wpAny_take (i := 23) (v := ?_) rfl (by kernel_rfl) (by kernel_rfl) (by kernel_rfl) (fun _ _ _ h => h) (Or.inl ⟨by rfl, ?_⟩) ?_
            rotate_left
            · intro w; go_simp <;> with_reducible rfl
            try go_simp
            refine wpAny_take (i := 24) (v := ?_) rfl (by kernel_rfl) (by kernel_rfl) (by kernel_rfl) (fun _ _ _ h => h) (Or.inl ⟨by rfl, ?_⟩) ?_
            rotate_left
            · intro w; go_simp <;> with_reducible rfl
            try go_simp
            refine wpAny_take (i := 26) (v := ?_) rfl (by kernel_rfl) (by kernel_rfl) (by kernel_rfl) (fun _ _ _ h => h) (Or.inl ⟨by rfl, ?_⟩) ?_
            rotate_left
            · intro w; go_simp <;> with_reducible rfl
            try go_simp
            refine wpAny_take (i := 27) (v := ?_) rfl (by kernel_rfl) (by kernel_rfl) (by kernel_rfl) (fun _ _ _ h => h) (Or.inl ⟨by rfl, ?_⟩) ?_
            rotate_left
            · intro w; go_simp <;> with_reducible rfl
            try go_simp
            refine wpAny_ready (rs := [25]) (by kernel_rfl) (by simp) ?_
            refine AllReady.cons rfl (fun K hK => ?_) AllReady.nil
            go_simp
            first | (refine hK _ _ ?_; clear hK K) | skip
            refine wpAny_ready (rs := [28]) (by kernel_rfl) (by simp) ?_
            refine AllReady.cons rfl (fun K hK => ?_) AllReady.nil
            (go_simp; go_at_call 26; (with_reducible refine (unhide HHba _ HMc.out.nd).mono ?_); rintro e wz ⟨rfl, hbz⟩; have HMz := hide (HMc.out.below' hbz); have qz := HMz.out.box.c0; have hPz := HMz.out.box.lt)
            try go_simp
            first | (refine hK _ _ ?_; clear hK K) | skip
            refine wpAny_take (i := 29) (v := ?_) rfl (by kernel_rfl) (by kernel_rfl) (by kernel_rfl) (fun _ _ _ h => h) (Or.inl ⟨by rfl, ?_⟩) ?_
            rotate_left
            · intro w; go_simp <;> with_reducible rfl
            try go_simp
            refine wpAny_take (i := 30) (v := ?_) rfl (by kernel_rfl) (by kernel_rfl) (by kernel_rfl) (fun _ _ _ h => h) (Or.inl ⟨by rfl, ?_⟩) ?_
            rotate_left
            · intro w; go_simp <;> with_reducible rfl
            try go_simp
            refine wpAny_take (i := 31) (v := ?_) rfl (by kernel_rfl) (by kernel_rfl) (by kernel_rfl) (fun _ _ _ h => h) (Or.inl ⟨by rfl, ?_⟩) ?_
            rotate_left
            · intro w; go_simp <;> with_reducible rfl
            try go_simp
            refine wpAny_take (i := 32) (v := ?_) rfl (by kernel_rfl) (by kernel_rfl) (by kernel_rfl) (fun _ _ _ h => h) (Or.inl ⟨by rfl, ?_⟩) ?_
            rotate_left
            · intro w; go_simp <;> with_reducible rfl
            try go_simp
            refine wpAny_take (i := 33) (v := ?_) rfl (by kernel_rfl) (by kernel_rfl) (by kernel_rfl) (fun _ _ _ h => h) (Or.inl ⟨by rfl, ?_⟩) ?_
            rotate_left
            · intro w; go_simp <;> with_reducible rfl
            try go_simp
            refine wpAny_take (i := 34) (v := ?_) rfl (by kernel_rfl) (by kernel_rfl) (by kernel_rfl) (fun _ _ _ h => h) (Or.inl ⟨by rfl, ?_⟩) ?_
            rotate_left
            · intro w; go_simp <;> with_reducible rfl
            try go_simp
            refine wpAny_take (i := 35) (v := ?_) rfl (by kernel_rfl) (by kernel_rfl) (by kernel_rfl) (fun _ _ _ h => h) (Or.inl ⟨by rfl, ?_⟩) ?_
            rotate_left
            · intro w; go_simp <;> with_reducible rfl
            try go_simp
            refine wpAny_take (i := 36) (v := ?_) rfl (by kernel_rfl) (by kernel_rfl) (by kernel_rfl) (fun _ _ _ h => h) (Or.inl ⟨by rfl, ?_⟩) ?_
            rotate_left
            · intro w; go_simp <;> with_reducible rfl
            try go_simp
            refine wpAny_take (i := 37) (v := ?_) rfl (by kernel_rfl) (by kernel_rfl) (by kernel_rfl) (fun _ _ _ h => h) (Or.inl ⟨by rfl, ?_⟩) ?_
            rotate_left
            · intro w; go_simp <;> with_reducible rfl
            try go_simp
            refine wpAny_take (i := 38) (v := ?_) rfl (by kernel_rfl) (by kernel_rfl) (by kernel_rfl) (fun _ _ _ h => h) (Or.inl ⟨by rfl, ?_⟩) ?_
            rotate_left
            · intro w; go_simp <;> with_reducible rfl
            try go_simp
            refine wpAny_done (by kernel_rfl) ?_ _
            go_wp2_with fail
            go_meet
            exact ⟨rfl, HMz.out⟩
        refine AllReady.cons rfl (fun K hK => ?_) AllReady.nil
        · go_simp
          first | (refine hK _ _ ?_; clear hK K) | skip
          refine wpAny_ready (rs := [4]) (by kernel_rfl) (by simp) ?_
          refine AllReady.cons rfl (fun K hK => ?_) AllReady.nil
          go_simp
          first | (refine hK _ _ ?_; clear hK K) | skip
          refine wpAny_ready (rs := [7]) (by kernel_rfl) (by simp) ?_
          refine AllReady.cons rfl (fun K hK => ?_) AllReady.nil
          (go_simp; go_at_call 16; (with_reducible refine (unhide HNab _ HMd.out.nd).mono ?_); rintro e wa ⟨rfl, hba⟩; have HMa := hide (HMd.out.below' hba); have qa := HMa.out.box.c0; have hPa := HMa.out.box.lt)
          try go_simp
          first | (refine hK _ _ ?_; clear hK K) | skip
          refine wpAny_ready (rs := [11]) (by kernel_rfl) (by simp) ?_
          refine AllReady.cons rfl (fun K hK => ?_) AllReady.nil
          (go_simp; go_at_call 16; (with_reducible refine (unhide HNba _ HMa.out.nd).mono ?_); rintro e wb ⟨rfl, hbb⟩; have HMb := hide (HMa.out.below' hbb); have qb := HMb.out.box.c0; have hPb := HMb.out.box.lt)
          try go_simp
          first | (refine hK _ _ ?_; clear hK K) | skip
          refine wpAny_take (i := 12) (v := ?_) rfl (by kernel_rfl) (by kernel_rfl) (by kernel_rfl) (fun _ _ _ h => h) (Or.inl ⟨by rfl, ?_⟩) ?_
          rotate_left
          · intro w; go_simp <;> with_reducible rfl
          try go_simp
          refine wpAny_take (i := 13) (v := ?_) rfl (by kernel_rfl) (by kernel_rfl) (by kernel_rfl) (fun _ _ _ h => h) (Or.inl ⟨by rfl, ?_⟩) ?_
          rotate_left
          · intro w; go_simp <;> with_reducible rfl
          try go_simp
          refine wpAny_take (i := 14) (v := ?_) rfl (by kernel_rfl) (by kernel_rfl) (by kernel_rfl) (fun _ _ _ h => h) (Or.inl ⟨by rfl, ?_⟩) ?_
          rotate_left
          · intro w; go_simp <;> with_reducible rfl
          try go_simp
          refine wpAny_take (i := 16) (v := ?_) rfl (by kernel_rfl) (by kernel_rfl) (by kernel_rfl) (fun _ _ _ h => h) (Or.inl ⟨by rfl, ?_⟩) ?_
          rotate_left
          · intro w; go_simp <;> with_reducible rfl
          try go_simp
          refine wpAny_take (i := 17) (v := ?_) rfl (by kernel_rfl) (by kernel_rfl) (by kernel_rfl) (fun _ _ _ h => h) (Or.inl ⟨by rfl, ?_⟩) ?_
          rotate_left
          · intro w; go_simp <;> with_reducible rfl
          try go_simp
          refine wpAny_take (i := 19) (v := ?_) rfl (by kernel_rfl) (by kernel_rfl) (by kernel_rfl) (fun _ _ _ h => h) (Or.inl ⟨by rfl, ?_⟩) ?_
          rotate_left
          · intro w; go_simp <;> with_reducible rfl
          try go_simp
          refine wpAny_take (i := 20) (v := ?_) rfl (by kernel_rfl) (by kernel_rfl) (by kernel_rfl) (fun _ _ _ h => h) (Or.inl ⟨by rfl, ?_⟩) ?_
          rotate_left
          · intro w; go_simp <;> with_reducible rfl
          try go_simp
          refine wpAny_ready (rs := [15]) (by kernel_rfl) (by simp) ?_
          refine AllReady.cons rfl (fun K hK => ?_) AllReady.nil
          go_simp
          first | (refine hK _ _ ?_; clear hK K) | skip
          refine wpAny_ready (rs := [18]) (by kernel_rfl) (by simp) ?_
          refine AllReady.cons rfl (fun K hK => ?_) AllReady.nil
          (go_simp; go_at_call 16; (with_reducible refine (unhide HNab _ HMb.out.nd).mono ?_); rintro e wc ⟨rfl, hbc⟩; have HMc := hide (HMb.out.below' hbc); have qc := HMc.out.box.c0; have hPc := HMc.out.box.lt)
          try go_simp
          first | (refine hK _ _ ?_; clear hK K) | skip
          refine wpAny_take (i := 21) (v := ?_) rfl (by kernel_rfl) (by kernel_rfl) (by kernel_rfl) (fun _ _ _ h => h) (Or.inl ⟨by rfl, ?_⟩) ?_
          rotate_left
          · intro w; go_simp <;> with_reducible rfl
          try go_simp
          refine wpAny_take (i := 22) (v := ?_) rfl (by kernel_rfl) (by kernel_rfl) (by kernel_rfl) (fun _ _ _ h => h) (Or.inl ⟨by rfl, ?_⟩) ?_
          rotate_left
          · intro w; go_simp <;> with_reducible rfl
          try go_simp
          refine wpAny_take (i := 23) (v := ?_) rfl (by kernel_rfl) (by kernel_rfl) (by kernel_rfl) (fun _ _ _ h => h) (Or.inl ⟨by rfl, ?_⟩) ?_
          rotate_left
          · intro w; go_simp <;> with_reducible rfl
          try go_simp
          refine wpAny_take (i := 24) (v := ?_) rfl (by kernel_rfl) (by kernel_rfl) (by kernel_rfl) (fun _ _ _ h => h) (Or.inl ⟨by rfl, ?_⟩) ?_
          rotate_left
          · intro w; go_simp <;> with_reducible rfl
          try go_simp
          refine wpAny_take (i := 26) (v := ?_) rfl (by kernel_rfl) (by kernel_rfl) (by kernel_rfl) (fun _ _ _ h => h) (Or.inl ⟨by rfl, ?_⟩) ?_
          rotate_left
          · intro w; go_simp <;> with_reducible rfl
          try go_simp
          refine wpAny_take (i := 27) (v := ?_) rfl (by kernel_rfl) (by kernel_rfl) (by kernel_rfl) (fun _ _ _ h => h) (Or.inl ⟨by rfl, ?_⟩) ?_
          rotate_left
          · intro w; go_simp <;> with_reducible rfl
          try go_simp
          refine wpAny_ready (rs := [25]) (by kernel_rfl) (by simp) ?_
          refine AllReady.cons rfl (fun K hK => ?_) AllReady.nil
          go_simp
          first | (refine hK _ _ ?_; clear hK K) | skip
          refine wpAny_ready (rs := [28]) (by kernel_rfl) (by simp) ?_
          refine AllReady.cons rfl (fun K hK => ?_) AllReady.nil
          (go_simp; go_at_call 26; (with_reducible refine (unhide HHba _ HMc.out.nd).mono ?_); rintro e wz ⟨rfl, hbz⟩; have HMz := hide (HMc.out.below' hbz); have qz := HMz.out.box.c0; have hPz := HMz.out.box.lt)
          try go_simp
          first | (refine hK _ _ ?_; clear hK K) | skip
          refine wpAny_take (i := 29) (v := ?_) rfl (by kernel_rfl) (by kernel_rfl) (by kernel_rfl) (fun _ _ _ h => h) (Or.inl ⟨by rfl, ?_⟩) ?_
          rotate_left
          · intro w; go_simp <;> with_reducible rfl
          try go_simp
          refine wpAny_take (i := 30) (v := ?_) rfl (by kernel_rfl) (by kernel_rfl) (by kernel_rfl) (fun _ _ _ h => h) (Or.inl ⟨by rfl, ?_⟩) ?_
          rotate_left
          · intro w; go_simp <;> with_reducible rfl
          try go_simp
          refine wpAny_take (i := 31) (v := ?_) rfl (by kernel_rfl) (by kernel_rfl) (by kernel_rfl) (fun _ _ _ h => h) (Or.inl ⟨by rfl, ?_⟩) ?_
          rotate_left
          · intro w; go_simp <;> with_reducible rfl
          try go_simp
          refine wpAny_take (i := 32) (v := ?_) rfl (by kernel_rfl) (by kernel_rfl) (by kernel_rfl) (fun _ _ _ h => h) (Or.inl ⟨by rfl, ?_⟩) ?_
          rotate_left
          · intro w; go_simp <;> with_reducible rfl
          try go_simp
          refine wpAny_take (i := 33) (v := ?_) rfl (by kernel_rfl) (by kernel_rfl) (by kernel_rfl) (fun _ _ _ h => h) (Or.inl ⟨by rfl, ?_⟩) ?_
          rotate_left
          · intro w; go_simp <;> with_reducible rfl
          try go_simp
          refine wpAny_take (i := 34) (v := ?_) rfl (by kernel_rfl) (by kernel_rfl) (by kernel_rfl) (fun _ _ _ h => h) (Or.inl ⟨by rfl, ?_⟩) ?_
          rotate_left
          · intro w; go_simp <;> with_reducible rfl
          try go_simp
          refine wpAny_take (i := 35) (v := ?_) rfl (by kernel_rfl) (by kernel_rfl) (by kernel_rfl) (fun _ _ _ h => h) (Or.inl ⟨by rfl, ?_⟩) ?_
          rotate_left
          · intro w; go_simp <;> with_reducible rfl
          try go_simp
          refine wpAny_take (i := 36) (v := ?_) rfl (by kernel_rfl) (by kernel_rfl) (by kernel_rfl) (fun _ _ _ h => h) (Or.inl ⟨by rfl, ?_⟩) ?_
          rotate_left
          · intro w; go_simp <;> with_reducible rfl
          try go_simp
          refine wpAny_take (i := 37) (v := ?_) rfl (by kernel_rfl) (by kernel_rfl) (by kernel_rfl) (fun _ _ _ h => h) (Or.inl ⟨by rfl, ?_⟩) ?_
          rotate_left
          · intro w; go_simp <;> with_reducible rfl
          try go_simp
          refine wpAny_take (i := 38) (v := ?_) rfl (by kernel_rfl) (by kernel_rfl) (by kernel_rfl) (fun _ _ _ h => h) (Or.inl ⟨by rfl, ?_⟩) ?_
          rotate_left
          · intro w; go_simp <;> with_reducible rfl
          try go_simp
          refine wpAny_done (by kernel_rfl) ?_ _
          go_wp2_with fail
          go_meet
          exact ⟨rfl, HMz.out⟩
      case rest =>
        obtain ⟨rfl, hMc⟩ := hcut
        clear HMd HM6 q6 hP6 HNab HNba HHba f7
        have q0 := hMc.box.c0
        have hPc := hMc.box.lt
        have HMd := hide (show ML w1.heap.size w.heap.size w G k c' m wc.drew from hMc.below' (by (repeat' (first | (with_reducible exact Below.refl _ _) | (with_reducible assumption) | (with_reducible refine Below.alloc ?_ ?_ _) | (with_reducible refine below_ext ?_ ?_ _ _) | (with_reducible refine Below.setCell ?_ ?_ _) | (with_reducible refine Below.drew ?_) | (with_reducible refine below_drewN ?_ _))); all_goals (first | omega | (simp; done) | (simp; omega))))
        obtain ⟨x, hx, hin⟩ := hS.home hak
        have hcl := ciL_len x 0 m
        have hml := hS.len
        have HA := hide (fun W h => iAreaOf_any W (some ⟨G, 0, none⟩) k c' w.heap.size W.heap.size m (a : Int) h (by omega))
        rw [hx] at HA
        have HC := hide (fun W h => iCia_any W (some ⟨G, 0, none⟩) k c' w.heap.size W.heap.size m x h (by omega))
        have HK := hide (fun W Z z lo hi h => contains_any W Z (ciL x 0 m).length z lo hi (ciL x 0 m) (a : Int) h (by omega))
        rw [hin] at HK
        generalize (ciL x 0 m).length = cl at HC HK
        generalize ciL x 0 m = cs at HC HK
        have f8 := F8.out
        have f9 := F9.out
        have f11 := F11.out
        have f12 := F12.out
        clear hMc hcl hml hx hin _hl hc hn hn2 h8 hS hsum HRd hak hbk hdk hk2 hs1 hP
        by_cases hab : ab < 0
        · clear f9 f11 f12
          go_wp2_with fail
          refine wp_region_any (by kernel_rfl) ?_
          try (change wpAny _ _ _ _ _ _ _ (World.drew _))
          refine wpAny_take (i := 0) (v := ?_) rfl (by kernel_rfl) (by kernel_rfl) (by kernel_rfl) (fun _ _ _ h => h) (Or.inl ⟨by rfl, ?_⟩) ?_
          rotate_left
          · intro w; go_simp <;> with_reducible rfl
          try go_simp
          refine wpAny_take (i := 1) (v := ?_) rfl (by kernel_rfl) (by kernel_rfl) (by kernel_rfl) (fun _ _ _ h => h) (Or.inl ⟨by rfl, ?_⟩) ?_
          rotate_left
          · intro w; go_simp <;> with_reducible rfl
          try go_simp
          refine wpAny_take (i := 2) (v := ?_) rfl (by kernel_rfl) (by kernel_rfl) (by kernel_rfl) (fun _ _ _ h => h) (Or.inl ⟨by rfl, ?_⟩) ?_
          rotate_left
          · intro w; go_simp <;> with_reducible rfl
          try go_simp
          refine wpAny_take (i := 3) (v := ?_) rfl (by kernel_rfl) (by kernel_rfl) (by kernel_rfl) (fun _ _ _ h => h) (Or.inl ⟨by rfl, ?_⟩) ?_
          rotate_left
          · intro w; go_simp <;> with_reducible rfl
          try go_simp
          refine wpAny_take (i := 6) (v := ?_) rfl (by kernel_rfl) (by kernel_rfl) (by kernel_rfl) (fun _ _ _ h => h) (Or.inl ⟨by rfl, ?_⟩) ?_
          rotate_left
          · intro w; go_simp <;> with_reducible rfl
          try go_simp
          refine wpAny_take (i := 9) (v := ?_) rfl (by kernel_rfl) (by kernel_rfl) (by kernel_rfl) (fun _ _ _ h => h) (Or.inl ⟨by rfl, ?_⟩) ?_
          rotate_left
          · intro w; go_simp <;> with_reducible rfl
          try go_simp
          refine wpAny_ready (rs := [4, 5]) (by kernel_rfl) (by simp) ?_
          refine AllReady.cons rfl (fun K hK => ?_) ?_
          · go_simp
            first | (refine hK _ _ ?_; clear hK K) | skip
            refine wpAny_ready (rs := [5]) (by kernel_rfl) (by simp) ?_
            refine AllReady.cons rfl (fun K hK => ?_) AllReady.nil
            go_simp
            first | (refine hK _ _ ?_; clear hK K) | skip
            refine wpAny_ready (rs := [7]) (by kernel_rfl) (by simp) ?_
            refine AllReady.cons rfl (fun K hK => ?_) AllReady.nil
            (go_simp; go_at_call 13; (with_reducible refine (unhide HA _ HMd.out.nd).mono ?_); rintro e wa ⟨rfl, hba⟩; have HMa := hide (HMd.out.below' hba); have qa := HMa.out.box.c0; have hPa := HMa.out.box.lt)
            try go_simp
            first | (refine hK _ _ ?_; clear hK K) | skip
            refine wpAny_ready (rs := [8]) (by kernel_rfl) (by simp) ?_
            refine AllReady.cons rfl (fun K hK => ?_) AllReady.nil
            (go_simp; go_at_call 18; (with_reducible refine (unhide HC _ HMa.out.nd).mono ?_); rintro e wb ⟨A3, c3, rfl, _, _, ho3, hbb⟩; have HO3 := hide ho3.rd; clear ho3; have HMb := hide (HMa.out.below' hbb); have qb := HMb.out.box.c0; have hPb := HMb.out.box.lt)
            try go_simp
            first | (refine hK _ _ ?_; clear hK K) | skip
            refine wpAny_ready (rs := [10]) (by kernel_rfl) (by simp) ?_
            refine AllReady.cons rfl (fun K hK => ?_) AllReady.nil
            (go_simp; go_at_call 32; (with_reducible refine (unhide HK _ _ _ _ _ HO3.out).mono ?_); rintro e w' ⟨rfl, rfl⟩)
            try go_simp
            first | (refine hK _ _ ?_; clear hK K) | skip
            refine wpAny_take (i := 11) (v := ?_) rfl (by kernel_rfl) (by kernel_rfl) (by kernel_rfl) (fun _ _ _ h => h) (Or.inl ⟨by rfl, ?_⟩) ?_
            rotate_left
            · intro w; go_simp <;> with_reducible rfl
            try go_simp
            refine wpAny_take (i := 12) (v := ?_) rfl (by kernel_rfl) (by kernel_rfl) (by kernel_rfl) (fun _ _ _ h => h) (Or.inl ⟨by rfl, ?_⟩) ?_
            rotate_left
            · intro w; go_simp <;> with_reducible rfl
            try go_simp
            refine wpAny_take (i := 13) (v := ?_) rfl (by kernel_rfl) (by kernel_rfl) (by kernel_rfl) (fun _ _ _ h => h) (Or.inl ⟨by rfl, ?_⟩) ?_
            rotate_left
            · intro w; go_simp <;> with_reducible rfl
            try go_simp
            refine wpAny_take (i := 14) (v := ?_) rfl (by kernel_rfl) (by kernel_rfl) (by kernel_rfl) (fun _ _ _ h => h) (Or.inl ⟨by rfl, ?_⟩) ?_
            rotate_left
            · intro w; go_simp <;> with_reducible rfl
            try go_simp
            refine wpAny_take (i := 15) (v := ?_) rfl (by kernel_rfl) (by kernel_rfl) (by kernel_rfl) (fun _ _ _ h => h) (Or.inl ⟨by rfl, ?_⟩) ?_
            rotate_left
            · intro w; go_simp <;> with_reducible rfl
            try go_simp
            refine wpAny_take (i := 16) (v := undef) rfl (by kernel_rfl) (by kernel_rfl) (by kernel_rfl) (fun _ _ _ h => h) (Or.inr ⟨by rfl, rfl⟩) ?_
            try go_simp
            refine wpAny_take (i := 17) (v := undef) rfl (by kernel_rfl) (by kernel_rfl) (by kernel_rfl) (fun _ _ _ h => h) (Or.inr ⟨by rfl, rfl⟩) ?_
            try go_simp
            refine wpAny_take (i := 18) (v := ?_) rfl (by kernel_rfl) (by kernel_rfl) (by kernel_rfl) (fun _ _ _ h => h) (Or.inl ⟨by rfl, ?_⟩) ?_
            rotate_left
            · intro w; go_simp <;> with_reducible rfl
            try go_simp
            refine wpAny_take (i := 19) (v := ?_) rfl (by kernel_rfl) (by kernel_rfl) (by kernel_rfl) (fun _ _ _ h => h) (Or.inl ⟨by rfl, ?_⟩) ?_
            rotate_left
            · intro w; go_simp <;> with_reducible rfl
            try go_simp
            refine wpAny_take (i := 20) (v := undef) rfl (by kernel_rfl) (by kernel_rfl) (by kernel_rfl) (fun _ _ _ h => h) (Or.inr ⟨by rfl, rfl⟩) ?_
            try go_simp
            refine wpAny_take (i := 21) (v := undef) rfl (by kernel_rfl) (by kernel_rfl) (by kernel_rfl) (fun _ _ _ h => h) (Or.inr ⟨by rfl, rfl⟩) ?_
            try go_simp
            refine wpAny_take (i := 22) (v := undef) rfl (by kernel_rfl) (by kernel_rfl) (by kernel_rfl) (fun _ _ _ h => h) (Or.inr ⟨by rfl, rfl⟩) ?_
            try go_simp
            refine wpAny_take (i := 23) (v := undef) rfl (by kernel_rfl) (by kernel_rfl) (by kernel_rfl) (fun _ _ _ h => h) (Or.inr ⟨by rfl, rfl⟩) ?_
            try go_simp
            refine wpAny_take (i := 24) (v := undef) rfl (by kernel_rfl) (by kernel_rfl) (by kernel_rfl) (fun _ _ _ h => h) (Or.inr ⟨by rfl, rfl⟩) ?_
            try go_simp
            refine wpAny_take (i := 25) (v := undef) rfl (by kernel_rfl) (by kernel_rfl) (by kernel_rfl) (fun _ _ _ h => h) (Or.inr ⟨by rfl, rfl⟩) ?_
            try go_simp
            refine wpAny_take (i := 26) (v := undef) rfl (by kernel_rfl) (by kernel_rfl) (by kernel_rfl) (fun _ _ _ h => h) (Or.inr ⟨by rfl, rfl⟩) ?_
            try go_simp
            refine wpAny_take (i := 27) (v := undef) rfl (by kernel_rfl) (by kernel_rfl) (by kernel_rfl) (fun _ _ _ h => h) (Or.inr ⟨by rfl, rfl⟩) ?_
            try go_simp
            refine wpAny_take (i := 28) (v := undef) rfl (by kernel_rfl) (by kernel_rfl) (by kernel_rfl) (fun _ _ _ h => h) (Or.inr ⟨by rfl, rfl⟩) ?_
            try go_simp
            refine wpAny_take (i := 29) (v := ?_) rfl (by kernel_rfl) (by kernel_rfl) (by kernel_rfl) (fun _ _ _ h => h) (Or.inl ⟨by rfl, ?_⟩) ?_
            rotate_left
            · intro w; go_simp <;> with_reducible rfl
            try go_simp
            refine wpAny_take (i := 30) (v := ?_) rfl (by kernel_rfl) (by kernel_rfl) (by kernel_rfl) (fun _ _ _ h => h) (Or.inl ⟨by rfl, ?_⟩) ?_
            rotate_left
            · intro w; go_simp <;> with_reducible rfl
            try go_simp
            refine wpAny_take (i := 31) (v := ?_) rfl (by kernel_rfl) (by kernel_rfl) (by kernel_rfl) (fun _ _ _ h => h) (Or.inl ⟨by rfl, ?_⟩) ?_
            rotate_left
            · intro w; go_simp <;> with_reducible rfl
            try go_simp
            refine wpAny_done (by kernel_rfl) ?_ _
            go_wp2_with fail
            go_ret
            exact ⟨rfl, HMb.out.bel⟩
          refine AllReady.cons rfl (fun K hK => ?_) AllReady.nil
          · go_simp
            first | (refine hK _ _ ?_; clear hK K) | skip
            refine wpAny_ready (rs := [4, 7]) (by kernel_rfl) (by simp) ?_
            refine AllReady.cons rfl (fun K hK => ?_) ?_
            · go_simp
              first | (refine hK _ _ ?_; clear hK K) | skip
              refine wpAny_ready (rs := [7]) (by kernel_rfl) (by simp) ?_
              refine AllReady.cons rfl (fun K hK => ?_) AllReady.nil
              (go_simp; go_at_call 13; (with_reducible refine (unhide HA _ HMd.out.nd).mono ?_); rintro e wa ⟨rfl, hba⟩; have HMa := hide (HMd.out.below' hba); have qa := HMa.out.box.c0; have hPa := HMa.out.box.lt)
              try go_simp
              first | (refine hK _ _ ?_; clear hK K) | skip
              refine wpAny_ready (rs := [8]) (by kernel_rfl) (by simp) ?_
              refine AllReady.cons rfl (fun K hK => ?_) AllReady.nil
              (go_simp; go_at_call 18; (with_reducible refine (unhide HC _ HMa.out.nd).mono ?_); rintro e wb ⟨A3, c3, rfl, _, _, ho3, hbb⟩; have HO3 := hide ho3.rd; clear ho3; have HMb := hide (HMa.out.below' hbb); have qb := HMb.out.box.c0; have hPb := HMb.out.box.lt)
              try go_simp
              first | (refine hK _ _ ?_; clear hK K) | skip
              refine wpAny_ready (rs := [10]) (by kernel_rfl) (by simp) ?_
              refine AllReady.cons rfl (fun K hK => ?_) AllReady.nil
              (go_simp; go_at_call 32; (with_reducible refine (unhide HK _ _ _ _ _ HO3.out).mono ?_); rintro e w' ⟨rfl, rfl⟩)
              try go_simp
              first | (refine hK _ _ ?_; clear hK K) | skip
              refine wpAny_take (i := 11) (v := ?_) rfl (by kernel_rfl) (by kernel_rfl) (by kernel_rfl) (fun _ _ _ h => h) (Or.inl ⟨by rfl, ?_⟩) ?_
              rotate_left
              · intro w; go_simp <;> with_reducible rfl
              try go_simp
              refine wpAny_take (i := 12) (v := ?_) rfl (by kernel_rfl) (by kernel_rfl) (by kernel_rfl) (fun _ _ _ h => h) (Or.inl ⟨by rfl, ?_⟩) ?_
              rotate_left
              · intro w; go_simp <;> with_reducible rfl
              try go_simp
              refine wpAny_take (i := 13) (v := ?_) rfl (by kernel_rfl) (by kernel_rfl) (by kernel_rfl) (fun _ _ _ h => h) (Or.inl ⟨by rfl, ?_⟩) ?_
              rotate_left
              · intro w; go_simp <;> with_reducible rfl
              try go_simp
              refine wpAny_take (i := 14) (v := ?_) rfl (by kernel_rfl) (by kernel_rfl) (by kernel_rfl) (fun _ _ _ h => h) (Or.inl ⟨by rfl, ?_⟩) ?_
              rotate_left
              · intro w; go_simp <;> with_reducible rfl
              try go_simp
              refine wpAny_take (i := 15) (v := ?_) rfl (by kernel_rfl) (by kernel_rfl) (by kernel_rfl) (fun _ _ _ h => h) (Or.inl ⟨by rfl, ?_⟩) ?_
              rotate_left
              · intro w; go_simp <;> with_reducible rfl
              try go_simp
              refine wpAny_take (i := 16) (v := undef) rfl (by kernel_rfl) (by kernel_rfl) (by kernel_rfl) (fun _ _ _ h => h) (Or.inr ⟨by rfl, rfl⟩) ?_
              try go_simp
              refine wpAny_take (i := 17) (v := undef) rfl (by kernel_rfl) (by kernel_rfl) (by kernel_rfl) (fun _ _ _ h => h) (Or.inr ⟨by rfl, rfl⟩) ?_
              try go_simp
              refine wpAny_take (i := 18) (v := ?_) rfl (by kernel_rfl) (by kernel_rfl) (by kernel_rfl) (fun _ _ _ h => h) (Or.inl ⟨by rfl, ?_⟩) ?_
              rotate_left
              · intro w; go_simp <;> with_reducible rfl
              try go_simp
              refine wpAny_take (i := 19) (v := ?_) rfl (by kernel_rfl) (by kernel_rfl) (by kernel_rfl) (fun _ _ _ h => h) (Or.inl ⟨by rfl, ?_⟩) ?_
              rotate_left
              · intro w; go_simp <;> with_reducible rfl
              try go_simp
              refine wpAny_take (i := 20) (v := undef) rfl (by kernel_rfl) (by kernel_rfl) (by kernel_rfl) (fun _ _ _ h => h) (Or.inr ⟨by rfl, rfl⟩) ?_
              try go_simp
              refine wpAny_take (i := 21) (v := undef) rfl (by kernel_rfl) (by kernel_rfl) (by kernel_rfl) (fun _ _ _ h => h) (Or.inr ⟨by rfl, rfl⟩) ?_
              try go_simp
              refine wpAny_take (i := 22) (v := undef) rfl (by kernel_rfl) (by kernel_rfl) (by kernel_rfl) (fun _ _ _ h => h) (Or.inr ⟨by rfl, rfl⟩) ?_
              try go_simp
              refine wpAny_take (i := 23) (v := undef) rfl (by kernel_rfl) (by kernel_rfl) (by kernel_rfl) (fun _ _ _ h => h) (Or.inr ⟨by rfl, rfl⟩) ?_
              try go_simp
              refine wpAny_take (i := 24) (v := undef) rfl (by kernel_rfl) (by kernel_rfl) (by kernel_rfl) (fun _ _ _ h => h) (Or.inr ⟨by rfl, rfl⟩) ?_
              try go_simp
              refine wpAny_take (i := 25) (v := undef) rfl (by kernel_rfl) (by kernel_rfl) (by kernel_rfl) (fun _ _ _ h => h) (Or.inr ⟨by rfl, rfl⟩) ?_
              try go_simp
              refine wpAny_take (i := 26) (v := undef) rfl (by kernel_rfl) (by kernel_rfl) (by kernel_rfl) (fun _ _ _ h => h) (Or.inr ⟨by rfl, rfl⟩) ?_
              try go_simp
              refine wpAny_take (i := 27) (v := undef) rfl (by kernel_rfl) (by kernel_rfl) (by kernel_rfl) (fun _ _ _ h => h) (Or.inr ⟨by rfl, rfl⟩) ?_
              try go_simp
              refine wpAny_take (i := 28) (v := undef) rfl (by kernel_rfl) (by kernel_rfl) (by kernel_rfl) (fun _ _ _ h => h) (Or.inr ⟨by rfl, rfl⟩) ?_
              try go_simp
              refine wpAny_take (i := 29) (v := ?_) rfl (by kernel_rfl) (by kernel_rfl) (by kernel_rfl) (fun _ _ _ h => h) (Or.inl ⟨by rfl, ?_⟩) ?_
              rotate_left
              · intro w; go_simp <;> with_reducible rfl
              try go_simp
              refine wpAny_take (i := 30) (v := ?_) rfl (by kernel_rfl) (by kernel_rfl) (by kernel_rfl) (fun _ _ _ h => h) (Or.inl ⟨by rfl, ?_⟩) ?_
              rotate_left
              · intro w; go_simp <;> with_reducible rfl
              try go_simp
              refine wpAny_take (i := 31) (v := ?_) rfl (by kernel_rfl) (by kernel_rfl) (by kernel_rfl) (fun _ _ _ h => h) (Or.inl ⟨by rfl, ?_⟩) ?_
              rotate_left
              · intro w; go_simp <;> with_reducible rfl
              try go_simp
              refine wpAny_done (by kernel_rfl) ?_ _
              go_wp2_with fail
              go_ret
              exact ⟨rfl, HMb.out.bel⟩
            refine AllReady.cons rfl (fun K hK => ?_) AllReady.nil
            · (go_simp; go_at_call 13; (with_reducible refine (unhide HA _ HMd.out.nd).mono ?_); rintro e wa ⟨rfl, hba⟩; have HMa := hide (HMd.out.below' hba); have qa := HMa.out.box.c0; have hPa := HMa.out.box.lt)
              try go_simp
              first | (refine hK _ _ ?_; clear hK K) | skip
              refine wpAny_ready (rs := [4]) (by kernel_rfl) (by simp) ?_
              refine AllReady.cons rfl (fun K hK => ?_) AllReady.nil
              go_simp
              first | (refine hK _ _ ?_; clear hK K) | skip
              refine wpAny_ready (rs := [8]) (by kernel_rfl) (by simp) ?_
              refine AllReady.cons rfl (fun K hK => ?_) AllReady.nil
              (go_simp; go_at_call 18; (with_reducible refine (unhide HC _ HMa.out.nd).mono ?_); rintro e wb ⟨A3, c3, rfl, _, _, ho3, hbb⟩; have HO3 := hide ho3.rd; clear ho3; have HMb := hide (HMa.out.below' hbb); have qb := HMb.out.box.c0; have hPb := HMb.out.box.lt)
              try go_simp
              first | (refine hK _ _ ?_; clear hK K) | skip
              refine wpAny_ready (rs := [10]) (by kernel_rfl) (by simp) ?_
              refine AllReady.cons rfl (fun K hK => ?_) AllReady.nil
              (go_simp; go_at_call 32; (with_reducible refine (unhide HK _ _ _ _ _ HO3.out).mono ?_); rintro e w' ⟨rfl, rfl⟩)
              try go_simp
              first | (refine hK _ _ ?_; clear hK K) | skip
              refine wpAny_take (i := 11) (v := ?_) rfl (by kernel_rfl) (by kernel_rfl) (by kernel_rfl) (fun _ _ _ h => h) (Or.inl ⟨by rfl, ?_⟩) ?_
              rotate_left
              · intro w; go_simp <;> with_reducible rfl
              try go_simp
              refine wpAny_take (i := 12) (v := ?_) rfl (by kernel_rfl) (by kernel_rfl) (by kernel_rfl) (fun _ _ _ h => h) (Or.inl ⟨by rfl, ?_⟩) ?_
              rotate_left
              · intro w; go_simp <;> with_reducible rfl
              try go_simp
              refine wpAny_take (i := 13) (v := ?_) rfl (by kernel_rfl) (by kernel_rfl) (by kernel_rfl) (fun _ _ _ h => h) (Or.inl ⟨by rfl, ?_⟩) ?_
              rotate_left
              · intro w; go_simp <;> with_reducible rfl
              try go_simp
              refine wpAny_take (i := 14) (v := ?_) rfl (by kernel_rfl) (by kernel_rfl) (by kernel_rfl) (fun _ _ _ h => h) (Or.inl ⟨by rfl, ?_⟩) ?_
              rotate_left
              · intro w; go_simp <;> with_reducible rfl
              try go_simp
              refine wpAny_take (i := 15) (v := ?_) rfl (by kernel_rfl) (by kernel_rfl) (by kernel_rfl) (fun _ _ _ h => h) (Or.inl ⟨by rfl, ?_⟩) ?_
              rotate_left
              · intro w; go_simp <;> with_reducible rfl
              try go_simp
              refine wpAny_take (i := 16) (v := undef) rfl (by kernel_rfl) (by kernel_rfl) (by kernel_rfl) (fun _ _ _ h => h) (Or.inr ⟨by rfl, rfl⟩) ?_
              try go_simp
              refine wpAny_take (i := 17) (v := undef) rfl (by kernel_rfl) (by kernel_rfl) (by kernel_rfl) (fun _ _ _ h => h) (Or.inr ⟨by rfl, rfl⟩) ?_
              try go_simp
              refine wpAny_take (i := 18) (v := ?_) rfl (by kernel_rfl) (by kernel_rfl) (by kernel_rfl) (fun _ _ _ h => h) (Or.inl ⟨by rfl, ?_⟩) ?_
              rotate_left
              · intro w; go_simp <;> with_reducible rfl
              try go_simp
              refine wpAny_take (i := 19) (v := ?_) rfl (by kernel_rfl) (by kernel_rfl) (by kernel_rfl) (fun _ _ _ h => h) (Or.inl ⟨by rfl, ?_⟩) ?_
              rotate_left
              · intro w; go_simp <;> with_reducible rfl
              try go_simp
              refine wpAny_take (i := 20) (v := undef) rfl (by kernel_rfl) (by kernel_rfl) (by kernel_rfl) (fun _ _ _ h => h) (Or.inr ⟨by rfl, rfl⟩) ?_
              try go_simp
              refine wpAny_take (i := 21) (v := undef) rfl (by kernel_rfl) (by kernel_rfl) (by kernel_rfl) (fun _ _ _ h => h) (Or.inr ⟨by rfl, rfl⟩) ?_
              try go_simp
              refine wpAny_take (i := 22) (v := undef) rfl (by kernel_rfl) (by kernel_rfl) (by kernel_rfl) (fun _ _ _ h => h) (Or.inr ⟨by rfl, rfl⟩) ?_
              try go_simp
              refine wpAny_take (i := 23) (v := undef) rfl (by kernel_rfl) (by kernel_rfl) (by kernel_rfl) (fun _ _ _ h => h) (Or.inr ⟨by rfl, rfl⟩) ?_
              try go_simp
              refine wpAny_take (i := 24) (v := undef) rfl (by kernel_rfl) (by kernel_rfl) (by kernel_rfl) (fun _ _ _ h => h) (Or.inr ⟨by rfl, rfl⟩) ?_
              try go_simp
              refine wpAny_take (i := 25) (v := undef) rfl (by kernel_rfl) (by kernel_rfl) (by kernel_rfl) (fun _ _ _ h => h) (Or.inr ⟨by rfl, rfl⟩) ?_
              try go_simp
              refine wpAny_take (i := 26) (v := undef) rfl (by kernel_rfl) (by kernel_rfl) (by kernel_rfl) (fun _ _ _ h => h) (Or.inr ⟨by rfl, rfl⟩) ?_
              try go_simp
              refine wpAny_take (i := 27) (v := undef) rfl (by kernel_rfl) (by kernel_rfl) (by kernel_rfl) (fun _ _ _ h => h) (Or.inr ⟨by rfl, rfl⟩) ?_
              try go_simp
              refine wpAny_take (i := 28) (v := undef) rfl (by kernel_rfl) (by kernel_rfl) (by kernel_rfl) (fun _ _ _ h => h) (Or.inr ⟨by rfl, rfl⟩) ?_
              try go_simp
              refine wpAny_take (i := 29) (v := ?_) rfl (by kernel_rfl) (by kernel_rfl) (by kernel_rfl) (fun _ _ _ h => h) (Or.inl ⟨by rfl, ?_⟩) ?_
              rotate_left
              · intro w; go_simp <;> with_reducible rfl
              try go_simp
              refine wpAny_take (i := 30) (v := ?_) rfl (by kernel_rfl) (by kernel_rfl) (by kernel_rfl) (fun _ _ _ h => h) (Or.inl ⟨by rfl, ?_⟩) ?_
              rotate_left
              · intro w; go_simp <;> with_reducible rfl
              try go_simp
              refine wpAny_take (i := 31) (v := ?_) rfl (by kernel_rfl) (by kernel_rfl) (by kernel_rfl) (fun _ _ _ h => h) (Or.inl ⟨by rfl, ?_⟩) ?_
              rotate_left
              · intro w; go_simp <;> with_reducible rfl
              try go_simp
              refine wpAny_done (by kernel_rfl) ?_ _
              go_wp2_with fail
              go_ret
              exact ⟨rfl, HMb.out.bel⟩
        · have e1 : decide (ab < 0) = false := by simp; omega
          by_cases hbc : bc < 0
          · clear f9 f11 f12 hab
            go_wp2_with fail
            refine wp_region_any (by kernel_rfl) ?_
            try (change wpAny _ _ _ _ _ _ _ (World.drew _))
            refine wpAny_take (i := 0) (v := ?_) rfl (by kernel_rfl) (by kernel_rfl) (by kernel_rfl) (fun _ _ _ h => h) (Or.inl ⟨by rfl, ?_⟩) ?_
            rotate_left
            · intro w; go_simp <;> with_reducible rfl
            try go_simp
            refine wpAny_take (i := 1) (v := ?_) rfl (by kernel_rfl) (by kernel_rfl) (by kernel_rfl) (fun _ _ _ h => h) (Or.inl ⟨by rfl, ?_⟩) ?_
            rotate_left
            · intro w; go_simp <;> with_reducible rfl
            try go_simp
            refine wpAny_take (i := 2) (v := ?_) rfl (by kernel_rfl) (by kernel_rfl) (by kernel_rfl) (fun _ _ _ h => h) (Or.inl ⟨by rfl, ?_⟩) ?_
            rotate_left
            · intro w; go_simp <;> with_reducible rfl
            try go_simp
            refine wpAny_take (i := 3) (v := ?_) rfl (by kernel_rfl) (by kernel_rfl) (by kernel_rfl) (fun _ _ _ h => h) (Or.inl ⟨by rfl, ?_⟩) ?_
            rotate_left
            · intro w; go_simp <;> with_reducible rfl
            try go_simp
            refine wpAny_take (i := 6) (v := ?_) rfl (by kernel_rfl) (by kernel_rfl) (by kernel_rfl) (fun _ _ _ h => h) (Or.inl ⟨by rfl, ?_⟩) ?_
            rotate_left
            · intro w; go_simp <;> with_reducible rfl
            try go_simp
            refine wpAny_take (i := 9) (v := ?_) rfl (by kernel_rfl) (by kernel_rfl) (by kernel_rfl) (fun _ _ _ h => h) (Or.inl ⟨by rfl, ?_⟩) ?_
            rotate_left
            · intro w; go_simp <;> with_reducible rfl
            try go_simp
            refine wpAny_ready (rs := [4, 5]) (by kernel_rfl) (by simp) ?_
            refine AllReady.cons rfl (fun K hK => ?_) ?_
            · go_simp
              first | (refine hK _ _ ?_; clear hK K) | skip
              refine wpAny_ready (rs := [5]) (by kernel_rfl) (by simp) ?_
              refine AllReady.cons rfl (fun K hK => ?_) AllReady.nil
              go_simp
              first | (refine hK _ _ ?_; clear hK K) | skip
              refine wpAny_ready (rs := [7]) (by kernel_rfl) (by simp) ?_
              refine AllReady.cons rfl (fun K hK => ?_) AllReady.nil
              (go_simp; go_at_call 13; (with_reducible refine (unhide HA _ HMd.out.nd).mono ?_); rintro e wa ⟨rfl, hba⟩; have HMa := hide (HMd.out.below' hba); have qa := HMa.out.box.c0; have hPa := HMa.out.box.lt)
              try go_simp
              first | (refine hK _ _ ?_; clear hK K) | skip
              refine wpAny_ready (rs := [8]) (by kernel_rfl) (by simp) ?_
              refine AllReady.cons rfl (fun K hK => ?_) AllReady.nil
              (go_simp; go_at_call 18; (with_reducible refine (unhide HC _ HMa.out.nd).mono ?_); rintro e wb ⟨A3, c3, rfl, _, _, ho3, hbb⟩; have HO3 := hide ho3.rd; clear ho3; have HMb := hide (HMa.out.below' hbb); have qb := HMb.out.box.c0; have hPb := HMb.out.box.lt)
              try go_simp
              first | (refine hK _ _ ?_; clear hK K) | skip
              refine wpAny_ready (rs := [10]) (by kernel_rfl) (by simp) ?_
              refine AllReady.cons rfl (fun K hK => ?_) AllReady.nil
              (go_simp; go_at_call 32; (with_reducible refine (unhide HK _ _ _ _ _ HO3.out).mono ?_); rintro e w' ⟨rfl, rfl⟩)
              try go_simp
              first | (refine hK _ _ ?_; clear hK K) | skip
              refine wpAny_take (i := 11) (v := ?_) rfl (by kernel_rfl) (by kernel_rfl) (by kernel_rfl) (fun _ _ _ h => h) (Or.inl ⟨by rfl, ?_⟩) ?_
              rotate_left
              · intro w; go_simp <;> with_reducible rfl
              try go_simp
              refine wpAny_take (i := 12) (v := ?_) rfl (by kernel_rfl) (by kernel_rfl) (by kernel_rfl) (fun _ _ _ h => h) (Or.inl ⟨by rfl, ?_⟩) ?_
              rotate_left
              · intro w; go_simp <;> with_reducible rfl
              try go_simp
              refine wpAny_take (i := 13) (v := ?_) rfl (by kernel_rfl) (by kernel_rfl) (by kernel_rfl) (fun _ _ _ h => h) (Or.inl ⟨by rfl, ?_⟩) ?_
              rotate_left
              · intro w; go_simp <;> with_reducible rfl
              try go_simp
              refine wpAny_take (i := 14) (v := ?_) rfl (by kernel_rfl) (by kernel_rfl) (by kernel_rfl) (fun _ _ _ h => h) (Or.inl ⟨by rfl, ?_⟩) ?_
              rotate_left
              · intro w; go_simp <;> with_reducible rfl
              try go_simp
              refine wpAny_take (i := 15) (v := ?_) rfl (by kernel_rfl) (by kernel_rfl) (by kernel_rfl) (fun _ _ _ h => h) (Or.inl ⟨by rfl, ?_⟩) ?_
              rotate_left
              · intro w; go_simp <;> with_reducible rfl
              try go_simp
              refine wpAny_take (i := 16) (v := ?_) rfl (by kernel_rfl) (by kernel_rfl) (by kernel_rfl) (fun _ _ _ h => h) (Or.inl ⟨by rfl, ?_⟩) ?_
              rotate_left
              · intro w; go_simp <;> with_reducible rfl
              try go_simp
              refine wpAny_take (i := 17) (v := ?_) rfl (by kernel_rfl) (by kernel_rfl) (by kernel_rfl) (fun _ _ _ h => h) (Or.inl ⟨by rfl, ?_⟩) ?_
              rotate_left
              · intro w; go_simp <;> with_reducible rfl
              try go_simp
              refine wpAny_take (i := 18) (v := ?_) rfl (by kernel_rfl) (by kernel_rfl) (by kernel_rfl) (fun _ _ _ h => h) (Or.inl ⟨by rfl, ?_⟩) ?_
              rotate_left
              · intro w; go_simp <;> with_reducible rfl
              try go_simp
              refine wpAny_take (i := 19) (v := ?_) rfl (by kernel_rfl) (by kernel_rfl) (by kernel_rfl) (fun _ _ _ h => h) (Or.inl ⟨by rfl, ?_⟩) ?_
              rotate_left
              · intro w; go_simp <;> with_reducible rfl
              try go_simp
              refine wpAny_take (i := 20) (v := undef) rfl (by kernel_rfl) (by kernel_rfl) (by kernel_rfl) (fun _ _ _ h => h) (Or.inr ⟨by rfl, rfl⟩) ?_
              try go_simp
              refine wpAny_take (i := 21) (v := undef) rfl (by kernel_rfl) (by kernel_rfl) (by kernel_rfl) (fun _ _ _ h => h) (Or.inr ⟨by rfl, rfl⟩) ?_
              try go_simp
              refine wpAny_take (i := 22) (v := undef) rfl (by kernel_rfl) (by kernel_rfl) (by kernel_rfl) (fun _ _ _ h => h) (Or.inr ⟨by rfl, rfl⟩) ?_
              try go_simp
              refine wpAny_take (i := 23) (v := undef) rfl (by kernel_rfl) (by kernel_rfl) (by kernel_rfl) (fun _ _ _ h => h) (Or.inr ⟨by rfl, rfl⟩) ?_
              try go_simp
              refine wpAny_take (i := 24) (v := undef) rfl (by kernel_rfl) (by kernel_rfl) (by kernel_rfl) (fun _ _ _ h => h) (Or.inr ⟨by rfl, rfl⟩) ?_
              try go_simp
              refine wpAny_take (i := 25) (v := undef) rfl (by kernel_rfl) (by kernel_rfl) (by kernel_rfl) (fun _ _ _ h => h) (Or.inr ⟨by rfl, rfl⟩) ?_
              try go_simp
              refine wpAny_take (i := 26) (v := undef) rfl (by kernel_rfl) (by kernel_rfl) (by kernel_rfl) (fun _ _ _ h => h) (Or.inr ⟨by rfl, rfl⟩) ?_
              try go_simp
              refine wpAny_take (i := 27) (v := undef) rfl (by kernel_rfl) (by kernel_rfl) (by kernel_rfl) (fun _ _ _ h => h) (Or.inr ⟨by rfl, rfl⟩) ?_
              try go_simp
              refine wpAny_take (i := 28) (v := undef) rfl (by kernel_rfl) (by kernel_rfl) (by kernel_rfl) (fun _ _ _ h => h) (Or.inr ⟨by rfl, rfl⟩) ?_
              try go_simp
              refine wpAny_take (i := 29) (v := ?_) rfl (by kernel_rfl) (by kernel_rfl) (by kernel_rfl) (fun _ _ _ h => h) (Or.inl ⟨by rfl, ?_⟩) ?_
              rotate_left
              · intro w; go_simp <;> with_reducible rfl
              try go_simp
              refine wpAny_take (i := 30) (v := ?_) rfl (by kernel_rfl) (by kernel_rfl) (by kernel_rfl) (fun _ _ _ h => h) (Or.inl ⟨by rfl, ?_⟩) ?_
              rotate_left
              · intro w; go_simp <;> with_reducible rfl
              try go_simp
              refine wpAny_take (i := 31) (v := ?_) rfl (by kernel_rfl) (by kernel_rfl) (by kernel_rfl) (fun _ _ _ h => h) (Or.inl ⟨by rfl, ?_⟩) ?_
              rotate_left
              · intro w; go_simp <;> with_reducible rfl
              try go_simp
              refine wpAny_done (by kernel_rfl) ?_ _
              go_wp2_with fail
              go_ret
              exact ⟨rfl, HMb.out.bel⟩
            refine AllReady.cons rfl (fun K hK => ?_) AllReady.nil
            · go_simp
              first | (refine hK _ _ ?_; clear hK K) | skip
              refine wpAny_ready (rs := [4, 7]) (by kernel_rfl) (by simp) ?_
              refine AllReady.cons rfl (fun K hK => ?_) ?_
              · go_simp
                first | (refine hK _ _ ?_; clear hK K) | skip
                refine wpAny_ready (rs := [7]) (by kernel_rfl) (by simp) ?_
                refine AllReady.cons rfl (fun K hK => ?_) AllReady.nil
                (go_simp; go_at_call 13; (with_reducible refine (unhide HA _ HMd.out.nd).mono ?_); rintro e wa ⟨rfl, hba⟩; have HMa := hide (HMd.out.below' hba); have qa := HMa.out.box.c0; have hPa := HMa.out.box.lt)
                try go_simp
                first | (refine hK _ _ ?_; clear hK K) | skip
                refine wpAny_ready (rs := [8]) (by kernel_rfl) (by simp) ?_
                refine AllReady.cons rfl (fun K hK => ?_) AllReady.nil
                (go_simp; go_at_call 18; (with_reducible refine (unhide HC _ HMa.out.nd).mono ?_); rintro e wb ⟨A3, c3, rfl, _, _, ho3, hbb⟩; have HO3 := hide ho3.rd; clear ho3; have HMb := hide (HMa.out.below' hbb); have qb := HMb.out.box.c0; have hPb := HMb.out.box.lt)
                try go_simp
                first | (refine hK _ _ ?_; clear hK K) | skip
                refine wpAny_ready (rs := [10]) (by kernel_rfl) (by simp) ?_
                refine AllReady.cons rfl (fun K hK => ?_) AllReady.nil
                (go_simp; go_at_call 32; (with_reducible refine (unhide HK _ _ _ _ _ HO3.out).mono ?_); rintro e w' ⟨rfl, rfl⟩)
                try go_simp
                first | (refine hK _ _ ?_; clear hK K) | skip
                refine wpAny_take (i := 11) (v := ?_) rfl (by kernel_rfl) (by kernel_rfl) (by kernel_rfl) (fun _ _ _ h => h) (Or.inl ⟨by rfl, ?_⟩) ?_
                rotate_left
                · intro w; go_simp <;> with_reducible rfl
                try go_simp
                refine wpAny_take (i := 12) (v := ?_) rfl (by kernel_rfl) (by kernel_rfl) (by kernel_rfl) (fun _ _ _ h => h) (Or.inl ⟨by rfl, ?_⟩) ?_
                rotate_left
                · intro w; go_simp <;> with_reducible rfl
                try go_simp
                refine wpAny_take (i := 13) (v := ?_) rfl (by kernel_rfl) (by kernel_rfl) (by kernel_rfl) (fun _ _ _ h => h) (Or.inl ⟨by rfl, ?_⟩) ?_
                rotate_left
                · intro w; go_simp <;> with_reducible rfl
                try go_simp
                refine wpAny_take (i := 14) (v := ?_) rfl (by kernel_rfl) (by kernel_rfl) (by kernel_rfl) (fun _ _ _ h => h) (Or.inl ⟨by rfl, ?_⟩) ?_
                rotate_left
                · intro w; go_simp <;> with_reducible rfl
                try go_simp
                refine wpAny_take (i := 15) (v := ?_) rfl (by kernel_rfl) (by kernel_rfl) (by kernel_rfl) (fun _ _ _ h => h) (Or.inl ⟨by rfl, ?_⟩) ?_
                rotate_left
                · intro w; go_simp <;> with_reducible rfl
                try go_simp
                refine wpAny_take (i := 16) (v := ?_) rfl (by kernel_rfl) (by kernel_rfl) (by kernel_rfl) (fun _ _ _ h => h) (Or.inl ⟨by rfl, ?_⟩) ?_
                rotate_left
                · intro w; go_simp <;> with_reducible rfl
                try go_simp
                refine wpAny_take (i := 17) (v := ?_) rfl (by kernel_rfl) (by kernel_rfl) (by kernel_rfl) (fun _ _ _ h => h) (Or.inl ⟨by rfl, ?_⟩) ?_
                rotate_left
                · intro w; go_simp <;> with_reducible rfl
                try go_simp
                refine wpAny_take (i := 18) (v := ?_) rfl (by kernel_rfl) (by kernel_rfl) (by kernel_rfl) (fun _ _ _ h => h) (Or.inl ⟨by rfl, ?_⟩) ?_
                rotate_left
                · intro w; go_simp <;> with_reducible rfl
                try go_simp
                refine wpAny_take (i := 19) (v := ?_) rfl (by kernel_rfl) (by kernel_rfl) (by kernel_rfl) (fun _ _ _ h => h) (Or.inl ⟨by rfl, ?_⟩) ?_
                rotate_left
                · intro w; go_simp <;> with_reducible rfl
                try go_simp
                refine wpAny_take (i := 20) (v := undef) rfl (by kernel_rfl) (by kernel_rfl) (by kernel_rfl) (fun _ _ _ h => h) (Or.inr ⟨by rfl, rfl⟩) ?_
                try go_simp
                refine wpAny_take (i := 21) (v := undef) rfl (by kernel_rfl) (by kernel_rfl) (by kernel_rfl) (fun _ _ _ h => h) (Or.inr ⟨by rfl, rfl⟩) ?_
                try go_simp
                refine wpAny_take (i := 22) (v := undef) rfl (by kernel_rfl) (by kernel_rfl) (by kernel_rfl) (fun _ _ _ h => h) (Or.inr ⟨by rfl, rfl⟩) ?_
                try go_simp
                refine wpAny_take (i := 23) (v := undef) rfl (by kernel_rfl) (by kernel_rfl) (by kernel_rfl) (fun _ _ _ h => h) (Or.inr ⟨by rfl, rfl⟩) ?_
                try go_simp
                refine wpAny_take (i := 24) (v := undef) rfl (by kernel_rfl) (by kernel_rfl) (by kernel_rfl) (fun _ _ _ h => h) (Or.inr ⟨by rfl, rfl⟩) ?_
                try go_simp
                refine wpAny_take (i := 25) (v := undef) rfl (by kernel_rfl) (by kernel_rfl) (by kernel_rfl) (fun _ _ _ h => h) (Or.inr ⟨by rfl, rfl⟩) ?_
                try go_simp
                refine wpAny_take (i := 26) (v := undef) rfl (by kernel_rfl) (by kernel_rfl) (by kernel_rfl) (fun _ _ _ h => h) (Or.inr ⟨by rfl, rfl⟩) ?_
                try go_simp
                refine wpAny_take (i := 27) (v := undef) rfl (by kernel_rfl) (by kernel_rfl) (by kernel_rfl) (fun _ _ _ h => h) (Or.inr ⟨by rfl, rfl⟩) ?_
                try go_simp
                refine wpAny_take (i := 28) (v := undef) rfl (by kernel_rfl) (by kernel_rfl) (by kernel_rfl) (fun _ _ _ h => h) (Or.inr ⟨by rfl, rfl⟩) ?_
                try go_simp
                refine wpAny_take (i := 29) (v := ?_) rfl (by kernel_rfl) (by kernel_rfl) (by kernel_rfl) (fun _ _ _ h => h) (Or.inl ⟨by rfl, ?_⟩) ?_
                rotate_left
                · intro w; go_simp <;> with_reducible rfl
                try go_simp
                refine wpAny_take (i := 30) (v := ?_) rfl (by kernel_rfl) (by kernel_rfl) (by kernel_rfl) (fun _ _ _ h => h) (Or.inl ⟨by rfl, ?_⟩) ?_
                rotate_left
                · intro w; go_simp <;> with_reducible rfl
                try go_simp
                refine wpAny_take (i := 31) (v := ?_) rfl (by kernel_rfl) (by kernel_rfl) (by kernel_rfl) (fun _ _ _ h => h) (Or.inl ⟨by rfl, ?_⟩) ?_
                rotate_left
                · intro w; go_simp <;> with_reducible rfl
                try go_simp
                refine wpAny_done (by kernel_rfl) ?_ _
                go_wp2_with fail
                go_ret
                exact ⟨rfl, HMb.out.bel⟩
              refine AllReady.cons rfl (fun K hK => ?_) AllReady.nil
              · (go_simp; go_at_call 13; (with_reducible refine (unhide HA _ HMd.out.nd).mono ?_); rintro e wa ⟨rfl, hba⟩; have HMa := hide (HMd.out.below' hba); have qa := HMa.out.box.c0; have hPa := HMa.out.box.lt)
                try go_simp
                first | (refine hK _ _ ?_; clear hK K) | skip
                refine wpAny_ready (rs := [4]) (by kernel_rfl) (by simp) ?_
                refine AllReady.cons rfl (fun K hK => ?_) AllReady.nil
                go_simp
                first | (refine hK _ _ ?_; clear hK K) | skip
                refine wpAny_ready (rs := [8]) (by kernel_rfl) (by simp) ?_
                refine AllReady.cons rfl (fun K hK => ?_) AllReady.nil
                (go_simp; go_at_call 18; (with_reducible refine (unhide HC _ HMa.out.nd).mono ?_); rintro e wb ⟨A3, c3, rfl, _, _, ho3, hbb⟩; have HO3 := hide ho3.rd; clear ho3; have HMb := hide (HMa.out.below' hbb); have qb := HMb.out.box.c0; have hPb := HMb.out.box.lt)
                try go_simp
                first | (refine hK _ _ ?_; clear hK K) | skip
                refine wpAny_ready (rs := [10]) (by kernel_rfl) (by simp) ?_
                refine AllReady.cons rfl (fun K hK => ?_) AllReady.nil
                (go_simp; go_at_call 32; (with_reducible refine (unhide HK _ _ _ _ _ HO3.out).mono ?_); rintro e w' ⟨rfl, rfl⟩)
                try go_simp
                first | (refine hK _ _ ?_; clear hK K) | skip
                refine wpAny_take (i := 11) (v := ?_) rfl (by kernel_rfl) (by kernel_rfl) (by kernel_rfl) (fun _ _ _ h => h) (Or.inl ⟨by rfl, ?_⟩) ?_
                rotate_left
                · intro w; go_simp <;> with_reducible rfl
                try go_simp
                refine wpAny_take (i := 12) (v := ?_) rfl (by kernel_rfl) (by kernel_rfl) (by kernel_rfl) (fun _ _ _ h => h) (Or.inl ⟨by rfl, ?_⟩) ?_
                rotate_left
                · intro w; go_simp <;> with_reducible rfl
                try go_simp
                refine wpAny_take (i := 13) (v := ?_) rfl (by kernel_rfl) (by kernel_rfl) (by kernel_rfl) (fun _ _ _ h => h) (Or.inl ⟨by rfl, ?_⟩) ?_
                rotate_left
                · intro w; go_simp <;> with_reducible rfl
                try go_simp
                refine wpAny_take (i := 14) (v := ?_) rfl (by kernel_rfl) (by kernel_rfl) (by kernel_rfl) (fun _ _ _ h => h) (Or.inl ⟨by rfl, ?_⟩) ?_
                rotate_left
                · intro w; go_simp <;> with_reducible rfl
                try go_simp
                refine wpAny_take (i := 15) (v := ?_) rfl (by kernel_rfl) (by kernel_rfl) (by kernel_rfl) (fun _ _ _ h => h) (Or.inl ⟨by rfl, ?_⟩) ?_
                rotate_left
                · intro w; go_simp <;> with_reducible rfl
                try go_simp
                refine wpAny_take (i := 16) (v := ?_) rfl (by kernel_rfl) (by kernel_rfl) (by kernel_rfl) (fun _ _ _ h => h) (Or.inl ⟨by rfl, ?_⟩) ?_
                rotate_left
                · intro w; go_simp <;> with_reducible rfl
                try go_simp
                refine wpAny_take (i := 17) (v := ?_) rfl (by kernel_rfl) (by kernel_rfl) (by kernel_rfl) (fun _ _ _ h => h) (Or.inl ⟨by rfl, ?_⟩) ?_
                rotate_left
                · intro w; go_simp <;> with_reducible rfl
                try go_simp
                refine wpAny_take (i := 18) (v := ?_) rfl (by kernel_rfl) (by kernel_rfl) (by kernel_rfl) (fun _ _ _ h => h) (Or.inl ⟨by rfl, ?_⟩) ?_
                rotate_left
                · intro w; go_simp <;> with_reducible rfl
                try go_simp
                refine wpAny_take (i := 19) (v := ?_) rfl (by kernel_rfl) (by kernel_rfl) (by kernel_rfl) (fun _ _ _ h => h) (Or.inl ⟨by rfl, ?_⟩) ?_
                rotate_left
                · intro w; go_simp <;> with_reducible rfl
                try go_simp
                refine wpAny_take (i := 20) (v := undef) rfl (by kernel_rfl) (by kernel_rfl) (by kernel_rfl) (fun _ _ _ h => h) (Or.inr ⟨by rfl, rfl⟩) ?_
                try go_simp
                refine wpAny_take (i := 21) (v := undef) rfl (by kernel_rfl) (by kernel_rfl) (by kernel_rfl) (fun _ _ _ h => h) (Or.inr ⟨by rfl, rfl⟩) ?_
                try go_simp
                refine wpAny_take (i := 22) (v := undef) rfl (by kernel_rfl) (by kernel_rfl) (by kernel_rfl) (fun _ _ _ h => h) (Or.inr ⟨by rfl, rfl⟩) ?_
                try go_simp
                refine wpAny_take (i := 23) (v := undef) rfl (by kernel_rfl) (by kernel_rfl) (by kernel_rfl) (fun _ _ _ h => h) (Or.inr ⟨by rfl, rfl⟩) ?_
                try go_simp
                refine wpAny_take (i := 24) (v := undef) rfl (by kernel_rfl) (by kernel_rfl) (by kernel_rfl) (fun _ _ _ h => h) (Or.inr ⟨by rfl, rfl⟩) ?_
                try go_simp
                refine wpAny_take (i := 25) (v := undef) rfl (by kernel_rfl) (by kernel_rfl) (by kernel_rfl) (fun _ _ _ h => h) (Or.inr ⟨by rfl, rfl⟩) ?_
                try go_simp
                refine wpAny_take (i := 26) (v := undef) rfl (by kernel_rfl) (by kernel_rfl) (by kernel_rfl) (fun _ _ _ h => h) (Or.inr ⟨by rfl, rfl⟩) ?_
                try go_simp
                refine wpAny_take (i := 27) (v := undef) rfl (by kernel_rfl) (by kernel_rfl) (by kernel_rfl) (fun _ _ _ h => h) (Or.inr ⟨by rfl, rfl⟩) ?_
                try go_simp
                refine wpAny_take (i := 28) (v := undef) rfl (by kernel_rfl) (by kernel_rfl) (by kernel_rfl) (fun _ _ _ h => h) (Or.inr ⟨by rfl, rfl⟩) ?_
                try go_simp
                refine wpAny_take (i := 29) (v := ?_) rfl (by kernel_rfl) (by kernel_rfl) (by kernel_rfl) (fun _ _ _ h => h) (Or.inl ⟨by rfl, ?_⟩) ?_
                rotate_left
                · intro w; go_simp <;> with_reducible rfl
                try go_simp
                refine wpAny_take (i := 30) (v := ?_) rfl (by kernel_rfl) (by kernel_rfl) (by kernel_rfl) (fun _ _ _ h => h) (Or.inl ⟨by rfl, ?_⟩) ?_
                rotate_left
                · intro w; go_simp <;> with_reducible rfl
                try go_simp
                refine wpAny_take (i := 31) (v := ?_) rfl (by kernel_rfl) (by kernel_rfl) (by kernel_rfl) (fun _ _ _ h => h) (Or.inl ⟨by rfl, ?_⟩) ?_
                rotate_left
                · intro w; go_simp <;> with_reducible rfl
                try go_simp
                refine wpAny_done (by kernel_rfl) ?_ _
                go_wp2_with fail
                go_ret
                exact ⟨rfl, HMb.out.bel⟩
          · obtain ⟨g1, g2⟩ := f12 (by omega) (by omega)
            have g3 : ¬ ac < 0 := by omega
            have f10 := F10.out
            have g4 : ab + bc ≤ 1000 := by omega
            have g5 : 0 ≤ ab + bc := by omega
            have e2 : decide (bc < 0) = false := by simp; omega
            have E3 := hide (show decide (ac ≤ IntKind.i64.wrap (ab + bc)) = true by rw [IntKind.wrap_i64]; simp; omega)
            clear f9 f10 f11 f12 hab hbc g3
            go_wp2_with fail
            refine wp_region_any (by kernel_rfl) ?_
            try (change wpAny _ _ _ _ _ _ _ (World.drew _))
            refine wpAny_take (i := 0) (v := ?_) rfl (by kernel_rfl) (by kernel_rfl) (by kernel_rfl) (fun _ _ _ h => h) (Or.inl ⟨by rfl, ?_⟩) ?_
            rotate_left
            · intro w; go_simp <;> with_reducible rfl
            try go_simp
            refine wpAny_take (i := 1) (v := ?_) rfl (by kernel_rfl) (by kernel_rfl) (by kernel_rfl) (fun _ _ _ h => h) (Or.inl ⟨by rfl, ?_⟩) ?_
            rotate_left
            · intro w; go_simp <;> with_reducible rfl
            try go_simp
            refine wpAny_take (i := 2) (v := ?_) rfl (by kernel_rfl) (by kernel_rfl) (by kernel_rfl) (fun _ _ _ h => h) (Or.inl ⟨by rfl, ?_⟩) ?_
            rotate_left
            · intro w; go_simp <;> with_reducible rfl
            try go_simp
            refine wpAny_take (i := 3) (v := ?_) rfl (by kernel_rfl) (by kernel_rfl) (by kernel_rfl) (fun _ _ _ h => h) (Or.inl ⟨by rfl, ?_⟩) ?_
            rotate_left
            · intro w; go_simp <;> with_reducible rfl
            try go_simp
            refine wpAny_take (i := 6) (v := ?_) rfl (by kernel_rfl) (by kernel_rfl) (by kernel_rfl) (fun _ _ _ h => h) (Or.inl ⟨by rfl, ?_⟩) ?_
            rotate_left
            · intro w; go_simp <;> with_reducible rfl
            try go_simp
            refine wpAny_take (i := 9) (v := ?_) rfl (by kernel_rfl) (by kernel_rfl) (by kernel_rfl) (fun _ _ _ h => h) (Or.inl ⟨by rfl, ?_⟩) ?_
            rotate_left
            · intro w; go_simp <;> with_reducible rfl
            try go_simp
            refine wpAny_ready (rs := [4, 5]) (by kernel_rfl) (by simp) ?_
            refine AllReady.cons rfl (fun K hK => ?_) ?_
            · go_simp
              first | (refine hK _ _ ?_; clear hK K) | skip
              refine wpAny_ready (rs := [5]) (by kernel_rfl) (by simp) ?_
              refine AllReady.cons rfl (fun K hK => ?_) AllReady.nil
              go_simp
              first | (refine hK _ _ ?_; clear hK K) | skip
              refine wpAny_ready (rs := [7]) (by kernel_rfl) (by simp) ?_
              refine AllReady.cons rfl (fun K hK => ?_) AllReady.nil
              (go_simp; go_at_call 13; (with_reducible refine (unhide HA _ HMd.out.nd).mono ?_); rintro e wa ⟨rfl, hba⟩; have HMa := hide (HMd.out.below' hba); have qa := HMa.out.box.c0; have hPa := HMa.out.box.lt)
              try go_simp
              first | (refine hK _ _ ?_; clear hK K) | skip
              refine wpAny_ready (rs := [8]) (by kernel_rfl) (by simp) ?_
              refine AllReady.cons rfl (fun K hK => ?_) AllReady.nil
              (go_simp; go_at_call 18; (with_reducible refine (unhide HC _ HMa.out.nd).mono ?_); rintro e wb ⟨A3, c3, rfl, _, _, ho3, hbb⟩; have HO3 := hide ho3.rd; clear ho3; have HMb := hide (HMa.out.below' hbb); have qb := HMb.out.box.c0; have hPb := HMb.out.box.lt)
              try go_simp
              first | (refine hK _ _ ?_; clear hK K) | skip
              refine wpAny_ready (rs := [10]) (by kernel_rfl) (by simp) ?_
              refine AllReady.cons rfl (fun K hK => ?_) AllReady.nil
              (go_simp; go_at_call 32; (with_reducible refine (unhide HK _ _ _ _ _ HO3.out).mono ?_); rintro e w' ⟨rfl, rfl⟩)
              try go_simp
              first | (refine hK _ _ ?_; clear hK K) | skip
              refine wpAny_take (i := 11) (v := ?_) rfl (by kernel_rfl) (by kernel_rfl) (by kernel_rfl) (fun _ _ _ h => h) (Or.inl ⟨by rfl, ?_⟩) ?_
              rotate_left
              · intro w; go_simp <;> with_reducible rfl
              try go_simp
              refine wpAny_take (i := 12) (v := ?_) rfl (by kernel_rfl) (by kernel_rfl) (by kernel_rfl) (fun _ _ _ h => h) (Or.inl ⟨by rfl, ?_⟩) ?_
              rotate_left
              · intro w; go_simp <;> with_reducible rfl
              try go_simp
              refine wpAny_take (i := 13) (v := ?_) rfl (by kernel_rfl) (by kernel_rfl) (by kernel_rfl) (fun _ _ _ h => h) (Or.inl ⟨by rfl, ?_⟩) ?_
              rotate_left
              · intro w; go_simp <;> with_reducible rfl
              try go_simp
              refine wpAny_take (i := 14) (v := ?_) rfl (by kernel_rfl) (by kernel_rfl) (by kernel_rfl) (fun _ _ _ h => h) (Or.inl ⟨by rfl, ?_⟩) ?_
              rotate_left
              · intro w; go_simp <;> with_reducible rfl
              try go_simp
              refine wpAny_take (i := 15) (v := ?_) rfl (by kernel_rfl) (by kernel_rfl) (by kernel_rfl) (fun _ _ _ h => h) (Or.inl ⟨by rfl, ?_⟩) ?_
              rotate_left
              · intro w; go_simp <;> with_reducible rfl
              try go_simp
              refine wpAny_take (i := 16) (v := ?_) rfl (by kernel_rfl) (by kernel_rfl) (by kernel_rfl) (fun _ _ _ h => h) (Or.inl ⟨by rfl, ?_⟩) ?_
              rotate_left
              · intro w; go_simp <;> with_reducible rfl
              try go_simp
              refine wpAny_take (i := 17) (v := ?_) rfl (by kernel_rfl) (by kernel_rfl) (by kernel_rfl) (fun _ _ _ h => h) (Or.inl ⟨by rfl, ?_⟩) ?_
              rotate_left
              · intro w; go_simp <;> with_reducible rfl
              try go_simp
              refine wpAny_take (i := 18) (v := ?_) rfl (by kernel_rfl) (by kernel_rfl) (by kernel_rfl) (fun _ _ _ h => h) (Or.inl ⟨by rfl, ?_⟩) ?_
              rotate_left
              · intro w; go_simp <;> with_reducible rfl
              try go_simp
              refine wpAny_take (i := 19) (v := ?_) rfl (by kernel_rfl) (by kernel_rfl) (by kernel_rfl) (fun _ _ _ h => h) (Or.inl ⟨by rfl, ?_⟩) ?_
              rotate_left
              · intro w; go_simp <;> with_reducible rfl
              try go_simp
              refine wpAny_take (i := 20) (v := ?_) rfl (by kernel_rfl) (by kernel_rfl) (by kernel_rfl) (fun _ _ _ h => h) (Or.inl ⟨by rfl, ?_⟩) ?_
              rotate_left
              · intro w; go_simp <;> with_reducible rfl
              try go_simp
              refine wpAny_take (i := 21) (v := ?_) rfl (by kernel_rfl) (by kernel_rfl) (by kernel_rfl) (fun _ _ _ h => h) (Or.inl ⟨by rfl, ?_⟩) ?_
              rotate_left
              · intro w; go_simp <;> with_reducible rfl
              try go_simp
              refine wpAny_take (i := 22) (v := ?_) rfl (by kernel_rfl) (by kernel_rfl) (by kernel_rfl) (fun _ _ _ h => h) (Or.inl ⟨by rfl, ?_⟩) ?_
              rotate_left
              · intro w; go_simp <;> with_reducible rfl
              try go_simp
              refine wpAny_take (i := 23) (v := ?_) rfl (by kernel_rfl) (by kernel_rfl) (by kernel_rfl) (fun _ _ _ h => h) (Or.inl ⟨by rfl, ?_⟩) ?_
              rotate_left
              · intro w; go_simp <;> with_reducible rfl
              try go_simp
              refine wpAny_take (i := 24) (v := ?_) rfl (by kernel_rfl) (by kernel_rfl) (by kernel_rfl) (fun _ _ _ h => h) (Or.inl ⟨by rfl, ?_⟩) ?_
              rotate_left
              · intro w; go_simp <;> with_reducible rfl
              try go_simp
              refine wpAny_take (i := 25) (v := ?_) rfl (by kernel_rfl) (by kernel_rfl) (by kernel_rfl) (fun _ _ _ h => h) (Or.inl ⟨by rfl, ?_⟩) ?_
              rotate_left
              · intro w; go_simp <;> with_reducible rfl
              try go_simp
              refine wpAny_take (i := 26) (v := ?_) rfl (by kernel_rfl) (by kernel_rfl) (by kernel_rfl) (fun _ _ _ h => h) (Or.inl ⟨by rfl, ?_⟩) ?_
              rotate_left
              · intro w; go_simp <;> with_reducible rfl
              try go_simp
              refine wpAny_take (i := 27) (v := ?_) rfl (by kernel_rfl) (by kernel_rfl) (by kernel_rfl) (fun _ _ _ h => h) (Or.inl ⟨by rfl, ?_⟩) ?_
              rotate_left
              · intro w; go_simp <;> with_reducible rfl
              try go_simp
              refine wpAny_take (i := 28) (v := ?_) rfl (by kernel_rfl) (by kernel_rfl) (by kernel_rfl) (fun _ _ _ h => h) (Or.inl ⟨by rfl, ?_⟩) ?_
              rotate_left
              · intro w; go_simp <;> with_reducible rfl
              try go_simp
              refine wpAny_take (i := 29) (v := ?_) rfl (by kernel_rfl) (by kernel_rfl) (by kernel_rfl) (fun _ _ _ h => h) (Or.inl ⟨by rfl, ?_⟩) ?_
              rotate_left
              · intro w; go_simp <;> with_reducible rfl
              try go_simp
              refine wpAny_take (i := 30) (v := ?_) rfl (by kernel_rfl) (by kernel_rfl) (by kernel_rfl) (fun _ _ _ h => h) (Or.inl ⟨by rfl, ?_⟩) ?_
              rotate_left
              · intro w; go_simp <;> with_reducible rfl
              try go_simp
              refine wpAny_take (i := 31) (v := ?_) rfl (by kernel_rfl) (by kernel_rfl) (by kernel_rfl) (fun _ _ _ h => h) (Or.inl ⟨by rfl, ?_⟩) ?_
              rotate_left
              · intro w; go_simp <;> with_reducible rfl
              try go_simp
              refine wpAny_done (by kernel_rfl) ?_ _
              go_wp2_with fail
              go_ret
              exact ⟨ret_bool E3.out, HMb.out.bel⟩
            refine AllReady.cons rfl (fun K hK => ?_) AllReady.nil
            · go_simp
              first | (refine hK _ _ ?_; clear hK K) | skip
              refine wpAny_ready (rs := [4, 7]) (by kernel_rfl) (by simp) ?_
              refine AllReady.cons rfl (fun K hK => ?_) ?_
              · go_simp
                first | (refine hK _ _ ?_; clear hK K) | skip
                refine wpAny_ready (rs := [7]) (by kernel_rfl) (by simp) ?_
                refine AllReady.cons rfl (fun K hK => ?_) AllReady.nil
                (go_simp; go_at_call 13; (with_reducible refine (unhide HA _ HMd.out.nd).mono ?_); rintro e wa ⟨rfl, hba⟩; have HMa := hide (HMd.out.below' hba); have qa := HMa.out.box.c0; have hPa := HMa.out.box.lt)
                try go_simp
                first | (refine hK _ _ ?_; clear hK K) | skip
                refine wpAny_ready (rs := [8]) (by kernel_rfl) (by simp) ?_
                refine AllReady.cons rfl (fun K hK => ?_) AllReady.nil
                (go_simp; go_at_call 18; (with_reducible refine (unhide HC _ HMa.out.nd).mono ?_); rintro e wb ⟨A3, c3, rfl, _, _, ho3, hbb⟩; have HO3 := hide ho3.rd; clear ho3; have HMb := hide (HMa.out.below' hbb); have qb := HMb.out.box.c0; have hPb := HMb.out.box.lt)
                try go_simp
                first | (refine hK _ _ ?_; clear hK K) | skip
                refine wpAny_ready (rs := [10]) (by kernel_rfl) (by simp) ?_
                refine AllReady.cons rfl (fun K hK => ?_) AllReady.nil
                (go_simp; go_at_call 32; (with_reducible refine (unhide HK _ _ _ _ _ HO3.out).mono ?_); rintro e w' ⟨rfl, rfl⟩)
                try go_simp
                first | (refine hK _ _ ?_; clear hK K) | skip
                refine wpAny_take (i := 11) (v := ?_) rfl (by kernel_rfl) (by kernel_rfl) (by kernel_rfl) (fun _ _ _ h => h) (Or.inl ⟨by rfl, ?_⟩) ?_
                rotate_left
                · intro w; go_simp <;> with_reducible rfl
                try go_simp
                refine wpAny_take (i := 12) (v := ?_) rfl (by kernel_rfl) (by kernel_rfl) (by kernel_rfl) (fun _ _ _ h => h) (Or.inl ⟨by rfl, ?_⟩) ?_
                rotate_left
                · intro w; go_simp <;> with_reducible rfl
                try go_simp
                refine wpAny_take (i := 13) (v := ?_) rfl (by kernel_rfl) (by kernel_rfl) (by kernel_rfl) (fun _ _ _ h => h) (Or.inl ⟨by rfl, ?_⟩) ?_
                rotate_left
                · intro w; go_simp <;> with_reducible rfl
                try go_simp
                refine wpAny_take (i := 14) (v := ?_) rfl (by kernel_rfl) (by kernel_rfl) (by kernel_rfl) (fun _ _ _ h => h) (Or.inl ⟨by rfl, ?_⟩) ?_
                rotate_left
                · intro w; go_simp <;> with_reducible rfl
                try go_simp
                refine wpAny_take (i := 15) (v := ?_) rfl (by kernel_rfl) (by kernel_rfl) (by kernel_rfl) (fun _ _ _ h => h) (Or.inl ⟨by rfl, ?_⟩) ?_
                rotate_left
                · intro w; go_simp <;> with_reducible rfl
                try go_simp
                refine wpAny_take (i := 16) (v := ?_) rfl (by kernel_rfl) (by kernel_rfl) (by kernel_rfl) (fun _ _ _ h => h) (Or.inl ⟨by rfl, ?_⟩) ?_
                rotate_left
                · intro w; go_simp <;> with_reducible rfl
                try go_simp
                refine wpAny_take (i := 17) (v := ?_) rfl (by kernel_rfl) (by kernel_rfl) (by kernel_rfl) (fun _ _ _ h => h) (Or.inl ⟨by rfl, ?_⟩) ?_
                rotate_left
                · intro w; go_simp <;> with_reducible rfl
                try go_simp
                refine wpAny_take (i := 18) (v := ?_) rfl (by kernel_rfl) (by kernel_rfl) (by kernel_rfl) (fun _ _ _ h => h) (Or.inl ⟨by rfl, ?_⟩) ?_
                rotate_left
                · intro w; go_simp <;> with_reducible rfl
                try go_simp
                refine wpAny_take (i := 19) (v := ?_) rfl (by kernel_rfl) (by kernel_rfl) (by kernel_rfl) (fun _ _ _ h => h) (Or.inl ⟨by rfl, ?_⟩) ?_
                rotate_left
                · intro w; go_simp <;> with_reducible rfl
                try go_simp
                refine wpAny_take (i := 20) (v := ?_) rfl (by kernel_rfl) (by kernel_rfl) (by kernel_rfl) (fun _ _ _ h => h) (Or.inl ⟨by rfl, ?_⟩) ?_
                rotate_left
                · intro w; go_simp <;> with_reducible rfl
                try go_simp
                refine wpAny_take (i := 21) (v := ?_) rfl (by kernel_rfl) (by kernel_rfl) (by kernel_rfl) (fun _ _ _ h => h) (Or.inl ⟨by rfl, ?_⟩) ?_
                rotate_left
                · intro w; go_simp <;> with_reducible rfl
                try go_simp
                refine wpAny_take (i := 22) (v := ?_) rfl (by kernel_rfl) (by kernel_rfl) (by kernel_rfl) (fun _ _ _ h => h) (Or.inl ⟨by rfl, ?_⟩) ?_
                rotate_left
                · intro w; go_simp <;> with_reducible rfl
                try go_simp
                refine wpAny_take (i := 23) (v := ?_) rfl (by kernel_rfl) (by kernel_rfl) (by kernel_rfl) (fun _ _ _ h => h) (Or.inl ⟨by rfl, ?_⟩) ?_
                rotate_left
                · intro w; go_simp <;> with_reducible rfl
                try go_simp
                refine wpAny_take (i := 24) (v := ?_) rfl (by kernel_rfl) (by kernel_rfl) (by kernel_rfl) (fun _ _ _ h => h) (Or.inl ⟨by rfl, ?_⟩) ?_
                rotate_left
                · intro w; go_simp <;> with_reducible rfl
                try go_simp
                refine wpAny_take (i := 25) (v := ?_) rfl (by kernel_rfl) (by kernel_rfl) (by kernel_rfl) (fun _ _ _ h => h) (Or.inl ⟨by rfl, ?_⟩) ?_
                rotate_left
                · intro w; go_simp <;> with_reducible rfl
                try go_simp
                refine wpAny_take (i := 26) (v := ?_) rfl (by kernel_rfl) (by kernel_rfl) (by kernel_rfl) (fun _ _ _ h => h) (Or.inl ⟨by rfl, ?_⟩) ?_
                rotate_left
                · intro w; go_simp <;> with_reducible rfl
                try go_simp
                refine wpAny_take (i := 27) (v := ?_) rfl (by kernel_rfl) (by kernel_rfl) (by kernel_rfl) (fun _ _ _ h => h) (Or.inl ⟨by rfl, ?_⟩) ?_
                rotate_left
                · intro w; go_simp <;> with_reducible rfl
                try go_simp
                refine wpAny_take (i := 28) (v := ?_) rfl (by kernel_rfl) (by kernel_rfl) (by kernel_rfl) (fun _ _ _ h => h) (Or.inl ⟨by rfl, ?_⟩) ?_
                rotate_left
                · intro w; go_simp <;> with_reducible rfl
                try go_simp
                refine wpAny_take (i := 29) (v := ?_) rfl (by kernel_rfl) (by kernel_rfl) (by kernel_rfl) (fun _ _ _ h => h) (Or.inl ⟨by rfl, ?_⟩) ?_
                rotate_left
                · intro w; go_simp <;> with_reducible rfl
                try go_simp
                refine wpAny_take (i := 30) (v := ?_) rfl (by kernel_rfl) (by kernel_rfl) (by kernel_rfl) (fun _ _ _ h => h) (Or.inl ⟨by rfl, ?_⟩) ?_
                rotate_left
                · intro w; go_simp <;> with_reducible rfl
                try go_simp
                refine wpAny_take (i := 31) (v := ?_) rfl (by kernel_rfl) (by kernel_rfl) (by kernel_rfl) (fun _ _ _ h => h) (Or.inl ⟨by rfl, ?_⟩) ?_
                rotate_left
                · intro w; go_simp <;> with_reducible rfl
                try go_simp
                refine wpAny_done (by kernel_rfl) ?_ _
                go_wp2_with fail
                go_ret
                exact ⟨ret_bool E3.out, HMb.out.bel⟩
              refine AllReady.cons rfl (fun K hK => ?_) AllReady.nil
              · (go_simp; go_at_call 13; (with_reducible refine (unhide HA _ HMd.out.nd).mono ?_); rintro e wa ⟨rfl, hba⟩; have HMa := hide (HMd.out.below' hba); have qa := HMa.out.box.c0; have hPa := HMa.out.box.lt)
                try go_simp
                first | (refine hK _ _ ?_; clear hK K) | skip
                refine wpAny_ready (rs := [4]) (by kernel_rfl) (by simp) ?_
                refine AllReady.cons rfl (fun K hK => ?_) AllReady.nil
                go_simp
                first | (refine hK _ _ ?_; clear hK K) | skip
                refine wpAny_ready (rs := [8]) (by kernel_rfl) (by simp) ?_
                refine AllReady.cons rfl (fun K hK => ?_) AllReady.nil
                (go_simp; go_at_call 18; (with_reducible refine (unhide HC _ HMa.out.nd).mono ?_); rintro e wb ⟨A3, c3, rfl, _, _, ho3, hbb⟩; have HO3 := hide ho3.rd; clear ho3; have HMb := hide (HMa.out.below' hbb); have qb := HMb.out.box.c0; have hPb := HMb.out.box.lt)
                try go_simp
                first | (refine hK _ _ ?_; clear hK K) | skip
                refine wpAny_ready (rs := [10]) (by kernel_rfl) (by simp) ?_
                refine AllReady.cons rfl (fun K hK => ?_) AllReady.nil
                (go_simp; go_at_call 32; (with_reducible refine (unhide HK _ _ _ _ _ HO3.out).mono ?_); rintro e w' ⟨rfl, rfl⟩)
                try go_simp
                first | (refine hK _ _ ?_; clear hK K) | skip
                refine wpAny_take (i := 11) (v := ?_) rfl (by kernel_rfl) (by kernel_rfl) (by kernel_rfl) (fun _ _ _ h => h) (Or.inl ⟨by rfl, ?_⟩) ?_
                rotate_left
                · intro w; go_simp <;> with_reducible rfl
                try go_simp
                refine wpAny_take (i := 12) (v := ?_) rfl (by kernel_rfl) (by kernel_rfl) (by kernel_rfl) (fun _ _ _ h => h) (Or.inl ⟨by rfl, ?_⟩) ?_
                rotate_left
                · intro w; go_simp <;> with_reducible rfl
                try go_simp
                refine wpAny_take (i := 13) (v := ?_) rfl (by kernel_rfl) (by kernel_rfl) (by kernel_rfl) (fun _ _ _ h => h) (Or.inl ⟨by rfl, ?_⟩) ?_
                rotate_left
                · intro w; go_simp <;> with_reducible rfl
                try go_simp
                refine wpAny_take (i := 14) (v := ?_) rfl (by kernel_rfl) (by kernel_rfl) (by kernel_rfl) (fun _ _ _ h => h) (Or.inl ⟨by rfl, ?_⟩) ?_
                rotate_left
                · intro w; go_simp <;> with_reducible rfl
                try go_simp
                refine wpAny_take (i := 15) (v := ?_) rfl (by kernel_rfl) (by kernel_rfl) (by kernel_rfl) (fun _ _ _ h => h) (Or.inl ⟨by rfl, ?_⟩) ?_
                rotate_left
                · intro w; go_simp <;> with_reducible rfl
                try go_simp
                refine wpAny_take (i := 16) (v := ?_) rfl (by kernel_rfl) (by kernel_rfl) (by kernel_rfl) (fun _ _ _ h => h) (Or.inl ⟨by rfl, ?_⟩) ?_
                rotate_left
                · intro w; go_simp <;> with_reducible rfl
                try go_simp
                refine wpAny_take (i := 17) (v := ?_) rfl (by kernel_rfl) (by kernel_rfl) (by kernel_rfl) (fun _ _ _ h => h) (Or.inl ⟨by rfl, ?_⟩) ?_
                rotate_left
                · intro w; go_simp <;> with_reducible rfl
                try go_simp
                refine wpAny_take (i := 18) (v := ?_) rfl (by kernel_rfl) (by kernel_rfl) (by kernel_rfl) (fun _ _ _ h => h) (Or.inl ⟨by rfl, ?_⟩) ?_
                rotate_left
                · intro w; go_simp <;> with_reducible rfl
                try go_simp
                refine wpAny_take (i := 19) (v := ?_) rfl (by kernel_rfl) (by kernel_rfl) (by kernel_rfl) (fun _ _ _ h => h) (Or.inl ⟨by rfl, ?_⟩) ?_
                rotate_left
                · intro w; go_simp <;> with_reducible rfl
                try go_simp
                refine wpAny_take (i := 20) (v := ?_) rfl (by kernel_rfl) (by kernel_rfl) (by kernel_rfl) (fun _ _ _ h => h) (Or.inl ⟨by rfl, ?_⟩) ?_
                rotate_left
                · intro w; go_simp <;> with_reducible rfl
                try go_simp
                refine wpAny_take (i := 21) (v := ?_) rfl (by kernel_rfl) (by kernel_rfl) (by kernel_rfl) (fun _ _ _ h => h) (Or.inl ⟨by rfl, ?_⟩) ?_
                rotate_left
                · intro w; go_simp <;> with_reducible rfl
                try go_simp
                refine wpAny_take (i := 22) (v := ?_) rfl (by kernel_rfl) (by kernel_rfl) (by kernel_rfl) (fun _ _ _ h => h) (Or.inl ⟨by rfl, ?_⟩) ?_
                rotate_left
                · intro w; go_simp <;> with_reducible rfl
                try go_simp
                refine wpAny_take (i := 23) (v := ?_) rfl (by kernel_rfl) (by kernel_rfl) (by kernel_rfl) (fun _ _ _ h => h) (Or.inl ⟨by rfl, ?_⟩) ?_
                rotate_left
                · intro w; go_simp <;> with_reducible rfl
                try go_simp
                refine wpAny_take (i := 24) (v := ?_) rfl (by kernel_rfl) (by kernel_rfl) (by kernel_rfl) (fun _ _ _ h => h) (Or.inl ⟨by rfl, ?_⟩) ?_
                rotate_left
                · intro w; go_simp <;> with_reducible rfl
                try go_simp
                refine wpAny_take (i := 25) (v := ?_) rfl (by kernel_rfl) (by kernel_rfl) (by kernel_rfl) (fun _ _ _ h => h) (Or.inl ⟨by rfl, ?_⟩) ?_
                rotate_left
                · intro w; go_simp <;> with_reducible rfl
                try go_simp
                refine wpAny_take (i := 26) (v := ?_) rfl (by kernel_rfl) (by kernel_rfl) (by kernel_rfl) (fun _ _ _ h => h) (Or.inl ⟨by rfl, ?_⟩) ?_
                rotate_left
                · intro w; go_simp <;> with_reducible rfl
                try go_simp
                refine wpAny_take (i := 27) (v := ?_) rfl (by kernel_rfl) (by kernel_rfl) (by kernel_rfl) (fun _ _ _ h => h) (Or.inl ⟨by rfl, ?_⟩) ?_
                rotate_left
                · intro w; go_simp <;> with_reducible rfl
                try go_simp
                refine wpAny_take (i := 28) (v := ?_) rfl (by kernel_rfl) (by kernel_rfl) (by kernel_rfl) (fun _ _ _ h => h) (Or.inl ⟨by rfl, ?_⟩) ?_
                rotate_left
                · intro w; go_simp <;> with_reducible rfl
                try go_simp
                refine wpAny_take (i := 29) (v := ?_) rfl (by kernel_rfl) (by kernel_rfl) (by kernel_rfl) (fun _ _ _ h => h) (Or.inl ⟨by rfl, ?_⟩) ?_
                rotate_left
                · intro w; go_simp <;> with_reducible rfl
                try go_simp
                refine wpAny_take (i := 30) (v := ?_) rfl (by kernel_rfl) (by kernel_rfl) (by kernel_rfl) (fun _ _ _ h => h) (Or.inl ⟨by rfl, ?_⟩) ?_
                rotate_left
                · intro w; go_simp <;> with_reducible rfl
                try go_simp
                refine wpAny_take (i := 31) (v := ?_) rfl (by kernel_rfl) (by kernel_rfl) (by kernel_rfl) (fun _ _ _ h => h) (Or.inl ⟨by rfl, ?_⟩) ?_
                rotate_left
                · intro w; go_simp <;> with_reducible rfl
                try go_simp
                refine wpAny_done (by kernel_rfl) ?_ _
                go_wp2_with fail
                go_ret
                exact ⟨ret_bool E3.out, HMb.out.bel⟩
end Go.Proofs.Ytcndocopecnohaa
