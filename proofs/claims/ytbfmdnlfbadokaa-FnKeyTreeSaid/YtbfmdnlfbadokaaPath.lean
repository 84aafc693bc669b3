/- Key paths: the laws' helpers on one path; what KeyForPath, IsPrefixPath and DeriveFrom return. -/
import Derived.Test.YtbfmdnlfbadokaaHash
import Derived.Test.YtbfmdnlfbadokaaIntS
import Derived.Deep.RegionHeld3
namespace Go.Proofs.Ytbfmdnlfbadokaa
open Go.RowKit Go.Sep

def szL (left : Int) (n : Nat) : Int := if left < n then -1 else left - n
theorem szKP_any (w : World) (A : Option Addr) (n c : Nat) (left : Int) (hn : n ≤ 9223372036854775807) (h0 : 0 ≤ left) (h1 : left ≤ 1048576) :
    Calls Try.prog 29 #[.agg #[.slice A n c], .int .i64 left] w fun e w' => e = .returned (.int .i64 (szL left n)) ∧ Below w.heap.size w w' := by
  have HZ := hide (fun W => szIntS_any W A n c left hn h0 h1)
  have hv : (if left < (n : Int) then (-1 : Int) else left - n) = szL left n := rfl
  rw [hv] at HZ
  clear hv
  by_cases h : left < n
  · have hv : szL left n = -1 := if_pos h
    rw [hv] at HZ ⊢
    go_enter Try.func29, Try.ntmps29
    go_wp2_with (go_at_call 72; refine (unhide HZ _).mono ?_; rintro e w' ⟨rfl, rfl⟩)
    go_ret
    exact ⟨rfl, (by (repeat' (first | (with_reducible exact Below.refl _ _) | (with_reducible assumption) | (with_reducible refine Below.alloc ?_ ?_ _) | (with_reducible refine below_ext ?_ ?_ _ _) | (with_reducible refine Below.setCell ?_ ?_ _) | (with_reducible refine Below.drew ?_) | (with_reducible refine below_drewN ?_ _))); all_goals (first | omega | (simp; done) | (simp; omega)))⟩
  · have hv : szL left n = left - n := if_neg h
    rw [hv] at HZ ⊢
    go_enter Try.func29, Try.ntmps29
    go_wp2_with (go_at_call 72; refine (unhide HZ _).mono ?_; rintro e w' ⟨rfl, rfl⟩)
    go_ret
    exact ⟨rfl, (by (repeat' (first | (with_reducible exact Below.refl _ _) | (with_reducible assumption) | (with_reducible refine Below.alloc ?_ ?_ _) | (with_reducible refine below_ext ?_ ?_ _ _) | (with_reducible refine Below.setCell ?_ ?_ _) | (with_reducible refine Below.drew ?_) | (with_reducible refine below_drewN ?_ _))); all_goals (first | omega | (simp; done) | (simp; omega)))⟩
theorem toKP_any (w : World) (A : Option Addr) (n c lo hi : Nat) (l : List Int) (hr : Rd w lo hi 1 A n (l.map (.int .i64))) (hn : n ≤ 16777216) :
    Calls Try.prog 31 #[.agg #[.slice A n c]] w (MkV (fun v => .agg #[v]) w 3 1 n (l.map (.int .i64))) := by
  go_enter Try.func31, Try.ntmps31
  go_wp2_with (go_at_call 74; refine (toIntS_any _ _ _ _ _ _ l (((hr.alloc _).alloc _).alloc _) hn).mono ?_; rintro e w1 ⟨A1, c1, rfl, hc1, hm1, ho1, hb1⟩; obtain ⟨os1, d1, rfl⟩ := ext_of_below hb1; clear hb1; try simp only [ext_drew] at ho1; try simp only [ext_drewN] at ho1)
  exact bodyPost_ret (v := .agg #[.slice A1 n c1]) (by simp only [results, Try.results31]; go_simp) rfl ⟨A1, c1, rfl, hc1, hm1, (ho1.swap (by simp) (by simp)).more (by simp <;> omega) (by simp), (by (repeat' (first | (with_reducible exact Below.refl _ _) | (with_reducible assumption) | (with_reducible refine Below.alloc ?_ ?_ _) | (with_reducible refine below_ext ?_ ?_ _ _) | (with_reducible refine Below.setCell ?_ ?_ _) | (with_reducible refine Below.drew ?_) | (with_reducible refine below_drewN ?_ _))); all_goals (first | omega | (simp; done) | (simp; omega)))⟩
theorem eqKP_yes (w : World) (A B : Option Addr) (n c c' lo hi lo' hi' : Nat) (l : List Int) (hr : Rd w lo hi 1 A n (l.map (.int .i64))) (hr' : Rd w lo' hi' 1 B n (l.map (.int .i64))) (hn : n ≤ 9223372036854775807) :
    Calls Try.prog 33 #[.agg #[.slice A n c], .agg #[.slice B n c']] w fun e w' => e = .returned (.bool true) ∧ Below w.heap.size w w' := by
  go_enter Try.func33, Try.ntmps33
  go_wp2_with (go_at_call 76; refine (eqIntS_yes _ _ _ _ _ _ _ _ _ _ l ((hr.alloc _).alloc _) ((hr'.alloc _).alloc _) hn).mono ?_; rintro e w1 ⟨rfl, hb1⟩; obtain ⟨os1, d1, rfl⟩ := ext_of_below hb1; clear hb1)
  go_ret
  exact ⟨rfl, (by (repeat' (first | (with_reducible exact Below.refl _ _) | (with_reducible assumption) | (with_reducible refine Below.alloc ?_ ?_ _) | (with_reducible refine below_ext ?_ ?_ _ _) | (with_reducible refine Below.setCell ?_ ?_ _) | (with_reducible refine Below.drew ?_) | (with_reducible refine below_drewN ?_ _))); all_goals (first | omega | (simp; done) | (simp; omega)))⟩

theorem dk_snoc (l : List Int) (a : Int) (k : Nat) (z : Int) (h : l[k]? = some z) : (l.take (k + 1)).foldl dk a = dk ((l.take k).foldl dk a) z := by
  obtain ⟨hk, hz⟩ := List.getElem?_eq_some_iff.1 h
  rw [List.take_succ_eq_append_getElem hk, List.foldl_append, hz]
  rfl
theorem iSteps_any (w : World) (key : Int) (A : Option Addr) (n c lo hi : Nat) (l : List Int) (hr : Rd w lo hi 1 A n (l.map (.int .i64))) (hn : n ≤ 9223372036854775807) :
    Calls Try.prog 75 #[.int .i64 key, .slice A n c] w fun e w' => e = .returned (.int .i64 (l.foldl dk key)) ∧ Below w.heap.size w w' := by
  have hlen := hr.len
  go_enter Try.func75, Try.ntmps75
  go_wp2_with fail
  go_loopw [0, 9] (fun q i wr => ∃ (k : Nat) (a : Int), k ≤ n ∧ i = .int .i64 k ∧ q = .int .i64 a ∧ Hid (a = (l.take k).foldl dk key) ∧ Below w.heap.size w wr) (fun _ i _ => n - (intOf i).toNat)
  case atStart => exact ⟨0, key, Nat.zero_le _, rfl, rfl, hide rfl, Below.refl _ _⟩
  case round =>
    obtain ⟨k, a, hk, rfl, rfl, HA, hb⟩ := hrel
    by_cases hlt : k < n
    · obtain ⟨b, o, rfl, _, _, hcell⟩ := (hr.below' hb).at_ (j := k) (by omega)
      have hkl : k < l.length := by simpa using (by omega : k < (l.map (Value.int .i64)).length)
      have hx := hcell k (.int .i64 l[k]) (by simp [hkl])
      have HF := hide (dk_snoc l key k l[k] (List.getElem?_eq_getElem hkl))
      generalize l[k] = z at hx HF
      clear hcell hkl hr
      go_wp2_with (go_at_call 44; refine (iDK_any _ _ _).mono ?_; rintro e w1 ⟨rfl, hb1⟩)
      go_roundw
      case rel => exact ⟨k + 1, _, by omega, by go_num, rfl, hide (by rw [HF.out, ← HA.out]), below_then hb hb1 hb.size⟩
      case measure => simp [intOf] <;> omega
    · go_wp2_with fail
      go_ret
      exact ⟨ret_int (by rw [HA.out, List.take_of_length_le (by simp at hlen; omega)]), hb⟩
theorem iKFP_any (w : World) (key : Int) (A : Option Addr) (n c lo hi : Nat) (l : List Int) (hr : Rd w lo hi 1 A n (l.map (.int .i64))) (hn : n ≤ 9223372036854775807) :
    Calls Try.prog 32 #[.int .i64 key, .agg #[.slice A n c]] w fun e w' => e = .returned (.int .i64 (l.foldl dk key)) ∧ Below w.heap.size w w' := by
  have HS := hide (iSteps_any (w.alloc (.cells #[.slice A n c] 45)) key A n c lo hi l (hr.alloc _) hn)
  generalize l.foldl dk key = r at HS ⊢
  go_enter Try.func32, Try.ntmps32
  go_wp2_with (go_at_call 75; refine (unhide HS).mono ?_; rintro e w1 ⟨rfl, hb1⟩; obtain ⟨os1, d1, rfl⟩ := ext_of_below hb1; clear hb1)
  go_ret
  exact ⟨rfl, (by (repeat' (first | (with_reducible exact Below.refl _ _) | (with_reducible assumption) | (with_reducible refine Below.alloc ?_ ?_ _) | (with_reducible refine below_ext ?_ ?_ _ _) | (with_reducible refine Below.setCell ?_ ?_ _) | (with_reducible refine Below.drew ?_) | (with_reducible refine below_drewN ?_ _))); all_goals (first | omega | (simp; done) | (simp; omega)))⟩
theorem sKFP_any (w : World) (key : Int) (A : Option Addr) (n c lo hi : Nat) (l : List Int) (hr : Rd w lo hi 1 A n (l.map (.int .i64))) (hn : n ≤ 9223372036854775807) :
    Calls Try.prog 30 #[.int .i64 key, .agg #[.slice A n c]] w fun e w' => e = .returned (.int .i64 (l.foldl dk key)) ∧ Below w.heap.size w w' := by
  have hlen := hr.len
  go_enter Try.func30, Try.ntmps30
  go_wp2_with fail
  go_loopw [5, 6] (fun q i wr => ∃ (k : Nat) (a : Int), k ≤ n ∧ i = .int .i64 k ∧ q = .int .i64 a ∧ Hid (a = (l.take k).foldl dk key) ∧ Below (w.heap.size + 1) (w.alloc (.cells #[.slice A n c] 45)) wr) (fun _ i _ => n - (intOf i).toNat)
  case atStart => exact ⟨0, key, Nat.zero_le _, rfl, rfl, hide rfl, Below.refl _ _⟩
  case round =>
    obtain ⟨k, a, hk, rfl, rfl, HA, hb⟩ := hrel
    have hbox : wr.cell? ⟨w.heap.size, 0, none⟩ = some (.slice A n c) := (hb.cell (p := ⟨w.heap.size, 0, none⟩) (Nat.lt_succ_self _)).trans (World.cell?_alloc_new _ _ _ _)
    by_cases hlt : k < n
    · obtain ⟨b, o, rfl, _, _, hcell⟩ := ((hr.alloc (.cells #[.slice A n c] 45)).below' (by simpa using hb)).at_ (j := k) (by omega)
      have hkl : k < l.length := by simpa using (by omega : k < (l.map (Value.int .i64)).length)
      have hx := hcell k (.int .i64 l[k]) (by simp [hkl])
      have HF := hide (dk_snoc l key k l[k] (List.getElem?_eq_getElem hkl))
      generalize l[k] = z at hx HF
      clear hcell hkl hr
      go_wp2_with (go_at_call 73; refine (sDK_any _ _ _).mono ?_; rintro e w1 ⟨rfl, hb1⟩)
      go_roundw
      case rel => exact ⟨k + 1, _, by omega, by go_num, rfl, hide (by rw [HF.out, ← HA.out]), below_then hb hb1 (by have := hb.size; simpa using this)⟩
      case measure => simp [intOf] <;> omega
    · go_wp2_with fail
      go_ret
      exact ⟨ret_int (by rw [HA.out, List.take_of_length_le (by simp at hlen; omega)]), below_then ((Below.refl _ _).alloc (Nat.le_refl _) _) hb (by simp)⟩

theorem fnExactKeyForPath.walk (key : Int) (A : Option Addr) (n c : Nat) (l : List Int) (w : World) (hl : l.length = n) (hr : Rd w 0 w.heap.size 1 A n (l.map (.int .i64))) (_hw : ∀ x ∈ l, (Lit.int .i64 x).wf = true) (hc : n ≤ c ∧ c ≤ maxLen) :
    Calls Try.prog 7 #[.int .i64 key, .agg #[.slice A n c]] w fun e w' => e = .returned (.bool true) ∧ Below w.heap.size w w' := by
  have hn : n ≤ 9223372036854775807 := by have := hc.1; have := hc.2; unfold maxLen at this; omega
  by_cases hbig : (1048576 : Int) < n
  · have HS := hide (fun W => szKP_any W A n c 1048576 hn (by omega) (by omega))
    rw [show szL 1048576 n = -1 from if_pos hbig] at HS
    go_enter Try.func7, Try.ntmps7
    go_wp2_with (go_at_call 29; refine (unhide HS _).mono ?_; rintro e w1 ⟨rfl, hb1⟩; obtain ⟨os1, d1, rfl⟩ := ext_of_below hb1; clear hb1)
    go_ret
    exact ⟨rfl, (by (repeat' (first | (with_reducible exact Below.refl _ _) | (with_reducible assumption) | (with_reducible refine Below.alloc ?_ ?_ _) | (with_reducible refine below_ext ?_ ?_ _ _) | (with_reducible refine Below.setCell ?_ ?_ _) | (with_reducible refine Below.drew ?_) | (with_reducible refine below_drewN ?_ _))); all_goals (first | omega | (simp; done) | (simp; omega)))⟩
  · have HS := hide (fun W => szKP_any W A n c 1048576 hn (by omega) (by omega))
    rw [show szL 1048576 n = 1048576 - n from if_neg hbig] at HS
    have HR := hide (fun W A c lo hi h => sKFP_any W key A n c lo hi l h hn)
    have HI := hide (fun W A c lo hi h => iKFP_any W key A n c lo hi l h hn)
    generalize l.foldl dk key = r at HR HI
    go_enter Try.func7, Try.ntmps7
    go_wp2_with fail; refine (unhide HS _).mono ?_; rintro e w1 ⟨rfl, hb1⟩; obtain ⟨os1, d1, rfl⟩ := ext_of_below hb1; clear hb1
    go_wp2_with fail; refine (toKP_any _ _ _ _ _ _ l (hr.below' (by (repeat' (first | (with_reducible exact Below.refl _ _) | (with_reducible assumption) | (with_reducible refine Below.alloc ?_ ?_ _) | (with_reducible refine below_ext ?_ ?_ _ _) | (with_reducible refine Below.setCell ?_ ?_ _) | (with_reducible refine Below.drew ?_) | (with_reducible refine below_drewN ?_ _))); all_goals (first | omega | (simp; done) | (simp; omega)))) (by omega)).mono ?_; rintro e w2 ⟨A2, c2, rfl, hc2, hm2, ho2, hb2⟩; obtain ⟨os2, d2, rfl⟩ := ext_of_below hb2; clear hb2; try simp only [ext_drew] at ho2; try simp only [ext_drewN] at ho2
    go_wp2_with fail; refine (unhide HR _ _ _ _ _ ho2.rd).mono ?_; rintro e w3 ⟨rfl, hb3⟩; obtain ⟨os3, d3, rfl⟩ := ext_of_below hb3; clear hb3
    go_wp2_with fail; refine (toKP_any _ _ _ _ _ _ l (hr.below' (by (repeat' (first | (with_reducible exact Below.refl _ _) | (with_reducible assumption) | (with_reducible refine Below.alloc ?_ ?_ _) | (with_reducible refine below_ext ?_ ?_ _ _) | (with_reducible refine Below.setCell ?_ ?_ _) | (with_reducible refine Below.drew ?_) | (with_reducible refine below_drewN ?_ _))); all_goals (first | omega | (simp; done) | (simp; omega)))) (by omega)).mono ?_; rintro e w4 ⟨A4, c4, rfl, hc4, hm4, ho4, hb4⟩; obtain ⟨os4, d4, rfl⟩ := ext_of_below hb4; clear hb4; try simp only [ext_drew] at ho4; try simp only [ext_drewN] at ho4
    go_wp2_with fail; refine (unhide HI _ _ _ _ _ (ho4.rd.below' (by (repeat' (first | (with_reducible exact Below.refl _ _) | (with_reducible assumption) | (with_reducible refine Below.alloc ?_ ?_ _) | (with_reducible refine below_ext ?_ ?_ _ _) | (with_reducible refine Below.setCell ?_ ?_ _) | (with_reducible refine Below.drew ?_) | (with_reducible refine below_drewN ?_ _))); all_goals (first | omega | (simp; done) | (simp; omega))))).mono ?_; rintro e w5 ⟨rfl, hb5⟩; obtain ⟨os5, d5, rfl⟩ := ext_of_below hb5; clear hb5
    go_wp2_with fail
    go_region_held3 (fun w' => w'.cell? ⟨w.heap.size, 0, none⟩ = some (.slice A n c) ∧ w'.cell? ⟨w.heap.size + 1 + os1.size + os2.size + os3.size + os4.size, 0, none⟩ = some (.slice A4 n c4)) (first | (go_simp; done) | go_keep)
      (first | (go_at_call 31; refine (toKP_any _ _ _ _ _ _ l (hr.below' (by (repeat' (first | (with_reducible exact Below.refl _ _) | (with_reducible assumption) | (with_reducible refine Below.alloc ?_ ?_ _) | (with_reducible refine below_ext ?_ ?_ _ _) | (with_reducible refine Below.setCell ?_ ?_ _) | (with_reducible refine Below.drew ?_) | (with_reducible refine below_drewN ?_ _))); all_goals (first | omega | (simp; done) | (simp; omega)))) (by omega)).mono ?_; rintro e w6 ⟨A6, c6, rfl, hc6, hm6, ho6, hb6⟩; obtain ⟨os6, d6, rfl⟩ := ext_of_below hb6; clear hb6; try simp only [ext_drew] at ho6; try simp only [ext_drewN] at ho6) | (go_at_call 33; refine (eqKP_yes _ _ _ _ _ _ _ _ _ _ l (ho4.rd.below' (by (repeat' (first | (with_reducible exact Below.refl _ _) | (with_reducible assumption) | (with_reducible refine Below.alloc ?_ ?_ _) | (with_reducible refine below_ext ?_ ?_ _ _) | (with_reducible refine Below.setCell ?_ ?_ _) | (with_reducible refine Below.drew ?_) | (with_reducible refine below_drewN ?_ _))); all_goals (first | omega | (simp; done) | (simp; omega)))) (ho6.rd.below' (by (repeat' (first | (with_reducible exact Below.refl _ _) | (with_reducible assumption) | (with_reducible refine Below.alloc ?_ ?_ _) | (with_reducible refine below_ext ?_ ?_ _ _) | (with_reducible refine Below.setCell ?_ ?_ _) | (with_reducible refine Below.drew ?_) | (with_reducible refine below_drewN ?_ _))); all_goals (first | omega | (simp; done) | (simp; omega)))) hn).mono ?_; rintro e w7 ⟨rfl, hb7⟩; obtain ⟨os7, d7, rfl⟩ := ext_of_below hb7; clear hb7))
    all_goals
      go_wp2_with fail
      go_ret
      exact ⟨rfl, (by (repeat' (first | (with_reducible exact Below.refl _ _) | (with_reducible assumption) | (with_reducible refine Below.alloc ?_ ?_ _) | (with_reducible refine below_ext ?_ ?_ _ _) | (with_reducible refine Below.setCell ?_ ?_ _) | (with_reducible refine Below.drew ?_) | (with_reducible refine below_drewN ?_ _))); all_goals (first | omega | (simp; done) | (simp; omega)))⟩
end Go.Proofs.Ytbfmdnlfbadokaa
