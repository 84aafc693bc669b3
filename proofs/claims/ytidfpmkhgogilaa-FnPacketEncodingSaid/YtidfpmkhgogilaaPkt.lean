/- Packets: IsValidPacket, EncodePacket. -/
import Derived.Test.YtidfpmkhgogilaaRecPkt
import Derived.Test.YtidfpmkhgogilaaRdB
import Derived.Deep.RegionHeld3
namespace Go.Proofs.Ytidfpmkhgogilaa
open Go.RowKit Go.Sep

def vP (p : Int) (n : Nat) : Bool := inR p 0 65535 && decide ((n : Int) ≤ 60)
theorem vP_cases (p : Int) (n : Nat) : (inR p 0 65535 = false ∧ vP p n = false) ∨ (inR p 0 65535 = true ∧ decide ((n : Int) ≤ 60) = false ∧ vP p n = false) ∨ (inR p 0 65535 = true ∧ decide ((n : Int) ≤ 60) = true ∧ vP p n = true) := by
  unfold vP
  cases inR p 0 65535 <;> cases decide ((n : Int) ≤ 60) <;> simp
theorem vP_true {p : Int} {n : Nat} (h : vP p n = true) : 0 ≤ p ∧ p ≤ 65535 ∧ n ≤ 60 := by
  simp only [vP, Bool.and_eq_true, decide_eq_true_eq] at h
  have := inR_true h.1
  exact ⟨this.1, this.2, by omega⟩
theorem own_ext {w : World} {lo hi size n : Nat} {e : TypeId} {v : Value} {xs : List Value} (h : Own w lo hi e size v n xs) (os : Array Obj) (d : Nat) : Own (ext w os d) lo hi e size v n xs := h.below' (below_ext (Below.refl _ _) (Nat.le_refl _) _ _)
theorem sIsValidPacket_any (w : World) (p : Int) (A : Option Addr) (n c lo hi : Nat) (l : List Int) (_hr : Rd w lo hi 1 A n (l.map (.int .u8))) (_hn : n ≤ 1048576) (_h8 : B8 l) :
    Calls Try.prog 38 #[.agg #[.int .i64 p, .slice A n c]] w fun e w' => e = .returned (.bool (vP p n)) ∧ Below w.heap.size w w' := by
  clear _hr _hn _h8
  rcases vP_cases p n with ⟨h1, h⟩ | ⟨h1, h2, h⟩ | ⟨h1, h2, h⟩
  all_goals
    rw [h]
    clear h
    go_enter Try.func38, Try.ntmps38
    go_wp2_with (go_at_call 57; refine (l1In_any _ _ _ _).mono ?_; rintro e w' ⟨rfl, rfl⟩)
    go_ret
    exact ⟨rfl, (by (repeat' (first | (with_reducible exact Below.refl _ _) | (with_reducible assumption) | (with_reducible refine Below.alloc ?_ ?_ _) | (with_reducible refine below_ext ?_ ?_ _ _) | (with_reducible refine Below.setCell ?_ ?_ _) | (with_reducible refine Below.drew ?_) | (with_reducible refine below_drewN ?_ _))); all_goals (first | omega | (simp; done) | (simp; omega)))⟩
theorem iIsValidPacket_any (w : World) (p : Int) (A : Option Addr) (n c lo hi : Nat) (l : List Int) (_hr : Rd w lo hi 1 A n (l.map (.int .u8))) (_hn : n ≤ 1048576) (_h8 : B8 l) :
    Calls Try.prog 40 #[.agg #[.int .i64 p, .slice A n c]] w fun e w' => e = .returned (.bool (vP p n)) ∧ Below w.heap.size w w' := by
  clear _hr _hn _h8
  rcases vP_cases p n with ⟨h1, h⟩ | ⟨h1, h2, h⟩ | ⟨h1, h2, h⟩
  all_goals
    rw [h]
    clear h
    go_enter Try.func40, Try.ntmps40
    go_wp2_with (go_at_call 58; refine (inRange_any _ _ _ _).mono ?_; rintro e w' ⟨rfl, rfl⟩)
    go_ret
    exact ⟨rfl, (by (repeat' (first | (with_reducible exact Below.refl _ _) | (with_reducible assumption) | (with_reducible refine Below.alloc ?_ ?_ _) | (with_reducible refine below_ext ?_ ?_ _ _) | (with_reducible refine Below.setCell ?_ ?_ _) | (with_reducible refine Below.drew ?_) | (with_reducible refine below_drewN ?_ _))); all_goals (first | omega | (simp; done) | (simp; omega)))⟩
/-- The bytes of a packet. -/
def encP (p : Int) (l : List Int) : List Int := if vP p l.length = true then apB (apU [] p) l else []
theorem encP_no {p : Int} {l : List Int} {n : Nat} (hl : l.length = n) (h : vP p n = false) : encP p l = [] := by simp [encP, hl, h]
theorem encP_yes {p : Int} {l : List Int} {n : Nat} (hl : l.length = n) (h : vP p n = true) : encP p l = apB (apU [] p) l := by simp [encP, hl, h]
theorem encP_len (p : Int) (l : List Int) : (encP p l).length ≤ l.length + 12 := by
  unfold encP
  split
  · have h1 := apU_len [] p
    have h2 := apU_len (apU [] p) (l.length : Int)
    simp [apB] at h1 ⊢
    omega
  · simp
set_option maxRecDepth 100000 in
theorem iEncodePacket_any (w : World) (p : Int) (A : Option Addr) (n c lo hi : Nat) (l : List Int) (hr : Rd w lo hi 1 A n (l.map (.int .u8))) (hn : n ≤ 1048576) (h8 : B8 l) :
    Calls Try.prog 43 #[.agg #[.int .i64 p, .slice A n c]] w (Mk w 5 1 (encP p l).length ((encP p l).map (.int .u8))) := by
  have hll : l.length = n := by simpa using hr.len
  have HV := hide (fun W h => iIsValidPacket_any W p A n c lo hi l h hn h8)
  cases hv : vP p n
  · rw [hv] at HV
    rw [encP_no hll hv]
    clear hv
    go_enter Try.func43, Try.ntmps43
    go_wp2_with (go_at_call 40; refine (unhide HV _ (hr.below' (by (repeat' (first | (with_reducible exact Below.refl _ _) | (with_reducible assumption) | (with_reducible refine Below.alloc ?_ ?_ _) | (with_reducible refine below_ext ?_ ?_ _ _) | (with_reducible refine Below.setCell ?_ ?_ _) | (with_reducible refine Below.drew ?_) | (with_reducible refine below_drewN ?_ _))); all_goals (first | omega | (simp; done) | (simp; omega))))).mono ?_; rintro e w1 ⟨rfl, hb1⟩; obtain ⟨os1, d1, rfl⟩ := ext_of_below hb1; clear hb1)
    go_ret
    exact ⟨_, _, rfl, Nat.le_refl _, by unfold maxLen; omega, (fresh0 _ _ (by simp)).more (by first | omega | (simp <;> omega)) (by first | omega | (simp <;> omega)), (by (repeat' (first | (with_reducible exact Below.refl _ _) | (with_reducible assumption) | (with_reducible refine Below.alloc ?_ ?_ _) | (with_reducible refine below_ext ?_ ?_ _ _) | (with_reducible refine Below.setCell ?_ ?_ _) | (with_reducible refine Below.drew ?_) | (with_reducible refine below_drewN ?_ _))); all_goals (first | omega | (simp; done) | (simp; omega)))⟩
  · rw [hv] at HV
    rw [encP_yes hll hv]
    have hvt := vP_true hv
    have HU := hide (fun W => iAppU_any W none 0 0 0 0 [] p (Rd.nil_ W 0 0 1 none) (by omega))
    have hlu := apU_len [] p
    have HB := hide (fun W A1 c1 lo1 hi1 h h' => iAppB_any W A1 (apU [] p).length c1 lo1 hi1 (apU [] p) A n c lo hi l h h' (by simp at hlu; omega) (by omega))
    generalize apB (apU [] p) l = b at HB ⊢
    generalize apU [] p = u at HU HB hlu
    clear hv
    go_enter Try.func43, Try.ntmps43
    go_wp2_with (go_at_call 40; refine (unhide HV _ (hr.below' (by (repeat' (first | (with_reducible exact Below.refl _ _) | (with_reducible assumption) | (with_reducible refine Below.alloc ?_ ?_ _) | (with_reducible refine below_ext ?_ ?_ _ _) | (with_reducible refine Below.setCell ?_ ?_ _) | (with_reducible refine Below.drew ?_) | (with_reducible refine below_drewN ?_ _))); all_goals (first | omega | (simp; done) | (simp; omega))))).mono ?_; rintro e w1 ⟨rfl, hb1⟩; obtain ⟨os1, d1, rfl⟩ := ext_of_below hb1; clear hb1)
    go_region_held3 (fun w' => w'.cell? ⟨w.heap.size, 0, none⟩ = some (.int .i64 p) ∧ w'.cell? ⟨w.heap.size, 1, none⟩ = some (.slice A n c)) (first | (go_simp; done) | go_keep)
      (first | (go_at_call 66; refine (unhide HU _).mono ?_; rintro e w2 ⟨A2, c2, rfl, hc2, hm2, ho2, hb2⟩; obtain ⟨os2, d2, rfl⟩ := ext_of_below hb2; clear hb2; try simp only [ext_drew] at ho2; try simp only [ext_drewN] at ho2) | (go_at_call 65; refine (unhide HB _ _ _ _ _ ho2.rd (hr.below' (by (repeat' (first | (with_reducible exact Below.refl _ _) | (with_reducible assumption) | (with_reducible refine Below.alloc ?_ ?_ _) | (with_reducible refine below_ext ?_ ?_ _ _) | (with_reducible refine Below.setCell ?_ ?_ _) | (with_reducible refine Below.drew ?_) | (with_reducible refine below_drewN ?_ _))); all_goals (first | omega | (simp; done) | (simp; omega))))).mono ?_; rintro e w3 ⟨A3, c3, rfl, hc3, hm3, ho3, hb3⟩; obtain ⟨os3, d3, rfl⟩ := ext_of_below hb3; clear hb3; try simp only [ext_drew] at ho3; try simp only [ext_drewN] at ho3))
    all_goals
      go_wp2_with fail
      go_ret
      exact ⟨_, _, rfl, hc3, hm3, ho3.more (by simp <;> omega) (by simp), (by (repeat' (first | (with_reducible exact Below.refl _ _) | (with_reducible assumption) | (with_reducible refine Below.alloc ?_ ?_ _) | (with_reducible refine below_ext ?_ ?_ _ _) | (with_reducible refine Below.setCell ?_ ?_ _) | (with_reducible refine Below.drew ?_) | (with_reducible refine below_drewN ?_ _))); all_goals (first | omega | (simp; done) | (simp; omega)))⟩
set_option maxRecDepth 100000 in
theorem sEncodePacket_any (w : World) (p : Int) (A : Option Addr) (n c lo hi : Nat) (l : List Int) (hr : Rd w lo hi 1 A n (l.map (.int .u8))) (hn : n ≤ 1048576) (h8 : B8 l) :
    Calls Try.prog 42 #[.agg #[.int .i64 p, .slice A n c]] w (Mk w 5 1 (encP p l).length ((encP p l).map (.int .u8))) := by
  have hll : l.length = n := by simpa using hr.len
  have HV := hide (fun W h => sIsValidPacket_any W p A n c lo hi l h hn h8)
  cases hv : vP p n
  · rw [hv] at HV
    rw [encP_no hll hv]
    clear hv
    go_enter Try.func42, Try.ntmps42
    go_wp2_with (go_at_call 38; refine (unhide HV _ (hr.below' (by (repeat' (first | (with_reducible exact Below.refl _ _) | (with_reducible assumption) | (with_reducible refine Below.alloc ?_ ?_ _) | (with_reducible refine below_ext ?_ ?_ _ _) | (with_reducible refine Below.setCell ?_ ?_ _) | (with_reducible refine Below.drew ?_) | (with_reducible refine below_drewN ?_ _))); all_goals (first | omega | (simp; done) | (simp; omega))))).mono ?_; rintro e w1 ⟨rfl, hb1⟩; obtain ⟨os1, d1, rfl⟩ := ext_of_below hb1; clear hb1)
    go_ret
    exact ⟨_, _, rfl, Nat.le_refl _, by unfold maxLen; omega, (fresh0 _ _ (by simp)).more (by first | omega | (simp <;> omega)) (by first | omega | (simp <;> omega)), (by (repeat' (first | (with_reducible exact Below.refl _ _) | (with_reducible assumption) | (with_reducible refine Below.alloc ?_ ?_ _) | (with_reducible refine below_ext ?_ ?_ _ _) | (with_reducible refine Below.setCell ?_ ?_ _) | (with_reducible refine Below.drew ?_) | (with_reducible refine below_drewN ?_ _))); all_goals (first | omega | (simp; done) | (simp; omega)))⟩
  · rw [hv] at HV
    rw [encP_yes hll hv]
    have hvt := vP_true hv
    have HU := hide (fun W A' => sAppU_any W A' 0 0 0 0 [] p (Rd.nil_ W 0 0 1 A') (by omega))
    have hlu := apU_len [] p
    have HB := hide (fun W A1 c1 lo1 hi1 h h' => sAppB_any W A1 (apU [] p).length c1 lo1 hi1 (apU [] p) A n c lo hi l h h' (by simp at hlu; omega) (by omega))
    generalize apB (apU [] p) l = b at HB ⊢
    generalize apU [] p = u at HU HB hlu
    clear hv
    go_enter Try.func42, Try.ntmps42
    go_wp2_with (go_at_call 38; refine (unhide HV _ (hr.below' (by (repeat' (first | (with_reducible exact Below.refl _ _) | (with_reducible assumption) | (with_reducible refine Below.alloc ?_ ?_ _) | (with_reducible refine below_ext ?_ ?_ _ _) | (with_reducible refine Below.setCell ?_ ?_ _) | (with_reducible refine Below.drew ?_) | (with_reducible refine below_drewN ?_ _))); all_goals (first | omega | (simp; done) | (simp; omega))))).mono ?_; rintro e w1 ⟨rfl, hb1⟩; obtain ⟨os1, d1, rfl⟩ := ext_of_below hb1; clear hb1)
    go_region_held3 (fun w' => w'.cell? ⟨w.heap.size, 0, none⟩ = some (.int .i64 p) ∧ w'.cell? ⟨w.heap.size, 1, none⟩ = some (.slice A n c)) (first | (go_simp; done) | go_keep)
      (first | (go_at_call 63; refine (unhide HU _ _).mono ?_; rintro e w2 ⟨A2, c2, rfl, hc2, hm2, ho2, hb2⟩; obtain ⟨os2, d2, rfl⟩ := ext_of_below hb2; clear hb2; try simp only [ext_drew] at ho2; try simp only [ext_drewN] at ho2) | (go_at_call 61; refine (unhide HB _ _ _ _ _ ho2.rd (hr.below' (by (repeat' (first | (with_reducible exact Below.refl _ _) | (with_reducible assumption) | (with_reducible refine Below.alloc ?_ ?_ _) | (with_reducible refine below_ext ?_ ?_ _ _) | (with_reducible refine Below.setCell ?_ ?_ _) | (with_reducible refine Below.drew ?_) | (with_reducible refine below_drewN ?_ _))); all_goals (first | omega | (simp; done) | (simp; omega))))).mono ?_; rintro e w3 ⟨A3, c3, rfl, hc3, hm3, ho3, hb3⟩; obtain ⟨os3, d3, rfl⟩ := ext_of_below hb3; clear hb3; try simp only [ext_drew] at ho3; try simp only [ext_drewN] at ho3))
    all_goals
      go_wp2_with fail
      go_ret
      exact ⟨_, _, rfl, hc3, hm3, ho3.more (by simp <;> omega) (by simp), (by (repeat' (first | (with_reducible exact Below.refl _ _) | (with_reducible assumption) | (with_reducible refine Below.alloc ?_ ?_ _) | (with_reducible refine below_ext ?_ ?_ _ _) | (with_reducible refine Below.setCell ?_ ?_ _) | (with_reducible refine Below.drew ?_) | (with_reducible refine below_drewN ?_ _))); all_goals (first | omega | (simp; done) | (simp; omega)))⟩
end Go.Proofs.Ytidfpmkhgogilaa
