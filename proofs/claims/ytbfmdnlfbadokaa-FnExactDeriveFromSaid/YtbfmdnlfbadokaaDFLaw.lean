/- The law on DeriveFrom, walked. -/
import Derived.Test.YtbfmdnlfbadokaaPre2
namespace Go.Proofs.Ytbfmdnlfbadokaa
open Go.RowKit Go.Sep

theorem df_both (root : Int) (n m : Nat) (l l' : List Int) (hn : n ≤ 9223372036854775807) : ∃ (r : Int) (b : Bool),
    (∀ (W : World) (A B : Option Addr) (c c' lo hi lo' hi' : Nat), Rd W lo hi 1 A n (l.map (.int .i64)) → Rd W lo' hi' 1 B m (l'.map (.int .i64)) → m ≤ c' → c' ≤ maxLen → Calls Try.prog 39 #[.int .i64 root, .agg #[.slice A n c], .agg #[.slice B m c']] W fun e w' => e = .returned (.tuple #[.int .i64 r, .bool b]) ∧ Below W.heap.size W w') ∧
    (∀ (W : World) (A B : Option Addr) (c c' lo hi lo' hi' : Nat), Rd W lo hi 1 A n (l.map (.int .i64)) → Rd W lo' hi' 1 B m (l'.map (.int .i64)) → m ≤ c' → c' ≤ maxLen → Calls Try.prog 40 #[.int .i64 root, .agg #[.slice A n c], .agg #[.slice B m c']] W fun e w' => e = .returned (.tuple #[.int .i64 r, .bool b]) ∧ Below W.heap.size W w') :=
  ⟨_, _, fun W A B c c' lo hi lo' hi' h h' hm hc => sDF_any W root A B n m c c' lo hi lo' hi' l l' h h' hn hm (by unfold maxLen at hc; omega), fun W A B c c' lo hi lo' hi' h h' hm hc => iDF_any W root A B n m c c' lo hi lo' hi' l l' h h' hn hm (by unfold maxLen at hc; omega)⟩
set_option maxRecDepth 100000 in
theorem fnExactDeriveFrom.walk (root : Int) (A0 : Option Addr) (n0 c0 : Nat) (l0 : List Int) (A1 : Option Addr) (n1 c1 : Nat) (l1 : List Int) (w : World) (_hl0 : l0.length = n0) (hr0 : Rd w 0 w.heap.size 1 A0 n0 (l0.map (.int .i64))) (_hw0 : ∀ x ∈ l0, (Lit.int .i64 x).wf = true) (hc0 : n0 ≤ c0 ∧ c0 ≤ maxLen)
    (_hl1 : l1.length = n1) (hr1 : Rd w 0 w.heap.size 1 A1 n1 (l1.map (.int .i64))) (_hw1 : ∀ x ∈ l1, (Lit.int .i64 x).wf = true) (hc1 : n1 ≤ c1 ∧ c1 ≤ maxLen) :
    Calls Try.prog 9 #[.int .i64 root, .agg #[.slice A0 n0 c0], .agg #[.slice A1 n1 c1]] w fun e w' => e = .returned (.bool true) ∧ Below w.heap.size w w' := by
  have hn0 : n0 ≤ 9223372036854775807 := by have := hc0.1; have := hc0.2; unfold maxLen at this; omega
  have hn1 : n1 ≤ 9223372036854775807 := by have := hc1.1; have := hc1.2; unfold maxLen at this; omega
  have HS0 := hide (fun W => szKP_any W A0 n0 c0 1048576 hn0 (by omega) (by omega))
  by_cases hbig0 : (1048576 : Int) < n0
  · rw [show szL 1048576 n0 = -1 from if_pos hbig0] at HS0
    clear hbig0
    go_enter Try.func9, Try.ntmps9
    go_wp2_with (go_at_call 29; refine (unhide HS0 _).mono ?_; rintro e w1 ⟨rfl, hb1⟩; obtain ⟨os1, d1, rfl⟩ := ext_of_below hb1; clear hb1)
    go_ret
    exact ⟨rfl, (by (repeat' (first | (with_reducible exact Below.refl _ _) | (with_reducible assumption) | (with_reducible refine Below.alloc ?_ ?_ _) | (with_reducible refine below_ext ?_ ?_ _ _) | (with_reducible refine Below.setCell ?_ ?_ _) | (with_reducible refine Below.drew ?_) | (with_reducible refine below_drewN ?_ _))); all_goals (first | omega | (simp; done) | (simp; omega)))⟩
  rw [show szL 1048576 n0 = 1048576 - n0 from if_neg hbig0] at HS0
  have hz0 : (0 : Int) ≤ 1048576 - n0 := by omega
  have hm0 : n0 ≤ 16777216 := by omega
  have hz2 : (1048576 : Int) - n0 ≤ 1048576 := by omega
  clear hbig0
  generalize (1048576 : Int) - n0 = z at HS0 hz0 hz2
  have HS1 := hide (fun W => szKP_any W A1 n1 c1 z hn1 hz0 hz2)
  by_cases hbig1 : z < n1
  · rw [show szL z n1 = -1 from if_pos hbig1] at HS1
    clear hbig1
    go_enter Try.func9, Try.ntmps9
    go_wp2_with fail; refine (unhide HS0 _).mono ?_; rintro e w1 ⟨rfl, hb1⟩; obtain ⟨os1, d1, rfl⟩ := ext_of_below hb1; clear hb1
    go_wp2_with fail; refine (unhide HS1 _).mono ?_; rintro e w2 ⟨rfl, hb2⟩; obtain ⟨os2, d2, rfl⟩ := ext_of_below hb2; clear hb2
    go_wp2_with fail
    go_ret
    exact ⟨rfl, (by (repeat' (first | (with_reducible exact Below.refl _ _) | (with_reducible assumption) | (with_reducible refine Below.alloc ?_ ?_ _) | (with_reducible refine below_ext ?_ ?_ _ _) | (with_reducible refine Below.setCell ?_ ?_ _) | (with_reducible refine Below.drew ?_) | (with_reducible refine below_drewN ?_ _))); all_goals (first | omega | (simp; done) | (simp; omega)))⟩
  rw [show szL z n1 = z - n1 from if_neg hbig1] at HS1
  have hz1 : (0 : Int) ≤ z - n1 := by omega
  have hm1 : n1 ≤ 16777216 := by omega
  generalize z - n1 = y at HS1 hz1
  obtain ⟨r, b, HR0, HI0⟩ := df_both root n0 n1 l0 l1 hn0
  have HR := hide HR0
  have HI := hide HI0
  clear HR0 HI0 hbig1
  go_enter Try.func9, Try.ntmps9
  go_wp2_with fail; refine (unhide HS0 _).mono ?_; rintro e w1 ⟨rfl, hb1⟩; obtain ⟨os1, d1, rfl⟩ := ext_of_below hb1; clear hb1
  go_wp2_with fail; refine (unhide HS1 _).mono ?_; rintro e w2 ⟨rfl, hb2⟩; obtain ⟨os2, d2, rfl⟩ := ext_of_below hb2; clear hb2
  go_wp2_with fail
  go_region_held3 (fun w' => w'.cell? ⟨w.heap.size, 0, none⟩ = some (.slice A0 n0 c0) ∧ w'.cell? ⟨w.heap.size + 1, 0, none⟩ = some (.slice A1 n1 c1)) (first | (go_simp; done) | go_keep)
    (first | (go_at_call 31; (with_reducible refine (toKP_any _ A0 n0 _ _ _ l0 (hr0.below' (by (repeat' (first | (with_reducible exact Below.refl _ _) | (with_reducible assumption) | (with_reducible refine Below.alloc ?_ ?_ _) | (with_reducible refine below_ext ?_ ?_ _ _) | (with_reducible refine Below.setCell ?_ ?_ _) | (with_reducible refine Below.drew ?_) | (with_reducible refine below_drewN ?_ _))); all_goals (first | omega | (simp; done) | (simp; omega)))) hm0).mono ?_); rintro e w3 ⟨A3, c3, rfl, hc3, hm3, ho3, hb3⟩; obtain ⟨os3, d3, rfl⟩ := ext_of_below hb3; clear hb3; try simp only [ext_drew] at ho3; try simp only [ext_drewN] at ho3) | (go_at_call 31; (with_reducible refine (toKP_any _ A1 n1 _ _ _ l1 (hr1.below' (by (repeat' (first | (with_reducible exact Below.refl _ _) | (with_reducible assumption) | (with_reducible refine Below.alloc ?_ ?_ _) | (with_reducible refine below_ext ?_ ?_ _ _) | (with_reducible refine Below.setCell ?_ ?_ _) | (with_reducible refine Below.drew ?_) | (with_reducible refine below_drewN ?_ _))); all_goals (first | omega | (simp; done) | (simp; omega)))) hm1).mono ?_); rintro e w4 ⟨A4, c4, rfl, hc4, hm4, ho4, hb4⟩; obtain ⟨os4, d4, rfl⟩ := ext_of_below hb4; clear hb4; try simp only [ext_drew] at ho4; try simp only [ext_drewN] at ho4) | (go_at_call 39; refine (unhide HR _ _ _ _ _ _ _ _ _ (ho3.rd.below' (by (repeat' (first | (with_reducible exact Below.refl _ _) | (with_reducible assumption) | (with_reducible refine Below.alloc ?_ ?_ _) | (with_reducible refine below_ext ?_ ?_ _ _) | (with_reducible refine Below.setCell ?_ ?_ _) | (with_reducible refine Below.drew ?_) | (with_reducible refine below_drewN ?_ _))); all_goals (first | omega | (simp; done) | (simp; omega)))) (ho4.rd.below' (by (repeat' (first | (with_reducible exact Below.refl _ _) | (with_reducible assumption) | (with_reducible refine Below.alloc ?_ ?_ _) | (with_reducible refine below_ext ?_ ?_ _ _) | (with_reducible refine Below.setCell ?_ ?_ _) | (with_reducible refine Below.drew ?_) | (with_reducible refine below_drewN ?_ _))); all_goals (first | omega | (simp; done) | (simp; omega)))) hc4 hm4).mono ?_; rintro e w5 ⟨rfl, hb5⟩; obtain ⟨os5, d5, rfl⟩ := ext_of_below hb5; clear hb5))
  all_goals
    go_wp2_with fail; refine (toKP_any _ _ _ _ _ _ l0 (hr0.below' (by (repeat' (first | (with_reducible exact Below.refl _ _) | (with_reducible assumption) | (with_reducible refine Below.alloc ?_ ?_ _) | (with_reducible refine below_ext ?_ ?_ _ _) | (with_reducible refine Below.setCell ?_ ?_ _) | (with_reducible refine Below.drew ?_) | (with_reducible refine below_drewN ?_ _))); all_goals (first | omega | (simp; done) | (simp; omega)))) hm0).mono ?_; rintro e w6 ⟨A6, c6, rfl, hc6, hm6, ho6, hb6⟩; obtain ⟨os6, d6, rfl⟩ := ext_of_below hb6; clear hb6; try simp only [ext_drew] at ho6; try simp only [ext_drewN] at ho6
    go_wp2_with fail; refine (toKP_any _ _ _ _ _ _ l1 (hr1.below' (by (repeat' (first | (with_reducible exact Below.refl _ _) | (with_reducible assumption) | (with_reducible refine Below.alloc ?_ ?_ _) | (with_reducible refine below_ext ?_ ?_ _ _) | (with_reducible refine Below.setCell ?_ ?_ _) | (with_reducible refine Below.drew ?_) | (with_reducible refine below_drewN ?_ _))); all_goals (first | omega | (simp; done) | (simp; omega)))) hm1).mono ?_; rintro e w7 ⟨A7, c7, rfl, hc7, hm7, ho7, hb7⟩; obtain ⟨os7, d7, rfl⟩ := ext_of_below hb7; clear hb7; try simp only [ext_drew] at ho7; try simp only [ext_drewN] at ho7
    go_wp2_with fail; refine (unhide HI _ _ _ _ _ _ _ _ _ (ho6.rd.below' (by (repeat' (first | (with_reducible exact Below.refl _ _) | (with_reducible assumption) | (with_reducible refine Below.alloc ?_ ?_ _) | (with_reducible refine below_ext ?_ ?_ _ _) | (with_reducible refine Below.setCell ?_ ?_ _) | (with_reducible refine Below.drew ?_) | (with_reducible refine below_drewN ?_ _))); all_goals (first | omega | (simp; done) | (simp; omega)))) (ho7.rd.below' (by (repeat' (first | (with_reducible exact Below.refl _ _) | (with_reducible assumption) | (with_reducible refine Below.alloc ?_ ?_ _) | (with_reducible refine below_ext ?_ ?_ _ _) | (with_reducible refine Below.setCell ?_ ?_ _) | (with_reducible refine Below.drew ?_) | (with_reducible refine below_drewN ?_ _))); all_goals (first | omega | (simp; done) | (simp; omega)))) hc7 hm7).mono ?_; rintro e w8 ⟨rfl, hb8⟩; obtain ⟨os8, d8, rfl⟩ := ext_of_below hb8; clear hb8
    go_wp2_with fail
    go_region_held3 (fun w' => w'.cell? ⟨w.heap.size, 0, none⟩ = some (.slice A0 n0 c0) ∧ w'.cell? ⟨w.heap.size + 1 + 1 + os1.size + os2.size + os3.size + os4.size + os5.size + os6.size, 0, none⟩ = some (.slice A6 n0 c6)) (first | (go_simp; done) | go_keep)
      (first | (go_at_call 31; refine (toKP_any _ _ _ _ _ _ l0 (hr0.below' (by (repeat' (first | (with_reducible exact Below.refl _ _) | (with_reducible assumption) | (with_reducible refine Below.alloc ?_ ?_ _) | (with_reducible refine below_ext ?_ ?_ _ _) | (with_reducible refine Below.setCell ?_ ?_ _) | (with_reducible refine Below.drew ?_) | (with_reducible refine below_drewN ?_ _))); all_goals (first | omega | (simp; done) | (simp; omega)))) hm0).mono ?_; rintro e w9 ⟨A9, c9, rfl, hc9, hm9, ho9, hb9⟩; obtain ⟨os9, d9, rfl⟩ := ext_of_below hb9; clear hb9; try simp only [ext_drew] at ho9; try simp only [ext_drewN] at ho9) | (go_at_call 33; refine (eqKP_yes _ _ _ _ _ _ _ _ _ _ l0 (ho6.rd.below' (by (repeat' (first | (with_reducible exact Below.refl _ _) | (with_reducible assumption) | (with_reducible refine Below.alloc ?_ ?_ _) | (with_reducible refine below_ext ?_ ?_ _ _) | (with_reducible refine Below.setCell ?_ ?_ _) | (with_reducible refine Below.drew ?_) | (with_reducible refine below_drewN ?_ _))); all_goals (first | omega | (simp; done) | (simp; omega)))) (ho9.rd.below' (by (repeat' (first | (with_reducible exact Below.refl _ _) | (with_reducible assumption) | (with_reducible refine Below.alloc ?_ ?_ _) | (with_reducible refine below_ext ?_ ?_ _ _) | (with_reducible refine Below.setCell ?_ ?_ _) | (with_reducible refine Below.drew ?_) | (with_reducible refine below_drewN ?_ _))); all_goals (first | omega | (simp; done) | (simp; omega)))) hn0).mono ?_; rintro e w10 ⟨rfl, hb10⟩; obtain ⟨os10, d10, rfl⟩ := ext_of_below hb10; clear hb10))
    all_goals
      go_wp2_with fail
      go_region_held3 (fun w' => w'.cell? ⟨w.heap.size + 1, 0, none⟩ = some (.slice A1 n1 c1) ∧ w'.cell? ⟨w.heap.size + 1 + 1 + os1.size + os2.size + os3.size + os4.size + os5.size + os6.size + 1 + os7.size, 0, none⟩ = some (.slice A7 n1 c7)) (first | (go_simp; done) | go_keep)
        (first | (go_at_call 31; refine (toKP_any _ _ _ _ _ _ l1 (hr1.below' (by (repeat' (first | (with_reducible exact Below.refl _ _) | (with_reducible assumption) | (with_reducible refine Below.alloc ?_ ?_ _) | (with_reducible refine below_ext ?_ ?_ _ _) | (with_reducible refine Below.setCell ?_ ?_ _) | (with_reducible refine Below.drew ?_) | (with_reducible refine below_drewN ?_ _))); all_goals (first | omega | (simp; done) | (simp; omega)))) hm1).mono ?_; rintro e w11 ⟨A11, c11, rfl, hc11, hm11, ho11, hb11⟩; obtain ⟨os11, d11, rfl⟩ := ext_of_below hb11; clear hb11; try simp only [ext_drew] at ho11; try simp only [ext_drewN] at ho11) | (go_at_call 33; refine (eqKP_yes _ _ _ _ _ _ _ _ _ _ l1 (ho7.rd.below' (by (repeat' (first | (with_reducible exact Below.refl _ _) | (with_reducible assumption) | (with_reducible refine Below.alloc ?_ ?_ _) | (with_reducible refine below_ext ?_ ?_ _ _) | (with_reducible refine Below.setCell ?_ ?_ _) | (with_reducible refine Below.drew ?_) | (with_reducible refine below_drewN ?_ _))); all_goals (first | omega | (simp; done) | (simp; omega)))) (ho11.rd.below' (by (repeat' (first | (with_reducible exact Below.refl _ _) | (with_reducible assumption) | (with_reducible refine Below.alloc ?_ ?_ _) | (with_reducible refine below_ext ?_ ?_ _ _) | (with_reducible refine Below.setCell ?_ ?_ _) | (with_reducible refine Below.drew ?_) | (with_reducible refine below_drewN ?_ _))); all_goals (first | omega | (simp; done) | (simp; omega)))) hn1).mono ?_; rintro e w12 ⟨rfl, hb12⟩; obtain ⟨os12, d12, rfl⟩ := ext_of_below hb12; clear hb12))
      all_goals
        go_wp2_with fail
        go_ret
        exact ⟨rfl, (by (repeat' (first | (with_reducible exact Below.refl _ _) | (with_reducible assumption) | (with_reducible refine Below.alloc ?_ ?_ _) | (with_reducible refine below_ext ?_ ?_ _ _) | (with_reducible refine Below.setCell ?_ ?_ _) | (with_reducible refine Below.drew ?_) | (with_reducible refine below_drewN ?_ _))); all_goals (first | omega | (simp; done) | (simp; omega)))⟩
end Go.Proofs.Ytbfmdnlfbadokaa
