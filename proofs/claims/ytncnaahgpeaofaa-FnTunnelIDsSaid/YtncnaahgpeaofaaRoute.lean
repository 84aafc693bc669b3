/- RouteTunnelPacket: what it returns, on both sides. -/
import Derived.Test.YtncnaahgpeaofaaCap
import Derived.Test.YtncnaahgpeaofaaTun
namespace Go.Proofs.Ytncnaahgpeaofaa
open Go.RowKit Go.Sep

def rtL (t : List (Int × Int)) (l : List Int) : Int × List Int := if (dcL l).2.2 = true ∧ ¬ tpeer (dcL l).1 t < 0 then (tpeer (dcL l).1 t, (dcL l).2.1) else (-1, [])
theorem rtL_0 {t : List (Int × Int)} {l : List Int} (h : (dcL l).2.2 = false) : rtL t l = (-1, []) := by rw [rtL, if_neg (by simp [h])]
theorem rtL_1 {t : List (Int × Int)} {l : List Int} (h : tpeer (dcL l).1 t < 0) : rtL t l = (-1, []) := by rw [rtL, if_neg (by intro hh; exact hh.2 h)]
theorem rtL_2 {t : List (Int × Int)} {l : List Int} (h : (dcL l).2.2 = true) (h' : ¬ tpeer (dcL l).1 t < 0) : rtL t l = (tpeer (dcL l).1 t, (dcL l).2.1) := by rw [rtL, if_pos ⟨h, h'⟩]
set_option maxRecDepth 100000 in
theorem iRoute_any (w : World) (A : Option Addr) (n c lo hi : Nat) (t : List (Int × Int)) (B : Option Addr) (m d lo' hi' : Nat) (l : List Int) (hr : Rd w lo hi 2 A n (t.flatMap c2)) (hr' : Rd w lo' hi' 1 B m (l.map (.int .u8))) (hn : n ≤ 1048576) (hm : m ≤ 1048600) (h8 : B8 l) (hd : m ≤ d) :
    Calls Try.prog 30 #[.slice A n c, .slice B m d] w (MkV (fun v => .tuple #[.int .i64 (rtL t l).1, v]) w 5 1 (rtL t l).2.length ((rtL t l).2.map (.int .u8))) := by
  have HD := hide (fun W h => iDecap_big W B m d lo' hi' l h hm h8 hd)
  have HP := hide (fun W h => iTunnelPeer_any W A n c lo hi t (dcL l).1 h hn)
  cases hok : (dcL l).2.2
  · rw [rtL_0 hok]
    rw [hok] at HD
    clear hok
    generalize (dcL l).1 = z at HD HP
    generalize (dcL l).2.1 = e at HD
    go_enter Try.func30, Try.ntmps30
    go_wp2_with (go_at_call 47; refine (unhide HD _ (hr'.below' (by (repeat' (first | (with_reducible exact Below.refl _ _) | (with_reducible assumption) | (with_reducible refine Below.alloc ?_ ?_ _) | (with_reducible refine below_ext ?_ ?_ _ _) | (with_reducible refine Below.setCell ?_ ?_ _) | (with_reducible refine Below.drew ?_) | (with_reducible refine below_drewN ?_ _))); all_goals (first | omega | (simp; done) | (simp; omega))))).mono ?_; rintro e w1 ⟨A1, c1, rfl, hc1, hm1, ho1, hb1⟩; obtain ⟨os1, d1, rfl⟩ := ext_of_below hb1; clear hb1; try simp only [ext_drew] at ho1; try simp only [ext_drewN] at ho1)
    go_ret2
    exact ⟨_, _, rfl, Nat.le_refl _, by unfold maxLen; omega, (fresh0 _ _ (by simp)).more (by first | omega | (simp <;> omega)) (by first | omega | (simp <;> omega)), (by (repeat' (first | (with_reducible exact Below.refl _ _) | (with_reducible assumption) | (with_reducible refine Below.alloc ?_ ?_ _) | (with_reducible refine below_ext ?_ ?_ _ _) | (with_reducible refine Below.setCell ?_ ?_ _) | (with_reducible refine Below.drew ?_) | (with_reducible refine below_drewN ?_ _))); all_goals (first | omega | (simp; done) | (simp; omega)))⟩
  · by_cases hp : tpeer (dcL l).1 t < 0
    · rw [rtL_1 hp]
      rw [hok] at HD
      clear hok
      generalize (dcL l).1 = z at HD HP hp
      generalize tpeer z t = p at HP hp
      generalize (dcL l).2.1 = e at HD
      go_enter Try.func30, Try.ntmps30
      go_wp2_with (first | (go_at_call 47; refine (unhide HD _ (hr'.below' (by (repeat' (first | (with_reducible exact Below.refl _ _) | (with_reducible assumption) | (with_reducible refine Below.alloc ?_ ?_ _) | (with_reducible refine below_ext ?_ ?_ _ _) | (with_reducible refine Below.setCell ?_ ?_ _) | (with_reducible refine Below.drew ?_) | (with_reducible refine below_drewN ?_ _))); all_goals (first | omega | (simp; done) | (simp; omega))))).mono ?_; rintro e w1 ⟨A1, c1, rfl, hc1, hm1, ho1, hb1⟩; obtain ⟨os1, d1, rfl⟩ := ext_of_below hb1; clear hb1; try simp only [ext_drew] at ho1; try simp only [ext_drewN] at ho1) | (go_at_call 13; refine (unhide HP _ (hr.below' (by (repeat' (first | (with_reducible exact Below.refl _ _) | (with_reducible assumption) | (with_reducible refine Below.alloc ?_ ?_ _) | (with_reducible refine below_ext ?_ ?_ _ _) | (with_reducible refine Below.setCell ?_ ?_ _) | (with_reducible refine Below.drew ?_) | (with_reducible refine below_drewN ?_ _))); all_goals (first | omega | (simp; done) | (simp; omega))))).mono ?_; rintro e w2 ⟨rfl, hb2⟩; obtain ⟨os2, d2, rfl⟩ := ext_of_below hb2; clear hb2))
      go_ret2
      exact ⟨_, _, rfl, Nat.le_refl _, by unfold maxLen; omega, (fresh0 _ _ (by simp)).more (by first | omega | (simp <;> omega)) (by first | omega | (simp <;> omega)), (by (repeat' (first | (with_reducible exact Below.refl _ _) | (with_reducible assumption) | (with_reducible refine Below.alloc ?_ ?_ _) | (with_reducible refine below_ext ?_ ?_ _ _) | (with_reducible refine Below.setCell ?_ ?_ _) | (with_reducible refine Below.drew ?_) | (with_reducible refine below_drewN ?_ _))); all_goals (first | omega | (simp; done) | (simp; omega)))⟩
    · rw [rtL_2 hok hp]
      rw [hok] at HD
      clear hok
      generalize (dcL l).1 = z at HD HP hp ⊢
      generalize tpeer z t = p at HP hp ⊢
      generalize (dcL l).2.1 = e at HD ⊢
      show Calls _ _ _ w (MkV (fun v' => .tuple #[.int .i64 p, v']) w 5 1 e.length (e.map (.int .u8)))
      go_enter Try.func30, Try.ntmps30
      go_wp2_with (first | (go_at_call 47; refine (unhide HD _ (hr'.below' (by (repeat' (first | (with_reducible exact Below.refl _ _) | (with_reducible assumption) | (with_reducible refine Below.alloc ?_ ?_ _) | (with_reducible refine below_ext ?_ ?_ _ _) | (with_reducible refine Below.setCell ?_ ?_ _) | (with_reducible refine Below.drew ?_) | (with_reducible refine below_drewN ?_ _))); all_goals (first | omega | (simp; done) | (simp; omega))))).mono ?_; rintro e w1 ⟨A1, c1, rfl, hc1, hm1, ho1, hb1⟩; obtain ⟨os1, d1, rfl⟩ := ext_of_below hb1; clear hb1; try simp only [ext_drew] at ho1; try simp only [ext_drewN] at ho1) | (go_at_call 13; refine (unhide HP _ (hr.below' (by (repeat' (first | (with_reducible exact Below.refl _ _) | (with_reducible assumption) | (with_reducible refine Below.alloc ?_ ?_ _) | (with_reducible refine below_ext ?_ ?_ _ _) | (with_reducible refine Below.setCell ?_ ?_ _) | (with_reducible refine Below.drew ?_) | (with_reducible refine below_drewN ?_ _))); all_goals (first | omega | (simp; done) | (simp; omega))))).mono ?_; rintro e w2 ⟨rfl, hb2⟩; obtain ⟨os2, d2, rfl⟩ := ext_of_below hb2; clear hb2))
      go_ret2
      exact ⟨_, _, rfl, hc1, hm1, (ho1.below' (by (repeat' (first | (with_reducible exact Below.refl _ _) | (with_reducible assumption) | (with_reducible refine Below.alloc ?_ ?_ _) | (with_reducible refine below_ext ?_ ?_ _ _) | (with_reducible refine Below.setCell ?_ ?_ _) | (with_reducible refine Below.drew ?_) | (with_reducible refine below_drewN ?_ _))); all_goals (first | omega | (simp; done) | (simp; omega)))).more (Nat.le_refl _) (by first | omega | (simp <;> omega)), (by (repeat' (first | (with_reducible exact Below.refl _ _) | (with_reducible assumption) | (with_reducible refine Below.alloc ?_ ?_ _) | (with_reducible refine below_ext ?_ ?_ _ _) | (with_reducible refine Below.setCell ?_ ?_ _) | (with_reducible refine Below.drew ?_) | (with_reducible refine below_drewN ?_ _))); all_goals (first | omega | (simp; done) | (simp; omega)))⟩
set_option maxRecDepth 100000 in
theorem sRoute_any (w : World) (A : Option Addr) (n c lo hi : Nat) (t : List (Int × Int)) (B : Option Addr) (m d lo' hi' : Nat) (l : List Int) (hr : Rd w lo hi 2 A n (t.flatMap c2)) (hr' : Rd w lo' hi' 1 B m (l.map (.int .u8))) (hn : n ≤ 1048576) (hm : m ≤ 1048600) (h8 : B8 l) (hd : m ≤ d) :
    Calls Try.prog 28 #[.slice A n c, .slice B m d] w (MkV (fun v => .tuple #[.int .i64 (rtL t l).1, v]) w 5 1 (rtL t l).2.length ((rtL t l).2.map (.int .u8))) := by
  have HD := hide (fun W h => sDecap_big W B m d lo' hi' l h hm h8 hd)
  have HP := hide (fun W h => sTunnelPeer_any W A n c lo hi t (dcL l).1 h hn)
  cases hok : (dcL l).2.2
  · rw [rtL_0 hok]
    rw [hok] at HD
    clear hok
    generalize (dcL l).1 = z at HD HP
    generalize tpeer z t = p at HP
    generalize (dcL l).2.1 = e at HD
    go_enter Try.func28, Try.ntmps28
    go_wp2_with (first | (go_at_call 46; refine (unhide HD _ (hr'.below' (by (repeat' (first | (with_reducible exact Below.refl _ _) | (with_reducible assumption) | (with_reducible refine Below.alloc ?_ ?_ _) | (with_reducible refine below_ext ?_ ?_ _ _) | (with_reducible refine Below.setCell ?_ ?_ _) | (with_reducible refine Below.drew ?_) | (with_reducible refine below_drewN ?_ _))); all_goals (first | omega | (simp; done) | (simp; omega))))).mono ?_; rintro e w1 ⟨A1, c1, rfl, hc1, hm1, ho1, hb1⟩; obtain ⟨os1, d1, rfl⟩ := ext_of_below hb1; clear hb1; try simp only [ext_drew] at ho1; try simp only [ext_drewN] at ho1) | (go_at_call 11; refine (unhide HP _ (hr.below' (by (repeat' (first | (with_reducible exact Below.refl _ _) | (with_reducible assumption) | (with_reducible refine Below.alloc ?_ ?_ _) | (with_reducible refine below_ext ?_ ?_ _ _) | (with_reducible refine Below.setCell ?_ ?_ _) | (with_reducible refine Below.drew ?_) | (with_reducible refine below_drewN ?_ _))); all_goals (first | omega | (simp; done) | (simp; omega))))).mono ?_; rintro e w2 ⟨rfl, hb2⟩; obtain ⟨os2, d2, rfl⟩ := ext_of_below hb2; clear hb2))
    go_ret2
    exact ⟨_, _, rfl, Nat.le_refl _, by unfold maxLen; omega, (fresh0 _ _ (by simp)).more (by first | omega | (simp <;> omega)) (by first | omega | (simp <;> omega)), (by (repeat' (first | (with_reducible exact Below.refl _ _) | (with_reducible assumption) | (with_reducible refine Below.alloc ?_ ?_ _) | (with_reducible refine below_ext ?_ ?_ _ _) | (with_reducible refine Below.setCell ?_ ?_ _) | (with_reducible refine Below.drew ?_) | (with_reducible refine below_drewN ?_ _))); all_goals (first | omega | (simp; done) | (simp; omega)))⟩
  · by_cases hp : tpeer (dcL l).1 t < 0
    · rw [rtL_1 hp]
      rw [hok] at HD
      clear hok
      generalize (dcL l).1 = z at HD HP hp
      generalize tpeer z t = p at HP hp
      generalize (dcL l).2.1 = e at HD
      go_enter Try.func28, Try.ntmps28
      go_wp2_with (first | (go_at_call 46; refine (unhide HD _ (hr'.below' (by (repeat' (first | (with_reducible exact Below.refl _ _) | (with_reducible assumption) | (with_reducible refine Below.alloc ?_ ?_ _) | (with_reducible refine below_ext ?_ ?_ _ _) | (with_reducible refine Below.setCell ?_ ?_ _) | (with_reducible refine Below.drew ?_) | (with_reducible refine below_drewN ?_ _))); all_goals (first | omega | (simp; done) | (simp; omega))))).mono ?_; rintro e w1 ⟨A1, c1, rfl, hc1, hm1, ho1, hb1⟩; obtain ⟨os1, d1, rfl⟩ := ext_of_below hb1; clear hb1; try simp only [ext_drew] at ho1; try simp only [ext_drewN] at ho1) | (go_at_call 11; refine (unhide HP _ (hr.below' (by (repeat' (first | (with_reducible exact Below.refl _ _) | (with_reducible assumption) | (with_reducible refine Below.alloc ?_ ?_ _) | (with_reducible refine below_ext ?_ ?_ _ _) | (with_reducible refine Below.setCell ?_ ?_ _) | (with_reducible refine Below.drew ?_) | (with_reducible refine below_drewN ?_ _))); all_goals (first | omega | (simp; done) | (simp; omega))))).mono ?_; rintro e w2 ⟨rfl, hb2⟩; obtain ⟨os2, d2, rfl⟩ := ext_of_below hb2; clear hb2))
      go_ret2
      exact ⟨_, _, rfl, Nat.le_refl _, by unfold maxLen; omega, (fresh0 _ _ (by simp)).more (by first | omega | (simp <;> omega)) (by first | omega | (simp <;> omega)), (by (repeat' (first | (with_reducible exact Below.refl _ _) | (with_reducible assumption) | (with_reducible refine Below.alloc ?_ ?_ _) | (with_reducible refine below_ext ?_ ?_ _ _) | (with_reducible refine Below.setCell ?_ ?_ _) | (with_reducible refine Below.drew ?_) | (with_reducible refine below_drewN ?_ _))); all_goals (first | omega | (simp; done) | (simp; omega)))⟩
    · rw [rtL_2 hok hp]
      rw [hok] at HD
      clear hok
      generalize (dcL l).1 = z at HD HP hp ⊢
      generalize tpeer z t = p at HP hp ⊢
      generalize (dcL l).2.1 = e at HD ⊢
      show Calls _ _ _ w (MkV (fun v' => .tuple #[.int .i64 p, v']) w 5 1 e.length (e.map (.int .u8)))
      go_enter Try.func28, Try.ntmps28
      go_wp2_with (first | (go_at_call 46; refine (unhide HD _ (hr'.below' (by (repeat' (first | (with_reducible exact Below.refl _ _) | (with_reducible assumption) | (with_reducible refine Below.alloc ?_ ?_ _) | (with_reducible refine below_ext ?_ ?_ _ _) | (with_reducible refine Below.setCell ?_ ?_ _) | (with_reducible refine Below.drew ?_) | (with_reducible refine below_drewN ?_ _))); all_goals (first | omega | (simp; done) | (simp; omega))))).mono ?_; rintro e w1 ⟨A1, c1, rfl, hc1, hm1, ho1, hb1⟩; obtain ⟨os1, d1, rfl⟩ := ext_of_below hb1; clear hb1; try simp only [ext_drew] at ho1; try simp only [ext_drewN] at ho1) | (go_at_call 11; refine (unhide HP _ (hr.below' (by (repeat' (first | (with_reducible exact Below.refl _ _) | (with_reducible assumption) | (with_reducible refine Below.alloc ?_ ?_ _) | (with_reducible refine below_ext ?_ ?_ _ _) | (with_reducible refine Below.setCell ?_ ?_ _) | (with_reducible refine Below.drew ?_) | (with_reducible refine below_drewN ?_ _))); all_goals (first | omega | (simp; done) | (simp; omega))))).mono ?_; rintro e w2 ⟨rfl, hb2⟩; obtain ⟨os2, d2, rfl⟩ := ext_of_below hb2; clear hb2))
      go_ret2
      exact ⟨_, _, rfl, hc1, hm1, (ho1.below' (by (repeat' (first | (with_reducible exact Below.refl _ _) | (with_reducible assumption) | (with_reducible refine Below.alloc ?_ ?_ _) | (with_reducible refine below_ext ?_ ?_ _ _) | (with_reducible refine Below.setCell ?_ ?_ _) | (with_reducible refine Below.drew ?_) | (with_reducible refine below_drewN ?_ _))); all_goals (first | omega | (simp; done) | (simp; omega)))).more (Nat.le_refl _) (by first | omega | (simp <;> omega)), (by (repeat' (first | (with_reducible exact Below.refl _ _) | (with_reducible assumption) | (with_reducible refine Below.alloc ?_ ?_ _) | (with_reducible refine below_ext ?_ ?_ _ _) | (with_reducible refine Below.setCell ?_ ?_ _) | (with_reducible refine Below.drew ?_) | (with_reducible refine below_drewN ?_ _))); all_goals (first | omega | (simp; done) | (simp; omega)))⟩
theorem dcL_len (l : List Int) : (dcL l).2.1.length ≤ l.length := by
  unfold dcL
  split
  · simp
  · split <;> simp
theorem route_both (n0 : Nat) (l0 : List (Int × Int)) (n1 : Nat) (l1 : List Int) (hm0 : n0 ≤ 1048576) (_hl0 : l0.length = n0) (hm : n1 ≤ 1048576) (hl : l1.length = n1) (h8 : B8 l1) : ∃ (z : Int) (N : Nat) (e : List Int), N ≤ 1048576 ∧
    (∀ (W : World) (A : Option Addr) (c lo hi : Nat), Rd W lo hi 2 A n0 (l0.flatMap c2) → ∀ (B : Option Addr) (d lo' hi' : Nat), Rd W lo' hi' 1 B n1 (l1.map (.int .u8)) → n0 ≤ c → n1 ≤ d → Calls Try.prog 28 #[.slice A n0 c, .slice B n1 d] W (MkV (fun v => .tuple #[.int .i64 z, v]) W 5 1 N (e.map (.int .u8)))) ∧
    (∀ (W : World) (A : Option Addr) (c lo hi : Nat), Rd W lo hi 2 A n0 (l0.flatMap c2) → ∀ (B : Option Addr) (d lo' hi' : Nat), Rd W lo' hi' 1 B n1 (l1.map (.int .u8)) → n0 ≤ c → n1 ≤ d → Calls Try.prog 30 #[.slice A n0 c, .slice B n1 d] W (MkV (fun v => .tuple #[.int .i64 z, v]) W 5 1 N (e.map (.int .u8)))) :=
  ⟨_, _, (rtL l0 l1).2, by have := dcL_len l1; unfold rtL; split <;> simp <;> omega, fun W A c lo hi h B d lo' hi' h' _ hd => sRoute_any W A n0 c lo hi l0 B n1 d lo' hi' l1 h h' hm0 (by omega) h8 hd, fun W A c lo hi h B d lo' hi' h' _ hd => iRoute_any W A n0 c lo hi l0 B n1 d lo' hi' l1 h h' hm0 (by omega) h8 hd⟩
end Go.Proofs.Ytncnaahgpeaofaa
