/- Protect and Unprotect. -/
import Derived.Test.YtidfpmkhgogilaaSec
namespace Go.Proofs.Ytidfpmkhgogilaa
open Go.RowKit Go.Sep

/-- The key of a message. -/
def pk (key d c : Int) : Int := dk key (wrap64 (wrap64 (2 * c) + d))
theorem sProtect_any (w : World) (key d c0 : Int) (A : Option Addr) (n c lo hi : Nat) (l : List Int) (hr : Rd w lo hi 1 A n (l.map (.int .u8))) (hn : n ≤ 8388608) (h8 : B8 l) :
    Calls Try.prog 85 #[.int .i64 key, .int .i64 d, .int .i64 c0, .slice A n c] w (MkV (fun v => .agg #[.int .i64 d, .int .i64 c0, v, .int .i64 (smac key d c0 (encL (pk key d c0) l))]) w 5 1 n ((encL (pk key d c0) l).map (.int .u8))) := by
  have hn2 : n ≤ 16777216 := by omega
  have HD := hide (fun W => sDK_any W key (wrap64 (wrap64 (2 * c0) + d)))
  have hpk : dk key (wrap64 (wrap64 (2 * c0) + d)) = pk key d c0 := rfl
  rw [hpk] at HD
  generalize pk key d c0 = k at HD ⊢
  clear hpk
  have HE := hide (fun W h => sEncrypt_any W k A n c lo hi l h hn2 h8)
  have HM := hide (fun W A c lo hi h => sSMac_any W key d c0 0 A n c lo hi (encL k l) h hn (encL_B8 k l))
  generalize smac key d c0 (encL k l) = m at HM ⊢
  generalize encL k l = e at HE HM ⊢
  go_enter Try.func85, Try.ntmps85
  go_wp2_with (first
    | (go_at_call 90; refine (unhide HD _).mono ?_; rintro e w1 ⟨rfl, hb1⟩; obtain ⟨os1, d1, rfl⟩ := ext_of_below hb1; clear hb1)
    | (go_at_call 89; refine (unhide HE _ (hr.below' (by (repeat' (first | (with_reducible exact Below.refl _ _) | (with_reducible assumption) | (with_reducible refine Below.alloc ?_ ?_ _) | (with_reducible refine below_ext ?_ ?_ _ _) | (with_reducible refine Below.setCell ?_ ?_ _) | (with_reducible refine Below.drew ?_) | (with_reducible refine below_drewN ?_ _))); all_goals (first | omega | (simp; done) | (simp; omega))))).mono ?_; rintro e w2 ⟨A2, c2, rfl, hc2, hm2, ho2, hb2⟩; obtain ⟨os2, d2, rfl⟩ := ext_of_below hb2; clear hb2; try simp only [ext_drew] at ho2; try simp only [ext_drewN] at ho2)
    | (go_at_call 91; refine (unhide HM _ _ _ _ _ (ho2.rd.below' (by (repeat' (first | (with_reducible exact Below.refl _ _) | (with_reducible assumption) | (with_reducible refine Below.alloc ?_ ?_ _) | (with_reducible refine below_ext ?_ ?_ _ _) | (with_reducible refine Below.setCell ?_ ?_ _) | (with_reducible refine Below.drew ?_) | (with_reducible refine below_drewN ?_ _))); all_goals (first | omega | (simp; done) | (simp; omega))))).mono ?_; rintro e w3 ⟨rfl, hb3⟩; obtain ⟨os3, d3, rfl⟩ := ext_of_below hb3; clear hb3))
  exact bodyPost_ret (v := .agg #[.int .i64 d, .int .i64 c0, .slice A2 n c2, .int .i64 m]) (by simp only [results, Try.results85]; go_simp) rfl ⟨A2, c2, rfl, hc2, hm2, Own.more (own_ext (Own.alloc (Own.swap ho2 (by simp) (Nat.le_refl _)) _) _ _) (by first | omega | (simp <;> omega)) (by first | omega | (simp <;> omega)), (by (repeat' (first | (with_reducible exact Below.refl _ _) | (with_reducible assumption) | (with_reducible refine Below.alloc ?_ ?_ _) | (with_reducible refine below_ext ?_ ?_ _ _) | (with_reducible refine Below.setCell ?_ ?_ _) | (with_reducible refine Below.drew ?_) | (with_reducible refine below_drewN ?_ _))); all_goals (first | omega | (simp; done) | (simp; omega)))⟩
end Go.Proofs.Ytidfpmkhgogilaa
