/- Unprotect. -/
import Derived.Test.YtbfmdnlfbadokaaProt
namespace Go.Proofs.Ytbfmdnlfbadokaa
open Go.RowKit Go.Sep

/-- The four tests of a message, one after the other. -/
theorem up_cases (v : Bool) (d dir c0 last m M : Int) : v = false ∨ (v = true ∧ (d == dir) = false) ∨ (v = true ∧ (d == dir) = true ∧ (m == M) = false) ∨
    (v = true ∧ (d == dir) = true ∧ (m == M) = true ∧ decide (c0 ≤ last) = true) ∨ (v = true ∧ (d == dir) = true ∧ (m == M) = true ∧ decide (c0 ≤ last) = false) := by
  cases v <;> cases (d == dir) <;> cases (m == M) <;> cases decide (c0 ≤ last) <;> simp
def upOk (key dir last d c0 : Int) (n : Nat) (l : List Int) (m0 : Int) : Bool := vS d c0 n m0 && ((d == dir) && ((m0 == smac key d c0 l) && !decide (c0 ≤ last)))
theorem upOk_cases (key dir last d c0 : Int) (n : Nat) (l : List Int) (m0 : Int) :
    (upOk key dir last d c0 n l m0 = false ∧ (vS d c0 n m0 = false ∨ (vS d c0 n m0 = true ∧ (d == dir) = false) ∨ (vS d c0 n m0 = true ∧ (d == dir) = true ∧ (m0 == smac key d c0 l) = false) ∨
    (vS d c0 n m0 = true ∧ (d == dir) = true ∧ (m0 == smac key d c0 l) = true ∧ decide (c0 ≤ last) = true))) ∨
    (upOk key dir last d c0 n l m0 = true ∧ vS d c0 n m0 = true ∧ (d == dir) = true ∧ (m0 == smac key d c0 l) = true ∧ decide (c0 ≤ last) = false) := by
  unfold upOk
  cases vS d c0 n m0 <;> cases (d == dir) <;> cases (m0 == smac key d c0 l) <;> cases decide (c0 ≤ last) <;> simp
set_option maxRecDepth 100000 in
theorem iOpen_any (w : World) (key d c0 m0 : Int) (A : Option Addr) (n c lo hi : Nat) (l : List Int) (hr : Rd w lo hi 1 A n (l.map (.int .u8))) (hn : n ≤ 8388608) (h8 : B8 l) :
    Calls Try.prog 89 #[.int .i64 key, .agg #[.int .i64 d, .int .i64 c0, .slice A n c, .int .i64 m0]] w (Mk w 5 1 n ((decL (pk key d c0) l).map (.int .u8))) := by
  have HD := hide (fun W => iDK_any W key (IntKind.i64.wrap (IntKind.i64.wrap (2 * c0) + d)))
  have hpk : dk key (IntKind.i64.wrap (IntKind.i64.wrap (2 * c0) + d)) = pk key d c0 := by rw [IntWalk.i64_left, IntWalk.i64_left]; rfl
  rw [hpk] at HD
  generalize pk key d c0 = k at HD ⊢
  clear hpk
  have HE := hide (fun W h => iDecrypt_any W k A n c lo hi l h (by omega) h8)
  generalize decL k l = e at HE ⊢
  go_enter Try.func89, Try.ntmps89
  go_wp2_with fail
  go_region_held3 (fun w' => w'.cell? ⟨w.heap.size, 0, none⟩ = some (.int .i64 d) ∧ w'.cell? ⟨w.heap.size, 1, none⟩ = some (.int .i64 c0) ∧ w'.cell? ⟨w.heap.size, 2, none⟩ = some (.slice A n c)) (first | (go_simp; done) | go_keep)
    (first | (go_at_call 44; refine (unhide HD _).mono ?_; rintro e w1 ⟨rfl, hb1⟩; obtain ⟨os1, d1, rfl⟩ := ext_of_below hb1; clear hb1) | (go_at_call 102; refine (unhide HE _ (hr.below' (by (repeat' (first | (with_reducible exact Below.refl _ _) | (with_reducible assumption) | (with_reducible refine Below.alloc ?_ ?_ _) | (with_reducible refine below_ext ?_ ?_ _ _) | (with_reducible refine Below.setCell ?_ ?_ _) | (with_reducible refine Below.drew ?_) | (with_reducible refine below_drewN ?_ _))); all_goals (first | omega | (simp; done) | (simp; omega))))).mono ?_; rintro e w2 ⟨A2, c2, rfl, hc2, hm2, ho2, hb2⟩; obtain ⟨os2, d2, rfl⟩ := ext_of_below hb2; clear hb2; try simp only [ext_drew] at ho2; try simp only [ext_drewN] at ho2))
  all_goals
    go_wp2_with fail
    go_ret
    exact ⟨_, _, rfl, hc2, hm2, ho2.more (by simp <;> omega) (by simp), (by (repeat' (first | (with_reducible exact Below.refl _ _) | (with_reducible assumption) | (with_reducible refine Below.alloc ?_ ?_ _) | (with_reducible refine below_ext ?_ ?_ _ _) | (with_reducible refine Below.setCell ?_ ?_ _) | (with_reducible refine Below.drew ?_) | (with_reducible refine below_drewN ?_ _))); all_goals (first | omega | (simp; done) | (simp; omega)))⟩
set_option maxRecDepth 100000 in
theorem iUnp_yes (w : World) (key dir last d c0 m0 : Int) (A : Option Addr) (n c lo hi : Nat) (l : List Int) (hr : Rd w lo hi 1 A n (l.map (.int .u8))) (hn : n ≤ 8388608) (h8 : B8 l)
    (h1 : vS d c0 n m0 = true) (h2 : (d == dir) = true) (h3 : (m0 == smac key d c0 l) = true) (h4 : decide (c0 ≤ last) = false) :
    Calls Try.prog 58 #[.int .i64 key, .int .i64 dir, .int .i64 last, .agg #[.int .i64 d, .int .i64 c0, .slice A n c, .int .i64 m0]] w (MkV (fun v => .tuple #[v, .int .i64 c0, .bool true]) w 5 1 n ((decL (pk key d c0) l).map (.int .u8))) := by
  obtain rfl : d = dir := by simpa using h2
  clear h2
  have HV := hide (fun W => iVS_any d c0 A n c m0 W)
  rw [h1] at HV
  have HM := hide (fun W h => iVer_any W key d c0 m0 A n c lo hi l h hn h8)
  rw [h3] at HM
  have HO := hide (fun W h => iOpen_any W key d c0 m0 A n c lo hi l h hn h8)
  generalize decL (pk key d c0) l = e at HO ⊢
  clear h1 h3
  go_enter Try.func58, Try.ntmps58
  go_wp2_with (first | (go_at_call 88; refine (unhide HV _).mono ?_; rintro e w1 ⟨rfl, hb1⟩; obtain ⟨os1, d1, rfl⟩ := ext_of_below hb1; clear hb1) | (go_at_call 48; refine (unhide HM _ (hr.below' (by (repeat' (first | (with_reducible exact Below.refl _ _) | (with_reducible assumption) | (with_reducible refine Below.alloc ?_ ?_ _) | (with_reducible refine below_ext ?_ ?_ _ _) | (with_reducible refine Below.setCell ?_ ?_ _) | (with_reducible refine Below.drew ?_) | (with_reducible refine below_drewN ?_ _))); all_goals (first | omega | (simp; done) | (simp; omega))))).mono ?_; rintro e w2 ⟨rfl, hb2⟩; obtain ⟨os2, d2, rfl⟩ := ext_of_below hb2; clear hb2))
  go_region_held3 (fun w' => w'.cell? ⟨w.heap.size, 0, none⟩ = some (.int .i64 d) ∧ w'.cell? ⟨w.heap.size, 1, none⟩ = some (.int .i64 c0) ∧ w'.cell? ⟨w.heap.size, 2, none⟩ = some (.slice A n c) ∧ w'.cell? ⟨w.heap.size, 3, none⟩ = some (.int .i64 m0)) (first | (go_simp; done) | go_keep)
    (first | (go_at_call 89; refine (unhide HO _ (hr.below' (by (repeat' (first | (with_reducible exact Below.refl _ _) | (with_reducible assumption) | (with_reducible refine Below.alloc ?_ ?_ _) | (with_reducible refine below_ext ?_ ?_ _ _) | (with_reducible refine Below.setCell ?_ ?_ _) | (with_reducible refine Below.drew ?_) | (with_reducible refine below_drewN ?_ _))); all_goals (first | omega | (simp; done) | (simp; omega))))).mono ?_; rintro e w3 ⟨A3, c3, rfl, hc3, hm3, ho3, hb3⟩; obtain ⟨os3, d3, rfl⟩ := ext_of_below hb3; clear hb3; try simp only [ext_drew] at ho3; try simp only [ext_drewN] at ho3))
  all_goals
    go_wp2_with fail
    go_ret3
    exact ⟨_, _, rfl, hc3, hm3, ho3.more (by simp <;> omega) (by simp), (by (repeat' (first | (with_reducible exact Below.refl _ _) | (with_reducible assumption) | (with_reducible refine Below.alloc ?_ ?_ _) | (with_reducible refine below_ext ?_ ?_ _ _) | (with_reducible refine Below.setCell ?_ ?_ _) | (with_reducible refine Below.drew ?_) | (with_reducible refine below_drewN ?_ _))); all_goals (first | omega | (simp; done) | (simp; omega)))⟩
set_option maxRecDepth 100000 in
theorem iUnp_no (w : World) (key dir last d c0 m0 : Int) (A : Option Addr) (n c lo hi : Nat) (l : List Int) (hr : Rd w lo hi 1 A n (l.map (.int .u8))) (hn : n ≤ 8388608) (h8 : B8 l)
    (hx : vS d c0 n m0 = false ∨ (vS d c0 n m0 = true ∧ (d == dir) = false) ∨ (vS d c0 n m0 = true ∧ (d == dir) = true ∧ (m0 == smac key d c0 l) = false) ∨
    (vS d c0 n m0 = true ∧ (d == dir) = true ∧ (m0 == smac key d c0 l) = true ∧ decide (c0 ≤ last) = true)) :
    Calls Try.prog 58 #[.int .i64 key, .int .i64 dir, .int .i64 last, .agg #[.int .i64 d, .int .i64 c0, .slice A n c, .int .i64 m0]] w (MkV (fun v => .tuple #[v, .int .i64 last, .bool false]) w 5 1 0 []) := by
  have HV := hide (fun W => iVS_any d c0 A n c m0 W)
  have HM := hide (fun W h => iVer_any W key d c0 m0 A n c lo hi l h hn h8)
  generalize (m0 == smac key d c0 l) = bM at HM hx
  generalize vS d c0 n m0 = bV at HV hx
  have hz : ∀ (X : World) (k : Nat), X.heap.size = k → Own (X.alloc (.cells #[] 5)) k (k + 1) 5 1 (.slice (some ⟨k, 0, none⟩) 0 0) 0 [] := fun X k hk => by
    subst hk
    simpa using Own.fresh X #[] 5 1 0 rfl (by unfold maxLen; omega)
  rcases hx with rfl | ⟨rfl, h2⟩ | ⟨rfl, h2, rfl⟩ | ⟨rfl, h2, rfl, h4⟩
  · go_enter Try.func58, Try.ntmps58
    go_wp2_with (first | (go_at_call 88; refine (unhide HV _).mono ?_; rintro e w1 ⟨rfl, hb1⟩; obtain ⟨os1, d1, rfl⟩ := ext_of_below hb1; clear hb1))
    go_ret3
    exact ⟨_, _, rfl, Nat.le_refl _, by unfold maxLen; omega, (hz _ _ (by simp)).more (by first | omega | (simp <;> omega)) (by first | omega | (simp <;> omega)), (by (repeat' (first | (with_reducible exact Below.refl _ _) | (with_reducible assumption) | (with_reducible refine Below.alloc ?_ ?_ _) | (with_reducible refine below_ext ?_ ?_ _ _) | (with_reducible refine Below.setCell ?_ ?_ _) | (with_reducible refine Below.drew ?_) | (with_reducible refine below_drewN ?_ _))); all_goals (first | omega | (simp; done) | (simp; omega)))⟩
  · have h5 : (d != dir) = true := by simpa using h2
    clear h2
    go_enter Try.func58, Try.ntmps58
    go_wp2_with (first | (go_at_call 88; refine (unhide HV _).mono ?_; rintro e w1 ⟨rfl, hb1⟩; obtain ⟨os1, d1, rfl⟩ := ext_of_below hb1; clear hb1))
    go_ret3
    exact ⟨_, _, rfl, Nat.le_refl _, by unfold maxLen; omega, (hz _ _ (by simp)).more (by first | omega | (simp <;> omega)) (by first | omega | (simp <;> omega)), (by (repeat' (first | (with_reducible exact Below.refl _ _) | (with_reducible assumption) | (with_reducible refine Below.alloc ?_ ?_ _) | (with_reducible refine below_ext ?_ ?_ _ _) | (with_reducible refine Below.setCell ?_ ?_ _) | (with_reducible refine Below.drew ?_) | (with_reducible refine below_drewN ?_ _))); all_goals (first | omega | (simp; done) | (simp; omega)))⟩
  · obtain rfl : d = dir := by simpa using h2
    clear h2
    go_enter Try.func58, Try.ntmps58
    go_wp2_with (first | (go_at_call 88; refine (unhide HV _).mono ?_; rintro e w1 ⟨rfl, hb1⟩; obtain ⟨os1, d1, rfl⟩ := ext_of_below hb1; clear hb1) | (go_at_call 48; refine (unhide HM _ (hr.below' (by (repeat' (first | (with_reducible exact Below.refl _ _) | (with_reducible assumption) | (with_reducible refine Below.alloc ?_ ?_ _) | (with_reducible refine below_ext ?_ ?_ _ _) | (with_reducible refine Below.setCell ?_ ?_ _) | (with_reducible refine Below.drew ?_) | (with_reducible refine below_drewN ?_ _))); all_goals (first | omega | (simp; done) | (simp; omega))))).mono ?_; rintro e w2 ⟨rfl, hb2⟩; obtain ⟨os2, d2, rfl⟩ := ext_of_below hb2; clear hb2))
    go_ret3
    exact ⟨_, _, rfl, Nat.le_refl _, by unfold maxLen; omega, (hz _ _ (by simp)).more (by first | omega | (simp <;> omega)) (by first | omega | (simp <;> omega)), (by (repeat' (first | (with_reducible exact Below.refl _ _) | (with_reducible assumption) | (with_reducible refine Below.alloc ?_ ?_ _) | (with_reducible refine below_ext ?_ ?_ _ _) | (with_reducible refine Below.setCell ?_ ?_ _) | (with_reducible refine Below.drew ?_) | (with_reducible refine below_drewN ?_ _))); all_goals (first | omega | (simp; done) | (simp; omega)))⟩
  · obtain rfl : d = dir := by simpa using h2
    clear h2
    go_enter Try.func58, Try.ntmps58
    go_wp2_with (first | (go_at_call 88; refine (unhide HV _).mono ?_; rintro e w1 ⟨rfl, hb1⟩; obtain ⟨os1, d1, rfl⟩ := ext_of_below hb1; clear hb1) | (go_at_call 48; refine (unhide HM _ (hr.below' (by (repeat' (first | (with_reducible exact Below.refl _ _) | (with_reducible assumption) | (with_reducible refine Below.alloc ?_ ?_ _) | (with_reducible refine below_ext ?_ ?_ _ _) | (with_reducible refine Below.setCell ?_ ?_ _) | (with_reducible refine Below.drew ?_) | (with_reducible refine below_drewN ?_ _))); all_goals (first | omega | (simp; done) | (simp; omega))))).mono ?_; rintro e w2 ⟨rfl, hb2⟩; obtain ⟨os2, d2, rfl⟩ := ext_of_below hb2; clear hb2))
    go_ret3
    exact ⟨_, _, rfl, Nat.le_refl _, by unfold maxLen; omega, (hz _ _ (by simp)).more (by first | omega | (simp <;> omega)) (by first | omega | (simp <;> omega)), (by (repeat' (first | (with_reducible exact Below.refl _ _) | (with_reducible assumption) | (with_reducible refine Below.alloc ?_ ?_ _) | (with_reducible refine below_ext ?_ ?_ _ _) | (with_reducible refine Below.setCell ?_ ?_ _) | (with_reducible refine Below.drew ?_) | (with_reducible refine below_drewN ?_ _))); all_goals (first | omega | (simp; done) | (simp; omega)))⟩
set_option maxRecDepth 100000 in
theorem sUnp_yes (w : World) (key dir last d c0 m0 : Int) (A : Option Addr) (n c lo hi : Nat) (l : List Int) (hr : Rd w lo hi 1 A n (l.map (.int .u8))) (hn : n ≤ 8388608) (h8 : B8 l)
    (h1 : vS d c0 n m0 = true) (h2 : (d == dir) = true) (h3 : (m0 == smac key d c0 l) = true) (h4 : decide (c0 ≤ last) = false) :
    Calls Try.prog 57 #[.int .i64 key, .int .i64 dir, .int .i64 last, .agg #[.int .i64 d, .int .i64 c0, .slice A n c, .int .i64 m0]] w (MkV (fun v => .tuple #[v, .int .i64 c0, .bool true]) w 5 1 n ((decL (pk key d c0) l).map (.int .u8))) := by
  obtain rfl : d = dir := by simpa using h2
  clear h2
  have HV := hide (fun W => sVS_any d c0 A n c m0 W)
  rw [h1] at HV
  have HM := hide (fun W h => sVer_any W key d c0 m0 A n c lo hi l h hn h8)
  rw [h3] at HM
  have HD := hide (fun W => sDK_any W key (IntKind.i64.wrap (IntKind.i64.wrap (2 * c0) + d)))
  have hpk : dk key (IntKind.i64.wrap (IntKind.i64.wrap (2 * c0) + d)) = pk key d c0 := by rw [IntWalk.i64_left, IntWalk.i64_left]; rfl
  rw [hpk] at HD
  generalize pk key d c0 = k at HD ⊢
  have HE := hide (fun W h => sDecrypt_any W k A n c lo hi l h (by omega) h8)
  generalize decL k l = e at HE ⊢
  clear h1 h3 hpk
  go_enter Try.func57, Try.ntmps57
  go_wp2_with (first | (go_at_call 86; refine (unhide HV _).mono ?_; rintro e w1 ⟨rfl, hb1⟩; obtain ⟨os1, d1, rfl⟩ := ext_of_below hb1; clear hb1) | (go_at_call 46; refine (unhide HM _ (hr.below' (by (repeat' (first | (with_reducible exact Below.refl _ _) | (with_reducible assumption) | (with_reducible refine Below.alloc ?_ ?_ _) | (with_reducible refine below_ext ?_ ?_ _ _) | (with_reducible refine Below.setCell ?_ ?_ _) | (with_reducible refine Below.drew ?_) | (with_reducible refine below_drewN ?_ _))); all_goals (first | omega | (simp; done) | (simp; omega))))).mono ?_; rintro e w2 ⟨rfl, hb2⟩; obtain ⟨os2, d2, rfl⟩ := ext_of_below hb2; clear hb2))
  go_region_held3 (fun w' => w'.cell? ⟨w.heap.size, 0, none⟩ = some (.int .i64 d) ∧ w'.cell? ⟨w.heap.size, 1, none⟩ = some (.int .i64 c0) ∧ w'.cell? ⟨w.heap.size, 2, none⟩ = some (.slice A n c) ∧ w'.cell? ⟨w.heap.size, 3, none⟩ = some (.int .i64 m0)) (first | (go_simp; done) | go_keep)
    (first | (go_at_call 73; refine (unhide HD _).mono ?_; rintro e w3 ⟨rfl, hb3⟩; obtain ⟨os3, d3, rfl⟩ := ext_of_below hb3; clear hb3) | (go_at_call 87; refine (unhide HE _ (hr.below' (by (repeat' (first | (with_reducible exact Below.refl _ _) | (with_reducible assumption) | (with_reducible refine Below.alloc ?_ ?_ _) | (with_reducible refine below_ext ?_ ?_ _ _) | (with_reducible refine Below.setCell ?_ ?_ _) | (with_reducible refine Below.drew ?_) | (with_reducible refine below_drewN ?_ _))); all_goals (first | omega | (simp; done) | (simp; omega))))).mono ?_; rintro e w4 ⟨A4, c4, rfl, hc4, hm4, ho4, hb4⟩; obtain ⟨os4, d4, rfl⟩ := ext_of_below hb4; clear hb4; try simp only [ext_drew] at ho4; try simp only [ext_drewN] at ho4))
  all_goals
    go_wp2_with fail
    go_ret3
    exact ⟨_, _, rfl, hc4, hm4, ho4.more (by simp <;> omega) (by simp), (by (repeat' (first | (with_reducible exact Below.refl _ _) | (with_reducible assumption) | (with_reducible refine Below.alloc ?_ ?_ _) | (with_reducible refine below_ext ?_ ?_ _ _) | (with_reducible refine Below.setCell ?_ ?_ _) | (with_reducible refine Below.drew ?_) | (with_reducible refine below_drewN ?_ _))); all_goals (first | omega | (simp; done) | (simp; omega)))⟩
set_option maxRecDepth 100000 in
theorem sUnp_no (w : World) (key dir last d c0 m0 : Int) (A : Option Addr) (n c lo hi : Nat) (l : List Int) (hr : Rd w lo hi 1 A n (l.map (.int .u8))) (hn : n ≤ 8388608) (h8 : B8 l)
    (hx : vS d c0 n m0 = false ∨ (vS d c0 n m0 = true ∧ (d == dir) = false) ∨ (vS d c0 n m0 = true ∧ (d == dir) = true ∧ (m0 == smac key d c0 l) = false) ∨
    (vS d c0 n m0 = true ∧ (d == dir) = true ∧ (m0 == smac key d c0 l) = true ∧ decide (c0 ≤ last) = true)) :
    Calls Try.prog 57 #[.int .i64 key, .int .i64 dir, .int .i64 last, .agg #[.int .i64 d, .int .i64 c0, .slice A n c, .int .i64 m0]] w (MkV (fun v => .tuple #[v, .int .i64 last, .bool false]) w 5 1 0 []) := by
  have HV := hide (fun W => sVS_any d c0 A n c m0 W)
  have HM := hide (fun W h => sVer_any W key d c0 m0 A n c lo hi l h hn h8)
  generalize (m0 == smac key d c0 l) = bM at HM hx
  generalize vS d c0 n m0 = bV at HV hx
  have hz : ∀ (X : World) (k : Nat), X.heap.size = k → Own (X.alloc (.cells #[] 5)) k (k + 1) 5 1 (.slice (some ⟨k, 0, none⟩) 0 0) 0 [] := fun X k hk => by
    subst hk
    simpa using Own.fresh X #[] 5 1 0 rfl (by unfold maxLen; omega)
  rcases hx with rfl | ⟨rfl, h2⟩ | ⟨rfl, h2, rfl⟩ | ⟨rfl, h2, rfl, h4⟩
  · go_enter Try.func57, Try.ntmps57
    go_wp2_with (first | (go_at_call 86; refine (unhide HV _).mono ?_; rintro e w1 ⟨rfl, hb1⟩; obtain ⟨os1, d1, rfl⟩ := ext_of_below hb1; clear hb1))
    go_ret3
    exact ⟨_, _, rfl, Nat.le_refl _, by unfold maxLen; omega, (hz _ _ (by simp)).more (by first | omega | (simp <;> omega)) (by first | omega | (simp <;> omega)), (by (repeat' (first | (with_reducible exact Below.refl _ _) | (with_reducible assumption) | (with_reducible refine Below.alloc ?_ ?_ _) | (with_reducible refine below_ext ?_ ?_ _ _) | (with_reducible refine Below.setCell ?_ ?_ _) | (with_reducible refine Below.drew ?_) | (with_reducible refine below_drewN ?_ _))); all_goals (first | omega | (simp; done) | (simp; omega)))⟩
  · have h5 : (d != dir) = true := by simpa using h2
    clear h2
    go_enter Try.func57, Try.ntmps57
    go_wp2_with (first | (go_at_call 86; refine (unhide HV _).mono ?_; rintro e w1 ⟨rfl, hb1⟩; obtain ⟨os1, d1, rfl⟩ := ext_of_below hb1; clear hb1))
    go_ret3
    exact ⟨_, _, rfl, Nat.le_refl _, by unfold maxLen; omega, (hz _ _ (by simp)).more (by first | omega | (simp <;> omega)) (by first | omega | (simp <;> omega)), (by (repeat' (first | (with_reducible exact Below.refl _ _) | (with_reducible assumption) | (with_reducible refine Below.alloc ?_ ?_ _) | (with_reducible refine below_ext ?_ ?_ _ _) | (with_reducible refine Below.setCell ?_ ?_ _) | (with_reducible refine Below.drew ?_) | (with_reducible refine below_drewN ?_ _))); all_goals (first | omega | (simp; done) | (simp; omega)))⟩
  · obtain rfl : d = dir := by simpa using h2
    clear h2
    go_enter Try.func57, Try.ntmps57
    go_wp2_with (first | (go_at_call 86; refine (unhide HV _).mono ?_; rintro e w1 ⟨rfl, hb1⟩; obtain ⟨os1, d1, rfl⟩ := ext_of_below hb1; clear hb1) | (go_at_call 46; refine (unhide HM _ (hr.below' (by (repeat' (first | (with_reducible exact Below.refl _ _) | (with_reducible assumption) | (with_reducible refine Below.alloc ?_ ?_ _) | (with_reducible refine below_ext ?_ ?_ _ _) | (with_reducible refine Below.setCell ?_ ?_ _) | (with_reducible refine Below.drew ?_) | (with_reducible refine below_drewN ?_ _))); all_goals (first | omega | (simp; done) | (simp; omega))))).mono ?_; rintro e w2 ⟨rfl, hb2⟩; obtain ⟨os2, d2, rfl⟩ := ext_of_below hb2; clear hb2))
    go_ret3
    exact ⟨_, _, rfl, Nat.le_refl _, by unfold maxLen; omega, (hz _ _ (by simp)).more (by first | omega | (simp <;> omega)) (by first | omega | (simp <;> omega)), (by (repeat' (first | (with_reducible exact Below.refl _ _) | (with_reducible assumption) | (with_reducible refine Below.alloc ?_ ?_ _) | (with_reducible refine below_ext ?_ ?_ _ _) | (with_reducible refine Below.setCell ?_ ?_ _) | (with_reducible refine Below.drew ?_) | (with_reducible refine below_drewN ?_ _))); all_goals (first | omega | (simp; done) | (simp; omega)))⟩
  · obtain rfl : d = dir := by simpa using h2
    clear h2
    go_enter Try.func57, Try.ntmps57
    go_wp2_with (first | (go_at_call 86; refine (unhide HV _).mono ?_; rintro e w1 ⟨rfl, hb1⟩; obtain ⟨os1, d1, rfl⟩ := ext_of_below hb1; clear hb1) | (go_at_call 46; refine (unhide HM _ (hr.below' (by (repeat' (first | (with_reducible exact Below.refl _ _) | (with_reducible assumption) | (with_reducible refine Below.alloc ?_ ?_ _) | (with_reducible refine below_ext ?_ ?_ _ _) | (with_reducible refine Below.setCell ?_ ?_ _) | (with_reducible refine Below.drew ?_) | (with_reducible refine below_drewN ?_ _))); all_goals (first | omega | (simp; done) | (simp; omega))))).mono ?_; rintro e w2 ⟨rfl, hb2⟩; obtain ⟨os2, d2, rfl⟩ := ext_of_below hb2; clear hb2))
    go_ret3
    exact ⟨_, _, rfl, Nat.le_refl _, by unfold maxLen; omega, (hz _ _ (by simp)).more (by first | omega | (simp <;> omega)) (by first | omega | (simp <;> omega)), (by (repeat' (first | (with_reducible exact Below.refl _ _) | (with_reducible assumption) | (with_reducible refine Below.alloc ?_ ?_ _) | (with_reducible refine below_ext ?_ ?_ _ _) | (with_reducible refine Below.setCell ?_ ?_ _) | (with_reducible refine Below.drew ?_) | (with_reducible refine below_drewN ?_ _))); all_goals (first | omega | (simp; done) | (simp; omega)))⟩
end Go.Proofs.Ytbfmdnlfbadokaa
