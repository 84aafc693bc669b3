/- The law FnNegotiation, walked. -/
import Derived.Test.YtbfmdnlfbadokaaNeg
namespace Go.Proofs.Ytbfmdnlfbadokaa
open Go.RowKit Go.Sep

theorem big_any (w : World) (A : Option Addr) (n c : Nat) (_hn : n ≤ 9223372036854775807) :
    Calls Try.prog 23 #[.slice A n c] w fun e w' => e = .returned (.bool (decide ((1048576 : Int) < (n : Int)))) ∧ w = w' := by
  go_enter Try.func23, Try.ntmps23
  go_wp2_with fail
  go_ret
  exact ⟨rfl, rfl⟩
theorem u8_in {l : List Int} (h : ∀ x ∈ l, (Lit.int .u8 x).wf = true) : ∀ x ∈ l, 0 ≤ x ∧ x ≤ 255 := fun x hx => by
  have := h x hx
  have hmin : IntKind.u8.min = 0 := rfl
  have hmax : IntKind.u8.max = 255 := rfl
  simp only [Lit.wf, Bool.and_eq_true, decide_eq_true_eq, hmin, hmax] at this
  exact this
set_option maxRecDepth 100000 in
theorem fnNegotiation.walk (A : Option Addr) (n c : Nat) (l : List Int) (w : World) (_hl : l.length = n) (hr : Rd w 0 w.heap.size 1 A n (l.map (.int .u8))) (hw : ∀ x ∈ l, (Lit.int .u8 x).wf = true) (hc : n ≤ c ∧ c ≤ maxLen) :
    Calls Try.prog 6 #[.slice A n c] w fun e w' => e = .returned (.bool true) ∧ Below w.heap.size w w' := by
  have hn : n ≤ 9223372036854775807 := by have := hc.1; have := hc.2; unfold maxLen at this; omega
  have HG := hide (fun W => big_any W A n c hn)
  by_cases hbig : (1048576 : Int) < (n : Int)
  · rw [show decide ((1048576 : Int) < (n : Int)) = true by simpa using hbig] at HG
    clear hbig
    go_enter Try.func6, Try.ntmps6
    go_wp2_with (go_at_call 23; refine (unhide HG _).mono ?_; rintro e w' ⟨rfl, rfl⟩)
    go_ret
    exact ⟨rfl, (by (repeat' (first | (with_reducible exact Below.refl _ _) | (with_reducible assumption) | (with_reducible refine Below.alloc ?_ ?_ _) | (with_reducible refine below_ext ?_ ?_ _ _) | (with_reducible refine Below.setCell ?_ ?_ _) | (with_reducible refine Below.drew ?_) | (with_reducible refine below_drewN ?_ _))); all_goals (first | omega | (simp; done) | (simp; omega)))⟩
  rw [show decide ((1048576 : Int) < (n : Int)) = false by simpa using hbig] at HG
  have hn2 : n ≤ 16777216 := by omega
  have h8 := u8_in hw
  clear hbig
  go_enter Try.func6, Try.ntmps6
  go_wp2_with (go_at_call 23; refine (unhide HG _).mono ?_; rintro e w' ⟨rfl, rfl⟩)
  refine (sDrawNeg_any _ A n c l hr hn2 h8).mono ?_
  rintro e w1 ⟨key, a, b, o, rfl, hb1⟩
  obtain ⟨os1, d1, rfl⟩ := ext_of_below hb1
  clear hb1 HG h8
  have HN := hide (fun W => iNg_any W key a b o)
  cases hok : ngOk a b o
  · have hz : ngN a b o = 0 := by simp [ngN, hok]
    rw [hok, hz] at HN
    clear hz
    go_wp2_with fail
    refine (unhide HN _).mono ?_
    rintro e w2 ⟨rfl, hb2⟩
    obtain ⟨os2, d2, rfl⟩ := ext_of_below hb2
    clear hb2
    by_cases hab : a = b
    · subst hab
      have hs : sup a (sel a o) = false := by simpa [ngOk] using hok
      have HS := hide (fun W => sSel_any a o W)
      generalize sel a o = s at hs HS
      have HU := hide (fun W => sSupports_any a s W)
      rw [hs] at HU
      clear hok hs
      go_wp2_with (first | (go_at_call 26; refine (unhide HS _).mono ?_; rintro e w' ⟨rfl, rfl⟩) | (go_at_call 25; refine (unhide HU _).mono ?_; rintro e w' ⟨rfl, rfl⟩))
      go_ret
      exact ⟨rfl, (by (repeat' (first | (with_reducible exact Below.refl _ _) | (with_reducible assumption) | (with_reducible refine Below.alloc ?_ ?_ _) | (with_reducible refine below_ext ?_ ?_ _ _) | (with_reducible refine Below.setCell ?_ ?_ _) | (with_reducible refine Below.drew ?_) | (with_reducible refine below_drewN ?_ _))); all_goals (first | omega | (simp; done) | (simp; omega)))⟩
    · have hne : (a != b) = true := by simpa using hab
      clear hok hab
      go_wp2_with fail
      go_ret
      exact ⟨rfl, (by (repeat' (first | (with_reducible exact Below.refl _ _) | (with_reducible assumption) | (with_reducible refine Below.alloc ?_ ?_ _) | (with_reducible refine below_ext ?_ ?_ _ _) | (with_reducible refine Below.setCell ?_ ?_ _) | (with_reducible refine Below.drew ?_) | (with_reducible refine below_drewN ?_ _))); all_goals (first | omega | (simp; done) | (simp; omega)))⟩
  · have hz : ngN a b o = sel b o := by simp [ngN, hok]
    have hab : a = b := by
      have := hok
      simp only [ngOk, Bool.and_eq_true, beq_iff_eq] at this
      exact this.1.symm
    subst hab
    have hs : sup a (sel a o) = true := by simpa [ngOk] using hok
    rw [hok, hz] at HN
    have hcm : sel o a = sel a o := selTo_comm o a 4
    have htop := selTo_top a o 4
    obtain ⟨m, hm4, hsm, hsa, hso⟩ : ∃ m : Nat, m < 4 ∧ sel a o = (m : Int) + 1 ∧ sup a ((m : Int) + 1) = true ∧ sup o ((m : Int) + 1) = true := by
      rcases selTo_sup a o 4 with h | h
      · have := sup_caps hs
        have h0 : sel a o = 0 := h
        omega
      · exact h
    have HT := hide (show ∀ j : Nat, j < 4 → m < j → (sup a ((j : Int) + 1) && sup o ((j : Int) + 1)) = false from fun j h1 h2 => htop j h1 (by rw [show selTo a o 4 = (m : Int) + 1 from hsm]; omega))
    have HL := hide (fun W => iSel_any o a W)
    rw [hcm, hsm] at HL
    rw [hsm] at HN
    have HUa := hide (fun W => iSupports_any a ((m : Int) + 1) W)
    have HUo := hide (fun W => iSupports_any o ((m : Int) + 1) W)
    rw [hsa] at HUa
    rw [hso] at HUo
    clear hok hz hs hcm htop hsm hsa hso
    go_wp2_with fail
    refine (unhide HN _).mono ?_
    rintro e w2 ⟨rfl, hb2⟩
    obtain ⟨os2, d2, rfl⟩ := ext_of_below hb2
    clear hb2
    go_wp2_with (first | (go_at_call 27; (with_reducible refine (unhide HUa _).mono ?_); rintro e w' ⟨rfl, rfl⟩) | (go_at_call 27; (with_reducible refine (unhide HUo _).mono ?_); rintro e w' ⟨rfl, rfl⟩) | (go_at_call 28; refine (unhide HL _).mono ?_; rintro e w' ⟨rfl, rfl⟩))
    go_loop [9] (fun i => ∃ j : Nat, m < j ∧ j ≤ 4 ∧ i = .int .i64 ((j : Int) + 1)) (fun i => (5 - intOf i).toNat)
    case atStart => exact ⟨m + 1, by omega, by omega, by go_num⟩
    case round =>
      obtain ⟨j, hj1, hj2, rfl⟩ := hrel
      by_cases hj4 : j < 4
      · have ht := HT.out j hj4 hj1
        cases h1 : sup a ((j : Int) + 1)
        · clear ht
          go_wp2_with (go_at_call 25; refine (sSupports_any _ _ _).mono ?_; rintro e w' ⟨rfl, rfl⟩)
          go_round
          case rel => exact ⟨j + 1, by omega, by omega, by go_num⟩
          case measure => simp [intOf] <;> omega
        · have h2 : sup o ((j : Int) + 1) = false := by simpa [h1] using ht
          clear ht
          go_wp2_with (go_at_call 25; refine (sSupports_any _ _ _).mono ?_; rintro e w' ⟨rfl, rfl⟩)
          go_round
          case rel => exact ⟨j + 1, by omega, by omega, by go_num⟩
          case measure => simp [intOf] <;> omega
      · obtain rfl : j = 4 := by omega
        go_wp2_with fail
        go_ret
        exact ⟨rfl, (by (repeat' (first | (with_reducible exact Below.refl _ _) | (with_reducible assumption) | (with_reducible refine Below.alloc ?_ ?_ _) | (with_reducible refine below_ext ?_ ?_ _ _) | (with_reducible refine Below.setCell ?_ ?_ _) | (with_reducible refine Below.drew ?_) | (with_reducible refine below_drewN ?_ _))); all_goals (first | omega | (simp; done) | (simp; omega)))⟩
end Go.Proofs.Ytbfmdnlfbadokaa
