/- Contracts of small functions of the nights, over pointers to fields. -/
import Derived.Test.YtnpaoeemgglaaaaProg
import Derived.Test.YtnpaoeemgglaaaaMath
import Derived.WalkKit
import Derived.Below
import Derived.BigQuiet
import Derived.Deep.QuietTactic
import Derived.Lib.Hide
import Derived.Test.YtnpaoeemgglaaaaWWords
namespace Go.Proofs.Ytnpaoeemgglaaaa.K
open Go.RowKit M Go.Proofs.YtnpaoeemgglaaaaW.PrintWords
set_option linter.unusedVariables false
set_option linter.unusedSimpArgs false

theorem in_any (n lo hi : Int) (w : World) : Calls Try.prog 58 #[.int .i64 n, .int .i64 lo, .int .i64 hi] w fun e w' => e = .returned (.bool (inB n lo hi)) ∧ w = w' := by
  by_cases h1 : lo ≤ n
  · have h1b : decide (lo ≤ n) = true := decide_eq_true h1
    clear h1
    go_enter Try.func58, Try.ntmps58
    go_wp2
    go_ret
    exact ⟨by simp [inB, h1b], rfl⟩
  · have h1b : decide (lo ≤ n) = false := decide_eq_false h1
    clear h1
    go_enter Try.func58, Try.ntmps58
    go_wp2
    go_ret
    exact ⟨by simp [inB, h1b], rfl⟩

theorem fees_ptr (g o : Nat) (l n f : Int) (w : World) (hl : i16B l = true) (hn : i16B n = true) (hf : i8B f = true) (h0 : w.cell? ⟨g, o, none⟩ = some (.int .i16 l)) (h1 : w.cell? ⟨g, o + 1, none⟩ = some (.int .i16 n)) (h2 : w.cell? ⟨g, o + 2, none⟩ = some (.int .i8 f)) :
    Calls Try.prog 54 #[.pointer (some ⟨g, o, none⟩)] w fun e w' => e = .returned (.bool (feesB l n f)) ∧ w = w' := by
  obtain ⟨hl0, hl1⟩ := inB_true hl
  obtain ⟨hn0, hn1⟩ := inB_true hn
  obtain ⟨hf0, hf1⟩ := inB_true hf
  clear hl hn hf
  cases e1 : inB l 0 1000 <;> cases e2 : inB n 0 1000 <;> cases e3 : f == 0 <;> cases e4 : inB f 2 100
  all_goals
    go_enter Try.func54, Try.ntmps54
    go_wp2_with (go_at_call 58; refine (in_any _ _ _ _).mono ?_; rintro e w' ⟨rfl, rfl⟩)
    go_ret
    exact ⟨by simp [feesB, e1, e2, e3, e4], rfl⟩

theorem stay_ptr (g o : Nat) (f n l : Int) (w : World) (hf : i16B f = true) (hn : i16B n = true) (hl : i16B l = true) (h0 : w.cell? ⟨g, o, none⟩ = some (.int .i16 f)) (h1 : w.cell? ⟨g, o + 1, none⟩ = some (.int .i16 n)) (h2 : w.cell? ⟨g, o + 2, none⟩ = some (.int .i16 l)) :
    Calls Try.prog 55 #[.pointer (some ⟨g, o, none⟩)] w fun e w' => e = .returned (.bool (stayB f n l)) ∧ w = w' := by
  obtain ⟨hl0, hl1⟩ := inB_true hl
  obtain ⟨hn0, hn1⟩ := inB_true hn
  obtain ⟨hf0, hf1⟩ := inB_true hf
  clear hl hn hf
  cases e1 : inB f 0 1000 <;> cases e2 : inB n 1 100 <;> cases e3 : inB l 1 100
  all_goals
    go_enter Try.func55, Try.ntmps55
    go_wp2_with (go_at_call 58; refine (in_any _ _ _ _).mono ?_; rintro e w' ⟨rfl, rfl⟩)
    go_ret
    exact ⟨by simp [stayB, e1, e2, e3], rfl⟩

theorem fee_ptr (g o g' o' : Nat) (f n l pl pn fr : Int) (w : World) (hs : stayB f n l = true) (hfe : feesB pl pn fr = true)
    (h1 : w.cell? ⟨g, o + 1, none⟩ = some (.int .i16 n)) (h2 : w.cell? ⟨g, o + 2, none⟩ = some (.int .i16 l))
    (k0 : w.cell? ⟨g', o', none⟩ = some (.int .i16 pl)) (k1 : w.cell? ⟨g', o' + 1, none⟩ = some (.int .i16 pn)) (k2 : w.cell? ⟨g', o' + 2, none⟩ = some (.int .i8 fr)) :
    Calls Try.prog 63 #[.pointer (some ⟨g, o, none⟩), .pointer (some ⟨g', o', none⟩)] w fun e w' => e = .returned (.int .i64 (feeV n l pl pn fr)) ∧ Drawn0 w w' := by
  obtain ⟨_, _, hn0, hn1, hl0, hl1⟩ := stayB_bounds hs
  obtain ⟨hp0, hp1, hq0, hq1, hr⟩ := feesB_bounds hfe
  clear hs hfe
  obtain ⟨m0, m1⟩ := mul_bounds (a := pl) (b := l) hp0 hp1 (by omega) hl1
  by_cases hfr : 0 < fr
  · have hfr2 : 2 ≤ fr ∧ fr ≤ 100 := by omega
    obtain ⟨r0, r1⟩ := hfr2
    obtain ⟨q0, q1⟩ := quo_bounds (n := n) (f := fr) (by omega) (by omega)
    obtain ⟨z0, z1⟩ := mul_bounds (a := pl * l + pn) (b := n - n / fr) (A := 101000) (B := 100) (by omega) (by omega) (by omega) (by omega)
    have HV := Lib.hid (show feeV n l pl pn fr = (pl * l + pn) * (n - n / fr) by unfold feeV; rw [if_pos hfr])
    clear hr
    go_enter Try.func63, Try.ntmps63
    go_wp2
    go_quiet (fail)
    go_wp2
    go_ret
    exact ⟨by rw [HV.out]; rfl, by first | exact Drawn0.refl _ | exact (Drawn0.refl _).step _⟩
  · have hfr2 : fr = 0 := by omega
    subst hfr2
    obtain ⟨z0, z1⟩ := mul_bounds (a := pl * l + pn) (b := n) (A := 101000) (B := 100) (by omega) (by omega) (by omega) (by omega)
    have HV := Lib.hid (show feeV n l pl pn 0 = (pl * l + pn) * n by unfold feeV; rw [if_neg (by omega)])
    clear hr hfr
    go_enter Try.func63, Try.ntmps63
    go_wp2
    go_quiet (fail)
    go_wp2
    go_ret
    exact ⟨by rw [HV.out]; rfl, by first | exact Drawn0.refl _ | exact (Drawn0.refl _).step _⟩

theorem over_ptr (g o g' o' : Nat) (f n f' n' : Int) (w : World) (hf : i16B f = true) (hn : i16B n = true) (hf' : i16B f' = true) (hn' : i16B n' = true)
    (h0 : w.cell? ⟨g, o, none⟩ = some (.int .i16 f)) (h1 : w.cell? ⟨g, o + 1, none⟩ = some (.int .i16 n))
    (k0 : w.cell? ⟨g', o', none⟩ = some (.int .i16 f')) (k1 : w.cell? ⟨g', o' + 1, none⟩ = some (.int .i16 n')) :
    Calls Try.prog 56 #[.pointer (some ⟨g, o, none⟩), .pointer (some ⟨g', o', none⟩)] w fun e w' => e = .returned (.bool (overB f n f' n')) ∧ Drawn0 w w' := by
  obtain ⟨a0, a1⟩ := inB_true hf
  obtain ⟨b0, b1⟩ := inB_true hn
  obtain ⟨c0, c1⟩ := inB_true hf'
  obtain ⟨d0, d1⟩ := inB_true hn'
  clear hf hn hf' hn'
  by_cases hd : f < f' + n'
  · have hdb : decide (f < f' + n') = true := decide_eq_true hd
    have HV := Lib.hid (show overB f n f' n' = decide (f' < f + n) by unfold overB; rw [hdb, Bool.true_and])
    clear hd
    go_enter Try.func56, Try.ntmps56
    go_wp2
    go_quiet (fail)
    go_wp2
    go_ret
    exact ⟨by rw [HV.out]; rfl, by first | exact Drawn0.refl _ | exact (Drawn0.refl _).step _⟩
  · have hdb : decide (f < f' + n') = false := decide_eq_false hd
    have HV := Lib.hid (show overB f n f' n' = false by unfold overB; rw [hdb, Bool.false_and])
    clear hd
    go_enter Try.func56, Try.ntmps56
    go_wp2
    go_quiet (fail)
    go_wp2
    go_ret
    exact ⟨by rw [HV.out]; rfl, by first | exact Drawn0.refl _ | exact (Drawn0.refl _).step _⟩
end Go.Proofs.Ytnpaoeemgglaaaa.K
