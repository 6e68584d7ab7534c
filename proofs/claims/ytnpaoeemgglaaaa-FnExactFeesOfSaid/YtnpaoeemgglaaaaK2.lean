/- Given contracts: functions of the reference over a stay or fees by value. -/
import Derived.Test.YtnpaoeemgglaaaaG0
import Derived.Test.YtnpaoeemgglaaaaK1
import Derived.Deep.RegionWith
namespace Go.Proofs.Ytnpaoeemgglaaaa.G
open Go.RowKit Go.Proofs.YtnpaoeemgglaaaaW.PrintWords Go.Proofs.YtnpaoeemgglaaaaW.PrintLast Go.Proofs.YtnpaoeemgglaaaaW.PrintMore M K
set_option linter.unusedVariables false
set_option linter.unusedSimpArgs false

def stayOk (f n l : Int) : Bool := i16B f && i16B n && i16B l
def feesOk (l n f : Int) : Bool := i16B l && i16B n && i8B f
theorem stayOk_and {f n l : Int} (h : stayOk f n l = true) : i16B f = true ∧ i16B n = true ∧ i16B l = true := by simp [stayOk] at h; exact ⟨h.1.1, h.1.2, h.2⟩
theorem feesOk_and {l n f : Int} (h : feesOk l n f = true) : i16B l = true ∧ i16B n = true ∧ i8B f = true := by simp [feesOk] at h; exact ⟨h.1.1, h.1.2, h.2⟩
theorem if_some {c : Bool} {α : Type} {x r : α} (h : (if c = true then some x else none) = some r) : c = true ∧ x = r := by
  cases c <;> simp at h
  exact ⟨rfl, h⟩

def spec_ValidFees.f (a0_0 : Int) (a0_1 : Int) (a0_2 : Int) : Option (Bool) := if feesOk a0_0 a0_1 a0_2 = true then some (feesB a0_0 a0_1 a0_2) else none
theorem spec_ValidFees.calls (a0_0 : Int) (a0_1 : Int) (a0_2 : Int) (r : Bool) (w : World) (h : spec_ValidFees.f a0_0 a0_1 a0_2 = some r) :
    Calls Try.prog 15 #[.agg #[.int .i16 a0_0, .int .i16 a0_1, .int .i8 a0_2]] w fun e w' => e = .returned (.bool r) ∧ Below w.heap.size w w' := by
  obtain ⟨ho, hr⟩ := if_some h
  obtain ⟨o1, o2, o3⟩ := feesOk_and ho
  have HR := Lib.hid hr
  have O1 := Lib.hid o1; have O2 := Lib.hid o2; have O3 := Lib.hid o3
  clear ho hr h o1 o2 o3
  go_enter Try.func15, Try.ntmps15
  go_wp2_with (go_at_call 54; refine (fees_ptr w.heap.size 0 a0_0 a0_1 a0_2 _ O1.out O2.out O3.out (by simp) (by simp) (by simp)).mono ?_; rintro e w' ⟨rfl, rfl⟩)
  go_ret
  exact ⟨by rw [← HR.out]; rfl, (Below.refl _ _).alloc (Nat.le_refl _) _⟩

def spec_ValidStay.f (a0_0 : Int) (a0_1 : Int) (a0_2 : Int) : Option (Bool) := if stayOk a0_0 a0_1 a0_2 = true then some (stayB a0_0 a0_1 a0_2) else none
theorem spec_ValidStay.calls (a0_0 : Int) (a0_1 : Int) (a0_2 : Int) (r : Bool) (w : World) (h : spec_ValidStay.f a0_0 a0_1 a0_2 = some r) :
    Calls Try.prog 18 #[.agg #[.int .i16 a0_0, .int .i16 a0_1, .int .i16 a0_2]] w fun e w' => e = .returned (.bool r) ∧ Below w.heap.size w w' := by
  obtain ⟨ho, hr⟩ := if_some h
  obtain ⟨o1, o2, o3⟩ := stayOk_and ho
  have HR := Lib.hid hr
  have O1 := Lib.hid o1; have O2 := Lib.hid o2; have O3 := Lib.hid o3
  clear ho hr h o1 o2 o3
  go_enter Try.func18, Try.ntmps18
  go_wp2_with (go_at_call 55; refine (stay_ptr w.heap.size 0 a0_0 a0_1 a0_2 _ O1.out O2.out O3.out (by simp) (by simp) (by simp)).mono ?_; rintro e w' ⟨rfl, rfl⟩)
  go_ret
  exact ⟨by rw [← HR.out]; rfl, (Below.refl _ _).alloc (Nat.le_refl _) _⟩

def overlapV (f n l f' n' l' : Int) : Bool × Int := if stayB f n l && stayB f' n' l' then (overB f n f' n', 0) else (false, 1)
def spec_Overlap.f (a0_0 : Int) (a0_1 : Int) (a0_2 : Int) (a1_0 : Int) (a1_1 : Int) (a1_2 : Int) : Option (Bool × Int) :=
  if (stayOk a0_0 a0_1 a0_2 && stayOk a1_0 a1_1 a1_2) = true then some (overlapV a0_0 a0_1 a0_2 a1_0 a1_1 a1_2) else none
theorem spec_Overlap.calls (a0_0 : Int) (a0_1 : Int) (a0_2 : Int) (a1_0 : Int) (a1_1 : Int) (a1_2 : Int) (r1 : Bool) (r2 : Int) (w : World) (h : spec_Overlap.f a0_0 a0_1 a0_2 a1_0 a1_1 a1_2 = some (r1, r2)) :
    Calls Try.prog 21 #[.agg #[.int .i16 a0_0, .int .i16 a0_1, .int .i16 a0_2], .agg #[.int .i16 a1_0, .int .i16 a1_1, .int .i16 a1_2]] w fun e w' => e = .returned (.tuple #[.bool r1, .int .i64 r2]) ∧ Below w.heap.size w w' := by
  obtain ⟨ho, hr⟩ := if_some h
  rw [Bool.and_eq_true] at ho
  obtain ⟨o1, o2, o3⟩ := stayOk_and ho.1
  obtain ⟨p1, p2, p3⟩ := stayOk_and ho.2
  have HR := Lib.hid hr
  have O1 := Lib.hid o1; have O2 := Lib.hid o2; have O3 := Lib.hid o3; have P1 := Lib.hid p1; have P2 := Lib.hid p2; have P3 := Lib.hid p3
  clear ho hr h o1 o2 o3 p1 p2 p3
  cases e1 : stayB a0_0 a0_1 a0_2 <;> cases e2 : stayB a1_0 a1_1 a1_2
  all_goals
    go_enter Try.func21, Try.ntmps21
    go_wp2_with (first
      | (go_at_call 55; (with_reducible refine (stay_ptr w.heap.size 0 a0_0 a0_1 a0_2 _ O1.out O2.out O3.out (by simp) (by simp) (by simp)).mono ?_); rintro e w' ⟨rfl, rfl⟩)
      | (go_at_call 55; refine (stay_ptr (w.heap.size + 1) 0 a1_0 a1_1 a1_2 _ P1.out P2.out P3.out (by simp) (by simp) (by simp)).mono ?_; rintro e w' ⟨rfl, rfl⟩)
      | (go_at_call 56; refine (over_ptr w.heap.size 0 (w.heap.size + 1) 0 a0_0 a0_1 a1_0 a1_1 _ O1.out O2.out P1.out P2.out (by simp) (by simp) (by simp) (by simp)).mono ?_; rintro e w' ⟨rfl, ⟨nd, rfl⟩⟩))
    go_ret2
    have HR' := HR.out
    simp only [overlapV, e1, e2, Bool.and_true, Bool.and_false, Bool.false_eq_true, if_true, if_false, Prod.mk.injEq] at HR'
    exact ⟨by rw [← HR'.1, ← HR'.2]; rfl, by first | exact pw_below_drewN (((Below.refl _ _).alloc (Nat.le_refl _) _).alloc (by simp) _) _ | exact ((Below.refl _ _).alloc (Nat.le_refl _) _).alloc (by simp) _⟩

def feeOfV (f n l pl pn fr : Int) : Int × Int := if stayB f n l && feesB pl pn fr then (feeV n l pl pn fr, 0) else (0, 1)
def spec_FeeOf.f (a0_0 : Int) (a0_1 : Int) (a0_2 : Int) (a1_0 : Int) (a1_1 : Int) (a1_2 : Int) : Option (Int × Int) :=
  if (stayOk a0_0 a0_1 a0_2 && feesOk a1_0 a1_1 a1_2) = true then some (feeOfV a0_0 a0_1 a0_2 a1_0 a1_1 a1_2) else none
theorem spec_FeeOf.calls (a0_0 : Int) (a0_1 : Int) (a0_2 : Int) (a1_0 : Int) (a1_1 : Int) (a1_2 : Int) (r1 : Int) (r2 : Int) (w : World) (h : spec_FeeOf.f a0_0 a0_1 a0_2 a1_0 a1_1 a1_2 = some (r1, r2)) :
    Calls Try.prog 25 #[.agg #[.int .i16 a0_0, .int .i16 a0_1, .int .i16 a0_2], .agg #[.int .i16 a1_0, .int .i16 a1_1, .int .i8 a1_2]] w fun e w' => e = .returned (.tuple #[.int .i64 r1, .int .i64 r2]) ∧ Below w.heap.size w w' := by
  obtain ⟨ho, hr⟩ := if_some h
  rw [Bool.and_eq_true] at ho
  obtain ⟨o1, o2, o3⟩ := stayOk_and ho.1
  obtain ⟨p1, p2, p3⟩ := feesOk_and ho.2
  have HR := Lib.hid hr
  have O1 := Lib.hid o1; have O2 := Lib.hid o2; have O3 := Lib.hid o3; have P1 := Lib.hid p1; have P2 := Lib.hid p2; have P3 := Lib.hid p3
  clear ho hr h o1 o2 o3 p1 p2 p3
  cases e1 : stayB a0_0 a0_1 a0_2 <;> cases e2 : feesB a1_0 a1_1 a1_2
  all_goals
    go_enter Try.func25, Try.ntmps25
    go_wp2_with (first
      | (go_at_call 55; refine (stay_ptr w.heap.size 0 a0_0 a0_1 a0_2 _ O1.out O2.out O3.out (by simp) (by simp) (by simp)).mono ?_; rintro e w' ⟨rfl, rfl⟩)
      | (go_at_call 54; refine (fees_ptr (w.heap.size + 1) 0 a1_0 a1_1 a1_2 _ P1.out P2.out P3.out (by simp) (by simp) (by simp)).mono ?_; rintro e w' ⟨rfl, rfl⟩)
      | (go_at_call 63; refine (fee_ptr w.heap.size 0 (w.heap.size + 1) 0 a0_0 a0_1 a0_2 a1_0 a1_1 a1_2 _ e1 e2 (by simp) (by simp) (by simp) (by simp) (by simp)).mono ?_; rintro e w' ⟨rfl, ⟨nd, rfl⟩⟩))
    go_ret2
    have HR' := HR.out
    simp only [feeOfV, e1, e2, Bool.and_true, Bool.and_false, Bool.false_eq_true, if_true, if_false, Prod.mk.injEq] at HR'
    exact ⟨by rw [← HR'.1, ← HR'.2]; rfl, by first | exact pw_below_drewN (((Below.refl _ _).alloc (Nat.le_refl _) _).alloc (by simp) _) _ | exact ((Below.refl _ _).alloc (Nat.le_refl _) _).alloc (by simp) _⟩
end Go.Proofs.Ytnpaoeemgglaaaa.G
