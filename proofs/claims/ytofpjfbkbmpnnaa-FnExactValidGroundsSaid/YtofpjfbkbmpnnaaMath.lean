/- Plain definitions that the contracts of the nights speak in: no program here. -/
import Derived.RowKit
namespace Go.Proofs.Ytofpjfbkbmpnnaa.M
def inB (n lo hi : Int) : Bool := decide (lo ≤ n) && decide (n ≤ hi)
theorem inB_true {n lo hi : Int} (h : inB n lo hi = true) : lo ≤ n ∧ n ≤ hi := by simpa [inB] using h
theorem inB_false {n lo hi : Int} (h : inB n lo hi = false) : ¬ (lo ≤ n ∧ n ≤ hi) := by
  intro hh; simp [inB, hh.1, hh.2] at h
def feesB (l n f : Int) : Bool := inB l 0 1000 && inB n 0 1000 && (f == 0 || inB f 2 100)
def stayB (f n l : Int) : Bool := inB f 0 1000 && inB n 1 100 && inB l 1 100
def i16B (x : Int) : Bool := inB x (-32768) 32767
def i8B (x : Int) : Bool := inB x (-128) 127
def feeV (n l pl pn fr : Int) : Int := (pl * l + pn) * (if 0 < fr then n - n / fr else n)
def overB (f n f' n' : Int) : Bool := decide (f < f' + n') && decide (f' < f + n)
theorem stayB_bounds {f n l : Int} (h : stayB f n l = true) : 0 ≤ f ∧ f ≤ 1000 ∧ 1 ≤ n ∧ n ≤ 100 ∧ 1 ≤ l ∧ l ≤ 100 := by
  simp [stayB, inB] at h; omega
theorem feesB_bounds {l n f : Int} (h : feesB l n f = true) : 0 ≤ l ∧ l ≤ 1000 ∧ 0 ≤ n ∧ n ≤ 1000 ∧ (f = 0 ∨ 2 ≤ f ∧ f ≤ 100) := by
  simp [feesB, inB] at h; omega
theorem mul_bounds {a b A B : Int} (h0 : 0 ≤ a) (h1 : a ≤ A) (h2 : 0 ≤ b) (h3 : b ≤ B) : 0 ≤ a * b ∧ a * b ≤ A * B :=
  ⟨Int.mul_nonneg h0 h2, Int.mul_le_mul h1 h3 h2 (by omega)⟩
theorem quo_bounds {n f : Int} (h0 : 0 ≤ n) (h1 : 1 ≤ f) : 0 ≤ n / f ∧ n / f ≤ n := ⟨Int.ediv_nonneg h0 (by omega), Int.ediv_le_self _ h0⟩
end Go.Proofs.Ytofpjfbkbmpnnaa.M
