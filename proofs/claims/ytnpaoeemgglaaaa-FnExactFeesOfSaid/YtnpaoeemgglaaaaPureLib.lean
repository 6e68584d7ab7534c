/- Plain lemmas for the nights' statements. -/
import Derived.Test.YtnpaoeemgglaaaaMath
import Derived.Test.YtnpaoeemgglaaaaWWords
import Derived.OpenShut
namespace Go.Proofs.Ytnpaoeemgglaaaa.PL
open Go.RowKit M Go.Proofs.YtnpaoeemgglaaaaW.PrintWords
theorem i16_wf {x : Int} (h : (Lit.int .i16 x).wf = true) : i16B x = true := by
  have := bounds_i16 h
  simp [i16B, inB]; omega
theorem i8_wf {x : Int} (h : (Lit.int .i8 x).wf = true) : i8B x = true := by
  have := bounds_i8 h
  simp [i8B, inB]; omega
theorem wsm {x : Int} (h0 : -1000000000000 ≤ x) (h1 : x ≤ 1000000000000) : wrap64 x = x := by
  unfold wrap64; omega
theorem wnx {i : Nat} (h : i ≤ 10000000) : wrap64 ((i : Int) + 1) = ((i + 1 : Nat) : Int) := by
  rw [wsm (by omega) (by omega)]; omega
theorem rd_at {l : List Int} {i : Nat} (h : i < l.length) : rd l (i : Int) = l[i] := by simp [rd, h]
theorem i16_bounds {x : Int} (h : i16B x = true) : -32768 ≤ x ∧ x ≤ 32767 := inB_true h
theorem i8_bounds {x : Int} (h : i8B x = true) : -128 ≤ x ∧ x ≤ 127 := inB_true h
end Go.Proofs.Ytnpaoeemgglaaaa.PL
