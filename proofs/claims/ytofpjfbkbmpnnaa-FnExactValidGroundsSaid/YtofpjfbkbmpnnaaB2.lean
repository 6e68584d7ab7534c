/- Contracts of the reference: places, depths and boats of a bay behind a pointer. -/
import Derived.Test.YtofpjfbkbmpnnaaB1
namespace Go.Proofs.Ytofpjfbkbmpnnaa.G
open Go.RowKit Go.Proofs.YtofpjfbkbmpnnaaW.PrintWords Go.Proofs.YtofpjfbkbmpnnaaW.PrintLast Go.Proofs.YtofpjfbkbmpnnaaW.PrintMore AR M
set_option linter.unusedVariables false
set_option linter.unusedSimpArgs false
theorem in_any (n lo hi : Int) (w : World) : Calls Try.prog 50 #[.int .i64 n, .int .i64 lo, .int .i64 hi] w fun e w' => e = .returned (.bool (inB n lo hi)) ∧ w = w' := by
  by_cases h1 : lo ≤ n
  · have h1b : decide (lo ≤ n) = true := decide_eq_true h1
    clear h1
    go_enter Try.func50, Try.ntmps50
    go_wp2
    go_ret
    exact ⟨by simp [inB, h1b], rfl⟩
  · have h1b : decide (lo ≤ n) = false := decide_eq_false h1
    clear h1
    go_enter Try.func50, Try.ntmps50
    go_wp2
    go_ret
    exact ⟨by simp [inB, h1b], rfl⟩
theorem in_q {n lo hi : Int} {b : Bool} (h : inB n lo hi = b) (w : World) (m : Nat) : Calls Try.prog 50 #[.int .i64 n, .int .i64 lo, .int .i64 hi] (w.drewN m) fun e w'' => e = .returned (.bool b) ∧ ∃ m, w'' = w.drewN m := by
  rw [← h]; exact (in_any n lo hi _).mono fun _ _ ⟨he, hw⟩ => ⟨he, m, hw.symm⟩
theorem in_b {n lo hi : Int} {b : Bool} (h : inB n lo hi = b) (w : World) : Calls Try.prog 50 #[.int .i64 n, .int .i64 lo, .int .i64 hi] w fun e w'' => e = .returned (.bool b) ∧ w = w'' := by
  rw [← h]; exact in_any n lo hi _
/-- Where a bay lies. -/
def BayAt (w : World) (g : Nat) (b : Flat 258 .i8) : Prop := w.heap[g]? = some (.cells b.A 30 (0, 0))
def GroundsAt (w : World) (g : Nat) (d : Flat 256 .u8) : Prop := w.heap[g]? = some (.cells d.A 32 (0, 0))
theorem BayAt.below {w w1 : World} {g : Nat} {b : Flat 258 .i8} (h : BayAt w g b) (hb : Below w.heap.size w w1) : BayAt w1 g b := blkB h hb
theorem GroundsAt.below {w w1 : World} {g : Nat} {d : Flat 256 .u8} (h : GroundsAt w g d) (hb : Below w.heap.size w w1) : GroundsAt w1 g d := blkB h hb
theorem BayAt.cell {w : World} {g : Nat} {b : Flat 258 .i8} (h : BayAt w g b) {j : Nat} (hj : j < 258) : w.cell? ⟨g, j, none⟩ = some (.int .i8 (b.z j)) := blk_cell h (b.at_ hj)
theorem GroundsAt.cell {w : World} {g : Nat} {d : Flat 256 .u8} (h : GroundsAt w g d) {j : Nat} (hj : j < 256) : w.cell? ⟨g, j, none⟩ = some (.int .u8 (d.z j)) := blk_cell h (d.at_ hj)
theorem isP_in (b : Flat 258 .i8) (x y : Int) : isP b x y = (inB x 0 (b.z 0 - 1) && inB y 0 (b.z 1 - 1)) := by
  rw [Bool.eq_iff_iff]; simp [isP, inB]; omega

theorem is_any (g : Nat) (b : Flat 258 .i8) (x y : Int) (w : World) (hB : BayAt w g b) (hx : -128 ≤ x ∧ x ≤ 127) (hy : -128 ≤ y ∧ y ≤ 127) :
    Calls Try.prog 42 #[.pointer (some ⟨g, 0, none⟩), .agg #[.int .i8 x, .int .i8 y]] w fun e w' => e = .returned (.bool (isP b x y)) ∧ Below w.heap.size w w' := by
  obtain ⟨x0, x1⟩ := hx
  obtain ⟨y0, y1⟩ := hy
  obtain ⟨a0, a1⟩ := bounds_i8 (b.ok 0 (by omega))
  obtain ⟨b0, b1⟩ := bounds_i8 (b.ok 1 (by omega))
  have BB := Lib.hid hB
  cases e1 : inB x 0 (b.z 0 - 1) <;> cases e2 : inB y 0 (b.z 1 - 1)
  all_goals
    have HV := Lib.hid (isP_in b x y)
    have HQ1 := Lib.hid (fun W m => in_q e1 W m)
    have HQ2 := Lib.hid (fun W m => in_q e2 W m)
    have E1 := Lib.hid e1; have E2 := Lib.hid e2
    clear e1 e2 hB
    go_enter Try.func42, Try.ntmps42
    go_wp2_with ((with_reducible refine gate_box (t := 41) rfl ?_); refine wpList_box_ev rfl _ _ rfl #[.int .i8 x, .int .i8 y] rfl ?_; intro gp w1 hgp hbp hb1; have t0 := blk_cell (j := 0) hbp rfl; have t1 := blk_cell (j := 1) hbp rfl; have c0 := BayAt.cell (BB.out.below hb1) (j := 0) (by omega); have c1 := BayAt.cell (BB.out.below hb1) (j := 1) (by omega); have HB := Lib.hid hb1; clear hb1 hbp hgp)
    go_quiet ((go_at_call 50; first | (with_reducible exact HQ1.out _ _) | (with_reducible exact HQ2.out _ _)))
    go_wp2
    go_ret
    exact ⟨by rw [HV.out, E1.out, E2.out]; rfl, by first | exact HB.out | exact pw_below_drewN HB.out _⟩
end Go.Proofs.Ytofpjfbkbmpnnaa.G
