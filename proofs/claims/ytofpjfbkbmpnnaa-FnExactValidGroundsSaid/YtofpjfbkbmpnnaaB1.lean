/- Contracts: places and depths of a bay. -/
import Derived.Test.YtofpjfbkbmpnnaaProg
import Derived.Test.YtofpjfbkbmpnnaaGTypes
import Derived.Test.YtofpjfbkbmpnnaaArr
import Derived.Test.YtofpjfbkbmpnnaaMath
import Derived.Test.YtofpjfbkbmpnnaaWMore
import Derived.Test.YtofpjfbkbmpnnaaWGuard
import Derived.BigQuiet
import Derived.Deep.QuietTactic
import Derived.Lib.Hide
namespace Go.Proofs.Ytofpjfbkbmpnnaa.G
open Go.RowKit Go.Proofs.YtofpjfbkbmpnnaaW.PrintWords Go.Proofs.YtofpjfbkbmpnnaaW.PrintLast Go.Proofs.YtofpjfbkbmpnnaaW.PrintMore AR M
set_option linter.unusedVariables false
set_option linter.unusedSimpArgs false

def isP (b : Flat 258 .i8) (x y : Int) : Bool := decide (0 ≤ x) && decide (x < b.z 0) && decide (0 ≤ y) && decide (y < b.z 1)
theorem isPlace_any (b : Flat 258 .i8) (x y : Int) (w : World) : Calls Try.prog 55 #[.agg b.A, .agg #[.int .i8 x, .int .i8 y]] w fun e w' => e = .returned (.bool (isP b x y)) ∧ Below w.heap.size w w' := by
  have c0 := b.at_ (j := 0) (by omega)
  have c1 := b.at_ (j := 1) (by omega)
  have HV := Lib.hid (show isP b x y = (decide (0 ≤ x) && decide (x < b.z 0) && decide (0 ≤ y) && decide (y < b.z 1)) from rfl)
  cases e1 : decide (0 ≤ x) <;> cases e2 : decide (x < b.z 0) <;> cases e3 : decide (0 ≤ y) <;> cases e4 : decide (y < b.z 1)
  all_goals
    go_enter Try.func55, Try.ntmps55
    go_wp2_with (first | ((with_reducible refine gate_dst (N := 2) rfl ?_); refine wpList_box_row rfl 30 (.tmp 0) rfl b.A rfl ?_))
    go_ret
    exact ⟨by rw [HV.out, e1, e2, e3, e4]; rfl, ((Below.refl _ _).alloc (Nat.le_refl _) _).alloc (by simp) _⟩

def dep (b : Flat 258 .i8) (x y : Int) : Int := b.z (2 + y.toNat * 16 + x.toNat)
theorem depth_any (b : Flat 258 .i8) (x y : Int) (w : World) (hx0 : 0 ≤ x) (hx1 : x < 16) (hy0 : 0 ≤ y) (hy1 : y < 16) : Calls Try.prog 49 #[.agg b.A, .agg #[.int .i8 x, .int .i8 y]] w fun e w' => e = .returned (.int .i64 (dep b x y)) ∧ Below w.heap.size w w' := by
  have c0 := b.at_ (j := 2 + y.toNat * 16 + x.toNat) (by omega)
  obtain ⟨d0, d1⟩ := bounds_i8 (b.ok (2 + y.toNat * 16 + x.toNat) (by omega))
  go_enter Try.func49, Try.ntmps49
  go_wp2_with (first | ((with_reducible refine gate_dst (N := 2) rfl ?_); refine wpList_box_row rfl 30 (.tmp 0) rfl b.A rfl ?_))
  go_quiet (fail)
  go_wp2
  go_ret
  exact ⟨by unfold dep; rfl, by first | exact pw_below_drewN (((Below.refl _ _).alloc (Nat.le_refl _) _).alloc (by simp) _) _ | exact ((Below.refl _ _).alloc (Nat.le_refl _) _).alloc (by simp) _⟩

theorem size30 (b : Flat 258 .i8) : (Try.prog.info? 30).map (·.size) = some b.A.size := by
  rw [Flat.size]; kernel_rfl
theorem size32 (g : Flat 256 .u8) : (Try.prog.info? 32).map (·.size) = some g.A.size := by
  rw [Flat.size]; kernel_rfl
def isW (b : Flat 258 .i8) (x y : Int) : Bool := isP b x y && decide (0 < dep b x y)
theorem isP_bounds {b : Flat 258 .i8} {x y : Int} (h : isP b x y = true) : 0 ≤ x ∧ x < b.z 0 ∧ 0 ≤ y ∧ y < b.z 1 := by
  simp [isP] at h; omega
theorem isWater_any (b : Flat 258 .i8) (x y : Int) (w : World) (h0 : b.z 0 ≤ 16) (h1 : b.z 1 ≤ 16) : Calls Try.prog 48 #[.agg b.A, .agg #[.int .i8 x, .int .i8 y]] w fun e w' => e = .returned (.bool (isW b x y)) ∧ Below w.heap.size w w' := by
  have SZ := Lib.hid (size30 b)
  cases e1 : isP b x y
  · have HV := Lib.hid (show isW b x y = false by unfold isW; rw [e1]; rfl)
    have HC := Lib.hid (fun W => e1 ▸ isPlace_any b x y W)
    clear e1
    go_enter Try.func48, Try.ntmps48
    go_wp2_with (first
      | ((with_reducible refine gate_box (t := 30) rfl ?_); refine wpList_box_row rfl _ _ rfl b.A rfl ?_)
      | ((with_reducible refine gate_load (t := 30) rfl ?_); refine wpList_load_blk rfl _ _ rfl w.heap.size rfl b.A _ (heap_alloc2_old _ _ _) Try.underlying30 rfl SZ.out ?_)
      | (go_at_call 55; refine (HC.out _).mono ?_; rintro e w1 ⟨rfl, hb⟩; have HB := Lib.hid (below_join (((Below.refl _ _).alloc (Nat.le_refl _) _).alloc (by simp) _) hb); clear hb))
    go_ret
    exact ⟨by rw [HV.out]; rfl, HB.out⟩
  · obtain ⟨x0, x1, y0, y1⟩ := isP_bounds e1
    have HV := Lib.hid (show isW b x y = decide (0 < dep b x y) by unfold isW; rw [e1]; rfl)
    have HC := Lib.hid (fun W => e1 ▸ isPlace_any b x y W)
    have HC2 := Lib.hid (fun W => depth_any b x y W x0 (by omega) y0 (by omega))
    clear e1 x0 x1 y0 y1
    go_enter Try.func48, Try.ntmps48
    go_wp2_with (first
      | ((with_reducible refine gate_box (t := 30) rfl ?_); refine wpList_box_row rfl _ _ rfl b.A rfl ?_)
      | ((with_reducible refine gate_load (t := 30) rfl ?_); refine wpList_load_blk rfl _ _ rfl w.heap.size rfl b.A _ (by first | exact BB.out | exact heap_alloc2_old _ _ _) Try.underlying30 rfl SZ.out ?_)
      | (go_at_call 55; refine (HC.out _).mono ?_; rintro e w1 ⟨rfl, hb⟩; have HB := Lib.hid (below_join (((Below.refl _ _).alloc (Nat.le_refl _) _).alloc (by simp) _) hb); have BB := Lib.hid (blkB (g := w.heap.size) (cs := b.A) (t := 30) (heap_alloc2_old _ _ _) hb); have bt := (blkB (g := w.heap.size + 1) (cs := #[.int .i8 x, .int .i8 y]) (t := 41) (heap_alloc2_new _ _ _) hb); have t0 := blk_cell (j := 0) bt rfl; have t1 := blk_cell (j := 1) bt rfl; clear hb bt)
      | ((with_reducible refine gate_load (t := 30) rfl ?_); refine gate_guard (by rfl) ?_; refine wpList_load_blk rfl _ _ rfl w.heap.size rfl b.A _ BB.out Try.underlying30 rfl SZ.out ?_)
      | (go_at_call 49; refine (HC2.out _).mono ?_; rintro e w2 ⟨rfl, hb⟩; have HB2 := Lib.hid (below_join HB.out hb); clear hb))
    go_ret
    exact ⟨by rw [HV.out]; rfl, HB2.out⟩
end Go.Proofs.Ytofpjfbkbmpnnaa.G
