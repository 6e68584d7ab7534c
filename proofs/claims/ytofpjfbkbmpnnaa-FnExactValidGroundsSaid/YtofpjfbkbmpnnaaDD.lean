/- Given: depths. -/
import Derived.Test.YtofpjfbkbmpnnaaB2
import Derived.Test.YtofpjfbkbmpnnaaG0
namespace Go.Proofs.Ytofpjfbkbmpnnaa.G
open Go.RowKit Go.Proofs.YtofpjfbkbmpnnaaW.PrintWords Go.Proofs.YtofpjfbkbmpnnaaW.PrintLast Go.Proofs.YtofpjfbkbmpnnaaW.PrintMore AR M
set_option linter.unusedVariables false
set_option linter.unusedSimpArgs false
theorem l01Depth_any (g : Nat) (b : Flat 258 .i8) (x y : Int) (w : World) (hB : BayAt w g b) (hx0 : 0 ≤ x) (hx1 : x < 16) (hy0 : 0 ≤ y) (hy1 : y < 16) :
    Calls Try.prog 47 #[.pointer (some ⟨g, 0, none⟩), .agg #[.int .i8 x, .int .i8 y]] w fun e w' => e = .returned (.int .i64 (dep b x y)) ∧ Below w.heap.size w w' := by
  obtain ⟨d0, d1⟩ := bounds_i8 (b.ok (2 + y.toNat * 16 + x.toNat) (by omega))
  have BB := Lib.hid hB
  clear hB
  go_enter Try.func47, Try.ntmps47
  go_wp2_with ((with_reducible refine gate_box (t := 41) rfl ?_); refine wpList_box_ev rfl _ _ rfl #[.int .i8 x, .int .i8 y] rfl ?_; intro gp w1 hgp hbp hb1; have t0 := blk_cell (j := 0) hbp rfl; have t1 := blk_cell (j := 1) hbp rfl; have c0 := BayAt.cell (BB.out.below hb1) (j := 2 + y.toNat * 16 + x.toNat) (by omega); have HB := Lib.hid hb1; clear hb1 hbp hgp)
  go_quiet (fail)
  go_wp2
  go_ret
  exact ⟨by unfold dep; rfl, by first | exact HB.out | exact pw_below_drewN HB.out _⟩
def depO (a0 : Flat 258 .i8) (x y : Int) : Option Int := if 0 ≤ x ∧ x < 16 ∧ 0 ≤ y ∧ y < 16 then some (dep a0 x y) else none
theorem depO_some {a0 : Flat 258 .i8} {x y r : Int} (h : depO a0 x y = some r) : (0 ≤ x ∧ x < 16 ∧ 0 ≤ y ∧ y < 16) ∧ dep a0 x y = r := by
  unfold depO at h
  split at h
  · rename_i hh; injection h with h; exact ⟨hh, h⟩
  · simp at h
def spec_l01Depth.f (a0 : O30) (a1_0 : Int) (a1_1 : Int) : Option (Int) := depO a0 a1_0 a1_1
def impl_depth.f (a0 : O30) (a1_0 : Int) (a1_1 : Int) : Option (Int) := depO a0 a1_0 a1_1
theorem spec_l01Depth.calls (gp0 : Nat) (a0 : O30) (a1_0 : Int) (a1_1 : Int) (r : Int) (w : World) (hp0 : w.heap[gp0]? = some (.cells (a0).A 30 (0, 0))) (h : spec_l01Depth.f a0 a1_0 a1_1 = some r) :
    Calls Try.prog 47 #[.pointer (some ⟨gp0, 0, none⟩), .agg #[.int .i8 a1_0, .int .i8 a1_1]] w fun e w' => e = .returned (.int .i64 r) ∧ Below w.heap.size w w' := by
  obtain ⟨⟨h0, h1, h2, h3⟩, rfl⟩ := depO_some h
  exact l01Depth_any gp0 a0 a1_0 a1_1 w hp0 h0 h1 h2 h3
theorem impl_depth.calls (a0 : O30) (a1_0 : Int) (a1_1 : Int) (r : Int) (w : World) (h : impl_depth.f a0 a1_0 a1_1 = some r) :
    Calls Try.prog 49 #[VO30 a0, .agg #[.int .i8 a1_0, .int .i8 a1_1]] w fun e w' => e = .returned (.int .i64 r) ∧ Below w.heap.size w w' := by
  obtain ⟨⟨h0, h1, h2, h3⟩, rfl⟩ := depO_some h
  exact depth_any a0 a1_0 a1_1 w h0 h1 h2 h3
end Go.Proofs.Ytofpjfbkbmpnnaa.G
