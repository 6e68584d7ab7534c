/- A part of the proof of: FnExactHoldingPlaces returns true, whatever the input, and leaves its arguments as they were. -/
import Derived.Test.YtccjcnmeibconaaProg
import Derived.Deep.Slices
import Derived.ChangeSame
import Derived.ChangeArms
import Derived.OpenShut
import Derived.WalkKit
import Derived.ProofKit
import Derived.Below
import Derived.Deep.Draws
import Derived.Deep.AppendLies
import Derived.Maps.AppendAt
import Derived.OwnWalk
import Derived.Laws.BytesArg
import Derived.Laws.MakeOwn
import Derived.Laws.OwnMore
import Derived.Deep.OwnRows
import Derived.Tactics
import Derived.Lib.ConvBytes
import Derived.Laws.Slices
import Derived.KernelRfl
import Derived.RowKit3
import Derived.Deep.LoopGhost
import Derived.Deep.QuietTactic
import Derived.BigQuiet
import Derived.WideLaws
import Derived.Deep.DeepCutAuto
import Derived.Deep.CutBlock
import Derived.Deep.RegionHeld3
import Derived.Laws.Rows
import Derived.Lib.AppendStr
import Derived.ArgAppend
import Derived.Laws.IdiomCopy
import Derived.RowKit
import Derived.Laws.Tables
import Derived.OrdersHeld
import Derived.Laws.BitsLemmas
import Derived.Lib.Hide
import Derived.Laws.StructEq
import Derived.Laws.CopyOwn
import Derived.Laws.CopyRow
import Derived.Test.YtccjcnmeibconaaZFnExactHoldingPlaces1
import Derived.Test.YtccjcnmeibconaaZFnExactHoldingPlaces2
section
namespace Go.Proofs.Ytccjcnmeibconaa.G
open Go.RowKit Go.Proofs.YtccjcnmeibconaaW.PrintWords Go.Proofs.YtccjcnmeibconaaW.PrintLast Go.Proofs.YtccjcnmeibconaaW.PrintMore AR M
set_option linter.unusedVariables false
set_option linter.unusedSimpArgs false
def okG (b : Flat 258 .i8) (d : Flat 256 .u8) (y x : Nat) : Bool := decide (d.z (y * 16 + x) ≤ 3) && (d.z (y * 16 + x) == 0 || isP b x y)
def groundsB (b : Flat 258 .i8) (d : Flat 256 .u8) : Bool := bayB b && allB (okG b d)
theorem groundsB_true {b : Flat 258 .i8} {d : Flat 256 .u8} (h : groundsB b d = true) : bayB b = true ∧ ∀ y, y < 16 → ∀ x, x < 16 → okG b d y x = true := by
  unfold groundsB at h
  rw [Bool.and_eq_true] at h
  exact ⟨h.1, allB_iff.1 h.2⟩
theorem groundsB_ok {b : Flat 258 .i8} {d : Flat 256 .u8} (h1 : bayB b = true) (h : ∀ y, y < 16 → ∀ x, x < 16 → okG b d y x = true) : groundsB b d = true := by
  unfold groundsB
  rw [h1, allB_iff.2 h]; rfl
theorem groundsB_no {b : Flat 258 .i8} {d : Flat 256 .u8} {y x : Nat} (hy : y < 16) (hx : x < 16) (h : okG b d y x = false) : groundsB b d = false := by
  unfold groundsB
  rw [allB_no hy hx h, Bool.and_false]
theorem l07Grounds_any (g g1 : Nat) (b : Flat 258 .i8) (d : Flat 256 .u8) (w : World) (hB : BayAt w g b) (hG : GroundsAt w g1 d) :
    Calls Try.prog 71 #[.pointer (some ⟨g, 0, none⟩), .pointer (some ⟨g1, 0, none⟩)] w fun e w' => e = .returned (.bool (groundsB b d)) ∧ Below w.heap.size w w' := by
  have BB := Lib.hid hB
  have GG := Lib.hid hG
  cases e1 : bayB b
  · have HV := Lib.hid (show groundsB b d = false by unfold groundsB; rw [e1]; rfl)
    have HQ1 := Lib.hid (e1 ▸ l01Bay_any g b w hB)
    clear e1 hB hG
    go_enter Try.func71, Try.ntmps71
    go_wp2_with (go_at_call 87; refine (HQ1.out).mono ?_; rintro e w1 ⟨rfl, hb⟩; have HB1 := Lib.hid hb; clear hb)
    go_ret
    exact ⟨by rw [HV.out]; rfl, HB1.out⟩
  · have HE := Lib.hid e1
    have HQ1 := Lib.hid (e1 ▸ l01Bay_any g b w hB)
    clear e1 hB hG
    go_enter Try.func71, Try.ntmps71
    go_wp2_with (go_at_call 87; refine (HQ1.out).mono ?_; rintro e w1 ⟨rfl, hb⟩; have HB1 := Lib.hid hb; clear hb)
    clear HQ1
    go_loopw [5] (fun i wr => ∃ y : Nat, y ≤ 16 ∧ i = .int .i8 y ∧ Hid (∀ j, j < y → ∀ x, x < 16 → okG b d j x = true) ∧ Hid (Below w.heap.size w wr)) (fun i _ => 16 - (intOf i).toNat)
    case atStart => exact ⟨0, Nat.zero_le _, rfl, fun j h => absurd h (by omega), HB1.out⟩
    case round =>
      obtain ⟨y, hy, rfl, HN, HD⟩ := hrel
      by_cases hlt : y < 16
      · have i0 : (y : Int) < 16 := by omega
        have i1 : (0 : Int) ≤ (y : Int) := by omega
        obtain ⟨wo, rfl⟩ : ∃ wo : World, wo = wr := ⟨_, rfl⟩
        go_wp2
        go_loopw [6] (fun i wr => ∃ x : Nat, x ≤ 16 ∧ i = .int .i8 x ∧ Hid (∀ j, j < x → okG b d y j = true) ∧ Hid (Below w.heap.size w wr)) (fun i _ => 16 - (intOf i).toNat)
        case atStart => exact ⟨0, Nat.zero_le _, rfl, fun j h => absurd h (by omega), HD.out⟩
        case round =>
          obtain ⟨x, hx, rfl, HN1, HD1⟩ := hrel
          by_cases hlx : x < 16
          · have j0 : (x : Int) < 16 := by omega
            have j1 : (0 : Int) ≤ (x : Int) := by omega
            have BW := Lib.hid (BB.out.below HD1.out)
            have cd := (GG.out.below HD1.out).cell (j := y * 16 + x) (by omega)
            have HP := Lib.hid (show okG b d y x = (decide (d.z (y * 16 + x) ≤ 3) && (d.z (y * 16 + x) == 0 || isP b x y)) from rfl)
            generalize d.z (y * 16 + x) = k at cd HP
            by_cases hk : 3 < k
            · have HH := Lib.hid (groundsB_no hlt hlx (show okG b d y x = false by rw [HP.out, decide_eq_false (show ¬ k ≤ 3 by omega)]; rfl))
              go_wp2
              go_ret
              exact ⟨by rw [HH.out]; rfl, HD1.out⟩
            · have hk3 : decide (k ≤ 3) = true := decide_eq_true (by omega)
              cases e4 : (k == 0)
              · have e4' : (k != 0) = true := by simp only [bne, e4]; rfl
                cases e5 : isP b x y
                · have HH := Lib.hid (groundsB_no hlt hlx (show okG b d y x = false by rw [HP.out, hk3, e4, e5]; rfl))
                  have HI := Lib.hid (e5 ▸ is_any g b x y wr BW.out (by omega) (by omega))
                  clear e5 hk3
                  go_wp2_with (go_at_call 83; refine HI.out.mono ?_; rintro e w1 ⟨rfl, hb⟩; have HB1 := Lib.hid (below_join HD1.out hb); clear hb)
                  go_ret
                  exact ⟨by rw [HH.out]; rfl, HB1.out⟩
                · have HH := Lib.hid (show okG b d y x = true by rw [HP.out, hk3, e4, e5]; rfl)
                  have HI := Lib.hid (e5 ▸ is_any g b x y wr BW.out (by omega) (by omega))
                  clear e5 hk3
                  go_wp2_with (go_at_call 83; refine HI.out.mono ?_; rintro e w1 ⟨rfl, hb⟩; have HB1 := Lib.hid (below_join HD1.out hb); clear hb)
                  go_roundw
                  case rel => exact ⟨x + 1, by omega, by go_num, next_one HN1.out HH.out, HB1.out⟩
                  case measure => simp [intOf]; omega
              · have e4' : (k != 0) = false := by simp only [bne, e4]; rfl
                have HH := Lib.hid (show okG b d y x = true by rw [HP.out, hk3, e4]; rfl)
                clear hk3
                go_wp2
                go_roundw
                case rel => exact ⟨x + 1, by omega, by go_num, next_one HN1.out HH.out, HD1.out⟩
                case measure => simp [intOf]; omega
          · have HH := Lib.hid (next_row HN.out (fun j hj => HN1.out j (by omega)))
            have j0 : ¬ (x : Int) < 16 := by omega
            go_wp2
            go_roundw
            case rel => exact ⟨y + 1, by omega, by go_num, HH.out, HD1.out⟩
            case measure => simp [intOf]; omega
      · have HH := Lib.hid (groundsB_ok HE.out (fun j hj => HN.out j (by omega)))
        have i0 : ¬ (y : Int) < 16 := by omega
        go_wp2
        go_ret
        exact ⟨by rw [HH.out]; rfl, HD.out⟩
end Go.Proofs.Ytccjcnmeibconaa.G
end
section
namespace Go.Proofs.Ytccjcnmeibconaa.G
open Go.RowKit Go.Proofs.YtccjcnmeibconaaW.PrintWords Go.Proofs.YtccjcnmeibconaaW.PrintLast Go.Proofs.YtccjcnmeibconaaW.PrintMore AR M
set_option linter.unusedVariables false
set_option linter.unusedSimpArgs false
theorem sz27 : (Try.prog.info? 27).map (·.size) = some 16 := by kernel_rfl
theorem szr27 (b : Flat 256 .u8) (n : Nat) : (Try.prog.info? 27).map (·.size) = some (b.sub n 16).size := by rw [Flat.sub_size]; kernel_rfl
theorem sz5 : (Try.prog.info? 5).map (·.size) = some 1 := by kernel_rfl
theorem ValidGrounds_any (b : Flat 258 .i8) (d : Flat 256 .u8) (w : World) : Calls Try.prog 76 #[.agg b.A, .agg d.A] w fun e w' => e = .returned (.bool (groundsB b d)) ∧ Below w.heap.size w w' := by
  obtain ⟨a0, a1⟩ := bounds_i8 (b.ok 0 (by omega))
  obtain ⟨b0, b1⟩ := bounds_i8 (b.ok 1 (by omega))
  cases e1 : bayB b
  · have HV := Lib.hid (show groundsB b d = false by unfold groundsB; rw [e1]; rfl)
    have HC := Lib.hid (fun W => e1 ▸ ValidBay_any b W)
    clear e1
    go_enter Try.func76, Try.ntmps76
    go_wp2_with (first
      | ((with_reducible refine gate_dst (N := 2) rfl ?_); refine wpList_box_ev rfl 38 _ rfl b.A rfl ?_; intro g w1 hg hb hb1; have HG := Lib.hid hb; have HB0 := Lib.hid hb1; clear hb hb1 hg)
      | ((with_reducible refine gate_dst (N := 3) rfl ?_); refine wpList_box_ev rfl 40 _ rfl d.A rfl ?_; intro g1 w2 hg hb hb1; have HG1 := Lib.hid (BayAt.below (b := b) HG.out hb1); have HB1 := Lib.hid (below_join HB0.out hb1); clear hb hb1 hg)
      | ((with_reducible refine gate_dst (N := 9) rfl ?_); refine Kd.event_run rfl (exec_load_blk rfl rfl HG1.out Try.underlying38 rfl (szO38 b)) ?_)
      | (go_at_call 85; refine (HC.out _).mono ?_; rintro e w3 ⟨rfl, hb⟩; have HB2 := Lib.hid (below_join HB1.out hb); clear hb))
    go_ret
    exact ⟨by rw [HV.out]; rfl, HB2.out⟩
  · have HE := Lib.hid e1
    have HC := Lib.hid (fun W => e1 ▸ ValidBay_any b W)
    clear e1
    go_enter Try.func76, Try.ntmps76
    go_wp2_with (first
      | ((with_reducible refine gate_dst (N := 2) rfl ?_); refine wpList_box_ev rfl 38 _ rfl b.A rfl ?_; intro g w1 hg hb hb1; have HG := Lib.hid hb; have HB0 := Lib.hid hb1; clear hb hb1 hg)
      | ((with_reducible refine gate_dst (N := 3) rfl ?_); refine wpList_box_ev rfl 40 _ rfl d.A rfl ?_; intro g1 w2 hg hb hb1; have HG1 := Lib.hid (BayAt.below (b := b) HG.out hb1); have HD1 := Lib.hid hb; have HB1 := Lib.hid (below_join HB0.out hb1); clear hb hb1 hg)
      | ((with_reducible refine gate_dst (N := 9) rfl ?_); refine Kd.event_run rfl (exec_load_blk rfl rfl HG1.out Try.underlying38 rfl (szO38 b)) ?_)
      | (go_at_call 85; refine (HC.out _).mono ?_; rintro e w3 ⟨rfl, hb⟩; have HB2 := Lib.hid (below_join HB1.out hb); have HG2 := Lib.hid (BayAt.below (b := b) HG1.out hb); have HD2 := Lib.hid (GroundsAt.below (d := d) HD1.out hb); clear hb)
      | ((with_reducible refine gate_dst (N := 12) rfl ?_); refine Kd.event_run rfl (exec_load_blk rfl rfl HD2.out Try.underlying40 rfl (szO40 d)) ?_))
    clear HC
    rw [← d.sub_whole]
    go_loopw [13] (fun i wr => ∃ y : Nat, y ≤ 16 ∧ i = .int .i64 y ∧ Hid (∀ j, j < y → ∀ x, x < 16 → okG b d j x = true) ∧ Hid (Below w.heap.size w wr) ∧ Hid (BayAt wr g b)) (fun i _ => 16 - (intOf i).toNat)
    case atStart => exact ⟨0, Nat.zero_le _, rfl, fun j h => absurd h (by omega), HB2.out, HG2.out⟩
    case round =>
      obtain ⟨y, hy, rfl, HN, HD, HG1⟩ := hrel
      by_cases hlt : y < 16
      · have i0 : (y : Int) < 16 := by omega
        have i1 : (0 : Int) ≤ (y : Int) := by omega
        obtain ⟨wo, rfl⟩ : ∃ wo : World, wo = wr := ⟨_, rfl⟩
        go_wp2_with (first
          | ((with_reducible refine gate_dst (N := 16) rfl ?_); refine Kd.event_run rfl (exec_index_row (k := (y : Int)) (sz := 16) rfl rfl rfl i1 i0 Try.underlying40 Try.underlying27 rfl sz27) ?_; rw [Int.toNat_natCast, d.sub_part (show y * 16 + 16 ≤ 256 by omega), Nat.zero_add])
          | ((with_reducible refine gate_dst (N := 6) rfl ?_); refine box_event rfl (N := 6) rfl (t := 27) (exec_alloc rfl (Try.zeroValue27 _)) ?_; intro gr hgr wa ha hb; have HA := Lib.hid ha; have HBa := Lib.hid (below_join HD.out hb); have HGa := Lib.hid (BayAt.below (b := b) HG1.out hb); have hne := Lib.hid (show w.heap.size ≤ gr by have := HD.out.size; omega); have hng := Lib.hid (show g ≠ gr by have := (Array.getElem?_eq_some_iff.1 HG1.out).1; omega); clear ha hb hgr)
          | ((with_reducible refine gate_store (t := 27) (p := 6) rfl ?_); refine store_event (t := 27) (p := 6) rfl rfl rfl (exec_store_row (t2 := 27) (vs := d.sub (y * 16) 16) rfl rfl rfl HA.out (by rw [Flat.sub_size]; decide) (d.sub_one _ _) (szr27 d _)) ?_; intro ws hws; have HS := Lib.hid (show ws.heap[gr]? = some (.cells (d.sub (y * 16) 16) 27 (0, 0)) by rw [hws]; exact setRow_whole HA.out (by rw [Flat.sub_size]; rfl)); have HBs := Lib.hid (show Below w.heap.size w ws by rw [hws]; exact below_setRow HBa.out hne.out _); have HGs := Lib.hid (show BayAt ws g b by rw [hws]; exact (setRow_other _ _ _ _ hng.out).trans HGa.out); clear hws)
          | ((with_reducible refine gate_dst (N := 17) rfl ?_); refine Kd.event_run rfl (exec_load_blk rfl rfl HS.out Try.underlying27 rfl (szr27 d _)) ?_))
        go_loopw [18] (fun i wr => ∃ x : Nat, x ≤ 16 ∧ i = .int .i64 x ∧ Hid (∀ j, j < x → okG b d y j = true) ∧ Hid (wr = ws)) (fun i _ => 16 - (intOf i).toNat)
        case atStart => exact ⟨0, Nat.zero_le _, rfl, fun j h => absurd h (by omega), rfl⟩
        case round =>
          obtain ⟨x, hx, rfl, HN1, HW⟩ := hrel
          obtain rfl := HW.out
          by_cases hlx : x < 16
          · have j0 : (x : Int) < 16 := by omega
            have j1 : (0 : Int) ≤ (x : Int) := by omega
            have c0 := BayAt.cell HGs.out (j := 0) (by omega)
            have c1 := BayAt.cell HGs.out (j := 1) (by omega)
            have hv := d.sub_at (y * 16) 16 (j := x) (by omega)
            have HP := Lib.hid (show okG b d y x = (decide (d.z (y * 16 + x) ≤ 3) && (d.z (y * 16 + x) == 0 || isP b x y)) from rfl)
            have HIP := Lib.hid (isP_nat (b := b) (x := x) (y := y))
            generalize d.z (y * 16 + x) = k at hv HP
            by_cases h1 : 3 < k
            · have HH := Lib.hid (groundsB_no hlt hlx (show okG b d y x = false by rw [HP.out, decide_eq_false (show ¬ k ≤ 3 by omega)]; rfl))
              go_wp2_with ((with_reducible refine gate_dst (N := 21) rfl ?_); refine Kd.event_run rfl (exec_index_cell (k := (x : Int)) rfl rfl rfl j1 j0 Try.underlying27 Try.isAgg5 sz5 (v := .int .u8 k) (by rw [Int.toNat_natCast]; exact hv)) ?_)
              go_ret
              exact ⟨by rw [HH.out]; rfl, HBs.out⟩
            · have HI := Lib.hid (show decide (k ≤ 3) = true from decide_eq_true (by omega))
              cases e4 : (k == 0)
              · have e4' : (k != 0) = true := by simp only [bne, e4]; rfl
                by_cases h5 : (x : Int) < b.z 0
                · have h5' : ¬ b.z 0 ≤ (x : Int) := by omega
                  by_cases h6 : (y : Int) < b.z 1
                  · have h6' : ¬ b.z 1 ≤ (y : Int) := by omega
                    have HH := Lib.hid (show okG b d y x = true by rw [HP.out, HI.out, e4, HIP.out, decide_eq_true h5, decide_eq_true h6]; rfl)
                    go_wp2_with ((with_reducible refine gate_dst (N := 21) rfl ?_); refine Kd.event_run rfl (exec_index_cell (k := (x : Int)) rfl rfl rfl j1 j0 Try.underlying27 Try.isAgg5 sz5 (v := .int .u8 k) (by rw [Int.toNat_natCast]; exact hv)) ?_)
                    go_roundw
                    case rel => exact ⟨x + 1, by omega, by go_num, next_one HN1.out HH.out, by first | exact trivial | rfl⟩
                    case measure => simp [intOf]; omega
                  · have h6' : b.z 1 ≤ (y : Int) := by omega
                    have HH := Lib.hid (groundsB_no hlt hlx (show okG b d y x = false by rw [HP.out, HI.out, e4, HIP.out, decide_eq_true h5, decide_eq_false h6]; rfl))
                    go_wp2_with ((with_reducible refine gate_dst (N := 21) rfl ?_); refine Kd.event_run rfl (exec_index_cell (k := (x : Int)) rfl rfl rfl j1 j0 Try.underlying27 Try.isAgg5 sz5 (v := .int .u8 k) (by rw [Int.toNat_natCast]; exact hv)) ?_)
                    go_ret
                    exact ⟨by rw [HH.out]; rfl, HBs.out⟩
                · have h5' : b.z 0 ≤ (x : Int) := by omega
                  have HH := Lib.hid (groundsB_no hlt hlx (show okG b d y x = false by rw [HP.out, HI.out, e4, HIP.out, decide_eq_false h5]; rfl))
                  go_wp2_with ((with_reducible refine gate_dst (N := 21) rfl ?_); refine Kd.event_run rfl (exec_index_cell (k := (x : Int)) rfl rfl rfl j1 j0 Try.underlying27 Try.isAgg5 sz5 (v := .int .u8 k) (by rw [Int.toNat_natCast]; exact hv)) ?_)
                  go_ret
                  exact ⟨by rw [HH.out]; rfl, HBs.out⟩
              · have e4' : (k != 0) = false := by simp only [bne, e4]; rfl
                have HH := Lib.hid (show okG b d y x = true by rw [HP.out, HI.out, e4]; rfl)
                go_wp2_with ((with_reducible refine gate_dst (N := 21) rfl ?_); refine Kd.event_run rfl (exec_index_cell (k := (x : Int)) rfl rfl rfl j1 j0 Try.underlying27 Try.isAgg5 sz5 (v := .int .u8 k) (by rw [Int.toNat_natCast]; exact hv)) ?_)
                go_roundw
                case rel => exact ⟨x + 1, by omega, by go_num, next_one HN1.out HH.out, by first | exact trivial | rfl⟩
                case measure => simp [intOf]; omega
          · have HH := Lib.hid (next_row HN.out (fun j hj => HN1.out j (by omega)))
            have j0 : ¬ (x : Int) < 16 := by omega
            go_wp2
            go_roundw
            case rel => exact ⟨y + 1, by omega, by go_num, HH.out, HBs.out, HGs.out⟩
            case measure => simp [intOf]; omega
      · have HH := Lib.hid (groundsB_ok HE.out (fun j hj => HN.out j (by omega)))
        have i0 : ¬ (y : Int) < 16 := by omega
        go_wp2
        go_ret
        exact ⟨by rw [HH.out]; rfl, HD.out⟩
def spec_l07Grounds.f (a0 : O38) (a1 : O40) : Option (Bool) := some (groundsB a0 a1)
def impl_ValidGrounds.f (a0 : O38) (a1 : O40) : Option (Bool) := some (groundsB a0 a1)
theorem spec_l07Grounds.calls (gp0 : Nat) (a0 : O38) (gp1 : Nat) (a1 : O40) (r : Bool) (w : World) (hp0 : w.heap[gp0]? = some (.cells (a0).A 38 (0, 0))) (hp1 : w.heap[gp1]? = some (.cells (a1).A 40 (0, 0))) (h : spec_l07Grounds.f a0 a1 = some r) :
    Calls Try.prog 71 #[.pointer (some ⟨gp0, 0, none⟩), .pointer (some ⟨gp1, 0, none⟩)] w fun e w' => e = .returned (.bool r) ∧ Below w.heap.size w w' := by
  obtain rfl := Option.some.inj h
  exact l07Grounds_any gp0 gp1 a0 a1 w hp0 hp1
theorem impl_ValidGrounds.calls (a0 : O38) (a1 : O40) (r : Bool) (w : World) (h : impl_ValidGrounds.f a0 a1 = some r) :
    Calls Try.prog 76 #[VO38 a0, VO40 a1] w fun e w' => e = .returned (.bool r) ∧ Below w.heap.size w w' := by
  obtain rfl := Option.some.inj h
  exact ValidGrounds_any a0 a1 w
end Go.Proofs.Ytccjcnmeibconaa.G
end
section
namespace Go.Proofs.Ytccjcnmeibconaa.G
open Go.RowKit Go.Proofs.YtccjcnmeibconaaW.PrintWords Go.Proofs.YtccjcnmeibconaaW.PrintLast Go.Proofs.YtccjcnmeibconaaW.PrintMore
attribute [local go_sem] max2_int min2_int max_two min_two max_three min_three max_four min_four   -- for this text's walks alone
set_option linter.unusedVariables false
set_option linter.unusedSimpArgs false
def spec_l07Valid.f (k : Nat) (a0 : O38) (a1 : O40) (a2_0 : Int) (a2_1 : Int) (a2_2 : Int) (a2_3 : Int) (a2_4 : Int) (a2_5 : Int) (l3 : List (S91)) : Option (Bool) := (spec_l07Grounds.f a0 a1).bind fun t121 => (if t121 = true then ((spec_l01Boat.f a0 a2_0 a2_1 a2_2 a2_3 a2_4 a2_5).bind fun t122 => (if t122 = true then ((spec_l07Winds.f k l3).bind fun t123 => (some t123)) else (some false))) else (some false))
set_option maxHeartbeats 8000000 in
set_option maxRecDepth 100000 in
theorem spec_l07Valid.calls (k : Nat) (gp0 : Nat) (a0 : O38) (gp1 : Nat) (a1 : O40) (a2_0 : Int) (a2_1 : Int) (a2_2 : Int) (a2_3 : Int) (a2_4 : Int) (a2_5 : Int) (A3 : Option Addr) (c3 : Nat) (l3 : List (S91)) (r : Bool) (w : World) (hp0 : w.heap[gp0]? = some (.cells (a0).A 38 (0, 0))) (hp1 : w.heap[gp1]? = some (.cells (a1).A 40 (0, 0))) (hr3 : Kd.C k91 w A3 l3.length l3) (hc3 : l3.length ≤ c3) (h : spec_l07Valid.f k a0 a1 a2_0 a2_1 a2_2 a2_3 a2_4 a2_5 l3 = some r) :
    Calls Try.prog 41 #[.pointer (some ⟨gp0, 0, none⟩), .pointer (some ⟨gp1, 0, none⟩), .agg #[.int .i8 a2_0, .int .i8 a2_1, .int .i8 a2_2, .int .i8 a2_3, .int .i8 a2_4, .int .i8 a2_5], .slice A3 l3.length c3] w fun e w' => e = .returned (.bool r) ∧ Below w.heap.size w w' := by
  have hu44 := Try.underlying44
  have HR3 := Aside0.mk hr3
  have HC3 := Aside0.mk hc3
  clear hr3 hc3
  have BK118 := Aside0.mk hp0
  clear hp0
  have BK119 := Aside0.mk hp1
  clear hp1
  have HB := Aside0.mk (Below.refl w.heap.size w)
  have H : ((spec_l07Grounds.f a0 a1).bind fun t121 => (if t121 = true then ((spec_l01Boat.f a0 a2_0 a2_1 a2_2 a2_3 a2_4 a2_5).bind fun t122 => (if t122 = true then ((spec_l07Winds.f k l3).bind fun t123 => (some t123)) else (some false))) else (some false))) = some r := h
  clear h
  replace H := Option.bind_eq_some_iff.mp H
  obtain ⟨t121, A50, H⟩ := H
  replace H : (if t121 = true then ((spec_l01Boat.f a0 a2_0 a2_1 a2_2 a2_3 a2_4 a2_5).bind fun t122 => (if t122 = true then ((spec_l07Winds.f k l3).bind fun t123 => (some t123)) else (some false))) else (some false)) = some r := H
  have A5 := Aside0.mk A50
  clear A50
  by_cases c6 : t121 = true
  · subst c6
    have H1 : ((spec_l01Boat.f a0 a2_0 a2_1 a2_2 a2_3 a2_4 a2_5).bind fun t122 => (if t122 = true then ((spec_l07Winds.f k l3).bind fun t123 => (some t123)) else (some false))) = some r := by rw [if_pos rfl] at H; exact H
    clear H
    have H := H1
    clear H1
    replace H := Option.bind_eq_some_iff.mp H
    obtain ⟨t122, A70, H⟩ := H
    replace H : (if t122 = true then ((spec_l07Winds.f k l3).bind fun t123 => (some t123)) else (some false)) = some r := H
    have A7 := Aside0.mk A70
    clear A70
    by_cases c8 : t122 = true
    · subst c8
      have H1 : ((spec_l07Winds.f k l3).bind fun t123 => (some t123)) = some r := by rw [if_pos rfl] at H; exact H
      clear H
      have H := H1
      clear H1
      replace H := Option.bind_eq_some_iff.mp H
      obtain ⟨t123, A90, H⟩ := H
      replace H : (some t123) = some r := H
      have A9 := Aside0.mk A90
      clear A90
      obtain rfl := Option.some.inj H
      go_enter Try.func41, Try.ntmps41
      go_wp2_with (first | ((with_reducible refine gate_dst (N := 6) rfl ?_); refine box_event ?hg (N := 6) ?hd (cs := #[.int .i8 a2_0, .int .i8 a2_1, .int .i8 a2_2, .int .i8 a2_3, .int .i8 a2_4, .int .i8 a2_5]) (t := 44) ?hr ?_; (case hd => rfl); (case hg => rfl); (case hr => first | (go_simp; done) | (go_simp; rfl)); intro gb120 hg w10 hbox hb; have n0_ := Aside0.mk (blk_below (g := gp0) (o := .cells (a0).A 38 (0, 0)) (by (with_reducible repeat (first | refine blk_drewN ?_ _ | refine blk_drew ?_ | refine blk_alloc ?_ _)); exact BK118.out) hb); have n1_ := Aside0.mk (blk_below (g := gp1) (o := .cells (a1).A 40 (0, 0)) (by (with_reducible repeat (first | refine blk_drewN ?_ _ | refine blk_drew ?_ | refine blk_alloc ?_ _)); exact BK119.out) hb); have n2_ := Aside0.mk (below_step (by repeat (first | (with_reducible first | exact HB.out | apply below_alloc | apply pw_below_drewN | apply below_drew1 | refine below_set ?_ GE118.out | refine below_set ?_ GE119.out) | exact HB.out)) hb); have n3_ := Aside0.mk (hbox); have n4_ := Aside0.mk ((by rw [hg]; exact (below_size (by repeat (first | (with_reducible first | exact HB.out | apply below_alloc | apply pw_below_drewN | apply below_drew1 | refine below_set ?_ GE118.out | refine below_set ?_ GE119.out) | exact HB.out))) : w.heap.size ≤ gb120)); have n5_ := Aside0.mk ((by rw [hg]; exact (below_size (by repeat (first | (with_reducible first | exact HB.out | apply below_alloc | apply pw_below_drewN | apply below_drew1 | refine below_set ?_ GE118.out | refine below_set ?_ GE119.out) | exact HB.out))) : w.heap.size ≤ gb120)); have n6_ := Aside0.mk ((by rw [hg]; exact Nat.ne_of_lt (blk_lt (g := gp0) (o := .cells (a0).A 38 (0, 0)) (by (with_reducible repeat (first | refine blk_drewN ?_ _ | refine blk_drew ?_ | refine blk_alloc ?_ _)); exact BK118.out)) : gp0 ≠ gb120)); have n7_ := Aside0.mk ((by rw [hg]; exact Nat.ne_of_gt (blk_lt (g := gp0) (o := .cells (a0).A 38 (0, 0)) (by (with_reducible repeat (first | refine blk_drewN ?_ _ | refine blk_drew ?_ | refine blk_alloc ?_ _)); exact BK118.out)) : gb120 ≠ gp0)); have n8_ := Aside0.mk ((by rw [hg]; exact Nat.ne_of_lt (blk_lt (g := gp1) (o := .cells (a1).A 40 (0, 0)) (by (with_reducible repeat (first | refine blk_drewN ?_ _ | refine blk_drew ?_ | refine blk_alloc ?_ _)); exact BK119.out)) : gp1 ≠ gb120)); have n9_ := Aside0.mk ((by rw [hg]; exact Nat.ne_of_gt (blk_lt (g := gp1) (o := .cells (a1).A 40 (0, 0)) (by (with_reducible repeat (first | refine blk_drewN ?_ _ | refine blk_drew ?_ | refine blk_alloc ?_ _)); exact BK119.out)) : gb120 ≠ gp1)); clear BK118; clear BK119; clear HB; have BK118 := n0_; have BK119 := n1_; have HB := n2_; have BK120 := n3_; have GW120 := n4_; have GE120 := n5_; have NB118_120 := n6_; have NB120_118 := n7_; have NB119_120 := n8_; have NB120_119 := n9_; clear n0_ n1_ n2_ n3_ n4_ n5_ n6_ n7_ n8_ n9_; clear hb hbox hg) | ((with_reducible refine gate_callee (f := 71) rfl ?_); refine goesL_ (some 11) rfl rfl Try.func71 (by kernel_rfl) rfl #[.pointer (some ⟨gp0, 0, none⟩), .pointer (some ⟨gp1, 0, none⟩)] rfl (by (try simp only [List.map_toArray, List.map_cons, List.map_nil]); first | done | rfl | (simp only [List.length_drop, List.length_take]; rfl)) ?_; (with_reducible refine (spec_l07Grounds.calls gp0 a0 gp1 a1 true _ ?side1 ?side2 A5.out).mono ?_); (case side1 => (with_reducible repeat (first | refine blk_drewN ?_ _ | refine blk_drew ?_ | refine blk_alloc ?_ _)); exact BK118.out); (case side2 => (with_reducible repeat (first | refine blk_drewN ?_ _ | refine blk_drew ?_ | refine blk_alloc ?_ _)); exact BK119.out); rintro e w11 ⟨rfl, hb⟩; refine ⟨_, rfl, ?_⟩; have n0_ := Aside0.mk (blk_below (g := gp0) (o := .cells (a0).A 38 (0, 0)) (by (with_reducible repeat (first | refine blk_drewN ?_ _ | refine blk_drew ?_ | refine blk_alloc ?_ _)); exact BK118.out) hb); have n1_ := Aside0.mk (blk_below (g := gp1) (o := .cells (a1).A 40 (0, 0)) (by (with_reducible repeat (first | refine blk_drewN ?_ _ | refine blk_drew ?_ | refine blk_alloc ?_ _)); exact BK119.out) hb); have n2_ := Aside0.mk (blk_below (g := gb120) (o := .cells #[.int .i8 a2_0, .int .i8 a2_1, .int .i8 a2_2, .int .i8 a2_3, .int .i8 a2_4, .int .i8 a2_5] 44 (0, 0)) (by (with_reducible repeat (first | refine blk_drewN ?_ _ | refine blk_drew ?_ | refine blk_alloc ?_ _)); exact BK120.out) hb); have n3_ := Aside0.mk (below_step (by repeat (first | (with_reducible first | exact HB.out | apply below_alloc | apply pw_below_drewN | apply below_drew1 | refine below_set ?_ GE118.out | refine below_set ?_ GE119.out | refine below_set ?_ GE120.out) | exact HB.out)) hb); clear BK118; clear BK119; clear BK120; clear HB; have BK118 := n0_; have BK119 := n1_; have BK120 := n2_; have HB := n3_; clear n0_ n1_ n2_ n3_; (try clear hb); (try clear hb2); (try clear hk); (try clear hi); have hnb12 := NB120_118.out; have hnc12 := NB118_120.out; have hnb13 := NB120_119.out; have hnc13 := NB119_120.out; have hcz14_0 : w11.cell? ⟨gb120, 0, none⟩ = some (.int .i8 a2_0) := (blk_cell BK120.out 0).trans rfl; have hcz14_1 : w11.cell? ⟨gb120, 1, none⟩ = some (.int .i8 a2_1) := (blk_cell BK120.out 1).trans rfl; have hcz14_2 : w11.cell? ⟨gb120, 2, none⟩ = some (.int .i8 a2_2) := (blk_cell BK120.out 2).trans rfl; have hcz14_3 : w11.cell? ⟨gb120, 3, none⟩ = some (.int .i8 a2_3) := (blk_cell BK120.out 3).trans rfl; have hcz14_4 : w11.cell? ⟨gb120, 4, none⟩ = some (.int .i8 a2_4) := (blk_cell BK120.out 4).trans rfl; have hcz14_5 : w11.cell? ⟨gb120, 5, none⟩ = some (.int .i8 a2_5) := (blk_cell BK120.out 5).trans rfl; have hfz14_0 := blk_frozen BK120.out 0; have hfz14_1 := blk_frozen BK120.out 1; have hfz14_2 := blk_frozen BK120.out 2; have hfz14_3 := blk_frozen BK120.out 3; have hfz14_4 := blk_frozen BK120.out 4; have hfz14_5 := blk_frozen BK120.out 5) | (go_at_call 61; (with_reducible refine (spec_l01Boat.calls gp0 a0 a2_0 a2_1 a2_2 a2_3 a2_4 a2_5 true _ ?side1 A7.out).mono ?_); (case side1 => (with_reducible repeat (first | refine blk_drewN ?_ _ | refine blk_drew ?_ | refine blk_alloc ?_ _)); exact BK118.out); rintro e w15 ⟨rfl, hb⟩; have n0_ := Aside0.mk (blk_below (g := gp0) (o := .cells (a0).A 38 (0, 0)) (by (with_reducible repeat (first | refine blk_drewN ?_ _ | refine blk_drew ?_ | refine blk_alloc ?_ _)); exact BK118.out) hb); have n1_ := Aside0.mk (blk_below (g := gp1) (o := .cells (a1).A 40 (0, 0)) (by (with_reducible repeat (first | refine blk_drewN ?_ _ | refine blk_drew ?_ | refine blk_alloc ?_ _)); exact BK119.out) hb); have n2_ := Aside0.mk (blk_below (g := gb120) (o := .cells #[.int .i8 a2_0, .int .i8 a2_1, .int .i8 a2_2, .int .i8 a2_3, .int .i8 a2_4, .int .i8 a2_5] 44 (0, 0)) (by (with_reducible repeat (first | refine blk_drewN ?_ _ | refine blk_drew ?_ | refine blk_alloc ?_ _)); exact BK120.out) hb); have n3_ := Aside0.mk (below_step (by repeat (first | (with_reducible first | exact HB.out | apply below_alloc | apply pw_below_drewN | apply below_drew1 | refine below_set ?_ GE118.out | refine below_set ?_ GE119.out | refine below_set ?_ GE120.out) | exact HB.out)) hb); clear BK118; clear BK119; clear BK120; clear HB; have BK118 := n0_; have BK119 := n1_; have BK120 := n2_; have HB := n3_; clear n0_ n1_ n2_ n3_; (try clear hb); (try clear hb2); (try clear hk); (try clear hi)) | (go_at_call 72; (with_reducible refine (spec_l07Winds.calls k _ _ l3 t123 _ ?side1 ?side2 A9.out).mono ?_); (case side1 => repeat (first | exact (Kd.C_below HR3.out HB.out) | (with_reducible refine Kd.C_alloc ?_ _) | (with_reducible refine Kd.C_drewN ?_ _) | (with_reducible refine Kd.C_drew ?_))); (case side2 => exact HC3.out); rintro e w16 ⟨rfl, hb⟩; have n0_ := Aside0.mk (blk_below (g := gp0) (o := .cells (a0).A 38 (0, 0)) (by (with_reducible repeat (first | refine blk_drewN ?_ _ | refine blk_drew ?_ | refine blk_alloc ?_ _)); exact BK118.out) hb); have n1_ := Aside0.mk (blk_below (g := gp1) (o := .cells (a1).A 40 (0, 0)) (by (with_reducible repeat (first | refine blk_drewN ?_ _ | refine blk_drew ?_ | refine blk_alloc ?_ _)); exact BK119.out) hb); have n2_ := Aside0.mk (blk_below (g := gb120) (o := .cells #[.int .i8 a2_0, .int .i8 a2_1, .int .i8 a2_2, .int .i8 a2_3, .int .i8 a2_4, .int .i8 a2_5] 44 (0, 0)) (by (with_reducible repeat (first | refine blk_drewN ?_ _ | refine blk_drew ?_ | refine blk_alloc ?_ _)); exact BK120.out) hb); have n3_ := Aside0.mk (below_step (by repeat (first | (with_reducible first | exact HB.out | apply below_alloc | apply pw_below_drewN | apply below_drew1 | refine below_set ?_ GE118.out | refine below_set ?_ GE119.out | refine below_set ?_ GE120.out) | exact HB.out)) hb); clear BK118; clear BK119; clear BK120; clear HB; have BK118 := n0_; have BK119 := n1_; have BK120 := n2_; have HB := n3_; clear n0_ n1_ n2_ n3_; (try clear hb); (try clear hb2); (try clear hk); (try clear hi)))
      go_ret
      exact ⟨by first | rfl | (simp [errW_none, errW_some] <;> rfl) | (simp [*, errW_none, errW_some] <;> rfl), by repeat (first | (with_reducible first | exact HB.out | apply below_alloc | apply pw_below_drewN | apply below_drew1 | refine below_set ?_ GE118.out | refine below_set ?_ GE119.out | refine below_set ?_ GE120.out) | exact HB.out)⟩
    · replace c8 := Bool.eq_false_iff.mpr c8
      subst c8
      have H1 : (some false) = some r := by rw [if_neg (show ¬ (false = true) by decide)] at H; exact H
      clear H
      have H := H1
      clear H1
      obtain rfl := Option.some.inj H
      go_enter Try.func41, Try.ntmps41
      go_wp2_with (first | ((with_reducible refine gate_dst (N := 6) rfl ?_); refine box_event ?hg (N := 6) ?hd (cs := #[.int .i8 a2_0, .int .i8 a2_1, .int .i8 a2_2, .int .i8 a2_3, .int .i8 a2_4, .int .i8 a2_5]) (t := 44) ?hr ?_; (case hd => rfl); (case hg => rfl); (case hr => first | (go_simp; done) | (go_simp; rfl)); intro gb120 hg w17 hbox hb; have n0_ := Aside0.mk (blk_below (g := gp0) (o := .cells (a0).A 38 (0, 0)) (by (with_reducible repeat (first | refine blk_drewN ?_ _ | refine blk_drew ?_ | refine blk_alloc ?_ _)); exact BK118.out) hb); have n1_ := Aside0.mk (blk_below (g := gp1) (o := .cells (a1).A 40 (0, 0)) (by (with_reducible repeat (first | refine blk_drewN ?_ _ | refine blk_drew ?_ | refine blk_alloc ?_ _)); exact BK119.out) hb); have n2_ := Aside0.mk (below_step (by repeat (first | (with_reducible first | exact HB.out | apply below_alloc | apply pw_below_drewN | apply below_drew1 | refine below_set ?_ GE118.out | refine below_set ?_ GE119.out) | exact HB.out)) hb); have n3_ := Aside0.mk (hbox); have n4_ := Aside0.mk ((by rw [hg]; exact (below_size (by repeat (first | (with_reducible first | exact HB.out | apply below_alloc | apply pw_below_drewN | apply below_drew1 | refine below_set ?_ GE118.out | refine below_set ?_ GE119.out) | exact HB.out))) : w.heap.size ≤ gb120)); have n5_ := Aside0.mk ((by rw [hg]; exact (below_size (by repeat (first | (with_reducible first | exact HB.out | apply below_alloc | apply pw_below_drewN | apply below_drew1 | refine below_set ?_ GE118.out | refine below_set ?_ GE119.out) | exact HB.out))) : w.heap.size ≤ gb120)); have n6_ := Aside0.mk ((by rw [hg]; exact Nat.ne_of_lt (blk_lt (g := gp0) (o := .cells (a0).A 38 (0, 0)) (by (with_reducible repeat (first | refine blk_drewN ?_ _ | refine blk_drew ?_ | refine blk_alloc ?_ _)); exact BK118.out)) : gp0 ≠ gb120)); have n7_ := Aside0.mk ((by rw [hg]; exact Nat.ne_of_gt (blk_lt (g := gp0) (o := .cells (a0).A 38 (0, 0)) (by (with_reducible repeat (first | refine blk_drewN ?_ _ | refine blk_drew ?_ | refine blk_alloc ?_ _)); exact BK118.out)) : gb120 ≠ gp0)); have n8_ := Aside0.mk ((by rw [hg]; exact Nat.ne_of_lt (blk_lt (g := gp1) (o := .cells (a1).A 40 (0, 0)) (by (with_reducible repeat (first | refine blk_drewN ?_ _ | refine blk_drew ?_ | refine blk_alloc ?_ _)); exact BK119.out)) : gp1 ≠ gb120)); have n9_ := Aside0.mk ((by rw [hg]; exact Nat.ne_of_gt (blk_lt (g := gp1) (o := .cells (a1).A 40 (0, 0)) (by (with_reducible repeat (first | refine blk_drewN ?_ _ | refine blk_drew ?_ | refine blk_alloc ?_ _)); exact BK119.out)) : gb120 ≠ gp1)); clear BK118; clear BK119; clear HB; have BK118 := n0_; have BK119 := n1_; have HB := n2_; have BK120 := n3_; have GW120 := n4_; have GE120 := n5_; have NB118_120 := n6_; have NB120_118 := n7_; have NB119_120 := n8_; have NB120_119 := n9_; clear n0_ n1_ n2_ n3_ n4_ n5_ n6_ n7_ n8_ n9_; clear hb hbox hg) | ((with_reducible refine gate_callee (f := 71) rfl ?_); refine goesL_ (some 11) rfl rfl Try.func71 (by kernel_rfl) rfl #[.pointer (some ⟨gp0, 0, none⟩), .pointer (some ⟨gp1, 0, none⟩)] rfl (by (try simp only [List.map_toArray, List.map_cons, List.map_nil]); first | done | rfl | (simp only [List.length_drop, List.length_take]; rfl)) ?_; (with_reducible refine (spec_l07Grounds.calls gp0 a0 gp1 a1 true _ ?side1 ?side2 A5.out).mono ?_); (case side1 => (with_reducible repeat (first | refine blk_drewN ?_ _ | refine blk_drew ?_ | refine blk_alloc ?_ _)); exact BK118.out); (case side2 => (with_reducible repeat (first | refine blk_drewN ?_ _ | refine blk_drew ?_ | refine blk_alloc ?_ _)); exact BK119.out); rintro e w18 ⟨rfl, hb⟩; refine ⟨_, rfl, ?_⟩; have n0_ := Aside0.mk (blk_below (g := gp0) (o := .cells (a0).A 38 (0, 0)) (by (with_reducible repeat (first | refine blk_drewN ?_ _ | refine blk_drew ?_ | refine blk_alloc ?_ _)); exact BK118.out) hb); have n1_ := Aside0.mk (blk_below (g := gp1) (o := .cells (a1).A 40 (0, 0)) (by (with_reducible repeat (first | refine blk_drewN ?_ _ | refine blk_drew ?_ | refine blk_alloc ?_ _)); exact BK119.out) hb); have n2_ := Aside0.mk (blk_below (g := gb120) (o := .cells #[.int .i8 a2_0, .int .i8 a2_1, .int .i8 a2_2, .int .i8 a2_3, .int .i8 a2_4, .int .i8 a2_5] 44 (0, 0)) (by (with_reducible repeat (first | refine blk_drewN ?_ _ | refine blk_drew ?_ | refine blk_alloc ?_ _)); exact BK120.out) hb); have n3_ := Aside0.mk (below_step (by repeat (first | (with_reducible first | exact HB.out | apply below_alloc | apply pw_below_drewN | apply below_drew1 | refine below_set ?_ GE118.out | refine below_set ?_ GE119.out | refine below_set ?_ GE120.out) | exact HB.out)) hb); clear BK118; clear BK119; clear BK120; clear HB; have BK118 := n0_; have BK119 := n1_; have BK120 := n2_; have HB := n3_; clear n0_ n1_ n2_ n3_; (try clear hb); (try clear hb2); (try clear hk); (try clear hi); have hnb19 := NB120_118.out; have hnc19 := NB118_120.out; have hnb20 := NB120_119.out; have hnc20 := NB119_120.out; have hcz21_0 : w18.cell? ⟨gb120, 0, none⟩ = some (.int .i8 a2_0) := (blk_cell BK120.out 0).trans rfl; have hcz21_1 : w18.cell? ⟨gb120, 1, none⟩ = some (.int .i8 a2_1) := (blk_cell BK120.out 1).trans rfl; have hcz21_2 : w18.cell? ⟨gb120, 2, none⟩ = some (.int .i8 a2_2) := (blk_cell BK120.out 2).trans rfl; have hcz21_3 : w18.cell? ⟨gb120, 3, none⟩ = some (.int .i8 a2_3) := (blk_cell BK120.out 3).trans rfl; have hcz21_4 : w18.cell? ⟨gb120, 4, none⟩ = some (.int .i8 a2_4) := (blk_cell BK120.out 4).trans rfl; have hcz21_5 : w18.cell? ⟨gb120, 5, none⟩ = some (.int .i8 a2_5) := (blk_cell BK120.out 5).trans rfl; have hfz21_0 := blk_frozen BK120.out 0; have hfz21_1 := blk_frozen BK120.out 1; have hfz21_2 := blk_frozen BK120.out 2; have hfz21_3 := blk_frozen BK120.out 3; have hfz21_4 := blk_frozen BK120.out 4; have hfz21_5 := blk_frozen BK120.out 5) | (go_at_call 61; (with_reducible refine (spec_l01Boat.calls gp0 a0 a2_0 a2_1 a2_2 a2_3 a2_4 a2_5 false _ ?side1 A7.out).mono ?_); (case side1 => (with_reducible repeat (first | refine blk_drewN ?_ _ | refine blk_drew ?_ | refine blk_alloc ?_ _)); exact BK118.out); rintro e w22 ⟨rfl, hb⟩; have n0_ := Aside0.mk (blk_below (g := gp0) (o := .cells (a0).A 38 (0, 0)) (by (with_reducible repeat (first | refine blk_drewN ?_ _ | refine blk_drew ?_ | refine blk_alloc ?_ _)); exact BK118.out) hb); have n1_ := Aside0.mk (blk_below (g := gp1) (o := .cells (a1).A 40 (0, 0)) (by (with_reducible repeat (first | refine blk_drewN ?_ _ | refine blk_drew ?_ | refine blk_alloc ?_ _)); exact BK119.out) hb); have n2_ := Aside0.mk (blk_below (g := gb120) (o := .cells #[.int .i8 a2_0, .int .i8 a2_1, .int .i8 a2_2, .int .i8 a2_3, .int .i8 a2_4, .int .i8 a2_5] 44 (0, 0)) (by (with_reducible repeat (first | refine blk_drewN ?_ _ | refine blk_drew ?_ | refine blk_alloc ?_ _)); exact BK120.out) hb); have n3_ := Aside0.mk (below_step (by repeat (first | (with_reducible first | exact HB.out | apply below_alloc | apply pw_below_drewN | apply below_drew1 | refine below_set ?_ GE118.out | refine below_set ?_ GE119.out | refine below_set ?_ GE120.out) | exact HB.out)) hb); clear BK118; clear BK119; clear BK120; clear HB; have BK118 := n0_; have BK119 := n1_; have BK120 := n2_; have HB := n3_; clear n0_ n1_ n2_ n3_; (try clear hb); (try clear hb2); (try clear hk); (try clear hi)))
      go_ret
      exact ⟨by first | rfl | (simp [errW_none, errW_some] <;> rfl) | (simp [*, errW_none, errW_some] <;> rfl), by repeat (first | (with_reducible first | exact HB.out | apply below_alloc | apply pw_below_drewN | apply below_drew1 | refine below_set ?_ GE118.out | refine below_set ?_ GE119.out | refine below_set ?_ GE120.out) | exact HB.out)⟩
  · replace c6 := Bool.eq_false_iff.mpr c6
    subst c6
    have H1 : (some false) = some r := by rw [if_neg (show ¬ (false = true) by decide)] at H; exact H
    clear H
    have H := H1
    clear H1
    obtain rfl := Option.some.inj H
    go_enter Try.func41, Try.ntmps41
    go_wp2_with (first | ((with_reducible refine gate_dst (N := 6) rfl ?_); refine box_event ?hg (N := 6) ?hd (cs := #[.int .i8 a2_0, .int .i8 a2_1, .int .i8 a2_2, .int .i8 a2_3, .int .i8 a2_4, .int .i8 a2_5]) (t := 44) ?hr ?_; (case hd => rfl); (case hg => rfl); (case hr => first | (go_simp; done) | (go_simp; rfl)); intro gb120 hg w23 hbox hb; have n0_ := Aside0.mk (blk_below (g := gp0) (o := .cells (a0).A 38 (0, 0)) (by (with_reducible repeat (first | refine blk_drewN ?_ _ | refine blk_drew ?_ | refine blk_alloc ?_ _)); exact BK118.out) hb); have n1_ := Aside0.mk (blk_below (g := gp1) (o := .cells (a1).A 40 (0, 0)) (by (with_reducible repeat (first | refine blk_drewN ?_ _ | refine blk_drew ?_ | refine blk_alloc ?_ _)); exact BK119.out) hb); have n2_ := Aside0.mk (below_step (by repeat (first | (with_reducible first | exact HB.out | apply below_alloc | apply pw_below_drewN | apply below_drew1 | refine below_set ?_ GE118.out | refine below_set ?_ GE119.out) | exact HB.out)) hb); have n3_ := Aside0.mk (hbox); have n4_ := Aside0.mk ((by rw [hg]; exact (below_size (by repeat (first | (with_reducible first | exact HB.out | apply below_alloc | apply pw_below_drewN | apply below_drew1 | refine below_set ?_ GE118.out | refine below_set ?_ GE119.out) | exact HB.out))) : w.heap.size ≤ gb120)); have n5_ := Aside0.mk ((by rw [hg]; exact (below_size (by repeat (first | (with_reducible first | exact HB.out | apply below_alloc | apply pw_below_drewN | apply below_drew1 | refine below_set ?_ GE118.out | refine below_set ?_ GE119.out) | exact HB.out))) : w.heap.size ≤ gb120)); have n6_ := Aside0.mk ((by rw [hg]; exact Nat.ne_of_lt (blk_lt (g := gp0) (o := .cells (a0).A 38 (0, 0)) (by (with_reducible repeat (first | refine blk_drewN ?_ _ | refine blk_drew ?_ | refine blk_alloc ?_ _)); exact BK118.out)) : gp0 ≠ gb120)); have n7_ := Aside0.mk ((by rw [hg]; exact Nat.ne_of_gt (blk_lt (g := gp0) (o := .cells (a0).A 38 (0, 0)) (by (with_reducible repeat (first | refine blk_drewN ?_ _ | refine blk_drew ?_ | refine blk_alloc ?_ _)); exact BK118.out)) : gb120 ≠ gp0)); have n8_ := Aside0.mk ((by rw [hg]; exact Nat.ne_of_lt (blk_lt (g := gp1) (o := .cells (a1).A 40 (0, 0)) (by (with_reducible repeat (first | refine blk_drewN ?_ _ | refine blk_drew ?_ | refine blk_alloc ?_ _)); exact BK119.out)) : gp1 ≠ gb120)); have n9_ := Aside0.mk ((by rw [hg]; exact Nat.ne_of_gt (blk_lt (g := gp1) (o := .cells (a1).A 40 (0, 0)) (by (with_reducible repeat (first | refine blk_drewN ?_ _ | refine blk_drew ?_ | refine blk_alloc ?_ _)); exact BK119.out)) : gb120 ≠ gp1)); clear BK118; clear BK119; clear HB; have BK118 := n0_; have BK119 := n1_; have HB := n2_; have BK120 := n3_; have GW120 := n4_; have GE120 := n5_; have NB118_120 := n6_; have NB120_118 := n7_; have NB119_120 := n8_; have NB120_119 := n9_; clear n0_ n1_ n2_ n3_ n4_ n5_ n6_ n7_ n8_ n9_; clear hb hbox hg) | ((with_reducible refine gate_callee (f := 71) rfl ?_); refine goesL_ (some 11) rfl rfl Try.func71 (by kernel_rfl) rfl #[.pointer (some ⟨gp0, 0, none⟩), .pointer (some ⟨gp1, 0, none⟩)] rfl (by (try simp only [List.map_toArray, List.map_cons, List.map_nil]); first | done | rfl | (simp only [List.length_drop, List.length_take]; rfl)) ?_; (with_reducible refine (spec_l07Grounds.calls gp0 a0 gp1 a1 false _ ?side1 ?side2 A5.out).mono ?_); (case side1 => (with_reducible repeat (first | refine blk_drewN ?_ _ | refine blk_drew ?_ | refine blk_alloc ?_ _)); exact BK118.out); (case side2 => (with_reducible repeat (first | refine blk_drewN ?_ _ | refine blk_drew ?_ | refine blk_alloc ?_ _)); exact BK119.out); rintro e w24 ⟨rfl, hb⟩; refine ⟨_, rfl, ?_⟩; have n0_ := Aside0.mk (blk_below (g := gp0) (o := .cells (a0).A 38 (0, 0)) (by (with_reducible repeat (first | refine blk_drewN ?_ _ | refine blk_drew ?_ | refine blk_alloc ?_ _)); exact BK118.out) hb); have n1_ := Aside0.mk (blk_below (g := gp1) (o := .cells (a1).A 40 (0, 0)) (by (with_reducible repeat (first | refine blk_drewN ?_ _ | refine blk_drew ?_ | refine blk_alloc ?_ _)); exact BK119.out) hb); have n2_ := Aside0.mk (blk_below (g := gb120) (o := .cells #[.int .i8 a2_0, .int .i8 a2_1, .int .i8 a2_2, .int .i8 a2_3, .int .i8 a2_4, .int .i8 a2_5] 44 (0, 0)) (by (with_reducible repeat (first | refine blk_drewN ?_ _ | refine blk_drew ?_ | refine blk_alloc ?_ _)); exact BK120.out) hb); have n3_ := Aside0.mk (below_step (by repeat (first | (with_reducible first | exact HB.out | apply below_alloc | apply pw_below_drewN | apply below_drew1 | refine below_set ?_ GE118.out | refine below_set ?_ GE119.out | refine below_set ?_ GE120.out) | exact HB.out)) hb); clear BK118; clear BK119; clear BK120; clear HB; have BK118 := n0_; have BK119 := n1_; have BK120 := n2_; have HB := n3_; clear n0_ n1_ n2_ n3_; (try clear hb); (try clear hb2); (try clear hk); (try clear hi)))
    go_ret
    exact ⟨by first | rfl | (simp [errW_none, errW_some] <;> rfl) | (simp [*, errW_none, errW_some] <;> rfl), by repeat (first | (with_reducible first | exact HB.out | apply below_alloc | apply pw_below_drewN | apply below_drew1 | refine below_set ?_ GE118.out | refine below_set ?_ GE119.out | refine below_set ?_ GE120.out) | exact HB.out)⟩
end Go.Proofs.Ytccjcnmeibconaa.G
end
section
namespace Go.Proofs.Ytccjcnmeibconaa.G
open Go.RowKit Go.Proofs.YtccjcnmeibconaaW.PrintWords Go.Proofs.YtccjcnmeibconaaW.PrintLast Go.Proofs.YtccjcnmeibconaaW.PrintMore
attribute [local go_sem] max2_int min2_int max_two min_two max_three min_three max_four min_four   -- for this text's walks alone
set_option linter.unusedVariables false
set_option linter.unusedSimpArgs false
mutual
def spec_l01All.l0 : Nat → List (S42) → Int → O38 → Option ((List (S42)))
  | 0, _, _, _ => none
  | k + 1, x3, x4, x125000 => if x4 < (x125000.z 1) then (spec_l01All.l1 k x3 x4 0 x125000) else (some x3)
def spec_l01All.l1 : Nat → List (S42) → Int → Int → O38 → Option ((List (S42)))
  | 0, _, _, _, _ => none
  | k + 1, x3, x4, x5, x125000 => if x5 < (x125000.z 0) then (if x3.length < 70368744177664 then (spec_l01All.l1 k (x3 ++ [(⟨x5, x4⟩ : S42)]) x4 (IntKind.i8.wrap (x5 + 1)) x125000) else (none)) else (spec_l01All.l0 k x3 (IntKind.i8.wrap (x4 + 1)) x125000)
end
def spec_l01All.f (k : Nat) (a0 : O38) : Option ((List (S42))) := spec_l01All.l0 k (([] : List (S42))) 0 a0
theorem spec_l01All.mono_l : ∀ k, (∀ y0 y1 y2, LeO (spec_l01All.l0 k y0 y1 y2) (spec_l01All.l0 (k + 1) y0 y1 y2)) ∧ (∀ y0 y1 y2 y3, LeO (spec_l01All.l1 k y0 y1 y2 y3) (spec_l01All.l1 (k + 1) y0 y1 y2 y3))
  | 0 => ⟨fun _ _ _ r h => by simp [spec_l01All.l0] at h, fun _ _ _ _ r h => by simp [spec_l01All.l1] at h⟩
  | k + 1 => by
    obtain ⟨ih0, ih1⟩ := spec_l01All.mono_l k
    refine ⟨?_, ?_⟩
    · intro y0 y1 y2
      unfold spec_l01All.l0
      repeat' first
      | (with_reducible exact ih0 _ _ _)
      | (with_reducible exact ih1 _ _ _ _)
      | (with_reducible exact LeO.refl _)
      | (with_reducible exact LeO.none _)
      | (with_reducible refine LeO.ite ?_ ?_)
      | (with_reducible refine LeO.bind ?_ (fun _ => ?_))
      | exact ih0 _ _ _
      | exact ih1 _ _ _ _
      | exact LeO.none _
      | refine LeO.ite ?_ ?_
      | refine LeO.bind ?_ (fun _ => ?_)
    · intro y0 y1 y2 y3
      unfold spec_l01All.l1
      repeat' first
      | (with_reducible exact ih0 _ _ _)
      | (with_reducible exact ih1 _ _ _ _)
      | (with_reducible exact LeO.refl _)
      | (with_reducible exact LeO.none _)
      | (with_reducible refine LeO.ite ?_ ?_)
      | (with_reducible refine LeO.bind ?_ (fun _ => ?_))
      | exact ih0 _ _ _
      | exact ih1 _ _ _ _
      | exact LeO.none _
      | refine LeO.ite ?_ ?_
      | refine LeO.bind ?_ (fun _ => ?_)
theorem spec_l01All.mono : ∀ a0 k, LeO (spec_l01All.f k a0) (spec_l01All.f (k + 1) a0) := by
  intro a0 k
  obtain ⟨ih0, ih1⟩ := spec_l01All.mono_l k
  unfold spec_l01All.f
  repeat' first
      | (with_reducible exact ih0 _ _ _)
      | (with_reducible exact ih1 _ _ _ _)
      | (with_reducible exact LeO.refl _)
      | (with_reducible exact LeO.none _)
      | (with_reducible refine LeO.ite ?_ ?_)
      | (with_reducible refine LeO.bind ?_ (fun _ => ?_))
      | exact ih0 _ _ _
      | exact ih1 _ _ _ _
      | exact LeO.none _
      | refine LeO.ite ?_ ?_
      | refine LeO.bind ?_ (fun _ => ?_)
set_option maxHeartbeats 8000000 in
set_option maxRecDepth 100000 in
theorem spec_l01All.calls (k : Nat) (gp0 : Nat) (a0 : O38) (r : List (S42)) (w : World) (hp0 : w.heap[gp0]? = some (.cells (a0).A 38 (0, 0))) (h : spec_l01All.f k a0 = some r) :
    Calls Try.prog 42 #[.pointer (some ⟨gp0, 0, none⟩)] w fun e w' => ∃ v0_ : Value, e = .returned (v0_) ∧ Kd.R k42 42 w' w.heap.size (fun _ => True) v0_ r ∧ Below w.heap.size w w' := by
  have hu42 := Try.underlying42
  have BK124 := Aside0.mk hp0
  clear hp0
  have HB := Aside0.mk (Below.refl w.heap.size w)
  have H : (spec_l01All.l0 k (([] : List (S42))) 0 a0) = some r := h
  clear h
  obtain ⟨y125, hy125⟩ : ∃ y_ : List (S42), y_ = (([] : List (S42))) := ⟨_, rfl⟩
  replace H : (spec_l01All.l0 k y125 0 a0) = some r := by first | (rw [hy125]; with_reducible exact H) | (have H2_ := (Option.bind_some _ _).symm.trans H; rw [hy125]; with_reducible exact H2_) | (have H2_ := (Option.bind_some _ _).symm.trans H; with_reducible exact H2_) | with_reducible exact H | (rw [hy125]; exact H) | exact H
  have Ny125 := Aside0.mk hy125
  clear hy125
  have H' := Aside0.mk H
  clear H
  go_enter Try.func42, Try.ntmps42
  go_wp2_with (first | ((with_reducible refine gate_dst (N := 6) rfl ?_); refine Kd.R_lit k42 _ 42 ?hg (N := 6) ?hd (xs := ([] : List (S42))) (inner := []) (ok := fun _ => True) (okp := fun _ => True) ?hr ?hp (fun _ hk => hk) trivial (Below.refl _ _) (Nat.le_refl _) (by simp) ?_; (case hd => rfl); (case hg => rfl); (case hr => first | (go_simp; done) | (go_simp; rfl)); (case hp => exact (Reps.none _ _)); intro v126 w2 ho3 hb hg_ hnew_; clear hg_ hnew_; (first | rw [← Ny125.out] at ho3 | (simp only [Int.reduceToNat] at ho3; rw [← Ny125.out] at ho3)); have n0_ := Aside0.mk (Kd.R_lower ho3 (below_size (by repeat (first | (with_reducible first | exact HB.out | apply below_alloc | apply pw_below_drewN | apply below_drew1 | refine below_set ?_ GE124.out) | exact HB.out)))); have n1_ := Aside0.mk (blk_below (g := gp0) (o := .cells (a0).A 38 (0, 0)) (by (with_reducible repeat (first | refine blk_drewN ?_ _ | refine blk_drew ?_ | refine blk_alloc ?_ _)); exact BK124.out) hb); have n2_ := Aside0.mk (below_step (by repeat (first | (with_reducible first | exact HB.out | apply below_alloc | apply pw_below_drewN | apply below_drew1 | refine below_set ?_ GE124.out) | exact HB.out)) hb); clear BK124; clear HB; have HO127 := n0_; have BK124 := n1_; have HB := n2_; clear n0_ n1_ n2_; clear hb ho3))
  go_loopg [3, 4] k (fun kq v3 v4 w' => ∃ (x3_1 : List (S42)) (x4_1 : Int), v4 = .int .i8 x4_1 ∧ Aside0 (spec_l01All.l0 kq x3_1 x4_1 a0 = some r) ∧ Aside0 (kq ≤ k) ∧ Aside0 (Kd.R k42 42 w' w.heap.size (fun _ => True) v3 x3_1) ∧ Aside0 (w'.heap[gp0]? = some (.cells (a0).A 38 (0, 0))) ∧ Aside0 (Below w.heap.size w w'))
  case atStart => exact ⟨(y125), (0), (by first | rfl | (simp; done) | (simp [*]; done)), H', ⟨Nat.le_refl _⟩, ⟨by (with_reducible repeat (first | apply Kd.R_alloc | apply Kd.R_drewN | apply Kd.R_drew)); exact HO127.out⟩, ⟨by (with_reducible repeat (first | refine blk_drewN ?_ _ | refine blk_drew ?_ | refine blk_alloc ?_ _)); exact BK124.out⟩, ⟨by repeat (first | (with_reducible first | exact HB.out | apply below_alloc | apply pw_below_drewN | apply below_drew1 | refine below_set ?_ GE124.out) | exact HB.out)⟩⟩
  case round =>
    clear H'
    try clear p2
    obtain ⟨x3_1, x4_1, rfl, HA, HK1, HO_3, BK124, HB⟩ := hrel
    cases gk with
    | zero => exact absurd HA.out (by simp [spec_l01All.l0])
    | succ k1 =>
      have H := HA.out
      clear HA
      simp only [spec_l01All.l0] at H
      by_cases c4 : x4_1 < (a0.z 1)
      · rw [if_pos c4] at H
        have c4b0 : decide (x4_1 < (a0.z 1)) = true := decide_eq_true c4
        clear c4
        have H' := Aside0.mk H
        clear H
        have hco124_0 : wr.cell? ⟨gp0, 0, none⟩ = some (.int .i8 (a0.z 0)) := AR.blk_cell BK124.out (Flat.at_ a0 (by decide))
        have hco124_1 : wr.cell? ⟨gp0, 1, none⟩ = some (.int .i8 (a0.z 1)) := AR.blk_cell BK124.out (Flat.at_ a0 (by decide))
        go_wp2
        go_loopg [3, 5] k1 (fun kq v3 v5 w' => ∃ (x3_2 : List (S42)) (x5_2 : Int), v5 = .int .i8 x5_2 ∧ Aside0 (spec_l01All.l1 kq x3_2 x4_1 x5_2 a0 = some r) ∧ Aside0 (kq ≤ k1) ∧ Aside0 (Kd.R k42 42 w' w.heap.size (fun _ => True) v3 x3_2) ∧ Aside0 (w'.heap[gp0]? = some (.cells (a0).A 38 (0, 0))) ∧ Aside0 (Below w.heap.size w w'))
        case atStart => exact ⟨(x3_1), (0), (by first | rfl | (simp; done) | (simp [*]; done)), H', ⟨Nat.le_refl _⟩, ⟨by (with_reducible repeat (first | apply Kd.R_alloc | apply Kd.R_drewN | apply Kd.R_drew)); exact HO_3.out⟩, ⟨by (with_reducible repeat (first | refine blk_drewN ?_ _ | refine blk_drew ?_ | refine blk_alloc ?_ _)); exact BK124.out⟩, ⟨by repeat (first | (with_reducible first | exact HB.out | apply below_alloc | apply pw_below_drewN | apply below_drew1 | refine below_set ?_ GE124.out) | exact HB.out)⟩⟩
        case round =>
          clear H'
          try clear p2
          try clear c4
          try clear c4b0
          try clear p2
          obtain ⟨x3_2, x5_2, rfl, HA, HK2, HO_3, BK124, HB⟩ := hrel
          cases gk with
          | zero => exact absurd HA.out (by simp [spec_l01All.l1])
          | succ k2 =>
            have H := HA.out
            clear HA
            simp only [spec_l01All.l1] at H
            by_cases c5 : x5_2 < (a0.z 0)
            · rw [if_pos c5] at H
              have c5b0 : decide (x5_2 < (a0.z 0)) = true := decide_eq_true c5
              clear c5
              by_cases c6 : x3_2.length < 70368744177664
              · rw [if_pos c6] at H
                have LMc6 := Aside0.mk c6
                clear c6
                obtain ⟨y128, hy128⟩ : ∃ y_ : List (S42), y_ = (x3_2 ++ [(⟨x5_2, x4_1⟩ : S42)]) := ⟨_, rfl⟩
                replace H : (spec_l01All.l1 k2 y128 x4_1 (IntKind.i8.wrap (x5_2 + 1)) a0) = some r := by first | (rw [hy128]; with_reducible exact H) | (have H2_ := (Option.bind_some _ _).symm.trans H; rw [hy128]; with_reducible exact H2_) | (have H2_ := (Option.bind_some _ _).symm.trans H; with_reducible exact H2_) | with_reducible exact H | (rw [hy128]; exact H) | exact H
                have Ny128 := Aside0.mk hy128
                clear hy128
                have H' := Aside0.mk H
                clear H
                have hco124_0 : wr.cell? ⟨gp0, 0, none⟩ = some (.int .i8 (a0.z 0)) := AR.blk_cell BK124.out (Flat.at_ a0 (by decide))
                have hco124_1 : wr.cell? ⟨gp0, 1, none⟩ = some (.int .i8 (a0.z 1)) := AR.blk_cell BK124.out (Flat.at_ a0 (by decide))
                go_wp2_with (first | ((with_reducible refine gate_builtin (b := .append) (xs := #[.tmp 23, .tmp 27]) rfl ?_); at_builtin; refine Kd.R_append k42 (w0 := w) w.heap.size rfl (.tmp 23) (.tmp 27) 35 42 (.agg #[(.int .i8 0), (.int .i8 0)]) 2 rfl Try.underlying35 info42 rfl (by decide) (by omega) u3 x3_2 (⟨x5_2, x4_1⟩ : S42) [.int .i8 x5_2, .int .i8 x4_1] (fun _ => True) (fun _ => False) rfl rfl ?aP (fun _ hk => hk.elim) ?aF ?aO ?aB ?aS ?aL ?_; (case aP => exact k42_mkM _ _ _ (⟨x5_2, x4_1⟩ : S42)); (case aB => exact (by repeat (first | (with_reducible first | exact HB.out | apply below_alloc | apply pw_below_drewN | apply below_drew1 | refine below_set ?_ GE124.out) | exact HB.out))); (case aF => exact (fun _ _ => trivial)); (case aO => exact (by (with_reducible repeat (first | apply Kd.R_alloc | apply Kd.R_drewN | apply Kd.R_drew)); exact HO_3.out)); (case aS => exact (below_size (by repeat (first | (with_reducible first | exact HB.out | apply below_alloc | apply pw_below_drewN | apply below_drew1 | refine below_set ?_ GE124.out) | exact HB.out)))); (case aL => have := LMc6.out; omega); intro v129 w7 ho hb hg hat; rw [← Ny128.out] at ho; have n0_ := Aside0.mk (blk_grown (g := gp0) (o := .cells (a0).A 38 (0, 0)) (by (with_reducible repeat (first | refine blk_drewN ?_ _ | refine blk_drew ?_ | refine blk_alloc ?_ _)); exact BK124.out) hg (Kd.R_ne HO_3.out BK124.out (by decide))); have n1_ := Aside0.mk (hb); have n2_ := Aside0.mk (ho); clear BK124; clear HB; clear HO_3; have BK124 := n0_; have HB := n1_; have HO130 := n2_; clear n0_ n1_ n2_; clear ho hb hg hat))
                go_roundg k2
                case measure => have := HK1.out; have := HK2.out; omega
                case rel => exact ⟨(y128), (IntKind.i8.wrap (x5_2 + 1)), (by first | rfl | (simp; done) | (simp [*]; done)), H', ⟨by have := HK1.out; have := HK2.out; omega⟩, ⟨by (with_reducible repeat (first | apply Kd.R_alloc | apply Kd.R_drewN | apply Kd.R_drew)); exact HO130.out⟩, ⟨by (with_reducible repeat (first | refine blk_drewN ?_ _ | refine blk_drew ?_ | refine blk_alloc ?_ _)); exact BK124.out⟩, ⟨by repeat (first | (with_reducible first | exact HB.out | apply below_alloc | apply pw_below_drewN | apply below_drew1 | refine below_set ?_ GE124.out) | exact HB.out)⟩⟩
              · rw [if_neg c6] at H
                exact absurd H (by simp)
            · rw [if_neg c5] at H
              have c5b0 : decide (x5_2 < (a0.z 0)) = false := decide_eq_false c5
              clear c5
              have H' := Aside0.mk H
              clear H
              have hco124_0 : wr.cell? ⟨gp0, 0, none⟩ = some (.int .i8 (a0.z 0)) := AR.blk_cell BK124.out (Flat.at_ a0 (by decide))
              have hco124_1 : wr.cell? ⟨gp0, 1, none⟩ = some (.int .i8 (a0.z 1)) := AR.blk_cell BK124.out (Flat.at_ a0 (by decide))
              go_wp2
              go_roundg k2
              case measure => have := HK1.out; have := HK2.out; omega
              case rel => exact ⟨(x3_2), (IntKind.i8.wrap (x4_1 + 1)), (by first | rfl | (simp; done) | (simp [*]; done)), H', ⟨by have := HK1.out; have := HK2.out; omega⟩, ⟨by (with_reducible repeat (first | apply Kd.R_alloc | apply Kd.R_drewN | apply Kd.R_drew)); exact HO_3.out⟩, ⟨by (with_reducible repeat (first | refine blk_drewN ?_ _ | refine blk_drew ?_ | refine blk_alloc ?_ _)); exact BK124.out⟩, ⟨by repeat (first | (with_reducible first | exact HB.out | apply below_alloc | apply pw_below_drewN | apply below_drew1 | refine below_set ?_ GE124.out) | exact HB.out)⟩⟩
      · rw [if_neg c4] at H
        have c4b0 : decide (x4_1 < (a0.z 1)) = false := decide_eq_false c4
        clear c4
        obtain rfl := Option.some.inj H
        have hco124_0 : wr.cell? ⟨gp0, 0, none⟩ = some (.int .i8 (a0.z 0)) := AR.blk_cell BK124.out (Flat.at_ a0 (by decide))
        have hco124_1 : wr.cell? ⟨gp0, 1, none⟩ = some (.int .i8 (a0.z 1)) := AR.blk_cell BK124.out (Flat.at_ a0 (by decide))
        go_wp2
        go_ret
        exact ⟨_, by first | rfl | (simp [errW_none, errW_some] <;> rfl) | (simp [*, errW_none, errW_some] <;> rfl), by (with_reducible repeat (first | apply Kd.R_alloc | apply Kd.R_drewN | apply Kd.R_drew)); exact HO_3.out, by repeat (first | (with_reducible first | exact HB.out | apply below_alloc | apply pw_below_drewN | apply below_drew1 | refine below_set ?_ GE124.out) | exact HB.out)⟩
end Go.Proofs.Ytccjcnmeibconaa.G
end
section
namespace Go.Proofs.Ytccjcnmeibconaa.G
open Go.RowKit Go.Proofs.YtccjcnmeibconaaW.PrintWords Go.Proofs.YtccjcnmeibconaaW.PrintLast Go.Proofs.YtccjcnmeibconaaW.PrintMore
attribute [local go_sem] max2_int min2_int max_two min_two max_three min_three max_four min_four   -- for this text's walks alone
set_option linter.unusedVariables false
set_option linter.unusedSimpArgs false
def spec_l00Max.f (a0 : Int) (a1 : Int) : Option (Int) := if a0 > a1 then (some a0) else (some a1)
set_option maxHeartbeats 8000000 in
set_option maxRecDepth 100000 in
theorem spec_l00Max.calls (a0 : Int) (a1 : Int) (r : Int) (w : World) (h : spec_l00Max.f a0 a1 = some r) :
    Calls Try.prog 73 #[.int .i64 a0, .int .i64 a1] w fun e w' => e = .returned (.int .i64 r) ∧ Drawn0 w w' := by
  have H : (if a0 > a1 then (some a0) else (some a1)) = some r := h
  clear h
  by_cases c3 : a0 > a1
  · rw [if_pos c3] at H
    have c3b0 : decide (a1 < a0) = true := decide_eq_true c3
    clear c3
    obtain rfl := Option.some.inj H
    go_enter Try.func73, Try.ntmps73
    go_wp2
    go_ret
    exact ⟨by first | rfl | (simp; done) | (simp [*]; done), by repeat (first | exact Drawn0.refl _ | apply Drawn0.step)⟩
  · rw [if_neg c3] at H
    have c3b0 : decide (a1 < a0) = false := decide_eq_false c3
    clear c3
    obtain rfl := Option.some.inj H
    go_enter Try.func73, Try.ntmps73
    go_wp2
    go_ret
    exact ⟨by first | rfl | (simp; done) | (simp [*]; done), by repeat (first | exact Drawn0.refl _ | apply Drawn0.step)⟩
end Go.Proofs.Ytccjcnmeibconaa.G
end
section
namespace Go.Proofs.Ytccjcnmeibconaa.G
open Go.RowKit Go.Proofs.YtccjcnmeibconaaW.PrintWords Go.Proofs.YtccjcnmeibconaaW.PrintLast Go.Proofs.YtccjcnmeibconaaW.PrintMore
attribute [local go_sem] max2_int min2_int max_two min_two max_three min_three max_four min_four   -- for this text's walks alone
set_option linter.unusedVariables false
set_option linter.unusedSimpArgs false
def spec_l07Strongest.l0 : Nat → List (S91) → Int → Int → Option (Int)
  | 0, _, _, _ => none
  | k + 1, x0, x3, x4 => if x4 < (x0.length : Int) then (if 0 ≤ x4 then ((spec_l00Max.f x3 (wrap64 ((rd_T91 x0 x4).f0))).bind fun t132 => (spec_l07Strongest.l0 k x0 t132 (wrap64 (x4 + 1)))) else (none)) else (some x3)
def spec_l07Strongest.f (k : Nat) (l0 : List (S91)) : Option (Int) := spec_l07Strongest.l0 k l0 0 0
set_option maxHeartbeats 8000000 in
set_option maxRecDepth 100000 in
theorem spec_l07Strongest.calls (k : Nat) (A0 : Option Addr) (c0 : Nat) (l0 : List (S91)) (r : Int) (w : World) (hr0 : Kd.C k91 w A0 l0.length l0) (hc0 : l0.length ≤ c0) (h : spec_l07Strongest.f k l0 = some r) :
    Calls Try.prog 44 #[.slice A0 l0.length c0] w fun e w' => e = .returned (.int .i64 r) ∧ Drawn0 w w' := by
  have HR0 := Aside0.mk hr0
  have HC0 := Aside0.mk hc0
  clear hr0 hc0
  have H : (spec_l07Strongest.l0 k l0 0 0) = some r := h
  clear h
  have H' := Aside0.mk H
  clear H
  go_enter Try.func44, Try.ntmps44
  go_wp2
  go_loopg [3, 4] k (fun kq v3 v4 w' => ∃ (x3_1 : Int) (x4_1 : Int), v3 = .int .i64 x3_1 ∧ v4 = .int .i64 x4_1 ∧ Aside0 (spec_l07Strongest.l0 kq l0 x3_1 x4_1 = some r) ∧ Aside0 (kq ≤ k) ∧ Drawn0 w w')
  case atStart => exact ⟨(0), (0), (by first | rfl | (simp; done) | (simp [*]; done)), (by first | rfl | (simp; done) | (simp [*]; done)), H', ⟨Nat.le_refl _⟩, by repeat (first | exact Drawn0.refl _ | apply Drawn0.step)⟩
  case round =>
    clear H'
    obtain ⟨x3_1, x4_1, rfl, rfl, HA, HK1, ⟨m1, rfl⟩⟩ := hrel
    cases gk with
    | zero => exact absurd HA.out (by simp [spec_l07Strongest.l0])
    | succ k1 =>
      have H := HA.out
      clear HA
      simp only [spec_l07Strongest.l0] at H
      by_cases c2 : x4_1 < (l0.length : Int)
      · rw [if_pos c2] at H
        have c2b0 : decide (x4_1 < (l0.length : Int)) = true := decide_eq_true c2
        clear c2
        by_cases c3 : 0 ≤ x4_1
        · rw [if_pos c3] at H
          have c3b0 : decide (0 ≤ x4_1) = true := decide_eq_true c3
          clear c3
          replace H := Option.bind_eq_some_iff.mp H
          obtain ⟨t132, A40, H⟩ := H
          replace H : (spec_l07Strongest.l0 k1 l0 t132 (wrap64 (x4_1 + 1))) = some r := H
          have A4 := Aside0.mk A40
          clear A40
          have H' := Aside0.mk H
          clear H
          have p131 : 0 ≤ (x4_1 : Int) := of_decide_eq_true (by first | (with_reducible assumption) | assumption)
          have q131 : x4_1 < (l0.length : Int) := of_decide_eq_true (by first | (with_reducible assumption) | assumption)
          obtain ⟨ad131, e131, hx131_0, hx131_1⟩ := at_T91 HR0.out x4_1 p131 q131
          cases e131
          replace p131 := eq_true p131
          replace q131 := eq_true q131
          go_wp2_with (first | ((with_reducible refine gate_callee (f := 73) rfl ?_); refine goesL_ (some 18) rfl rfl Try.func73 (by kernel_rfl) rfl #[.int .i64 x3_1, .int .i64 (wrap64 ((rd_T91 l0 x4_1).f0))] rfl (by (try simp only [List.map_toArray, List.map_cons, List.map_nil]); first | done | rfl | (simp only [List.length_drop, List.length_take]; rfl)) ?_; (with_reducible refine (spec_l00Max.calls x3_1 (wrap64 ((rd_T91 l0 x4_1).f0)) t132 _ A4.out).mono ?_); rintro e w' ⟨rfl, ⟨nd, rfl⟩⟩; refine ⟨_, rfl, ?_⟩))
          go_roundg k1
          case measure => have := HK1.out; omega
          case rel => exact ⟨(t132), (wrap64 (x4_1 + 1)), (by first | rfl | (simp; done) | (simp [*]; done)), (by first | rfl | (simp; done) | (simp [*]; done)), H', ⟨by have := HK1.out; omega⟩, by repeat (first | exact Drawn0.refl _ | apply Drawn0.step)⟩
        · rw [if_neg c3] at H
          exact absurd H (by simp)
      · rw [if_neg c2] at H
        have c2b0 : decide (x4_1 < (l0.length : Int)) = false := decide_eq_false c2
        clear c2
        obtain rfl := Option.some.inj H
        go_wp2
        go_ret
        exact ⟨by first | rfl | (simp; done) | (simp [*]; done), by repeat (first | exact Drawn0.refl _ | apply Drawn0.step)⟩
end Go.Proofs.Ytccjcnmeibconaa.G
end
section
namespace Go.Proofs.Ytccjcnmeibconaa.G
open Go.RowKit Go.Proofs.YtccjcnmeibconaaW.PrintWords Go.Proofs.YtccjcnmeibconaaW.PrintLast Go.Proofs.YtccjcnmeibconaaW.PrintMore
attribute [local go_sem] max2_int min2_int max_two min_two max_three min_three max_four min_four   -- for this text's walks alone
set_option linter.unusedVariables false
set_option linter.unusedSimpArgs false
def spec_l00Min.f (a0 : Int) (a1 : Int) : Option (Int) := if a0 < a1 then (some a0) else (some a1)
set_option maxHeartbeats 8000000 in
set_option maxRecDepth 100000 in
theorem spec_l00Min.calls (a0 : Int) (a1 : Int) (r : Int) (w : World) (h : spec_l00Min.f a0 a1 = some r) :
    Calls Try.prog 74 #[.int .i64 a0, .int .i64 a1] w fun e w' => e = .returned (.int .i64 r) ∧ Drawn0 w w' := by
  have H : (if a0 < a1 then (some a0) else (some a1)) = some r := h
  clear h
  by_cases c3 : a0 < a1
  · rw [if_pos c3] at H
    have c3b0 : decide (a0 < a1) = true := decide_eq_true c3
    clear c3
    obtain rfl := Option.some.inj H
    go_enter Try.func74, Try.ntmps74
    go_wp2
    go_ret
    exact ⟨by first | rfl | (simp; done) | (simp [*]; done), by repeat (first | exact Drawn0.refl _ | apply Drawn0.step)⟩
  · rw [if_neg c3] at H
    have c3b0 : decide (a0 < a1) = false := decide_eq_false c3
    clear c3
    obtain rfl := Option.some.inj H
    go_enter Try.func74, Try.ntmps74
    go_wp2
    go_ret
    exact ⟨by first | rfl | (simp; done) | (simp [*]; done), by repeat (first | exact Drawn0.refl _ | apply Drawn0.step)⟩
end Go.Proofs.Ytccjcnmeibconaa.G
end
section
namespace Go.Proofs.Ytccjcnmeibconaa.G
open Go.RowKit Go.Proofs.YtccjcnmeibconaaW.PrintWords Go.Proofs.YtccjcnmeibconaaW.PrintLast Go.Proofs.YtccjcnmeibconaaW.PrintMore
attribute [local go_sem] max2_int min2_int max_two min_two max_three min_three max_four min_four   -- for this text's walks alone
set_option linter.unusedVariables false
set_option linter.unusedSimpArgs false
def spec_l07Hold.f (a0 : O38) (a1 : O40) (a2_0 : Int) (a2_1 : Int) (a2_2 : Int) (a2_3 : Int) (a2_4 : Int) (a2_5 : Int) : Option (Int) := (some (([2, 4, 6, 1] : List Int) : List Int)).bind fun y136 => ((spec_l01Depth.f a0 a2_0 a2_1).bind fun t139 => (if t139 = 0 then (none) else ((spec_l00Min.f 6 (wrap64 (Int.tdiv (wrap64 (a2_2)) t139))).bind fun t140 => (if 0 ≤ a2_1 then (if a2_1 < 16 then (if 0 ≤ a2_0 then (if a2_0 < 16 then (if 0 ≤ (a1.z (a2_1.toNat * 16 + a2_0.toNat)) then (if (a1.z (a2_1.toNat * 16 + a2_0.toNat)) < (y136.length : Int) then (some (wrap64 ((rd y136 (a1.z (a2_1.toNat * 16 + a2_0.toNat))) + t140))) else (none)) else (none)) else (none)) else (none)) else (none)) else (none)))))
def spec_l07Hold.T2 : Bool × List (List Nat × List Nat) := (true, [([], []), ([0], [0]), ([1], [1]), ([], []), ([], []), ([4], [4]), ([3, 5], [3, 5]), ([2, 6], [2, 6]), ([7, 6], [7]), ([8, 8, 0, 1, 2, 3, 4, 5, 6, 7, 8], [8])])
def spec_l07Hold.B2 : List Nat := [0, 1, 3, 0, 0, 16, 56, 127, 255, 511]
theorem spec_l07Hold.tab2 : rtab .any (opsOf Try.f45 2) = spec_l07Hold.T2 := by kernel_rfl
theorem spec_l07Hold.bits2 : waitsOk spec_l07Hold.T2.2 spec_l07Hold.B2 = true := by kernel_rfl
def spec_l07Hold.T3 : Bool × List (List Nat × List Nat) := (true, [([], []), ([], []), ([], []), ([2], [2]), ([3], [3]), ([], []), ([5], [5]), ([6], [6]), ([1], [1]), ([8, 4], [4, 8]), ([9, 7], [7, 9]), ([10], [10]), ([0, 11], [0, 11]), ([12], [12]), ([], []), ([13, 14], [13, 14]), ([15, 0, 1, 2, 3, 4, 5, 6, 7, 8, 9, 10, 11, 12, 13, 14, 15], [15])])
def spec_l07Hold.B3 : List Nat := [0, 0, 0, 4, 12, 0, 32, 96, 2, 286, 1022, 2046, 4095, 8191, 0, 32767, 65535]
theorem spec_l07Hold.tab3 : rtab .any (opsOf Try.f45 3) = spec_l07Hold.T3 := by kernel_rfl
theorem spec_l07Hold.bits3 : waitsOk spec_l07Hold.T3.2 spec_l07Hold.B3 = true := by kernel_rfl
set_option maxHeartbeats 8000000 in
set_option maxRecDepth 100000 in
theorem spec_l07Hold.calls (gp0 : Nat) (a0 : O38) (gp1 : Nat) (a1 : O40) (a2_0 : Int) (a2_1 : Int) (a2_2 : Int) (a2_3 : Int) (a2_4 : Int) (a2_5 : Int) (r : Int) (w : World) (hp0 : w.heap[gp0]? = some (.cells (a0).A 38 (0, 0))) (hp1 : w.heap[gp1]? = some (.cells (a1).A 40 (0, 0))) (h : spec_l07Hold.f a0 a1 a2_0 a2_1 a2_2 a2_3 a2_4 a2_5 = some r) :
    Calls Try.prog 45 #[.pointer (some ⟨gp0, 0, none⟩), .pointer (some ⟨gp1, 0, none⟩), .agg #[.int .i8 a2_0, .int .i8 a2_1, .int .i8 a2_2, .int .i8 a2_3, .int .i8 a2_4, .int .i8 a2_5]] w fun e w' => e = .returned (.int .i64 r) ∧ Below w.heap.size w w' := by
  have hu44 := Try.underlying44
  have hu42 := Try.underlying42
  have BK133 := Aside0.mk hp0
  clear hp0
  have BK134 := Aside0.mk hp1
  clear hp1
  have HB := Aside0.mk (Below.refl w.heap.size w)
  have H : ((some (([2, 4, 6, 1] : List Int) : List Int)).bind fun y136 => ((spec_l01Depth.f a0 a2_0 a2_1).bind fun t139 => (if t139 = 0 then (none) else ((spec_l00Min.f 6 (wrap64 (Int.tdiv (wrap64 (a2_2)) t139))).bind fun t140 => (if 0 ≤ a2_1 then (if a2_1 < 16 then (if 0 ≤ a2_0 then (if a2_0 < 16 then (if 0 ≤ (a1.z (a2_1.toNat * 16 + a2_0.toNat)) then (if (a1.z (a2_1.toNat * 16 + a2_0.toNat)) < (y136.length : Int) then (some (wrap64 ((rd y136 (a1.z (a2_1.toNat * 16 + a2_0.toNat))) + t140))) else (none)) else (none)) else (none)) else (none)) else (none)) else (none)))))) = some r := h
  clear h
  obtain ⟨y136, hy136⟩ : ∃ y_ : List Int, y_ = (([2, 4, 6, 1] : List Int)) := ⟨_, rfl⟩
  replace H : ((spec_l01Depth.f a0 a2_0 a2_1).bind fun t139 => (if t139 = 0 then (none) else ((spec_l00Min.f 6 (wrap64 (Int.tdiv (wrap64 (a2_2)) t139))).bind fun t140 => (if 0 ≤ a2_1 then (if a2_1 < 16 then (if 0 ≤ a2_0 then (if a2_0 < 16 then (if 0 ≤ (a1.z (a2_1.toNat * 16 + a2_0.toNat)) then (if (a1.z (a2_1.toNat * 16 + a2_0.toNat)) < (y136.length : Int) then (some (wrap64 ((rd y136 (a1.z (a2_1.toNat * 16 + a2_0.toNat))) + t140))) else (none)) else (none)) else (none)) else (none)) else (none)) else (none))))) = some r := by first | (rw [hy136]; with_reducible exact H) | (have H2_ := (Option.bind_some _ _).symm.trans H; rw [hy136]; with_reducible exact H2_) | (have H2_ := (Option.bind_some _ _).symm.trans H; with_reducible exact H2_) | with_reducible exact H | (rw [hy136]; exact H) | exact H
  have Ny136 := Aside0.mk hy136
  clear hy136
  replace H := Option.bind_eq_some_iff.mp H
  obtain ⟨t139, A40, H⟩ := H
  replace H : (if t139 = 0 then (none) else ((spec_l00Min.f 6 (wrap64 (Int.tdiv (wrap64 (a2_2)) t139))).bind fun t140 => (if 0 ≤ a2_1 then (if a2_1 < 16 then (if 0 ≤ a2_0 then (if a2_0 < 16 then (if 0 ≤ (a1.z (a2_1.toNat * 16 + a2_0.toNat)) then (if (a1.z (a2_1.toNat * 16 + a2_0.toNat)) < (y136.length : Int) then (some (wrap64 ((rd y136 (a1.z (a2_1.toNat * 16 + a2_0.toNat))) + t140))) else (none)) else (none)) else (none)) else (none)) else (none)) else (none)))) = some r := H
  have A4 := Aside0.mk A40
  clear A40
  by_cases c5 : t139 = 0
  · rw [if_pos c5] at H
    exact absurd H (by simp)
  · rw [if_neg c5] at H
    have c5b0 : (t139 == 0) = false := beq_eq_false_iff_ne.mpr c5
    have c5b1 : (t139 != 0) = true := bne_iff_ne.mpr c5
    replace H := Option.bind_eq_some_iff.mp H
    obtain ⟨t140, A60, H⟩ := H
    replace H : (if 0 ≤ a2_1 then (if a2_1 < 16 then (if 0 ≤ a2_0 then (if a2_0 < 16 then (if 0 ≤ (a1.z (a2_1.toNat * 16 + a2_0.toNat)) then (if (a1.z (a2_1.toNat * 16 + a2_0.toNat)) < (y136.length : Int) then (some (wrap64 ((rd y136 (a1.z (a2_1.toNat * 16 + a2_0.toNat))) + t140))) else (none)) else (none)) else (none)) else (none)) else (none)) else (none)) = some r := H
    have A6 := Aside0.mk A60
    clear A60
    by_cases c7 : 0 ≤ a2_1
    · rw [if_pos c7] at H
      have c7b0 : decide (0 ≤ a2_1) = true := decide_eq_true c7
      clear c7
      by_cases c8 : a2_1 < 16
      · rw [if_pos c8] at H
        have c8b0 : decide (a2_1 < 16) = true := decide_eq_true c8
        clear c8
        by_cases c10 : 0 ≤ a2_0
        · rw [if_pos c10] at H
          have c10b0 : decide (0 ≤ a2_0) = true := decide_eq_true c10
          clear c10
          by_cases c11 : a2_0 < 16
          · rw [if_pos c11] at H
            have c11b0 : decide (a2_0 < 16) = true := decide_eq_true c11
            clear c11
            obtain ⟨ji13, hji13⟩ : ∃ j_ : Int, (a1.z (a2_1.toNat * 16 + a2_0.toNat)) = j_ := ⟨_, rfl⟩
            replace H : (if 0 ≤ (ji13) then (if (ji13) < (y136.length : Int) then (some (wrap64 ((rd y136 (ji13)) + t140))) else (none)) else (none)) = some r := by first | (rw [hji13] at H; exact H) | (simp only [hji13] at H ⊢; exact H)
            (try rw [hji13] at A4)
            (try rw [hji13] at A6)
            by_cases c14 : 0 ≤ (ji13)
            · rw [if_pos c14] at H
              have c14b0 : decide (0 ≤ (ji13)) = true := decide_eq_true c14
              clear c14
              by_cases c15 : (ji13) < (y136.length : Int)
              · rw [if_pos c15] at H
                have c15b0 : decide ((ji13) < (y136.length : Int)) = true := decide_eq_true c15
                clear c15
                obtain rfl := Option.some.inj H
                go_enter Try.func45, Try.ntmps45
                try go_wp2_with (first | ((with_reducible refine gate_dst (N := 5) rfl ?_); refine box_event ?hg (N := 5) ?hd (cs := #[.int .i8 a2_0, .int .i8 a2_1, .int .i8 a2_2, .int .i8 a2_3, .int .i8 a2_4, .int .i8 a2_5]) (t := 44) ?hr ?_; (case hd => rfl); (case hg => rfl); (case hr => first | (go_simp; done) | (go_simp; rfl)); intro gb135 hg w16 hbox hb; have n0_ := Aside0.mk (blk_below (g := gp0) (o := .cells (a0).A 38 (0, 0)) (by (with_reducible repeat (first | refine blk_drewN ?_ _ | refine blk_drew ?_ | refine blk_alloc ?_ _)); exact BK133.out) hb); have n1_ := Aside0.mk (blk_below (g := gp1) (o := .cells (a1).A 40 (0, 0)) (by (with_reducible repeat (first | refine blk_drewN ?_ _ | refine blk_drew ?_ | refine blk_alloc ?_ _)); exact BK134.out) hb); have n2_ := Aside0.mk (below_step (by repeat (first | (with_reducible first | exact HB.out | apply below_alloc | apply pw_below_drewN | apply below_drew1 | refine below_set ?_ GE133.out | refine below_set ?_ GE134.out) | exact HB.out)) hb); have n3_ := Aside0.mk (hbox); have n4_ := Aside0.mk ((by rw [hg]; exact (below_size (by repeat (first | (with_reducible first | exact HB.out | apply below_alloc | apply pw_below_drewN | apply below_drew1 | refine below_set ?_ GE133.out | refine below_set ?_ GE134.out) | exact HB.out))) : w.heap.size ≤ gb135)); have n5_ := Aside0.mk ((by rw [hg]; exact (below_size (by repeat (first | (with_reducible first | exact HB.out | apply below_alloc | apply pw_below_drewN | apply below_drew1 | refine below_set ?_ GE133.out | refine below_set ?_ GE134.out) | exact HB.out))) : w.heap.size ≤ gb135)); have n6_ := Aside0.mk ((by rw [hg]; exact Nat.ne_of_lt (blk_lt (g := gp0) (o := .cells (a0).A 38 (0, 0)) (by (with_reducible repeat (first | refine blk_drewN ?_ _ | refine blk_drew ?_ | refine blk_alloc ?_ _)); exact BK133.out)) : gp0 ≠ gb135)); have n7_ := Aside0.mk ((by rw [hg]; exact Nat.ne_of_gt (blk_lt (g := gp0) (o := .cells (a0).A 38 (0, 0)) (by (with_reducible repeat (first | refine blk_drewN ?_ _ | refine blk_drew ?_ | refine blk_alloc ?_ _)); exact BK133.out)) : gb135 ≠ gp0)); have n8_ := Aside0.mk ((by rw [hg]; exact Nat.ne_of_lt (blk_lt (g := gp1) (o := .cells (a1).A 40 (0, 0)) (by (with_reducible repeat (first | refine blk_drewN ?_ _ | refine blk_drew ?_ | refine blk_alloc ?_ _)); exact BK134.out)) : gp1 ≠ gb135)); have n9_ := Aside0.mk ((by rw [hg]; exact Nat.ne_of_gt (blk_lt (g := gp1) (o := .cells (a1).A 40 (0, 0)) (by (with_reducible repeat (first | refine blk_drewN ?_ _ | refine blk_drew ?_ | refine blk_alloc ?_ _)); exact BK134.out)) : gb135 ≠ gp1)); clear BK133; clear BK134; clear HB; have BK133 := n0_; have BK134 := n1_; have HB := n2_; have BK135 := n3_; have GW135 := n4_; have GE135 := n5_; have NB133_135 := n6_; have NB135_133 := n7_; have NB134_135 := n8_; have NB135_134 := n9_; clear n0_ n1_ n2_ n3_ n4_ n5_ n6_ n7_ n8_ n9_; clear hb hbox hg) | ((with_reducible refine gate_dst (N := 9) rfl ?_); refine Kd.R_lit (Kd.int .i64) _ 2 ?hg (N := 9) ?hd (xs := ([2, 4, 6, 1] : List Int)) (inner := [.int .i64 2, .int .i64 4, .int .i64 6, .int .i64 1]) (ok := fun _ => True) (okp := fun _ => True) ?hr ?hp (fun _ hk => hk) trivial (Below.refl _ _) (Nat.le_refl _) (by simp) ?_; (case hd => rfl); (case hg => rfl); (case hr => first | (go_simp; done) | (go_simp; rfl)); (case hp => exact (Reps.one (show Kd.M (Kd.int .i64) _ _ _ 2 [.int .i64 2] from rfl) (Reps.one (show Kd.M (Kd.int .i64) _ _ _ 4 [.int .i64 4] from rfl) (Reps.one (show Kd.M (Kd.int .i64) _ _ _ 6 [.int .i64 6] from rfl) (Reps.one (show Kd.M (Kd.int .i64) _ _ _ 1 [.int .i64 1] from rfl) (Reps.none _ _)))))); intro v137 w17 ho18 hb hg_ hnew_; clear hg_ hnew_; (first | rw [← Ny136.out] at ho18 | (simp only [Int.reduceToNat] at ho18; rw [← Ny136.out] at ho18)); have n0_ := Aside0.mk (Kd.R_lower ho18 (below_size (by repeat (first | (with_reducible first | exact HB.out | apply below_alloc | apply pw_below_drewN | apply below_drew1 | refine below_set ?_ GE133.out | refine below_set ?_ GE134.out | refine below_set ?_ GE135.out) | exact HB.out)))); have n1_ := Aside0.mk (blk_below (g := gp0) (o := .cells (a0).A 38 (0, 0)) (by (with_reducible repeat (first | refine blk_drewN ?_ _ | refine blk_drew ?_ | refine blk_alloc ?_ _)); exact BK133.out) hb); have n2_ := Aside0.mk (blk_below (g := gp1) (o := .cells (a1).A 40 (0, 0)) (by (with_reducible repeat (first | refine blk_drewN ?_ _ | refine blk_drew ?_ | refine blk_alloc ?_ _)); exact BK134.out) hb); have n3_ := Aside0.mk (blk_below (g := gb135) (o := .cells #[.int .i8 a2_0, .int .i8 a2_1, .int .i8 a2_2, .int .i8 a2_3, .int .i8 a2_4, .int .i8 a2_5] 44 (0, 0)) (by (with_reducible repeat (first | refine blk_drewN ?_ _ | refine blk_drew ?_ | refine blk_alloc ?_ _)); exact BK135.out) hb); have n4_ := Aside0.mk (below_step (by repeat (first | (with_reducible first | exact HB.out | apply below_alloc | apply pw_below_drewN | apply below_drew1 | refine below_set ?_ GE133.out | refine below_set ?_ GE134.out | refine below_set ?_ GE135.out) | exact HB.out)) hb); clear BK133; clear BK134; clear BK135; clear HB; have HO138 := n0_; have BK133 := n1_; have BK134 := n2_; have BK135 := n3_; have HB := n4_; clear n0_ n1_ n2_ n3_ n4_; clear hb ho18))
                have n0_ := Aside0.mk (Kd.R_drew HO138.out)
                have n1_ := Aside0.mk (blk_drew BK133.out)
                have n2_ := Aside0.mk (blk_drew BK134.out)
                have n3_ := Aside0.mk (blk_drew BK135.out)
                have n4_ := Aside0.mk (below_drew1 HB.out)
                clear HO138
                clear BK133
                clear BK134
                clear BK135
                clear HB
                have HO138 := n0_
                have BK133 := n1_
                have BK134 := n2_
                have BK135 := n3_
                have HB := n4_
                clear n0_ n1_ n2_ n3_ n4_
                refine start_ (n := 10) (S := fun w' => w'.cell? ⟨gb135, 0, none⟩ = some (.int .i8 a2_0) ∧ w'.cell? ⟨gb135, 1, none⟩ = some (.int .i8 a2_1) ∧ w'.cell? ⟨gb135, 2, none⟩ = some (.int .i8 a2_2) ∧ w'.cell? ⟨gb135, 3, none⟩ = some (.int .i8 a2_3) ∧ w'.cell? ⟨gb135, 4, none⟩ = some (.int .i8 a2_4) ∧ w'.cell? ⟨gb135, 5, none⟩ = some (.int .i8 a2_5)) (ds := []) #[false, false, false, false, false, false, false, false, false, false] (by kernel_rfl) rfl rfl ⟨(blk_cell BK135.out 0).trans rfl, (blk_cell BK135.out 1).trans rfl, (blk_cell BK135.out 2).trans rfl, (blk_cell BK135.out 3).trans rfl, (blk_cell BK135.out 4).trans rfl, (blk_cell BK135.out 5).trans rfl⟩ (fun hHeld => ?_); refine with_tabW spec_l07Hold.tab2 spec_l07Hold.bits2 (fun HT_ HW_ => ?_)
                generalize w17.drew = w19 at HO138 BK133 BK134 BK135 HB hHeld ⊢
                refine pure_ (i := 0) (N := some 10) (v := ?_) (a' := ?_) #[true, false, false, false, false, false, false, false, false, false] rfl rfl (any_of HT_.out (by kernel_rfl)) (fun _ _ _ h => h) (Or.inl ⟨by rfl, ?_⟩) ?_ ?_
                rotate_left
                · intro w'
                  go_simp
                  with_reducible rfl
                rotate_left
                · simp only [Act.put, List.setIfInBounds_toArray, List.set_cons_zero, List.set_cons_succ, i64_w, i32_w]
                  rfl
                refine pure_ (i := 3) (N := some 13) (v := ?_) (a' := ?_) #[true, false, false, true, false, false, false, false, false, false] rfl rfl (any_of HT_.out (by kernel_rfl)) (fun _ _ _ h => h) (Or.inl ⟨by rfl, ?_⟩) ?_ ?_
                rotate_left
                · intro w'
                  go_simp
                  with_reducible rfl
                rotate_left
                · simp only [Act.put, List.setIfInBounds_toArray, List.set_cons_zero, List.set_cons_succ, i64_w, i32_w]
                  rfl
                refine pure_ (i := 4) (N := some 14) (v := ?_) (a' := ?_) #[true, false, false, true, true, false, false, false, false, false] rfl rfl (any_of HT_.out (by kernel_rfl)) (fun _ _ _ h => h) (Or.inl ⟨by rfl, ?_⟩) ?_ ?_
                rotate_left
                · intro w'
                  go_simp
                  with_reducible rfl
                rotate_left
                · simp only [Act.put, List.setIfInBounds_toArray, List.set_cons_zero, List.set_cons_succ, i64_w, i32_w]
                  rfl
                refine take_ (i := 1) (N := some 11) (v := ?_) (a' := ?_) #[true, true, false, true, true, false, false, false, false, false] rfl rfl (take_ofW HT_.out HW_.out (by kernel_rfl)) (fun _ _ _ h => h) (Or.inl ⟨by rfl, ?_⟩) hHeld ?_ ?_
                rotate_left
                · rintro w' ⟨s0, s1, s2, s3, s4, s5⟩
                  go_simp
                  with_reducible rfl
                rotate_left
                · simp only [Act.put, List.setIfInBounds_toArray, List.set_cons_zero, List.set_cons_succ, i64_w, i32_w]
                  rfl
                refine pure_ (i := 2) (N := some 12) (v := ?_) (a' := ?_) #[true, true, true, true, true, false, false, false, false, false] rfl rfl (any_of HT_.out (by kernel_rfl)) (fun _ _ _ h => h) (Or.inl ⟨by rfl, ?_⟩) ?_ ?_
                rotate_left
                · intro w'
                  go_simp
                  with_reducible rfl
                rotate_left
                · simp only [Act.put, List.setIfInBounds_toArray, List.set_cons_zero, List.set_cons_succ, i64_w, i32_w]
                  rfl
                refine take_ (i := 5) (N := some 15) (v := ?_) (a' := ?_) #[true, true, true, true, true, true, false, false, false, false] rfl rfl (take_ofW HT_.out HW_.out (by kernel_rfl)) (fun _ _ _ h => h) (Or.inl ⟨by rfl, ?_⟩) hHeld ?_ ?_
                rotate_left
                · rintro w' ⟨s0, s1, s2, s3, s4, s5⟩
                  go_simp
                  with_reducible rfl
                rotate_left
                · simp only [Act.put, List.setIfInBounds_toArray, List.set_cons_zero, List.set_cons_succ, i64_w, i32_w]
                  rfl
                refine one_ (i := 6) (N := some 16) #[true, true, true, true, true, true, true, false, false, false] rfl rfl (one_of HT_.out (by kernel_rfl)) (by decide) (fun K hK => ?_)
                refine goes_ Try.func43 (by kernel_rfl) rfl #[.pointer (some ⟨gp0, 0, none⟩), .agg #[.int .i8 a2_0, .int .i8 a2_1]] (by rfl) rfl rfl (by (try simp only [List.map_toArray, List.map_cons, List.map_nil]); first | done | rfl | (simp only [List.length_drop, List.length_take]; rfl)) ?_
                with_reducible refine (spec_l01Depth.calls gp0 a0 a2_0 a2_1 t139 _ ?side1 A4.out).mono ?_
                (case side1 => (with_reducible repeat (first | refine blk_drewN ?_ _ | refine blk_drew ?_ | refine blk_alloc ?_ _)); exact BK133.out)
                rintro e w20 ⟨rfl, hb⟩
                refine ⟨_, rfl, ?_⟩
                have n0_ := Aside0.mk (Kd.R_below (by (with_reducible repeat (first | apply Kd.R_alloc | apply Kd.R_drewN | apply Kd.R_drew)); exact HO138.out) hb)
                have n1_ := Aside0.mk (blk_below (g := gp0) (o := .cells (a0).A 38 (0, 0)) (by (with_reducible repeat (first | refine blk_drewN ?_ _ | refine blk_drew ?_ | refine blk_alloc ?_ _)); exact BK133.out) hb)
                have n2_ := Aside0.mk (blk_below (g := gp1) (o := .cells (a1).A 40 (0, 0)) (by (with_reducible repeat (first | refine blk_drewN ?_ _ | refine blk_drew ?_ | refine blk_alloc ?_ _)); exact BK134.out) hb)
                have n3_ := Aside0.mk (blk_below (g := gb135) (o := .cells #[.int .i8 a2_0, .int .i8 a2_1, .int .i8 a2_2, .int .i8 a2_3, .int .i8 a2_4, .int .i8 a2_5] 44 (0, 0)) (by (with_reducible repeat (first | refine blk_drewN ?_ _ | refine blk_drew ?_ | refine blk_alloc ?_ _)); exact BK135.out) hb)
                have n4_ := Aside0.mk (below_step (by repeat (first | (with_reducible first | exact HB.out | apply below_alloc | apply pw_below_drewN | apply below_drew1 | refine below_set ?_ GE133.out | refine below_set ?_ GE134.out | refine below_set ?_ GE135.out) | exact HB.out)) hb)
                clear HO138
                clear BK133
                clear BK134
                clear BK135
                clear HB
                have HO138 := n0_
                have BK133 := n1_
                have BK134 := n2_
                have BK135 := n3_
                have HB := n4_
                clear n0_ n1_ n2_ n3_ n4_
                (try clear hb)
                (try clear hb2)
                (try clear hk)
                (try clear hi)
                refine hK.out _ _ ⟨(blk_cell BK135.out 0).trans rfl, (blk_cell BK135.out 1).trans rfl, (blk_cell BK135.out 2).trans rfl, (blk_cell BK135.out 3).trans rfl, (blk_cell BK135.out 4).trans rfl, (blk_cell BK135.out 5).trans rfl⟩ (fun hHeld => ?_)
                clear hK K
                refine norm_ (a' := ?_) ?_ ?_
                rotate_left
                · show Act.put _ (some 16) _ = _
                  simp only [Act.put, List.setIfInBounds_toArray, List.set_cons_zero, List.set_cons_succ, i64_w, i32_w]
                  rfl
                refine pure_ (i := 7) (N := some 17) (v := ?_) (a' := ?_) #[true, true, true, true, true, true, true, true, false, false] rfl rfl (any_of HT_.out (by kernel_rfl)) (fun _ _ _ h => h) (Or.inl ⟨by rfl, ?_⟩) ?_ ?_
                rotate_left
                · intro w'
                  go_simp
                  with_reducible rfl
                rotate_left
                · simp only [Act.put, List.setIfInBounds_toArray, List.set_cons_zero, List.set_cons_succ, i64_w, i32_w]
                  rfl
                refine one_ (i := 8) (N := some 18) #[true, true, true, true, true, true, true, true, true, false] rfl rfl (one_of HT_.out (by kernel_rfl)) (by decide) (fun K hK => ?_)
                refine goes_ Try.func74 (by kernel_rfl) rfl #[.int .i64 6, .int .i64 (wrap64 (Int.tdiv (wrap64 (a2_2)) t139))] (by rfl) rfl rfl (by (try simp only [List.map_toArray, List.map_cons, List.map_nil]); first | done | rfl | (simp only [List.length_drop, List.length_take]; rfl)) ?_
                with_reducible refine (spec_l00Min.calls 6 (wrap64 (Int.tdiv (wrap64 (a2_2)) t139)) t140 _ A6.out).mono ?_
                rintro e w' ⟨rfl, ⟨nd, rfl⟩⟩
                refine ⟨_, rfl, ?_⟩
                refine hK.out _ _ ⟨(blk_cell BK135.out 0).trans rfl, (blk_cell BK135.out 1).trans rfl, (blk_cell BK135.out 2).trans rfl, (blk_cell BK135.out 3).trans rfl, (blk_cell BK135.out 4).trans rfl, (blk_cell BK135.out 5).trans rfl⟩ (fun hHeld => ?_)
                clear hK K
                refine norm_ (a' := ?_) ?_ ?_
                rotate_left
                · show Act.put _ (some 18) _ = _
                  simp only [Act.put, List.setIfInBounds_toArray, List.set_cons_zero, List.set_cons_succ, i64_w, i32_w]
                  rfl
                refine pure_ (i := 9) (N := some 8) (v := ?_) (a' := ?_) #[true, true, true, true, true, true, true, true, true, true] rfl rfl (any_of HT_.out (by kernel_rfl)) (fun _ _ _ h => h) (Or.inl ⟨by rfl, ?_⟩) ?_ ?_
                rotate_left
                · intro w'
                  go_simp
                  with_reducible rfl
                rotate_left
                · simp only [Act.put, List.setIfInBounds_toArray, List.set_cons_zero, List.set_cons_succ, i64_w, i32_w]
                  rfl
                refine done_ (done_of HT_.out (by kernel_rfl)) ?_
                try go_wp2
                (try (rw [drewN_self w20]; generalize hq_ : World.drewN w20 _ = w20; have n0_ : Aside0 (Kd.R (Kd.int .i64) 2 w20 w.heap.size (fun _ => True) v137 y136) := ⟨by rw [← hq_]; exact (by (with_reducible repeat (first | apply Kd.R_alloc | apply Kd.R_drewN | apply Kd.R_drew)); exact HO138.out)⟩; have n1_ : Aside0 (w20.heap[gp0]? = some (.cells (a0).A 38 (0, 0))) := ⟨by rw [← hq_]; exact (by (with_reducible repeat (first | refine blk_drewN ?_ _ | refine blk_drew ?_ | refine blk_alloc ?_ _)); exact BK133.out)⟩; have n2_ : Aside0 (w20.heap[gp1]? = some (.cells (a1).A 40 (0, 0))) := ⟨by rw [← hq_]; exact (by (with_reducible repeat (first | refine blk_drewN ?_ _ | refine blk_drew ?_ | refine blk_alloc ?_ _)); exact BK134.out)⟩; have n3_ : Aside0 (w20.heap[gb135]? = some (.cells #[.int .i8 a2_0, .int .i8 a2_1, .int .i8 a2_2, .int .i8 a2_3, .int .i8 a2_4, .int .i8 a2_5] 44 (0, 0))) := ⟨by rw [← hq_]; exact (by (with_reducible repeat (first | refine blk_drewN ?_ _ | refine blk_drew ?_ | refine blk_alloc ?_ _)); exact BK135.out)⟩; have n4_ : Aside0 (Below w.heap.size w w20) := ⟨by rw [← hq_]; exact (by repeat (first | (with_reducible first | exact HB.out | apply below_alloc | apply pw_below_drewN | apply below_drew1 | refine below_set ?_ GE133.out | refine below_set ?_ GE134.out | refine below_set ?_ GE135.out) | exact HB.out))⟩; clear HO138 BK133 BK134 BK135 HB hq_; have HO138 := n0_; have BK133 := n1_; have BK134 := n2_; have BK135 := n3_; have HB := n4_; clear n0_ n1_ n2_ n3_ n4_))
                have n0_ := Aside0.mk (Kd.R_drew HO138.out)
                have n1_ := Aside0.mk (blk_drew BK133.out)
                have n2_ := Aside0.mk (blk_drew BK134.out)
                have n3_ := Aside0.mk (blk_drew BK135.out)
                have n4_ := Aside0.mk (below_drew1 HB.out)
                clear HO138
                clear BK133
                clear BK134
                clear BK135
                clear HB
                have HO138 := n0_
                have BK133 := n1_
                have BK134 := n2_
                have BK135 := n3_
                have HB := n4_
                clear n0_ n1_ n2_ n3_ n4_
                have p9 : 0 ≤ (a2_1 : Int) := of_decide_eq_true (by first | (with_reducible assumption) | assumption)
                have q9 : (a2_1 : Int) < (16 : Int) := of_decide_eq_true (by first | (with_reducible assumption) | assumption)
                replace p9 := eq_true p9
                replace q9 := eq_true q9
                have p12 : 0 ≤ (a2_0 : Int) := of_decide_eq_true (by first | (with_reducible assumption) | assumption)
                have q12 : (a2_0 : Int) < (16 : Int) := of_decide_eq_true (by first | (with_reducible assumption) | assumption)
                replace p12 := eq_true p12
                replace q12 := eq_true q12
                obtain ⟨Ao22, co22, eo22⟩ := Kd.R_slice HO138.out
                (first | subst eo22 | (injection eo22 with f1_ f2_ f3_; have f4_ := f1_.symm; have f5_ := f3_.symm; clear f1_ f2_ f3_; subst f4_; subst f5_))
                have p141 : 0 ≤ ((ji13) : Int) := of_decide_eq_true (by first | (with_reducible assumption) | assumption)
                have q141 : (ji13) < (y136.length : Int) := of_decide_eq_true (by first | (with_reducible assumption) | assumption)
                obtain ⟨ad141, e141, hx141_0⟩ := Kd.at_int (Kd.R_reads' HO138.out).2.2 (ji13) p141 q141
                cases e141
                replace p141 := eq_true p141
                replace q141 := eq_true q141
                refine start_ (n := 17) (S := fun w' => w'.cell? ⟨gb135, 0, none⟩ = some (.int .i8 a2_0) ∧ w'.cell? ⟨gb135, 1, none⟩ = some (.int .i8 a2_1) ∧ w'.cell? ⟨gb135, 2, none⟩ = some (.int .i8 a2_2) ∧ w'.cell? ⟨gb135, 3, none⟩ = some (.int .i8 a2_3) ∧ w'.cell? ⟨gb135, 4, none⟩ = some (.int .i8 a2_4) ∧ w'.cell? ⟨gb135, 5, none⟩ = some (.int .i8 a2_5) ∧ w'.cell? ⟨gp1, a2_1.toNat * 16 + a2_0.toNat, none⟩ = some (.int .u8 (a1.z (a2_1.toNat * 16 + a2_0.toNat))) ∧ w'.cell? (ad141.add ((ji13)).toNat) = some (.int .i64 (rd y136 (ji13)))) (ds := []) #[false, false, false, false, false, false, false, false, false, false, false, false, false, false, false, false, false] (by kernel_rfl) rfl rfl ⟨(blk_cell BK135.out 0).trans rfl, (blk_cell BK135.out 1).trans rfl, (blk_cell BK135.out 2).trans rfl, (blk_cell BK135.out 3).trans rfl, (blk_cell BK135.out 4).trans rfl, (blk_cell BK135.out 5).trans rfl, AR.blk_cell BK134.out (Flat.at_ a1 (by first | decide | (have hb0_ : 0 ≤ (a2_1 : Int) := (by first | omega | exact of_decide_eq_true (by first | (with_reducible assumption) | assumption)); have hc0_ : (a2_1 : Int) < 16 := (by first | omega | exact of_decide_eq_true (by first | (with_reducible assumption) | assumption)); have hb1_ : 0 ≤ (a2_0 : Int) := (by first | omega | exact of_decide_eq_true (by first | (with_reducible assumption) | assumption)); have hc1_ : (a2_0 : Int) < 16 := (by first | omega | exact of_decide_eq_true (by first | (with_reducible assumption) | assumption)); omega))), hx141_0⟩ (fun hHeld => ?_); refine with_tabW spec_l07Hold.tab3 spec_l07Hold.bits3 (fun HT_ HW_ => ?_)
                generalize w20.drew = w21 at HO138 BK133 BK134 BK135 HB hx141_0 hHeld ⊢
                refine pure_ (i := 0) (N := some 19) (v := ?_) (a' := ?_) #[true, false, false, false, false, false, false, false, false, false, false, false, false, false, false, false, false] rfl rfl (any_of HT_.out (by kernel_rfl)) (fun _ _ _ h => h) (Or.inl ⟨by rfl, ?_⟩) ?_ ?_
                rotate_left
                · intro w'
                  go_simp
                  with_reducible rfl
                rotate_left
                · simp only [Act.put, List.setIfInBounds_toArray, List.set_cons_zero, List.set_cons_succ, i64_w, i32_w]
                  rfl
                refine pure_ (i := 1) (N := some 20) (v := ?_) (a' := ?_) #[true, true, false, false, false, false, false, false, false, false, false, false, false, false, false, false, false] rfl rfl (any_of HT_.out (by kernel_rfl)) (fun _ _ _ h => h) (Or.inl ⟨by rfl, ?_⟩) ?_ ?_
                rotate_left
                · intro w'
                  go_simp
                  with_reducible rfl
                rotate_left
                · simp only [Act.put, List.setIfInBounds_toArray, List.set_cons_zero, List.set_cons_succ, i64_w, i32_w]
                  rfl
                refine pure_ (i := 2) (N := some 21) (v := ?_) (a' := ?_) #[true, true, true, false, false, false, false, false, false, false, false, false, false, false, false, false, false] rfl rfl (any_of HT_.out (by kernel_rfl)) (fun _ _ _ h => h) (Or.inl ⟨by rfl, ?_⟩) ?_ ?_
                rotate_left
                · intro w'
                  go_simp
                  with_reducible rfl
                rotate_left
                · simp only [Act.put, List.setIfInBounds_toArray, List.set_cons_zero, List.set_cons_succ, i64_w, i32_w]
                  rfl
                refine pure_ (i := 3) (N := some 22) (v := ?_) (a' := ?_) #[true, true, true, true, false, false, false, false, false, false, false, false, false, false, false, false, false] rfl rfl (any_of HT_.out (by kernel_rfl)) (fun _ _ _ h => h) (Or.inl ⟨by rfl, ?_⟩) ?_ ?_
                rotate_left
                · intro w'
                  go_simp
                  with_reducible rfl
                rotate_left
                · simp only [Act.put, List.setIfInBounds_toArray, List.set_cons_zero, List.set_cons_succ, i64_w, i32_w]
                  rfl
                refine pure_ (i := 5) (N := some 24) (v := ?_) (a' := ?_) #[true, true, true, true, false, true, false, false, false, false, false, false, false, false, false, false, false] rfl rfl (any_of HT_.out (by kernel_rfl)) (fun _ _ _ h => h) (Or.inl ⟨by rfl, ?_⟩) ?_ ?_
                rotate_left
                · intro w'
                  go_simp
                  with_reducible rfl
                rotate_left
                · simp only [Act.put, List.setIfInBounds_toArray, List.set_cons_zero, List.set_cons_succ, i64_w, i32_w]
                  rfl
                refine pure_ (i := 6) (N := some 25) (v := ?_) (a' := ?_) #[true, true, true, true, false, true, true, false, false, false, false, false, false, false, false, false, false] rfl rfl (any_of HT_.out (by kernel_rfl)) (fun _ _ _ h => h) (Or.inl ⟨by rfl, ?_⟩) ?_ ?_
                rotate_left
                · intro w'
                  go_simp
                  with_reducible rfl
                rotate_left
                · simp only [Act.put, List.setIfInBounds_toArray, List.set_cons_zero, List.set_cons_succ, i64_w, i32_w]
                  rfl
                refine pure_ (i := 8) (N := some 27) (v := ?_) (a' := ?_) #[true, true, true, true, false, true, true, false, true, false, false, false, false, false, false, false, false] rfl rfl (any_of HT_.out (by kernel_rfl)) (fun _ _ _ h => h) (Or.inl ⟨by rfl, ?_⟩) ?_ ?_
                rotate_left
                · intro w'
                  go_simp
                  with_reducible rfl
                rotate_left
                · simp only [Act.put, List.setIfInBounds_toArray, List.set_cons_zero, List.set_cons_succ, i64_w, i32_w]
                  rfl
                refine pure_ (i := 14) (N := some 33) (v := ?_) (a' := ?_) #[true, true, true, true, false, true, true, false, true, false, false, false, false, false, true, false, false] rfl rfl (any_of HT_.out (by kernel_rfl)) (fun _ _ _ h => h) (Or.inl ⟨by rfl, ?_⟩) ?_ ?_
                rotate_left
                · intro w'
                  go_simp
                  with_reducible rfl
                rotate_left
                · simp only [Act.put, List.setIfInBounds_toArray, List.set_cons_zero, List.set_cons_succ, i64_w, i32_w]
                  rfl
                refine take_ (i := 4) (N := some 23) (v := ?_) (a' := ?_) #[true, true, true, true, true, true, true, false, true, false, false, false, false, false, true, false, false] rfl rfl (take_ofW HT_.out HW_.out (by kernel_rfl)) (fun _ _ _ h => h) (Or.inl ⟨by rfl, ?_⟩) hHeld ?_ ?_
                rotate_left
                · rintro w' ⟨s0, s1, s2, s3, s4, s5, s6, s7⟩
                  go_simp
                  with_reducible rfl
                rotate_left
                · simp only [Act.put, List.setIfInBounds_toArray, List.set_cons_zero, List.set_cons_succ, i64_w, i32_w]
                  rfl
                refine pure_ (i := 9) (N := some 28) (v := ?_) (a' := ?_) #[true, true, true, true, true, true, true, false, true, true, false, false, false, false, true, false, false] rfl rfl (any_of HT_.out (by kernel_rfl)) (fun _ _ _ h => h) (Or.inl ⟨by rfl, ?_⟩) ?_ ?_
                rotate_left
                · intro w'
                  go_simp
                  with_reducible rfl
                rotate_left
                · simp only [Act.put, List.setIfInBounds_toArray, List.set_cons_zero, List.set_cons_succ, i64_w, i32_w]
                  rfl
                refine take_ (i := 7) (N := some 26) (v := ?_) (a' := ?_) #[true, true, true, true, true, true, true, true, true, true, false, false, false, false, true, false, false] rfl rfl (take_ofW HT_.out HW_.out (by kernel_rfl)) (fun _ _ _ h => h) (Or.inl ⟨by rfl, ?_⟩) hHeld ?_ ?_
                rotate_left
                · rintro w' ⟨s0, s1, s2, s3, s4, s5, s6, s7⟩
                  go_simp
                  with_reducible rfl
                rotate_left
                · simp only [Act.put, List.setIfInBounds_toArray, List.set_cons_zero, List.set_cons_succ, i64_w, i32_w]
                  rfl
                refine pure_ (i := 10) (N := some 29) (v := ?_) (a' := ?_) #[true, true, true, true, true, true, true, true, true, true, true, false, false, false, true, false, false] rfl rfl (any_of HT_.out (by kernel_rfl)) (fun _ _ _ h => h) (Or.inl ⟨by rfl, ?_⟩) ?_ ?_
                rotate_left
                · intro w'
                  go_simp
                  with_reducible rfl
                rotate_left
                · simp only [Act.put, List.setIfInBounds_toArray, List.set_cons_zero, List.set_cons_succ, i64_w, i32_w]
                  rfl
                refine take_ (i := 11) (N := some 30) (v := ?_) (a' := ?_) #[true, true, true, true, true, true, true, true, true, true, true, true, false, false, true, false, false] rfl rfl (take_ofW HT_.out HW_.out (by kernel_rfl)) (fun _ _ _ h => h) (Or.inl ⟨by rfl, ?_⟩) hHeld ?_ ?_
                rotate_left
                · rintro w' ⟨s0, s1, s2, s3, s4, s5, s6, s7⟩
                  go_simp
                  with_reducible rfl
                rotate_left
                · simp only [Act.put, List.setIfInBounds_toArray, List.set_cons_zero, List.set_cons_succ, i64_w, i32_w]
                  rfl
                refine pure_ (i := 12) (N := some 31) (v := ?_) (a' := ?_) #[true, true, true, true, true, true, true, true, true, true, true, true, true, false, true, false, false] rfl rfl (any_of HT_.out (by kernel_rfl)) (fun _ _ _ h => h) (Or.inl ⟨by rfl, ?_⟩) ?_ ?_
                rotate_left
                · intro w'
                  go_simp
                  with_reducible rfl
                rotate_left
                · simp only [Act.put, List.setIfInBounds_toArray, List.set_cons_zero, List.set_cons_succ, i64_w, i32_w]
                  rfl
                refine take_ (i := 13) (N := some 32) (v := ?_) (a' := ?_) #[true, true, true, true, true, true, true, true, true, true, true, true, true, true, true, false, false] rfl rfl (take_ofW HT_.out HW_.out (by kernel_rfl)) (fun _ _ _ h => h) (Or.inl ⟨by rfl, ?_⟩) hHeld ?_ ?_
                rotate_left
                · rintro w' ⟨s0, s1, s2, s3, s4, s5, s6, s7⟩
                  go_simp
                  with_reducible rfl
                rotate_left
                · simp only [Act.put, List.setIfInBounds_toArray, List.set_cons_zero, List.set_cons_succ, i64_w, i32_w]
                  rfl
                refine pure_ (i := 15) (N := some 34) (v := ?_) (a' := ?_) #[true, true, true, true, true, true, true, true, true, true, true, true, true, true, true, true, false] rfl rfl (any_of HT_.out (by kernel_rfl)) (fun _ _ _ h => h) (Or.inl ⟨by rfl, ?_⟩) ?_ ?_
                rotate_left
                · intro w'
                  go_simp
                  with_reducible rfl
                rotate_left
                · simp only [Act.put, List.setIfInBounds_toArray, List.set_cons_zero, List.set_cons_succ, i64_w, i32_w]
                  rfl
                refine pure_ (i := 16) (N := some 6) (v := ?_) (a' := ?_) #[true, true, true, true, true, true, true, true, true, true, true, true, true, true, true, true, true] rfl rfl (any_of HT_.out (by kernel_rfl)) (fun _ _ _ h => h) (Or.inl ⟨by rfl, ?_⟩) ?_ ?_
                rotate_left
                · intro w'
                  go_simp
                  with_reducible rfl
                rotate_left
                · simp only [Act.put, List.setIfInBounds_toArray, List.set_cons_zero, List.set_cons_succ, i64_w, i32_w]
                  rfl
                refine done_ (done_of HT_.out (by kernel_rfl)) ?_
                try go_wp2
                go_ret
                exact ⟨by first | rfl | (simp [errW_none, errW_some] <;> rfl) | (simp only [← hji13]; first | rfl | (simp [errW_none, errW_some] <;> rfl)) | (simp [*, errW_none, errW_some] <;> rfl), by repeat (first | (with_reducible first | exact HB.out | apply below_alloc | apply pw_below_drewN | apply below_drew1 | refine below_set ?_ GE133.out | refine below_set ?_ GE134.out | refine below_set ?_ GE135.out) | exact HB.out)⟩
              · rw [if_neg c15] at H
                exact absurd H (by simp)
            · rw [if_neg c14] at H
              exact absurd H (by simp)
          · rw [if_neg c11] at H
            exact absurd H (by simp)
        · rw [if_neg c10] at H
          exact absurd H (by simp)
      · rw [if_neg c8] at H
        exact absurd H (by simp)
    · rw [if_neg c7] at H
      exact absurd H (by simp)
end Go.Proofs.Ytccjcnmeibconaa.G
end
