/- Given: l07Grounds, ValidGrounds. -/
import Derived.Test.YtofpjfbkbmpnnaaDV
import Derived.Test.YtofpjfbkbmpnnaaDG1
namespace Go.Proofs.Ytofpjfbkbmpnnaa.G
open Go.RowKit Go.Proofs.YtofpjfbkbmpnnaaW.PrintWords Go.Proofs.YtofpjfbkbmpnnaaW.PrintLast Go.Proofs.YtofpjfbkbmpnnaaW.PrintMore AR M
set_option linter.unusedVariables false
set_option linter.unusedSimpArgs false
theorem sz27 : (Try.prog.info? 27).map (·.size) = some 16 := by kernel_rfl
theorem szr27 (b : Flat 256 .u8) (n : Nat) : (Try.prog.info? 27).map (·.size) = some (b.sub n 16).size := by rw [Flat.sub_size]; kernel_rfl
theorem sz5 : (Try.prog.info? 5).map (·.size) = some 1 := by kernel_rfl

theorem ValidGrounds_any (b : Flat 258 .i8) (d : Flat 256 .u8) (w : World) : Calls Try.prog 10 #[.agg b.A, .agg d.A] w fun e w' => e = .returned (.bool (groundsB b d)) ∧ Below w.heap.size w w' := by
  obtain ⟨a0, a1⟩ := bounds_i8 (b.ok 0 (by omega))
  obtain ⟨b0, b1⟩ := bounds_i8 (b.ok 1 (by omega))
  cases e1 : bayB b
  · have HV := Lib.hid (show groundsB b d = false by unfold groundsB; rw [e1]; rfl)
    have HC := Lib.hid (fun W => e1 ▸ ValidBay_any b W)
    clear e1
    go_enter Try.func10, Try.ntmps10
    go_wp2_with (first
      | ((with_reducible refine gate_dst (N := 2) rfl ?_); refine wpList_box_ev rfl 30 _ rfl b.A rfl ?_; intro g w1 hg hb hb1; have HG := Lib.hid hb; have HB0 := Lib.hid hb1; clear hb hb1 hg)
      | ((with_reducible refine gate_dst (N := 3) rfl ?_); refine wpList_box_ev rfl 32 _ rfl d.A rfl ?_; intro g1 w2 hg hb hb1; have HG1 := Lib.hid (BayAt.below (b := b) HG.out hb1); have HB1 := Lib.hid (below_join HB0.out hb1); clear hb hb1 hg)
      | ((with_reducible refine gate_dst (N := 9) rfl ?_); refine Kd.event_run rfl (exec_load_blk rfl rfl HG1.out Try.underlying30 rfl (szO30 b)) ?_)
      | (go_at_call 26; refine (HC.out _).mono ?_; rintro e w3 ⟨rfl, hb⟩; have HB2 := Lib.hid (below_join HB1.out hb); clear hb))
    go_ret
    exact ⟨by rw [HV.out]; rfl, HB2.out⟩
  · have HE := Lib.hid e1
    have HC := Lib.hid (fun W => e1 ▸ ValidBay_any b W)
    clear e1
    go_enter Try.func10, Try.ntmps10
    go_wp2_with (first
      | ((with_reducible refine gate_dst (N := 2) rfl ?_); refine wpList_box_ev rfl 30 _ rfl b.A rfl ?_; intro g w1 hg hb hb1; have HG := Lib.hid hb; have HB0 := Lib.hid hb1; clear hb hb1 hg)
      | ((with_reducible refine gate_dst (N := 3) rfl ?_); refine wpList_box_ev rfl 32 _ rfl d.A rfl ?_; intro g1 w2 hg hb hb1; have HG1 := Lib.hid (BayAt.below (b := b) HG.out hb1); have HD1 := Lib.hid hb; have HB1 := Lib.hid (below_join HB0.out hb1); clear hb hb1 hg)
      | ((with_reducible refine gate_dst (N := 9) rfl ?_); refine Kd.event_run rfl (exec_load_blk rfl rfl HG1.out Try.underlying30 rfl (szO30 b)) ?_)
      | (go_at_call 26; refine (HC.out _).mono ?_; rintro e w3 ⟨rfl, hb⟩; have HB2 := Lib.hid (below_join HB1.out hb); have HG2 := Lib.hid (BayAt.below (b := b) HG1.out hb); have HD2 := Lib.hid (GroundsAt.below (d := d) HD1.out hb); clear hb)
      | ((with_reducible refine gate_dst (N := 12) rfl ?_); refine Kd.event_run rfl (exec_load_blk rfl rfl HD2.out Try.underlying32 rfl (szO32 d)) ?_))
    clear HC
    rw [← d.sub_whole]
    go_loopw [13] (fun i wr => ∃ y : Nat, y ≤ 16 ∧ i = .int .i64 y ∧ Hid (∀ j, j < y → ∀ x, x < 16 → okG b d j x = true) ∧ Hid (Below w.heap.size w wr) ∧ Hid (BayAt wr g b)) (fun i _ => 16 - (intOf i).toNat)
    case atStart => exact ⟨0, Nat.zero_le _, rfl, fun j h => absurd h (by omega), HB2.out, HG2.out⟩
    case round =>
      obtain ⟨y, hy, rfl, HN, HD, HG1⟩ := hrel
      by_cases hlt : y < 16
      · have i0 : (y : Int) < 16 := by omega
        have i1 : (0 : Int) ≤ (y : Int) := by omega
        obtain ⟨wo, rfl⟩ : ∃ wo : World, wo = wr := ⟨_, rfl⟩
        go_wp2_with (first
          | ((with_reducible refine gate_dst (N := 16) rfl ?_); refine Kd.event_run rfl (exec_index_row (k := (y : Int)) (sz := 16) rfl rfl rfl i1 i0 Try.underlying32 Try.underlying27 rfl sz27) ?_; rw [Int.toNat_natCast, d.sub_part (show y * 16 + 16 ≤ 256 by omega), Nat.zero_add])
          | ((with_reducible refine gate_dst (N := 6) rfl ?_); refine box_event rfl (N := 6) rfl (t := 27) (exec_alloc rfl (Try.zeroValue27 _)) ?_; intro gr hgr wa ha hb; have HA := Lib.hid ha; have HBa := Lib.hid (below_join HD.out hb); have HGa := Lib.hid (BayAt.below (b := b) HG1.out hb); have hne := Lib.hid (show w.heap.size ≤ gr by have := HD.out.size; omega); have hng := Lib.hid (show g ≠ gr by have := (Array.getElem?_eq_some_iff.1 HG1.out).1; omega); clear ha hb hgr)
          | ((with_reducible refine gate_store (t := 27) (p := 6) rfl ?_); refine store_event (t := 27) (p := 6) rfl rfl rfl (exec_store_row (t2 := 27) (vs := d.sub (y * 16) 16) rfl rfl rfl HA.out (by rw [Flat.sub_size]; decide) (d.sub_one _ _) (szr27 d _)) ?_; intro ws hws; have HS := Lib.hid (show ws.heap[gr]? = some (.cells (d.sub (y * 16) 16) 27 (0, 0)) by rw [hws]; exact setRow_whole HA.out (by rw [Flat.sub_size]; rfl)); have HBs := Lib.hid (show Below w.heap.size w ws by rw [hws]; exact below_setRow HBa.out hne.out _); have HGs := Lib.hid (show BayAt ws g b by rw [hws]; exact (setRow_other _ _ _ _ hng.out).trans HGa.out); clear hws)
          | ((with_reducible refine gate_dst (N := 17) rfl ?_); refine Kd.event_run rfl (exec_load_blk rfl rfl HS.out Try.underlying27 rfl (szr27 d _)) ?_))
        go_loopw [18] (fun i wr => ∃ x : Nat, x ≤ 16 ∧ i = .int .i64 x ∧ Hid (∀ j, j < x → okG b d y j = true) ∧ Hid (wr = ws)) (fun i _ => 16 - (intOf i).toNat)
        case atStart => exact ⟨0, Nat.zero_le _, rfl, fun j h => absurd h (by omega), rfl⟩
        case round =>
          obtain ⟨x, hx, rfl, HN1, HW⟩ := hrel
          obtain rfl := HW.out
          by_cases hlx : x < 16
          · have j0 : (x : Int) < 16 := by omega
            have j1 : (0 : Int) ≤ (x : Int) := by omega
            have c0 := BayAt.cell HGs.out (j := 0) (by omega)
            have c1 := BayAt.cell HGs.out (j := 1) (by omega)
            have hv := d.sub_at (y * 16) 16 (j := x) (by omega)
            have HP := Lib.hid (show okG b d y x = (decide (d.z (y * 16 + x) ≤ 3) && (d.z (y * 16 + x) == 0 || isP b x y)) from rfl)
            have HIP := Lib.hid (isP_nat (b := b) (x := x) (y := y))
            generalize d.z (y * 16 + x) = k at hv HP
            by_cases h1 : 3 < k
            · have HH := Lib.hid (groundsB_no hlt hlx (show okG b d y x = false by rw [HP.out, decide_eq_false (show ¬ k ≤ 3 by omega)]; rfl))
              go_wp2_with ((with_reducible refine gate_dst (N := 21) rfl ?_); refine Kd.event_run rfl (exec_index_cell (k := (x : Int)) rfl rfl rfl j1 j0 Try.underlying27 Try.isAgg5 sz5 (v := .int .u8 k) (by rw [Int.toNat_natCast]; exact hv)) ?_)
              go_ret
              exact ⟨by rw [HH.out]; rfl, HBs.out⟩
            · have HI := Lib.hid (show decide (k ≤ 3) = true from decide_eq_true (by omega))
              cases e4 : (k == 0)
              · have e4' : (k != 0) = true := by simp only [bne, e4]; rfl
                by_cases h5 : (x : Int) < b.z 0
                · have h5' : ¬ b.z 0 ≤ (x : Int) := by omega
                  by_cases h6 : (y : Int) < b.z 1
                  · have h6' : ¬ b.z 1 ≤ (y : Int) := by omega
                    have HH := Lib.hid (show okG b d y x = true by rw [HP.out, HI.out, e4, HIP.out, decide_eq_true h5, decide_eq_true h6]; rfl)
                    go_wp2_with ((with_reducible refine gate_dst (N := 21) rfl ?_); refine Kd.event_run rfl (exec_index_cell (k := (x : Int)) rfl rfl rfl j1 j0 Try.underlying27 Try.isAgg5 sz5 (v := .int .u8 k) (by rw [Int.toNat_natCast]; exact hv)) ?_)
                    go_roundw
                    case rel => exact ⟨x + 1, by omega, by go_num, next_one HN1.out HH.out, by first | exact trivial | rfl⟩
                    case measure => simp [intOf]; omega
                  · have h6' : b.z 1 ≤ (y : Int) := by omega
                    have HH := Lib.hid (groundsB_no hlt hlx (show okG b d y x = false by rw [HP.out, HI.out, e4, HIP.out, decide_eq_true h5, decide_eq_false h6]; rfl))
                    go_wp2_with ((with_reducible refine gate_dst (N := 21) rfl ?_); refine Kd.event_run rfl (exec_index_cell (k := (x : Int)) rfl rfl rfl j1 j0 Try.underlying27 Try.isAgg5 sz5 (v := .int .u8 k) (by rw [Int.toNat_natCast]; exact hv)) ?_)
                    go_ret
                    exact ⟨by rw [HH.out]; rfl, HBs.out⟩
                · have h5' : b.z 0 ≤ (x : Int) := by omega
                  have HH := Lib.hid (groundsB_no hlt hlx (show okG b d y x = false by rw [HP.out, HI.out, e4, HIP.out, decide_eq_false h5]; rfl))
                  go_wp2_with ((with_reducible refine gate_dst (N := 21) rfl ?_); refine Kd.event_run rfl (exec_index_cell (k := (x : Int)) rfl rfl rfl j1 j0 Try.underlying27 Try.isAgg5 sz5 (v := .int .u8 k) (by rw [Int.toNat_natCast]; exact hv)) ?_)
                  go_ret
                  exact ⟨by rw [HH.out]; rfl, HBs.out⟩
              · have e4' : (k != 0) = false := by simp only [bne, e4]; rfl
                have HH := Lib.hid (show okG b d y x = true by rw [HP.out, HI.out, e4]; rfl)
                go_wp2_with ((with_reducible refine gate_dst (N := 21) rfl ?_); refine Kd.event_run rfl (exec_index_cell (k := (x : Int)) rfl rfl rfl j1 j0 Try.underlying27 Try.isAgg5 sz5 (v := .int .u8 k) (by rw [Int.toNat_natCast]; exact hv)) ?_)
                go_roundw
                case rel => exact ⟨x + 1, by omega, by go_num, next_one HN1.out HH.out, by first | exact trivial | rfl⟩
                case measure => simp [intOf]; omega
          · have HH := Lib.hid (next_row HN.out (fun j hj => HN1.out j (by omega)))
            have j0 : ¬ (x : Int) < 16 := by omega
            go_wp2
            go_roundw
            case rel => exact ⟨y + 1, by omega, by go_num, HH.out, HBs.out, HGs.out⟩
            case measure => simp [intOf]; omega
      · have HH := Lib.hid (groundsB_ok HE.out (fun j hj => HN.out j (by omega)))
        have i0 : ¬ (y : Int) < 16 := by omega
        go_wp2
        go_ret
        exact ⟨by rw [HH.out]; rfl, HD.out⟩
def spec_l07Grounds.f (a0 : O30) (a1 : O32) : Option (Bool) := some (groundsB a0 a1)
def impl_ValidGrounds.f (a0 : O30) (a1 : O32) : Option (Bool) := some (groundsB a0 a1)
theorem spec_l07Grounds.calls (gp0 : Nat) (a0 : O30) (gp1 : Nat) (a1 : O32) (r : Bool) (w : World) (hp0 : w.heap[gp0]? = some (.cells (a0).A 30 (0, 0))) (hp1 : w.heap[gp1]? = some (.cells (a1).A 32 (0, 0))) (h : spec_l07Grounds.f a0 a1 = some r) :
    Calls Try.prog 23 #[.pointer (some ⟨gp0, 0, none⟩), .pointer (some ⟨gp1, 0, none⟩)] w fun e w' => e = .returned (.bool r) ∧ Below w.heap.size w w' := by
  obtain rfl := Option.some.inj h
  exact l07Grounds_any gp0 gp1 a0 a1 w hp0 hp1
theorem impl_ValidGrounds.calls (a0 : O30) (a1 : O32) (r : Bool) (w : World) (h : impl_ValidGrounds.f a0 a1 = some r) :
    Calls Try.prog 10 #[VO30 a0, VO32 a1] w fun e w' => e = .returned (.bool r) ∧ Below w.heap.size w w' := by
  obtain rfl := Option.some.inj h
  exact ValidGrounds_any a0 a1 w
end Go.Proofs.Ytofpjfbkbmpnnaa.G
