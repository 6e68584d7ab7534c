/- Given: l01Bay, ValidBay. -/
import Derived.Test.YtofpjfbkbmpnnaaDV1
import Derived.Test.YtofpjfbkbmpnnaaArr2
namespace Go.Proofs.Ytofpjfbkbmpnnaa.G
open Go.RowKit Go.Proofs.YtofpjfbkbmpnnaaW.PrintWords Go.Proofs.YtofpjfbkbmpnnaaW.PrintLast Go.Proofs.YtofpjfbkbmpnnaaW.PrintMore AR M
set_option linter.unusedVariables false
set_option linter.unusedSimpArgs false
theorem sz24 (b : Flat 258 .i8) : (Try.prog.info? 24).map (·.size) = some (b.sub 2 256).size := by rw [Flat.sub_size]; kernel_rfl
theorem sz23 : (Try.prog.info? 23).map (·.size) = some 16 := by kernel_rfl
theorem szr23 (b : Flat 258 .i8) (n : Nat) : (Try.prog.info? 23).map (·.size) = some (b.sub n 16).size := by rw [Flat.sub_size]; kernel_rfl
theorem sz22 : (Try.prog.info? 22).map (·.size) = some 1 := by kernel_rfl
theorem isP_nat {b : Flat 258 .i8} {x y : Nat} : isP b x y = (decide ((x : Int) < b.z 0) && decide ((y : Int) < b.z 1)) := by
  rw [Bool.eq_iff_iff]; simp [isP]

theorem setRow_whole {w : World} {g : Nat} {old cs : Array Value} {t : TypeId} (hg : w.heap[g]? = some (.cells old t (0, 0))) (hs : old.size = cs.size) : (w.setRow g (old.toList.take 0 ++ cs.toList ++ old.toList.drop (0 + cs.size)).toArray).heap[g]? = some (.cells cs t (0, 0)) := by
  rw [setRow_heap w g old _ t (0, 0) hg, List.drop_of_length_le (by simp; omega)]
  simp

theorem ValidBay_any (b : Flat 258 .i8) (w : World) : Calls Try.prog 26 #[.agg b.A] w fun e w' => e = .returned (.bool (bayB b)) ∧ Below w.heap.size w w' := by
  obtain ⟨a0, a1⟩ := bounds_i8 (b.ok 0 (by omega))
  obtain ⟨b0, b1⟩ := bounds_i8 (b.ok 1 (by omega))
  by_cases hin : inB (b.z 0) 1 16 && inB (b.z 1) 1 16
  · obtain ⟨h1, h2⟩ : inB (b.z 0) 1 16 = true ∧ inB (b.z 1) 1 16 = true := by simpa using hin
    obtain ⟨p0, p1⟩ := inB_true h1
    obtain ⟨q0, q1⟩ := inB_true h2
    have HE := Lib.hid (And.intro h1 h2)
    have r0 : ¬ b.z 0 < 1 := by omega
    have r1 : ¬ 16 < b.z 0 := by omega
    have r2 : ¬ b.z 1 < 1 := by omega
    have r3 : ¬ 16 < b.z 1 := by omega
    clear hin h1 h2
    go_enter Try.func26, Try.ntmps26
    go_wp2_with (first
      | ((with_reducible refine gate_box (t := 30) rfl ?_); refine wpList_box_ev rfl _ _ rfl b.A rfl ?_; intro g w1 hg hb hb1; have HG := Lib.hid hb; have HB0 := Lib.hid hb1; have hge := Lib.hid (show w.heap.size ≤ g by omega); have c0 := BayAt.cell (b := b) hb (j := 0) (by omega); have c1 := BayAt.cell (b := b) hb (j := 1) (by omega); clear hb hb1 hg)
      | ((with_reducible refine gate_dst (N := 26) rfl ?_); refine Kd.event_run rfl (exec_load_sub (cs := b.sub 2 256) rfl rfl HG.out (b.sub_in (by omega)) Try.underlying24 rfl (sz24 b)) ?_))
    clear c0 c1
    go_loopw [27] (fun i wr => ∃ y : Nat, y ≤ 16 ∧ i = .int .i64 y ∧ Hid (∀ j, j < y → ∀ x, x < 16 → okD b j x = true) ∧ Hid (Below w.heap.size w wr) ∧ Hid (BayAt wr g b)) (fun i _ => 16 - (intOf i).toNat)
    case atStart => exact ⟨0, Nat.zero_le _, rfl, fun j h => absurd h (by omega), HB0.out, HG.out⟩
    case round =>
      obtain ⟨y, hy, rfl, HN, HD, HG1⟩ := hrel
      by_cases hlt : y < 16
      · have i0 : (y : Int) < 16 := by omega
        have i1 : (0 : Int) ≤ (y : Int) := by omega
        have HY := Lib.hid hlt
        obtain ⟨wo, rfl⟩ : ∃ wo : World, wo = wr := ⟨_, rfl⟩
        go_wp2_with (first
          | ((with_reducible refine gate_dst (N := 30) rfl ?_); refine Kd.event_run rfl (exec_index_row (k := (y : Int)) (sz := 16) rfl rfl rfl i1 i0 Try.underlying24 Try.underlying23 rfl sz23) ?_; rw [Int.toNat_natCast, b.sub_part (show y * 16 + 16 ≤ 256 by omega)])
          | ((with_reducible refine gate_dst (N := 4) rfl ?_); refine box_event rfl (N := 4) rfl (t := 23) (exec_alloc rfl (Try.zeroValue23 _)) ?_; intro gr hgr wa ha hb; have HA := Lib.hid ha; have HBa := Lib.hid (below_join HD.out hb); have HGa := Lib.hid (BayAt.below (b := b) HG1.out hb); have hne := Lib.hid (show w.heap.size ≤ gr by have := HD.out.size; omega); have hng := Lib.hid (show g ≠ gr by have := (Array.getElem?_eq_some_iff.1 HG1.out).1; omega); clear ha hb hgr)
          | ((with_reducible refine gate_store (t := 23) (p := 4) rfl ?_); refine store_event (t := 23) (p := 4) rfl rfl rfl (exec_store_row (t2 := 23) (vs := b.sub (2 + y * 16) 16) rfl rfl rfl HA.out (by rw [Flat.sub_size]; decide) (b.sub_one _ _) (szr23 b _)) ?_; intro ws hws; have HS := Lib.hid (show ws.heap[gr]? = some (.cells (b.sub (2 + y * 16) 16) 23 (0, 0)) by rw [hws]; exact setRow_whole HA.out (by rw [Flat.sub_size]; rfl)); have HBs := Lib.hid (show Below w.heap.size w ws by rw [hws]; exact below_setRow HBa.out hne.out _); have HGs := Lib.hid (show BayAt ws g b by rw [hws]; exact (setRow_other _ _ _ _ hng.out).trans HGa.out); clear hws)
          | ((with_reducible refine gate_dst (N := 31) rfl ?_); refine Kd.event_run rfl (exec_load_blk rfl rfl HS.out Try.underlying23 rfl (szr23 b _)) ?_))
        go_loopw [32] (fun i wr => ∃ x : Nat, x ≤ 16 ∧ i = .int .i64 x ∧ Hid (∀ j, j < x → okD b y j = true) ∧ Hid (wr = ws)) (fun i _ => 16 - (intOf i).toNat)
        case atStart => exact ⟨0, Nat.zero_le _, rfl, fun j h => absurd h (by omega), rfl⟩
        case round =>
          obtain ⟨x, hx, rfl, HN1, HW⟩ := hrel
          obtain rfl := HW.out
          by_cases hlx : x < 16
          · have j0 : (x : Int) < 16 := by omega
            have j1 : (0 : Int) ≤ (x : Int) := by omega
            have c0 := BayAt.cell HGs.out (j := 0) (by omega)
            have c1 := BayAt.cell HGs.out (j := 1) (by omega)
            have hv := b.sub_at (2 + y * 16) 16 (j := x) (by omega)
            have HP := Lib.hid (dep_nat b y x)
            have HIP := Lib.hid (isP_nat (b := b) (x := x) (y := y))
            generalize b.z (2 + y * 16 + x) = d at hv HP
            by_cases h1 : d < 0
            · have HH := Lib.hid (bayB_no hlt hlx (show okD b y x = false by unfold okD; rw [HP.out, show inB d 0 30 = false by simp [inB]; omega]; rfl))
              go_wp2_with ((with_reducible refine gate_dst (N := 35) rfl ?_); refine Kd.event_run rfl (exec_index_cell (k := (x : Int)) rfl rfl rfl j1 j0 Try.underlying23 Try.isAgg22 sz22 (v := .int .i8 d) (by rw [Int.toNat_natCast]; exact hv)) ?_)
              go_ret
              exact ⟨by rw [HH.out]; rfl, HBs.out⟩
            · by_cases h2 : 30 < d
              · have HH := Lib.hid (bayB_no hlt hlx (show okD b y x = false by unfold okD; rw [HP.out, show inB d 0 30 = false by simp [inB]; omega]; rfl))
                go_wp2_with ((with_reducible refine gate_dst (N := 35) rfl ?_); refine Kd.event_run rfl (exec_index_cell (k := (x : Int)) rfl rfl rfl j1 j0 Try.underlying23 Try.isAgg22 sz22 (v := .int .i8 d) (by rw [Int.toNat_natCast]; exact hv)) ?_)
                go_ret
                exact ⟨by rw [HH.out]; rfl, HBs.out⟩
              · have HI := Lib.hid (show inB d 0 30 = true by simp [inB]; omega)
                cases e4 : (d == 0)
                · have e4' : (d != 0) = true := by simp only [bne, e4]; rfl
                  by_cases h5 : (x : Int) < b.z 0
                  · have h5' : ¬ b.z 0 ≤ (x : Int) := by omega
                    by_cases h6 : (y : Int) < b.z 1
                    · have h6' : ¬ b.z 1 ≤ (y : Int) := by omega
                      have HH := Lib.hid (show okD b y x = true by unfold okD; rw [HP.out, HI.out, e4, HIP.out, decide_eq_true h5, decide_eq_true h6]; rfl)
                      go_wp2_with ((with_reducible refine gate_dst (N := 35) rfl ?_); refine Kd.event_run rfl (exec_index_cell (k := (x : Int)) rfl rfl rfl j1 j0 Try.underlying23 Try.isAgg22 sz22 (v := .int .i8 d) (by rw [Int.toNat_natCast]; exact hv)) ?_)
                      go_roundw
                      case rel => exact ⟨x + 1, by omega, by go_num, next_one HN1.out HH.out, by first | exact trivial | rfl⟩
                      case measure => simp [intOf]; omega
                    · have h6' : b.z 1 ≤ (y : Int) := by omega
                      have HH := Lib.hid (bayB_no hlt hlx (show okD b y x = false by unfold okD; rw [HP.out, HI.out, e4, HIP.out, decide_eq_true h5, decide_eq_false h6]; rfl))
                      go_wp2_with ((with_reducible refine gate_dst (N := 35) rfl ?_); refine Kd.event_run rfl (exec_index_cell (k := (x : Int)) rfl rfl rfl j1 j0 Try.underlying23 Try.isAgg22 sz22 (v := .int .i8 d) (by rw [Int.toNat_natCast]; exact hv)) ?_)
                      go_ret
                      exact ⟨by rw [HH.out]; rfl, HBs.out⟩
                  · have h5' : b.z 0 ≤ (x : Int) := by omega
                    have HH := Lib.hid (bayB_no hlt hlx (show okD b y x = false by unfold okD; rw [HP.out, HI.out, e4, HIP.out, decide_eq_false h5]; rfl))
                    go_wp2_with ((with_reducible refine gate_dst (N := 35) rfl ?_); refine Kd.event_run rfl (exec_index_cell (k := (x : Int)) rfl rfl rfl j1 j0 Try.underlying23 Try.isAgg22 sz22 (v := .int .i8 d) (by rw [Int.toNat_natCast]; exact hv)) ?_)
                    go_ret
                    exact ⟨by rw [HH.out]; rfl, HBs.out⟩
                · have e4' : (d != 0) = false := by simp only [bne, e4]; rfl
                  have HH := Lib.hid (show okD b y x = true by unfold okD; rw [HP.out, HI.out, e4]; rfl)
                  go_wp2_with ((with_reducible refine gate_dst (N := 35) rfl ?_); refine Kd.event_run rfl (exec_index_cell (k := (x : Int)) rfl rfl rfl j1 j0 Try.underlying23 Try.isAgg22 sz22 (v := .int .i8 d) (by rw [Int.toNat_natCast]; exact hv)) ?_)
                  go_roundw
                  case rel => exact ⟨x + 1, by omega, by go_num, next_one HN1.out HH.out, by first | exact trivial | rfl⟩
                  case measure => simp [intOf]; omega
          · have HH := Lib.hid (next_row HN.out (fun j hj => HN1.out j (by omega)))
            have j0 : ¬ (x : Int) < 16 := by omega
            go_wp2
            go_roundw
            case rel => exact ⟨y + 1, by omega, by go_num, HH.out, HBs.out, HGs.out⟩
            case measure => simp [intOf]; omega
      · have HH := Lib.hid (bayB_ok HE.out.1 HE.out.2 (fun j hj => HN.out j (by omega)))
        have i0 : ¬ (y : Int) < 16 := by omega
        go_wp2
        go_ret
        exact ⟨by rw [HH.out]; rfl, HD.out⟩
  · have HV := Lib.hid (show bayB b = false by unfold bayB; rw [Bool.eq_false_iff.2 hin]; rfl)
    have hor : b.z 0 < 1 ∨ 16 < b.z 0 ∨ b.z 1 < 1 ∨ 16 < b.z 1 := by simp [inB] at hin; omega
    clear hin
    by_cases r0 : b.z 0 < 1
    · go_enter Try.func26, Try.ntmps26
      go_wp2_with ((with_reducible refine gate_box (t := 30) rfl ?_); refine wpList_box_ev rfl _ _ rfl b.A rfl ?_; intro g w1 hg hb hb1; have HB0 := Lib.hid hb1; have c0 := BayAt.cell (b := b) hb (j := 0) (by omega); have c1 := BayAt.cell (b := b) hb (j := 1) (by omega); clear hb hb1 hg)
      go_ret
      exact ⟨by rw [HV.out]; rfl, HB0.out⟩
    · by_cases r1 : 16 < b.z 0
      · go_enter Try.func26, Try.ntmps26
        go_wp2_with ((with_reducible refine gate_box (t := 30) rfl ?_); refine wpList_box_ev rfl _ _ rfl b.A rfl ?_; intro g w1 hg hb hb1; have HB0 := Lib.hid hb1; have c0 := BayAt.cell (b := b) hb (j := 0) (by omega); have c1 := BayAt.cell (b := b) hb (j := 1) (by omega); clear hb hb1 hg)
        go_ret
        exact ⟨by rw [HV.out]; rfl, HB0.out⟩
      · by_cases r2 : b.z 1 < 1
        · go_enter Try.func26, Try.ntmps26
          go_wp2_with ((with_reducible refine gate_box (t := 30) rfl ?_); refine wpList_box_ev rfl _ _ rfl b.A rfl ?_; intro g w1 hg hb hb1; have HB0 := Lib.hid hb1; have c0 := BayAt.cell (b := b) hb (j := 0) (by omega); have c1 := BayAt.cell (b := b) hb (j := 1) (by omega); clear hb hb1 hg)
          go_ret
          exact ⟨by rw [HV.out]; rfl, HB0.out⟩
        · have r3 : 16 < b.z 1 := by omega
          go_enter Try.func26, Try.ntmps26
          go_wp2_with ((with_reducible refine gate_box (t := 30) rfl ?_); refine wpList_box_ev rfl _ _ rfl b.A rfl ?_; intro g w1 hg hb hb1; have HB0 := Lib.hid hb1; have c0 := BayAt.cell (b := b) hb (j := 0) (by omega); have c1 := BayAt.cell (b := b) hb (j := 1) (by omega); clear hb hb1 hg)
          go_ret
          exact ⟨by rw [HV.out]; rfl, HB0.out⟩
def spec_l01Bay.f (a0 : O30) : Option (Bool) := some (bayB a0)
def impl_ValidBay.f (a0 : O30) : Option (Bool) := some (bayB a0)
theorem spec_l01Bay.calls (gp0 : Nat) (a0 : O30) (r : Bool) (w : World) (hp0 : w.heap[gp0]? = some (.cells (a0).A 30 (0, 0))) (h : spec_l01Bay.f a0 = some r) :
    Calls Try.prog 41 #[.pointer (some ⟨gp0, 0, none⟩)] w fun e w' => e = .returned (.bool r) ∧ Below w.heap.size w w' := by
  obtain rfl := Option.some.inj h
  exact l01Bay_any gp0 a0 w hp0
theorem impl_ValidBay.calls (a0 : O30) (r : Bool) (w : World) (h : impl_ValidBay.f a0 = some r) :
    Calls Try.prog 26 #[VO30 a0] w fun e w' => e = .returned (.bool r) ∧ Below w.heap.size w w' := by
  obtain rfl := Option.some.inj h
  exact ValidBay_any a0 w
end Go.Proofs.Ytofpjfbkbmpnnaa.G
