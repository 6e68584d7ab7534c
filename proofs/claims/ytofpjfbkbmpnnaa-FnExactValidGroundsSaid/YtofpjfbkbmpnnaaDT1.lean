/- Copies of bays and grounds: rows of bytes. -/
import Derived.Test.YtofpjfbkbmpnnaaDG
import Derived.Test.YtofpjfbkbmpnnaaArr3
namespace Go.Proofs.Ytofpjfbkbmpnnaa.G
open Go.RowKit Go.Proofs.YtofpjfbkbmpnnaaW.PrintWords Go.Proofs.YtofpjfbkbmpnnaaW.PrintLast Go.Proofs.YtofpjfbkbmpnnaaW.PrintMore AR M
set_option linter.unusedVariables false
set_option linter.unusedSimpArgs false
theorem szq24 (b : Flat 258 .i8) (n : Nat) : (Try.prog.info? 24).map (·.size) = some (b.sub n 256).size := by rw [Flat.sub_size]; kernel_rfl
theorem szq32 (b : Flat 256 .u8) (n : Nat) : (Try.prog.info? 32).map (·.size) = some (b.sub n 256).size := by rw [Flat.sub_size]; kernel_rfl
theorem zv24 (w : World) : (zeroValue 24).run Try.prog w = .ok (.agg (Array.replicate 256 (.int .i8 0))) w := by kernel_rfl
theorem zv32 (w : World) : (zeroValue 32).run Try.prog w = .ok (.agg (Array.replicate 256 (.int .u8 0))) w := by kernel_rfl

set_option maxHeartbeats 1000000 in
set_option maxRecDepth 100000 in
theorem toInt8A16_any (b : Flat 258 .i8) (off : Nat) (w : World) : Calls Try.prog 43 #[.agg (b.sub off 16)] w fun e w' => e = .returned (.agg (b.sub off 16)) ∧ Below w.heap.size w w' := by
  have SZ := Lib.hid (szr23 b off)
  go_enter Try.func43, Try.ntmps43
  go_wp2_with (first
    | ((with_reducible refine gate_dst (N := 1) rfl ?_); refine wpList_box_ev rfl 23 _ rfl (b.sub off 16) rfl ?_; intro g w1 hg hb hb1; have HG := Lib.hid hb; have HB0 := Lib.hid hb1; clear hb hb1 hg)
    | ((with_reducible refine gate_dst (N := 2) rfl ?_); refine box_event rfl (N := 2) rfl (t := 23) (exec_alloc rfl (Try.zeroValue23 _)) ?_; intro g2 hg wa ha hb; have HA := Lib.hid ha; have HB1 := Lib.hid (below_join HB0.out hb); have HG1 := Lib.hid (blkB HG.out hb); have h2 := Lib.hid (show w.heap.size ≤ g2 by have := HB0.out.size; omega); have h12 := Lib.hid (show g ≠ g2 by have := (Array.getElem?_eq_some_iff.1 HG.out).1; omega); clear ha hb hg)
    | ((with_reducible refine gate_dst (N := 3) rfl ?_); refine box_event rfl (N := 3) rfl (t := 23) (exec_alloc rfl (Try.zeroValue23 _)) ?_; intro g3 hg wb ha hb; have HO := Lib.hid ha; have HB2 := Lib.hid (below_join HB1.out hb); have HG2 := Lib.hid (blkB HG1.out hb); have HA2 := Lib.hid (blkB HA.out hb); have h3 := Lib.hid (show w.heap.size ≤ g3 by have := HB1.out.size; omega); have h13 := Lib.hid (show g ≠ g3 by have := (Array.getElem?_eq_some_iff.1 HG1.out).1; omega); have h23 := Lib.hid (show g2 ≠ g3 by have := (Array.getElem?_eq_some_iff.1 HA.out).1; omega); clear ha hb hg))
  go_loopw [4] (fun i wr => ∃ (n : Nat) (cur : Array Value), n ≤ 16 ∧ i = .int .i64 n ∧ Hid (wr.heap[g3]? = some (.cells cur 23 (0, 0))) ∧ Hid (CopyTo cur 16 n (b.sub off 16)) ∧ Hid (wr.heap[g]? = some (.cells (b.sub off 16) 23 (0, 0))) ∧ Hid (∃ z : Array Value, z.size = 16 ∧ wr.heap[g2]? = some (.cells z 23 (0, 0))) ∧ Hid (Below w.heap.size w wr)) (fun i _ => 16 - (intOf i).toNat)
  case atStart => exact ⟨0, _, Nat.zero_le _, rfl, HO.out, CopyTo.zero rfl, HG2.out, ⟨_, rfl, HA2.out⟩, HB2.out⟩
  case round =>
    obtain ⟨n, cur, hn, rfl, HC, HT, HS, HZ, HD⟩ := hrel
    by_cases hlt : n < 16
    · have i0 : (n : Int) < 16 := by omega
      have i1 : (0 : Int) ≤ (n : Int) := by omega
      have cc := blk_cell (j := n) HS.out (b.sub_at off 16 hlt)
      have HV := Lib.hid (b.sub_at off 16 hlt)
      generalize b.z (off + n) = v at cc HV
      obtain ⟨u, hu⟩ : ∃ u, cur[n]? = some u := ⟨cur[n]'(by have := HT.out.1; omega), Array.getElem?_eq_getElem _⟩
      have ct := blk_cell HC.out hu
      have cf := blk_frozen HC.out n
      have HW := Lib.hid (setCell_eq_setRow wr g3 n cur _ _ (.int .i8 v) HC.out)
      have HC1 := Lib.hid (setRow_heap wr g3 cur (cur.setIfInBounds n (.int .i8 v)) _ _ HC.out)
      have HT1 := Lib.hid (HT.out.set HV.out hlt)
      have HD1 := Lib.hid (below_setRow HD.out h3.out (cur.setIfInBounds n (.int .i8 v)))
      have HS1 := Lib.hid ((setRow_other wr g3 g (cur.setIfInBounds n (.int .i8 v)) h13.out).trans HS.out)
      have HZ1 := Lib.hid (show ∃ z : Array Value, z.size = 16 ∧ (wr.setRow g3 (cur.setIfInBounds n (.int .i8 v))).heap[g2]? = some (.cells z 23 (0, 0)) by obtain ⟨z, hz, hz2⟩ := HZ.out; exact ⟨z, hz, (setRow_other _ _ _ _ h23.out).trans hz2⟩)
      clear hu
      go_wp2
      go_roundw
      case rel => exact ⟨n + 1, cur.setIfInBounds n (.int .i8 v), by omega, by go_num, by rw [HW.out]; exact HC1.out, HT1.out, by rw [HW.out]; exact HS1.out, by rw [HW.out]; exact HZ1.out, by rw [HW.out]; exact HD1.out⟩
      case measure => simp [intOf]; omega
    · obtain rfl : n = 16 := by omega
      obtain rfl := HT.out.done (b.sub_size off 16)
      obtain ⟨z, hz, hz2⟩ := HZ.out
      have HZ2 := Lib.hid hz2
      have HZS := Lib.hid hz
      clear hz hz2 HZ
      go_wp2_with (first
        | ((with_reducible refine gate_dst (N := 14) rfl ?_); refine Kd.event_run rfl (exec_load_blk rfl rfl HC.out Try.underlying23 rfl SZ.out) ?_)
        | ((with_reducible refine gate_store (t := 23) (p := 2) rfl ?_); refine store_event (t := 23) (p := 2) rfl rfl rfl (exec_store_row (t2 := 23) (vs := b.sub off 16) rfl rfl rfl HZ2.out (by rw [HZS.out, Flat.sub_size]; decide) (b.sub_one _ _) SZ.out) ?_; intro ws hws; have HR := Lib.hid (show ws.heap[g2]? = some (.cells (b.sub off 16) 23 (0, 0)) by rw [hws]; exact setRow_whole HZ2.out (by rw [HZS.out, Flat.sub_size])); have HD1 := Lib.hid (show Below w.heap.size w ws by rw [hws]; exact below_setRow HD.out h2.out _); clear hws))
      (try simp only [Exit.inBlock, Exit.then])
      refine bodyPost_ret (results_cell rfl rfl (run_load_blk _ _ _ _ _ HR.out Try.underlying23 rfl SZ.out)) rfl ?_
      exact ⟨rfl, HD1.out⟩

set_option maxHeartbeats 1000000 in
set_option maxRecDepth 100000 in
theorem toByteA16_any (b : Flat 256 .u8) (off : Nat) (w : World) : Calls Try.prog 25 #[.agg (b.sub off 16)] w fun e w' => e = .returned (.agg (b.sub off 16)) ∧ Below w.heap.size w w' := by
  have SZ := Lib.hid (szr27 b off)
  go_enter Try.func25, Try.ntmps25
  go_wp2_with (first
    | ((with_reducible refine gate_dst (N := 1) rfl ?_); refine wpList_box_ev rfl 27 _ rfl (b.sub off 16) rfl ?_; intro g w1 hg hb hb1; have HG := Lib.hid hb; have HB0 := Lib.hid hb1; clear hb hb1 hg)
    | ((with_reducible refine gate_dst (N := 2) rfl ?_); refine box_event rfl (N := 2) rfl (t := 27) (exec_alloc rfl (Try.zeroValue27 _)) ?_; intro g2 hg wa ha hb; have HA := Lib.hid ha; have HB1 := Lib.hid (below_join HB0.out hb); have HG1 := Lib.hid (blkB HG.out hb); have h2 := Lib.hid (show w.heap.size ≤ g2 by have := HB0.out.size; omega); have h12 := Lib.hid (show g ≠ g2 by have := (Array.getElem?_eq_some_iff.1 HG.out).1; omega); clear ha hb hg)
    | ((with_reducible refine gate_dst (N := 3) rfl ?_); refine box_event rfl (N := 3) rfl (t := 27) (exec_alloc rfl (Try.zeroValue27 _)) ?_; intro g3 hg wb ha hb; have HO := Lib.hid ha; have HB2 := Lib.hid (below_join HB1.out hb); have HG2 := Lib.hid (blkB HG1.out hb); have HA2 := Lib.hid (blkB HA.out hb); have h3 := Lib.hid (show w.heap.size ≤ g3 by have := HB1.out.size; omega); have h13 := Lib.hid (show g ≠ g3 by have := (Array.getElem?_eq_some_iff.1 HG1.out).1; omega); have h23 := Lib.hid (show g2 ≠ g3 by have := (Array.getElem?_eq_some_iff.1 HA.out).1; omega); clear ha hb hg))
  go_loopw [4] (fun i wr => ∃ (n : Nat) (cur : Array Value), n ≤ 16 ∧ i = .int .i64 n ∧ Hid (wr.heap[g3]? = some (.cells cur 27 (0, 0))) ∧ Hid (CopyTo cur 16 n (b.sub off 16)) ∧ Hid (wr.heap[g]? = some (.cells (b.sub off 16) 27 (0, 0))) ∧ Hid (∃ z : Array Value, z.size = 16 ∧ wr.heap[g2]? = some (.cells z 27 (0, 0))) ∧ Hid (Below w.heap.size w wr)) (fun i _ => 16 - (intOf i).toNat)
  case atStart => exact ⟨0, _, Nat.zero_le _, rfl, HO.out, CopyTo.zero rfl, HG2.out, ⟨_, rfl, HA2.out⟩, HB2.out⟩
  case round =>
    obtain ⟨n, cur, hn, rfl, HC, HT, HS, HZ, HD⟩ := hrel
    by_cases hlt : n < 16
    · have i0 : (n : Int) < 16 := by omega
      have i1 : (0 : Int) ≤ (n : Int) := by omega
      have cc := blk_cell (j := n) HS.out (b.sub_at off 16 hlt)
      have HV := Lib.hid (b.sub_at off 16 hlt)
      generalize b.z (off + n) = v at cc HV
      obtain ⟨u, hu⟩ : ∃ u, cur[n]? = some u := ⟨cur[n]'(by have := HT.out.1; omega), Array.getElem?_eq_getElem _⟩
      have ct := blk_cell HC.out hu
      have cf := blk_frozen HC.out n
      have HW := Lib.hid (setCell_eq_setRow wr g3 n cur _ _ (.int .u8 v) HC.out)
      have HC1 := Lib.hid (setRow_heap wr g3 cur (cur.setIfInBounds n (.int .u8 v)) _ _ HC.out)
      have HT1 := Lib.hid (HT.out.set HV.out hlt)
      have HD1 := Lib.hid (below_setRow HD.out h3.out (cur.setIfInBounds n (.int .u8 v)))
      have HS1 := Lib.hid ((setRow_other wr g3 g (cur.setIfInBounds n (.int .u8 v)) h13.out).trans HS.out)
      have HZ1 := Lib.hid (show ∃ z : Array Value, z.size = 16 ∧ (wr.setRow g3 (cur.setIfInBounds n (.int .u8 v))).heap[g2]? = some (.cells z 27 (0, 0)) by obtain ⟨z, hz, hz2⟩ := HZ.out; exact ⟨z, hz, (setRow_other _ _ _ _ h23.out).trans hz2⟩)
      clear hu
      go_wp2
      go_roundw
      case rel => exact ⟨n + 1, cur.setIfInBounds n (.int .u8 v), by omega, by go_num, by rw [HW.out]; exact HC1.out, HT1.out, by rw [HW.out]; exact HS1.out, by rw [HW.out]; exact HZ1.out, by rw [HW.out]; exact HD1.out⟩
      case measure => simp [intOf]; omega
    · obtain rfl : n = 16 := by omega
      obtain rfl := HT.out.done (b.sub_size off 16)
      obtain ⟨z, hz, hz2⟩ := HZ.out
      have HZ2 := Lib.hid hz2
      have HZS := Lib.hid hz
      clear hz hz2 HZ
      go_wp2_with (first
        | ((with_reducible refine gate_dst (N := 14) rfl ?_); refine Kd.event_run rfl (exec_load_blk rfl rfl HC.out Try.underlying27 rfl SZ.out) ?_)
        | ((with_reducible refine gate_store (t := 27) (p := 2) rfl ?_); refine store_event (t := 27) (p := 2) rfl rfl rfl (exec_store_row (t2 := 27) (vs := b.sub off 16) rfl rfl rfl HZ2.out (by rw [HZS.out, Flat.sub_size]; decide) (b.sub_one _ _) SZ.out) ?_; intro ws hws; have HR := Lib.hid (show ws.heap[g2]? = some (.cells (b.sub off 16) 27 (0, 0)) by rw [hws]; exact setRow_whole HZ2.out (by rw [HZS.out, Flat.sub_size])); have HD1 := Lib.hid (show Below w.heap.size w ws by rw [hws]; exact below_setRow HD.out h2.out _); clear hws))
      (try simp only [Exit.inBlock, Exit.then])
      refine bodyPost_ret (results_cell rfl rfl (run_load_blk _ _ _ _ _ HR.out Try.underlying27 rfl SZ.out)) rfl ?_
      exact ⟨rfl, HD1.out⟩
end Go.Proofs.Ytofpjfbkbmpnnaa.G
