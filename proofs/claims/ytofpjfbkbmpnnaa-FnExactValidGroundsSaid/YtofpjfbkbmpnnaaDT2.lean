/- Copies of bays and grounds: rows of bytes. -/
import Derived.Test.YtofpjfbkbmpnnaaDT1
namespace Go.Proofs.Ytofpjfbkbmpnnaa.G
open Go.RowKit Go.Proofs.YtofpjfbkbmpnnaaW.PrintWords Go.Proofs.YtofpjfbkbmpnnaaW.PrintLast Go.Proofs.YtofpjfbkbmpnnaaW.PrintMore AR M
set_option linter.unusedVariables false
set_option linter.unusedSimpArgs false

set_option maxHeartbeats 1000000 in
set_option maxRecDepth 100000 in
theorem toInt8A16A16_any (b : Flat 258 .i8) (w : World) : Calls Try.prog 24 #[.agg (b.sub 2 256)] w fun e w' => e = .returned (.agg (b.sub 2 256)) ∧ Below w.heap.size w w' := by
  have SZ := Lib.hid (szq24 b 2)
  have SR := Lib.hid (fun n => szr23 b n)
  have HQ := Lib.hid (fun n W => toInt8A16_any b n W)
  go_enter Try.func24, Try.ntmps24
  go_wp2_with (first
    | ((with_reducible refine gate_dst (N := 1) rfl ?_); refine wpList_box_ev rfl 24 _ rfl (b.sub 2 256) rfl ?_; intro g w1 hg hb hb1; have HG := Lib.hid hb; have HB0 := Lib.hid hb1; clear hb hb1 hg)
    | ((with_reducible refine gate_dst (N := 2) rfl ?_); refine box_event rfl (N := 2) rfl (t := 24) (exec_alloc rfl (zv24 _)) ?_; intro g2 hg wa ha hb; have HA := Lib.hid (show ∃ z : Array Value, z.size = 256 ∧ wa.heap[g2]? = some (.cells z 24 (0, 0)) from ⟨_, Array.size_replicate, ha⟩); have HB1 := Lib.hid (below_join HB0.out hb); have HG1 := Lib.hid (blkB HG.out hb); have h2 := Lib.hid (show w.heap.size ≤ g2 by have := HB0.out.size; omega); have h12 := Lib.hid (show g ≠ g2 by have := (Array.getElem?_eq_some_iff.1 HG.out).1; omega); have l2 := Lib.hid (show g2 < wa.heap.size from (Array.getElem?_eq_some_iff.1 ha).1); clear ha hb hg)
    | ((with_reducible refine gate_dst (N := 3) rfl ?_); refine box_event rfl (N := 3) rfl (t := 24) (exec_alloc rfl (zv24 _)) ?_; intro g3 hg wb ha hb; have HO := Lib.hid (show ∃ z : Array Value, z.size = 256 ∧ wb.heap[g3]? = some (.cells z 24 (0, 0)) from ⟨_, Array.size_replicate, ha⟩); have HB2 := Lib.hid (below_join HB1.out hb); have HG2 := Lib.hid (blkB HG1.out hb); have HA2 := Lib.hid (show ∃ z : Array Value, z.size = 256 ∧ wb.heap[g2]? = some (.cells z 24 (0, 0)) by obtain ⟨z, h, hz⟩ := HA.out; exact ⟨z, h, blkB hz hb⟩); have h3 := Lib.hid (show w.heap.size ≤ g3 by have := HB1.out.size; omega); have h13 := Lib.hid (show g ≠ g3 by have := (Array.getElem?_eq_some_iff.1 HG1.out).1; omega); have h23 := Lib.hid (show g2 ≠ g3 by have := l2.out; omega); clear ha hb hg))
  go_loopw [4] (fun i wr => ∃ (n : Nat) (cur : Array Value), n ≤ 16 ∧ i = .int .i64 n ∧ Hid (wr.heap[g3]? = some (.cells cur 24 (0, 0))) ∧ Hid (CopyTo cur 256 (n * 16) (b.sub 2 256)) ∧ Hid (wr.heap[g]? = some (.cells (b.sub 2 256) 24 (0, 0))) ∧ Hid (∃ z : Array Value, z.size = 256 ∧ wr.heap[g2]? = some (.cells z 24 (0, 0))) ∧ Hid (Below w.heap.size w wr)) (fun i _ => 16 - (intOf i).toNat)
  case atStart => obtain ⟨z, h, hz⟩ := HO.out; exact ⟨0, z, Nat.zero_le _, rfl, hz, by rw [Nat.zero_mul]; exact CopyTo.zero h, HG2.out, HA2.out, HB2.out⟩
  case round =>
    obtain ⟨n, cur, hn, rfl, HC, HT, HS, HZ, HD⟩ := hrel
    by_cases hlt : n < 16
    · have i0 : (n : Int) < 16 := by omega
      have i1 : (0 : Int) ≤ (n : Int) := by omega
      have HP := Lib.hid (show ∀ j v, (b.sub (2 + n * 16) 16)[j]? = some v → (b.sub 2 256)[n * 16 + j]? = some v from fun j v hv => by
        have hj : j < 16 := by have := (Array.getElem?_eq_some_iff.1 hv).1; rwa [Flat.sub_size] at this
        rw [b.sub_at _ _ (show n * 16 + j < 256 by omega), ← hv, b.sub_at _ _ hj]; congr 3; omega)
      go_wp2_with (first
        | ((with_reducible refine gate_dst (N := 12) rfl ?_); refine Kd.event_run rfl (exec_load_sub (n := n * 16) (cs := b.sub (2 + n * 16) 16) rfl (by first | rfl | (simp; done)) HS.out HP.out Try.underlying23 rfl (SR.out _)) ?_)
        | (go_at_call 43; refine (HQ.out (2 + n * 16) _).mono ?_; rintro e w3 ⟨rfl, hb⟩; have HD0 := Lib.hid (below_join HD.out hb); have HC0 := Lib.hid (blkB HC.out hb); have HS0 := Lib.hid (blkB HS.out hb); have HZ0 := Lib.hid (show ∃ z : Array Value, z.size = 256 ∧ w3.heap[g2]? = some (.cells z 24 (0, 0)) by obtain ⟨z, h, hz⟩ := HZ.out; exact ⟨z, h, blkB hz hb⟩); clear hb)
        | ((with_reducible refine gate_store (t := 23) (p := 14) rfl ?_); refine store_event (t := 23) (p := 14) rfl rfl rfl (exec_store_row (n := n * 16) (vs := b.sub (2 + n * 16) 16) rfl (by first | rfl | (simp; done)) rfl HC0.out (by rw [Flat.sub_size]; have := HT.out.1; omega) (b.sub_one _ _) (SR.out _)) ?_; intro ws hws; have HC1 := Lib.hid (show ws.heap[g3]? = some (.cells (cur.toList.take (n * 16) ++ (b.sub (2 + n * 16) 16).toList ++ cur.toList.drop (n * 16 + (b.sub (2 + n * 16) 16).size)).toArray 24 (0, 0)) by rw [hws]; exact setRow_heap _ _ _ _ _ _ HC0.out); have HD1 := Lib.hid (show Below w.heap.size w ws by rw [hws]; exact below_setRow HD0.out h3.out _); have HS1 := Lib.hid (show ws.heap[g]? = some (.cells (b.sub 2 256) 24 (0, 0)) by rw [hws]; exact (setRow_other _ _ _ _ h13.out).trans HS0.out); have HZ1 := Lib.hid (show ∃ z : Array Value, z.size = 256 ∧ ws.heap[g2]? = some (.cells z 24 (0, 0)) by obtain ⟨z, hz, hz2⟩ := HZ0.out; exact ⟨z, hz, by rw [hws]; exact (setRow_other _ _ _ _ h23.out).trans hz2⟩); clear hws))
      go_roundw
      case rel => exact ⟨n + 1, _, by omega, by go_num, HC1.out, by rw [show (n + 1) * 16 = n * 16 + (b.sub (2 + n * 16) 16).size by rw [Flat.sub_size]; omega]; exact HT.out.step (by simp) (by rw [Flat.sub_size]; omega) (fun j hj => by rw [Flat.sub_size] at hj; rw [Array.getElem?_toList, b.sub_at _ _ hj, b.sub_at _ _ (show n * 16 + j < 256 by omega)]; congr 3; omega), HS1.out, HZ1.out, HD1.out⟩
      case measure => simp [intOf]; omega
    · obtain rfl : n = 16 := by omega
      obtain rfl := HT.out.done (b.sub_size 2 256)
      obtain ⟨z, hz, hz2⟩ := HZ.out
      have HZ2 := Lib.hid hz2
      have HZS := Lib.hid hz
      clear hz hz2 HZ
      go_wp2_with (first
        | ((with_reducible refine gate_dst (N := 15) rfl ?_); refine Kd.event_run rfl (exec_load_blk rfl rfl HC.out Try.underlying24 rfl SZ.out) ?_)
        | ((with_reducible refine gate_store (t := 24) (p := 2) rfl ?_); refine store_event (t := 24) (p := 2) rfl rfl rfl (exec_store_row (t2 := 24) (vs := b.sub 2 256) rfl rfl rfl HZ2.out (by rw [HZS.out, Flat.sub_size]; decide) (b.sub_one _ _) SZ.out) ?_; intro ws hws; have HR := Lib.hid (show ws.heap[g2]? = some (.cells (b.sub 2 256) 24 (0, 0)) by rw [hws]; exact setRow_whole HZ2.out (by rw [HZS.out, Flat.sub_size])); have HD1 := Lib.hid (show Below w.heap.size w ws by rw [hws]; exact below_setRow HD.out h2.out _); clear hws))
      (try simp only [Exit.inBlock, Exit.then])
      refine bodyPost_ret (results_cell rfl rfl (run_load_blk _ _ _ _ _ HR.out Try.underlying24 rfl SZ.out)) rfl ?_
      exact ⟨rfl, HD1.out⟩

set_option maxHeartbeats 1000000 in
set_option maxRecDepth 100000 in
theorem toGrounds_any (b : Flat 256 .u8) (w : World) : Calls Try.prog 9 #[.agg (b.sub 0 256)] w fun e w' => e = .returned (.agg (b.sub 0 256)) ∧ Below w.heap.size w w' := by
  have SZ := Lib.hid (szq32 b 0)
  have SR := Lib.hid (fun n => szr27 b n)
  have HQ := Lib.hid (fun n W => toByteA16_any b n W)
  go_enter Try.func9, Try.ntmps9
  go_wp2_with (first
    | ((with_reducible refine gate_dst (N := 1) rfl ?_); refine wpList_box_ev rfl 28 _ rfl (b.sub 0 256) rfl ?_; intro g w1 hg hb hb1; have HG := Lib.hid hb; have HB0 := Lib.hid hb1; clear hb hb1 hg)
    | ((with_reducible refine gate_dst (N := 2) rfl ?_); refine box_event rfl (N := 2) rfl (t := 32) (exec_alloc rfl (zv32 _)) ?_; intro g2 hg wa ha hb; have HA := Lib.hid (show ∃ z : Array Value, z.size = 256 ∧ wa.heap[g2]? = some (.cells z 32 (0, 0)) from ⟨_, Array.size_replicate, ha⟩); have HB1 := Lib.hid (below_join HB0.out hb); have HG1 := Lib.hid (blkB HG.out hb); have h2 := Lib.hid (show w.heap.size ≤ g2 by have := HB0.out.size; omega); have h12 := Lib.hid (show g ≠ g2 by have := (Array.getElem?_eq_some_iff.1 HG.out).1; omega); have l2 := Lib.hid (show g2 < wa.heap.size from (Array.getElem?_eq_some_iff.1 ha).1); clear ha hb hg)
    | ((with_reducible refine gate_dst (N := 3) rfl ?_); refine box_event rfl (N := 3) rfl (t := 32) (exec_alloc rfl (zv32 _)) ?_; intro g3 hg wb ha hb; have HO := Lib.hid (show ∃ z : Array Value, z.size = 256 ∧ wb.heap[g3]? = some (.cells z 32 (0, 0)) from ⟨_, Array.size_replicate, ha⟩); have HB2 := Lib.hid (below_join HB1.out hb); have HG2 := Lib.hid (blkB HG1.out hb); have HA2 := Lib.hid (show ∃ z : Array Value, z.size = 256 ∧ wb.heap[g2]? = some (.cells z 32 (0, 0)) by obtain ⟨z, h, hz⟩ := HA.out; exact ⟨z, h, blkB hz hb⟩); have h3 := Lib.hid (show w.heap.size ≤ g3 by have := HB1.out.size; omega); have h13 := Lib.hid (show g ≠ g3 by have := (Array.getElem?_eq_some_iff.1 HG1.out).1; omega); have h23 := Lib.hid (show g2 ≠ g3 by have := l2.out; omega); clear ha hb hg))
  go_loopw [4] (fun i wr => ∃ (n : Nat) (cur : Array Value), n ≤ 16 ∧ i = .int .i64 n ∧ Hid (wr.heap[g3]? = some (.cells cur 32 (0, 0))) ∧ Hid (CopyTo cur 256 (n * 16) (b.sub 0 256)) ∧ Hid (wr.heap[g]? = some (.cells (b.sub 0 256) 28 (0, 0))) ∧ Hid (∃ z : Array Value, z.size = 256 ∧ wr.heap[g2]? = some (.cells z 32 (0, 0))) ∧ Hid (Below w.heap.size w wr)) (fun i _ => 16 - (intOf i).toNat)
  case atStart => obtain ⟨z, h, hz⟩ := HO.out; exact ⟨0, z, Nat.zero_le _, rfl, hz, by rw [Nat.zero_mul]; exact CopyTo.zero h, HG2.out, HA2.out, HB2.out⟩
  case round =>
    obtain ⟨n, cur, hn, rfl, HC, HT, HS, HZ, HD⟩ := hrel
    by_cases hlt : n < 16
    · have i0 : (n : Int) < 16 := by omega
      have i1 : (0 : Int) ≤ (n : Int) := by omega
      have HP := Lib.hid (show ∀ j v, (b.sub (n * 16) 16)[j]? = some v → (b.sub 0 256)[n * 16 + j]? = some v from fun j v hv => by
        have hj : j < 16 := by have := (Array.getElem?_eq_some_iff.1 hv).1; rwa [Flat.sub_size] at this
        rw [b.sub_at _ _ (show n * 16 + j < 256 by omega), ← hv, b.sub_at _ _ hj]; congr 3; omega)
      go_wp2_with (first
        | ((with_reducible refine gate_dst (N := 12) rfl ?_); refine Kd.event_run rfl (exec_load_sub (n := n * 16) (cs := b.sub (n * 16) 16) rfl (by first | rfl | (simp; done)) HS.out HP.out Try.underlying27 rfl (SR.out _)) ?_)
        | (go_at_call 25; refine (HQ.out (n * 16) _).mono ?_; rintro e w3 ⟨rfl, hb⟩; have HD0 := Lib.hid (below_join HD.out hb); have HC0 := Lib.hid (blkB HC.out hb); have HS0 := Lib.hid (blkB HS.out hb); have HZ0 := Lib.hid (show ∃ z : Array Value, z.size = 256 ∧ w3.heap[g2]? = some (.cells z 32 (0, 0)) by obtain ⟨z, h, hz⟩ := HZ.out; exact ⟨z, h, blkB hz hb⟩); clear hb)
        | ((with_reducible refine gate_store (t := 27) (p := 14) rfl ?_); refine store_event (t := 27) (p := 14) rfl rfl rfl (exec_store_row (n := n * 16) (vs := b.sub (n * 16) 16) rfl (by first | rfl | (simp; done)) rfl HC0.out (by rw [Flat.sub_size]; have := HT.out.1; omega) (b.sub_one _ _) (SR.out _)) ?_; intro ws hws; have HC1 := Lib.hid (show ws.heap[g3]? = some (.cells (cur.toList.take (n * 16) ++ (b.sub (n * 16) 16).toList ++ cur.toList.drop (n * 16 + (b.sub (n * 16) 16).size)).toArray 32 (0, 0)) by rw [hws]; exact setRow_heap _ _ _ _ _ _ HC0.out); have HD1 := Lib.hid (show Below w.heap.size w ws by rw [hws]; exact below_setRow HD0.out h3.out _); have HS1 := Lib.hid (show ws.heap[g]? = some (.cells (b.sub 0 256) 28 (0, 0)) by rw [hws]; exact (setRow_other _ _ _ _ h13.out).trans HS0.out); have HZ1 := Lib.hid (show ∃ z : Array Value, z.size = 256 ∧ ws.heap[g2]? = some (.cells z 32 (0, 0)) by obtain ⟨z, hz, hz2⟩ := HZ0.out; exact ⟨z, hz, by rw [hws]; exact (setRow_other _ _ _ _ h23.out).trans hz2⟩); clear hws))
      go_roundw
      case rel => exact ⟨n + 1, _, by omega, by go_num, HC1.out, by rw [show (n + 1) * 16 = n * 16 + (b.sub (n * 16) 16).size by rw [Flat.sub_size]; omega]; exact HT.out.step (by simp) (by rw [Flat.sub_size]; omega) (fun j hj => by rw [Flat.sub_size] at hj; rw [Array.getElem?_toList, b.sub_at _ _ hj, b.sub_at _ _ (show n * 16 + j < 256 by omega)]; congr 3; omega), HS1.out, HZ1.out, HD1.out⟩
      case measure => simp [intOf]; omega
    · obtain rfl : n = 16 := by omega
      obtain rfl := HT.out.done (b.sub_size 0 256)
      obtain ⟨z, hz, hz2⟩ := HZ.out
      have HZ2 := Lib.hid hz2
      have HZS := Lib.hid hz
      clear hz hz2 HZ
      go_wp2_with (first
        | ((with_reducible refine gate_dst (N := 15) rfl ?_); refine Kd.event_run rfl (exec_load_blk rfl rfl HC.out Try.underlying32 rfl SZ.out) ?_)
        | ((with_reducible refine gate_store (t := 32) (p := 2) rfl ?_); refine store_event (t := 32) (p := 2) rfl rfl rfl (exec_store_row (t2 := 32) (vs := b.sub 0 256) rfl rfl rfl HZ2.out (by rw [HZS.out, Flat.sub_size]; decide) (b.sub_one _ _) SZ.out) ?_; intro ws hws; have HR := Lib.hid (show ws.heap[g2]? = some (.cells (b.sub 0 256) 32 (0, 0)) by rw [hws]; exact setRow_whole HZ2.out (by rw [HZS.out, Flat.sub_size])); have HD1 := Lib.hid (show Below w.heap.size w ws by rw [hws]; exact below_setRow HD.out h2.out _); clear hws))
      (try simp only [Exit.inBlock, Exit.then])
      refine bodyPost_ret (results_cell rfl rfl (run_load_blk _ _ _ _ _ HR.out Try.underlying32 rfl SZ.out)) rfl ?_
      exact ⟨rfl, HD1.out⟩
end Go.Proofs.Ytofpjfbkbmpnnaa.G
