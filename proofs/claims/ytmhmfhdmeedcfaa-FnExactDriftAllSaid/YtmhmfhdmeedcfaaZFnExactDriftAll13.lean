/- A part of the proof of: FnExactDriftAll returns true, whatever the input, and leaves its arguments as they were. -/
import Derived.Test.YtmhmfhdmeedcfaaProg
import Derived.Deep.Slices
import Derived.ChangeSame
import Derived.ChangeArms
import Derived.OpenShut
import Derived.WalkKit
import Derived.ProofKit
import Derived.Below
import Derived.Deep.Draws
import Derived.Deep.AppendLies
import Derived.Maps.AppendAt
import Derived.OwnWalk
import Derived.Laws.BytesArg
import Derived.Laws.MakeOwn
import Derived.Laws.OwnMore
import Derived.Deep.OwnRows
import Derived.Tactics
import Derived.Lib.ConvBytes
import Derived.Laws.Slices
import Derived.KernelRfl
import Derived.RowKit3
import Derived.Deep.LoopGhost
import Derived.Deep.QuietTactic
import Derived.BigQuiet
import Derived.WideLaws
import Derived.Deep.DeepCutAuto
import Derived.Deep.CutBlock
import Derived.Deep.RegionHeld3
import Derived.Laws.Rows
import Derived.Lib.AppendStr
import Derived.ArgAppend
import Derived.Laws.IdiomCopy
import Derived.RowKit
import Derived.Laws.Tables
import Derived.OrdersHeld
import Derived.Laws.BitsLemmas
import Derived.Lib.Hide
import Derived.Laws.StructEq
import Derived.Laws.CopyOwn
import Derived.Laws.CopyRow
import Derived.Test.YtmhmfhdmeedcfaaZFnExactDriftAll1
import Derived.Test.YtmhmfhdmeedcfaaZFnExactDriftAll2
import Derived.Test.YtmhmfhdmeedcfaaZFnExactDriftAll3
import Derived.Test.YtmhmfhdmeedcfaaZFnExactDriftAll4
import Derived.Test.YtmhmfhdmeedcfaaZFnExactDriftAll5
import Derived.Test.YtmhmfhdmeedcfaaZFnExactDriftAll6
import Derived.Test.YtmhmfhdmeedcfaaZFnExactDriftAll7
import Derived.Test.YtmhmfhdmeedcfaaZFnExactDriftAll8
import Derived.Test.YtmhmfhdmeedcfaaZFnExactDriftAll9
import Derived.Test.YtmhmfhdmeedcfaaZFnExactDriftAll10
import Derived.Test.YtmhmfhdmeedcfaaZFnExactDriftAll11
import Derived.Test.YtmhmfhdmeedcfaaZFnExactDriftAll12
section
namespace Go.Proofs.Ytmhmfhdmeedcfaa.G
open Go.RowKit Go.Proofs.YtmhmfhdmeedcfaaW.PrintWords Go.Proofs.YtmhmfhdmeedcfaaW.PrintLast Go.Proofs.YtmhmfhdmeedcfaaW.PrintMore AR M
set_option linter.unusedVariables false
set_option linter.unusedSimpArgs false
theorem szq24 (b : Flat 258 .i8) (n : Nat) : (Try.prog.info? 24).map (·.size) = some (b.sub n 256).size := by rw [Flat.sub_size]; kernel_rfl
theorem szq40 (b : Flat 256 .u8) (n : Nat) : (Try.prog.info? 40).map (·.size) = some (b.sub n 256).size := by rw [Flat.sub_size]; kernel_rfl
theorem zv24 (w : World) : (zeroValue 24).run Try.prog w = .ok (.agg (Array.replicate 256 (.int .i8 0))) w := by kernel_rfl
theorem zv40 (w : World) : (zeroValue 40).run Try.prog w = .ok (.agg (Array.replicate 256 (.int .u8 0))) w := by kernel_rfl
set_option maxHeartbeats 1000000 in
set_option maxRecDepth 100000 in
theorem toInt8A16_any (b : Flat 258 .i8) (off : Nat) (w : World) : Calls Try.prog 61 #[.agg (b.sub off 16)] w fun e w' => e = .returned (.agg (b.sub off 16)) ∧ Below w.heap.size w w' := by
 have SZ := Lib.hid (szr23 b off)
 go_enter Try.func61, Try.ntmps61
 go_wp2_with (first
  | ((with_reducible refine gate_dst (N := 1) rfl ?_); refine wpList_box_ev rfl 23 _ rfl (b.sub off 16) rfl ?_; intro g w1 hg hb hb1; have HG := Lib.hid hb; have HB0 := Lib.hid hb1; clear hb hb1 hg)
  | ((with_reducible refine gate_dst (N := 2) rfl ?_); refine box_event rfl (N := 2) rfl (t := 23) (exec_alloc rfl (Try.zeroValue23 _)) ?_; intro g2 hg wa ha hb; have HA := Lib.hid ha; have HB1 := Lib.hid (below_join HB0.out hb); have HG1 := Lib.hid (blkB HG.out hb); have h2 := Lib.hid (show w.heap.size ≤ g2 by have := HB0.out.size; omega); have h12 := Lib.hid (show g ≠ g2 by have := (Array.getElem?_eq_some_iff.1 HG.out).1; omega); clear ha hb hg)
  | ((with_reducible refine gate_dst (N := 3) rfl ?_); refine box_event rfl (N := 3) rfl (t := 23) (exec_alloc rfl (Try.zeroValue23 _)) ?_; intro g3 hg wb ha hb; have HO := Lib.hid ha; have HB2 := Lib.hid (below_join HB1.out hb); have HG2 := Lib.hid (blkB HG1.out hb); have HA2 := Lib.hid (blkB HA.out hb); have h3 := Lib.hid (show w.heap.size ≤ g3 by have := HB1.out.size; omega); have h13 := Lib.hid (show g ≠ g3 by have := (Array.getElem?_eq_some_iff.1 HG1.out).1; omega); have h23 := Lib.hid (show g2 ≠ g3 by have := (Array.getElem?_eq_some_iff.1 HA.out).1; omega); clear ha hb hg))
 go_loopw [4] (fun i wr => ∃ (n : Nat) (cur : Array Value), n ≤ 16 ∧ i = .int .i64 n ∧ Hid (wr.heap[g3]? = some (.cells cur 23 (0, 0))) ∧ Hid (CopyTo cur 16 n (b.sub off 16)) ∧ Hid (wr.heap[g]? = some (.cells (b.sub off 16) 23 (0, 0))) ∧ Hid (∃ z : Array Value, z.size = 16 ∧ wr.heap[g2]? = some (.cells z 23 (0, 0))) ∧ Hid (Below w.heap.size w wr)) (fun i _ => 16 - (intOf i).toNat)
 case atStart => exact ⟨0, _, Nat.zero_le _, rfl, HO.out, CopyTo.zero rfl, HG2.out, ⟨_, rfl, HA2.out⟩, HB2.out⟩
 case round =>
  obtain ⟨n, cur, hn, rfl, HC, HT, HS, HZ, HD⟩ := hrel
  by_cases hlt : n < 16
  ·have i0 : (n : Int) < 16 := by omega
   have i1 : (0 : Int) ≤ (n : Int) := by omega
   have cc := blk_cell (j := n) HS.out (b.sub_at off 16 hlt)
   have HV := Lib.hid (b.sub_at off 16 hlt)
   generalize b.z (off + n) = v at cc HV
   obtain ⟨u, hu⟩ : ∃ u, cur[n]? = some u := ⟨cur[n]'(by have := HT.out.1; omega), Array.getElem?_eq_getElem _⟩
   have ct := blk_cell HC.out hu
   have cf := blk_frozen HC.out n
   have HW := Lib.hid (setCell_eq_setRow wr g3 n cur _ _ (.int .i8 v) HC.out)
   have HC1 := Lib.hid (setRow_heap wr g3 cur (cur.setIfInBounds n (.int .i8 v)) _ _ HC.out)
   have HT1 := Lib.hid (HT.out.set HV.out hlt)
   have HD1 := Lib.hid (below_setRow HD.out h3.out (cur.setIfInBounds n (.int .i8 v)))
   have HS1 := Lib.hid ((setRow_other wr g3 g (cur.setIfInBounds n (.int .i8 v)) h13.out).trans HS.out)
   have HZ1 := Lib.hid (show ∃ z : Array Value, z.size = 16 ∧ (wr.setRow g3 (cur.setIfInBounds n (.int .i8 v))).heap[g2]? = some (.cells z 23 (0, 0)) by obtain ⟨z, hz, hz2⟩ := HZ.out; exact ⟨z, hz, (setRow_other _ _ _ _ h23.out).trans hz2⟩)
   clear hu
   go_wp2
   go_roundw
   case rel => exact ⟨n + 1, cur.setIfInBounds n (.int .i8 v), by omega, by go_num, by rw [HW.out]; exact HC1.out, HT1.out, by rw [HW.out]; exact HS1.out, by rw [HW.out]; exact HZ1.out, by rw [HW.out]; exact HD1.out⟩
   case measure => simp [intOf]; omega
  ·obtain rfl : n = 16 := by omega
   obtain rfl := HT.out.done (b.sub_size off 16)
   obtain ⟨z, hz, hz2⟩ := HZ.out
   have HZ2 := Lib.hid hz2
   have HZS := Lib.hid hz
   clear hz hz2 HZ
   go_wp2_with (first
    | ((with_reducible refine gate_dst (N := 14) rfl ?_); refine Kd.event_run rfl (exec_load_blk rfl rfl HC.out Try.underlying23 rfl SZ.out) ?_)
    | ((with_reducible refine gate_store (t := 23) (p := 2) rfl ?_); refine store_event (t := 23) (p := 2) rfl rfl rfl (exec_store_row (t2 := 23) (vs := b.sub off 16) rfl rfl rfl HZ2.out (by rw [HZS.out, Flat.sub_size]; decide) (b.sub_one _ _) SZ.out) ?_; intro ws hws; have HR := Lib.hid (show ws.heap[g2]? = some (.cells (b.sub off 16) 23 (0, 0)) by rw [hws]; exact setRow_whole HZ2.out (by rw [HZS.out, Flat.sub_size])); have HD1 := Lib.hid (show Below w.heap.size w ws by rw [hws]; exact below_setRow HD.out h2.out _); clear hws))
   (try simp only [Exit.inBlock, Exit.then])
   refine bodyPost_ret (results_cell rfl rfl (run_load_blk _ _ _ _ _ HR.out Try.underlying23 rfl SZ.out)) rfl ?_
   exact ⟨rfl, HD1.out⟩
set_option maxHeartbeats 1000000 in
set_option maxRecDepth 100000 in
theorem toByteA16_any (b : Flat 256 .u8) (off : Nat) (w : World) : Calls Try.prog 37 #[.agg (b.sub off 16)] w fun e w' => e = .returned (.agg (b.sub off 16)) ∧ Below w.heap.size w w' := by
 have SZ := Lib.hid (szr27 b off)
 go_enter Try.func37, Try.ntmps37
 go_wp2_with (first
  | ((with_reducible refine gate_dst (N := 1) rfl ?_); refine wpList_box_ev rfl 27 _ rfl (b.sub off 16) rfl ?_; intro g w1 hg hb hb1; have HG := Lib.hid hb; have HB0 := Lib.hid hb1; clear hb hb1 hg)
  | ((with_reducible refine gate_dst (N := 2) rfl ?_); refine box_event rfl (N := 2) rfl (t := 27) (exec_alloc rfl (Try.zeroValue27 _)) ?_; intro g2 hg wa ha hb; have HA := Lib.hid ha; have HB1 := Lib.hid (below_join HB0.out hb); have HG1 := Lib.hid (blkB HG.out hb); have h2 := Lib.hid (show w.heap.size ≤ g2 by have := HB0.out.size; omega); have h12 := Lib.hid (show g ≠ g2 by have := (Array.getElem?_eq_some_iff.1 HG.out).1; omega); clear ha hb hg)
  | ((with_reducible refine gate_dst (N := 3) rfl ?_); refine box_event rfl (N := 3) rfl (t := 27) (exec_alloc rfl (Try.zeroValue27 _)) ?_; intro g3 hg wb ha hb; have HO := Lib.hid ha; have HB2 := Lib.hid (below_join HB1.out hb); have HG2 := Lib.hid (blkB HG1.out hb); have HA2 := Lib.hid (blkB HA.out hb); have h3 := Lib.hid (show w.heap.size ≤ g3 by have := HB1.out.size; omega); have h13 := Lib.hid (show g ≠ g3 by have := (Array.getElem?_eq_some_iff.1 HG1.out).1; omega); have h23 := Lib.hid (show g2 ≠ g3 by have := (Array.getElem?_eq_some_iff.1 HA.out).1; omega); clear ha hb hg))
 go_loopw [4] (fun i wr => ∃ (n : Nat) (cur : Array Value), n ≤ 16 ∧ i = .int .i64 n ∧ Hid (wr.heap[g3]? = some (.cells cur 27 (0, 0))) ∧ Hid (CopyTo cur 16 n (b.sub off 16)) ∧ Hid (wr.heap[g]? = some (.cells (b.sub off 16) 27 (0, 0))) ∧ Hid (∃ z : Array Value, z.size = 16 ∧ wr.heap[g2]? = some (.cells z 27 (0, 0))) ∧ Hid (Below w.heap.size w wr)) (fun i _ => 16 - (intOf i).toNat)
 case atStart => exact ⟨0, _, Nat.zero_le _, rfl, HO.out, CopyTo.zero rfl, HG2.out, ⟨_, rfl, HA2.out⟩, HB2.out⟩
 case round =>
  obtain ⟨n, cur, hn, rfl, HC, HT, HS, HZ, HD⟩ := hrel
  by_cases hlt : n < 16
  ·have i0 : (n : Int) < 16 := by omega
   have i1 : (0 : Int) ≤ (n : Int) := by omega
   have cc := blk_cell (j := n) HS.out (b.sub_at off 16 hlt)
   have HV := Lib.hid (b.sub_at off 16 hlt)
   generalize b.z (off + n) = v at cc HV
   obtain ⟨u, hu⟩ : ∃ u, cur[n]? = some u := ⟨cur[n]'(by have := HT.out.1; omega), Array.getElem?_eq_getElem _⟩
   have ct := blk_cell HC.out hu
   have cf := blk_frozen HC.out n
   have HW := Lib.hid (setCell_eq_setRow wr g3 n cur _ _ (.int .u8 v) HC.out)
   have HC1 := Lib.hid (setRow_heap wr g3 cur (cur.setIfInBounds n (.int .u8 v)) _ _ HC.out)
   have HT1 := Lib.hid (HT.out.set HV.out hlt)
   have HD1 := Lib.hid (below_setRow HD.out h3.out (cur.setIfInBounds n (.int .u8 v)))
   have HS1 := Lib.hid ((setRow_other wr g3 g (cur.setIfInBounds n (.int .u8 v)) h13.out).trans HS.out)
   have HZ1 := Lib.hid (show ∃ z : Array Value, z.size = 16 ∧ (wr.setRow g3 (cur.setIfInBounds n (.int .u8 v))).heap[g2]? = some (.cells z 27 (0, 0)) by obtain ⟨z, hz, hz2⟩ := HZ.out; exact ⟨z, hz, (setRow_other _ _ _ _ h23.out).trans hz2⟩)
   clear hu
   go_wp2
   go_roundw
   case rel => exact ⟨n + 1, cur.setIfInBounds n (.int .u8 v), by omega, by go_num, by rw [HW.out]; exact HC1.out, HT1.out, by rw [HW.out]; exact HS1.out, by rw [HW.out]; exact HZ1.out, by rw [HW.out]; exact HD1.out⟩
   case measure => simp [intOf]; omega
  ·obtain rfl : n = 16 := by omega
   obtain rfl := HT.out.done (b.sub_size off 16)
   obtain ⟨z, hz, hz2⟩ := HZ.out
   have HZ2 := Lib.hid hz2
   have HZS := Lib.hid hz
   clear hz hz2 HZ
   go_wp2_with (first
    | ((with_reducible refine gate_dst (N := 14) rfl ?_); refine Kd.event_run rfl (exec_load_blk rfl rfl HC.out Try.underlying27 rfl SZ.out) ?_)
    | ((with_reducible refine gate_store (t := 27) (p := 2) rfl ?_); refine store_event (t := 27) (p := 2) rfl rfl rfl (exec_store_row (t2 := 27) (vs := b.sub off 16) rfl rfl rfl HZ2.out (by rw [HZS.out, Flat.sub_size]; decide) (b.sub_one _ _) SZ.out) ?_; intro ws hws; have HR := Lib.hid (show ws.heap[g2]? = some (.cells (b.sub off 16) 27 (0, 0)) by rw [hws]; exact setRow_whole HZ2.out (by rw [HZS.out, Flat.sub_size])); have HD1 := Lib.hid (show Below w.heap.size w ws by rw [hws]; exact below_setRow HD.out h2.out _); clear hws))
   (try simp only [Exit.inBlock, Exit.then])
   refine bodyPost_ret (results_cell rfl rfl (run_load_blk _ _ _ _ _ HR.out Try.underlying27 rfl SZ.out)) rfl ?_
   exact ⟨rfl, HD1.out⟩
end Go.Proofs.Ytmhmfhdmeedcfaa.G
end
section
namespace Go.Proofs.Ytmhmfhdmeedcfaa.G
open Go.RowKit Go.Proofs.YtmhmfhdmeedcfaaW.PrintWords Go.Proofs.YtmhmfhdmeedcfaaW.PrintLast Go.Proofs.YtmhmfhdmeedcfaaW.PrintMore AR M
set_option linter.unusedVariables false
set_option linter.unusedSimpArgs false
set_option maxHeartbeats 1000000 in
set_option maxRecDepth 100000 in
theorem toInt8A16A16_any (b : Flat 258 .i8) (w : World) : Calls Try.prog 36 #[.agg (b.sub 2 256)] w fun e w' => e = .returned (.agg (b.sub 2 256)) ∧ Below w.heap.size w w' := by
 have SZ := Lib.hid (szq24 b 2)
 have SR := Lib.hid (fun n => szr23 b n)
 have HQ := Lib.hid (fun n W => toInt8A16_any b n W)
 go_enter Try.func36, Try.ntmps36
 go_wp2_with (first
  | ((with_reducible refine gate_dst (N := 1) rfl ?_); refine wpList_box_ev rfl 24 _ rfl (b.sub 2 256) rfl ?_; intro g w1 hg hb hb1; have HG := Lib.hid hb; have HB0 := Lib.hid hb1; clear hb hb1 hg)
  | ((with_reducible refine gate_dst (N := 2) rfl ?_); refine box_event rfl (N := 2) rfl (t := 24) (exec_alloc rfl (zv24 _)) ?_; intro g2 hg wa ha hb; have HA := Lib.hid (show ∃ z : Array Value, z.size = 256 ∧ wa.heap[g2]? = some (.cells z 24 (0, 0)) from ⟨_, Array.size_replicate, ha⟩); have HB1 := Lib.hid (below_join HB0.out hb); have HG1 := Lib.hid (blkB HG.out hb); have h2 := Lib.hid (show w.heap.size ≤ g2 by have := HB0.out.size; omega); have h12 := Lib.hid (show g ≠ g2 by have := (Array.getElem?_eq_some_iff.1 HG.out).1; omega); have l2 := Lib.hid (show g2 < wa.heap.size from (Array.getElem?_eq_some_iff.1 ha).1); clear ha hb hg)
  | ((with_reducible refine gate_dst (N := 3) rfl ?_); refine box_event rfl (N := 3) rfl (t := 24) (exec_alloc rfl (zv24 _)) ?_; intro g3 hg wb ha hb; have HO := Lib.hid (show ∃ z : Array Value, z.size = 256 ∧ wb.heap[g3]? = some (.cells z 24 (0, 0)) from ⟨_, Array.size_replicate, ha⟩); have HB2 := Lib.hid (below_join HB1.out hb); have HG2 := Lib.hid (blkB HG1.out hb); have HA2 := Lib.hid (show ∃ z : Array Value, z.size = 256 ∧ wb.heap[g2]? = some (.cells z 24 (0, 0)) by obtain ⟨z, h, hz⟩ := HA.out; exact ⟨z, h, blkB hz hb⟩); have h3 := Lib.hid (show w.heap.size ≤ g3 by have := HB1.out.size; omega); have h13 := Lib.hid (show g ≠ g3 by have := (Array.getElem?_eq_some_iff.1 HG1.out).1; omega); have h23 := Lib.hid (show g2 ≠ g3 by have := l2.out; omega); clear ha hb hg))
 go_loopw [4] (fun i wr => ∃ (n : Nat) (cur : Array Value), n ≤ 16 ∧ i = .int .i64 n ∧ Hid (wr.heap[g3]? = some (.cells cur 24 (0, 0))) ∧ Hid (CopyTo cur 256 (n * 16) (b.sub 2 256)) ∧ Hid (wr.heap[g]? = some (.cells (b.sub 2 256) 24 (0, 0))) ∧ Hid (∃ z : Array Value, z.size = 256 ∧ wr.heap[g2]? = some (.cells z 24 (0, 0))) ∧ Hid (Below w.heap.size w wr)) (fun i _ => 16 - (intOf i).toNat)
 case atStart => obtain ⟨z, h, hz⟩ := HO.out; exact ⟨0, z, Nat.zero_le _, rfl, hz, by rw [Nat.zero_mul]; exact CopyTo.zero h, HG2.out, HA2.out, HB2.out⟩
 case round =>
  obtain ⟨n, cur, hn, rfl, HC, HT, HS, HZ, HD⟩ := hrel
  by_cases hlt : n < 16
  ·have i0 : (n : Int) < 16 := by omega
   have i1 : (0 : Int) ≤ (n : Int) := by omega
   have HP := Lib.hid (show ∀ j v, (b.sub (2 + n * 16) 16)[j]? = some v → (b.sub 2 256)[n * 16 + j]? = some v from fun j v hv => by
    have hj : j < 16 := by have := (Array.getElem?_eq_some_iff.1 hv).1; rwa [Flat.sub_size] at this
    rw [b.sub_at _ _ (show n * 16 + j < 256 by omega), ← hv, b.sub_at _ _ hj]; congr 3; omega)
   go_wp2_with (first
    | ((with_reducible refine gate_dst (N := 12) rfl ?_); refine Kd.event_run rfl (exec_load_sub (n := n * 16) (cs := b.sub (2 + n * 16) 16) rfl (by first | rfl | (simp; done)) HS.out HP.out Try.underlying23 rfl (SR.out _)) ?_)
    | (go_at_call 61; refine (HQ.out (2 + n * 16) _).mono ?_; rintro e w3 ⟨rfl, hb⟩; have HD0 := Lib.hid (below_join HD.out hb); have HC0 := Lib.hid (blkB HC.out hb); have HS0 := Lib.hid (blkB HS.out hb); have HZ0 := Lib.hid (show ∃ z : Array Value, z.size = 256 ∧ w3.heap[g2]? = some (.cells z 24 (0, 0)) by obtain ⟨z, h, hz⟩ := HZ.out; exact ⟨z, h, blkB hz hb⟩); clear hb)
    | ((with_reducible refine gate_store (t := 23) (p := 14) rfl ?_); refine store_event (t := 23) (p := 14) rfl rfl rfl (exec_store_row (n := n * 16) (vs := b.sub (2 + n * 16) 16) rfl (by first | rfl | (simp; done)) rfl HC0.out (by rw [Flat.sub_size]; have := HT.out.1; omega) (b.sub_one _ _) (SR.out _)) ?_; intro ws hws; have HC1 := Lib.hid (show ws.heap[g3]? = some (.cells (cur.toList.take (n * 16) ++ (b.sub (2 + n * 16) 16).toList ++ cur.toList.drop (n * 16 + (b.sub (2 + n * 16) 16).size)).toArray 24 (0, 0)) by rw [hws]; exact setRow_heap _ _ _ _ _ _ HC0.out); have HD1 := Lib.hid (show Below w.heap.size w ws by rw [hws]; exact below_setRow HD0.out h3.out _); have HS1 := Lib.hid (show ws.heap[g]? = some (.cells (b.sub 2 256) 24 (0, 0)) by rw [hws]; exact (setRow_other _ _ _ _ h13.out).trans HS0.out); have HZ1 := Lib.hid (show ∃ z : Array Value, z.size = 256 ∧ ws.heap[g2]? = some (.cells z 24 (0, 0)) by obtain ⟨z, hz, hz2⟩ := HZ0.out; exact ⟨z, hz, by rw [hws]; exact (setRow_other _ _ _ _ h23.out).trans hz2⟩); clear hws))
   go_roundw
   case rel => exact ⟨n + 1, _, by omega, by go_num, HC1.out, by rw [show (n + 1) * 16 = n * 16 + (b.sub (2 + n * 16) 16).size by rw [Flat.sub_size]; omega]; exact HT.out.step (by simp) (by rw [Flat.sub_size]; omega) (fun j hj => by rw [Flat.sub_size] at hj; rw [Array.getElem?_toList, b.sub_at _ _ hj, b.sub_at _ _ (show n * 16 + j < 256 by omega)]; congr 3; omega), HS1.out, HZ1.out, HD1.out⟩
   case measure => simp [intOf]; omega
  ·obtain rfl : n = 16 := by omega
   obtain rfl := HT.out.done (b.sub_size 2 256)
   obtain ⟨z, hz, hz2⟩ := HZ.out
   have HZ2 := Lib.hid hz2
   have HZS := Lib.hid hz
   clear hz hz2 HZ
   go_wp2_with (first
    | ((with_reducible refine gate_dst (N := 15) rfl ?_); refine Kd.event_run rfl (exec_load_blk rfl rfl HC.out Try.underlying24 rfl SZ.out) ?_)
    | ((with_reducible refine gate_store (t := 24) (p := 2) rfl ?_); refine store_event (t := 24) (p := 2) rfl rfl rfl (exec_store_row (t2 := 24) (vs := b.sub 2 256) rfl rfl rfl HZ2.out (by rw [HZS.out, Flat.sub_size]; decide) (b.sub_one _ _) SZ.out) ?_; intro ws hws; have HR := Lib.hid (show ws.heap[g2]? = some (.cells (b.sub 2 256) 24 (0, 0)) by rw [hws]; exact setRow_whole HZ2.out (by rw [HZS.out, Flat.sub_size])); have HD1 := Lib.hid (show Below w.heap.size w ws by rw [hws]; exact below_setRow HD.out h2.out _); clear hws))
   (try simp only [Exit.inBlock, Exit.then])
   refine bodyPost_ret (results_cell rfl rfl (run_load_blk _ _ _ _ _ HR.out Try.underlying24 rfl SZ.out)) rfl ?_
   exact ⟨rfl, HD1.out⟩
set_option maxHeartbeats 1000000 in
set_option maxRecDepth 100000 in
theorem toGrounds_any (b : Flat 256 .u8) (w : World) : Calls Try.prog 11 #[.agg (b.sub 0 256)] w fun e w' => e = .returned (.agg (b.sub 0 256)) ∧ Below w.heap.size w w' := by
 have SZ := Lib.hid (szq40 b 0)
 have SR := Lib.hid (fun n => szr27 b n)
 have HQ := Lib.hid (fun n W => toByteA16_any b n W)
 go_enter Try.func11, Try.ntmps11
 go_wp2_with (first
  | ((with_reducible refine gate_dst (N := 1) rfl ?_); refine wpList_box_ev rfl 28 _ rfl (b.sub 0 256) rfl ?_; intro g w1 hg hb hb1; have HG := Lib.hid hb; have HB0 := Lib.hid hb1; clear hb hb1 hg)
  | ((with_reducible refine gate_dst (N := 2) rfl ?_); refine box_event rfl (N := 2) rfl (t := 40) (exec_alloc rfl (zv40 _)) ?_; intro g2 hg wa ha hb; have HA := Lib.hid (show ∃ z : Array Value, z.size = 256 ∧ wa.heap[g2]? = some (.cells z 40 (0, 0)) from ⟨_, Array.size_replicate, ha⟩); have HB1 := Lib.hid (below_join HB0.out hb); have HG1 := Lib.hid (blkB HG.out hb); have h2 := Lib.hid (show w.heap.size ≤ g2 by have := HB0.out.size; omega); have h12 := Lib.hid (show g ≠ g2 by have := (Array.getElem?_eq_some_iff.1 HG.out).1; omega); have l2 := Lib.hid (show g2 < wa.heap.size from (Array.getElem?_eq_some_iff.1 ha).1); clear ha hb hg)
  | ((with_reducible refine gate_dst (N := 3) rfl ?_); refine box_event rfl (N := 3) rfl (t := 40) (exec_alloc rfl (zv40 _)) ?_; intro g3 hg wb ha hb; have HO := Lib.hid (show ∃ z : Array Value, z.size = 256 ∧ wb.heap[g3]? = some (.cells z 40 (0, 0)) from ⟨_, Array.size_replicate, ha⟩); have HB2 := Lib.hid (below_join HB1.out hb); have HG2 := Lib.hid (blkB HG1.out hb); have HA2 := Lib.hid (show ∃ z : Array Value, z.size = 256 ∧ wb.heap[g2]? = some (.cells z 40 (0, 0)) by obtain ⟨z, h, hz⟩ := HA.out; exact ⟨z, h, blkB hz hb⟩); have h3 := Lib.hid (show w.heap.size ≤ g3 by have := HB1.out.size; omega); have h13 := Lib.hid (show g ≠ g3 by have := (Array.getElem?_eq_some_iff.1 HG1.out).1; omega); have h23 := Lib.hid (show g2 ≠ g3 by have := l2.out; omega); clear ha hb hg))
 go_loopw [4] (fun i wr => ∃ (n : Nat) (cur : Array Value), n ≤ 16 ∧ i = .int .i64 n ∧ Hid (wr.heap[g3]? = some (.cells cur 40 (0, 0))) ∧ Hid (CopyTo cur 256 (n * 16) (b.sub 0 256)) ∧ Hid (wr.heap[g]? = some (.cells (b.sub 0 256) 28 (0, 0))) ∧ Hid (∃ z : Array Value, z.size = 256 ∧ wr.heap[g2]? = some (.cells z 40 (0, 0))) ∧ Hid (Below w.heap.size w wr)) (fun i _ => 16 - (intOf i).toNat)
 case atStart => obtain ⟨z, h, hz⟩ := HO.out; exact ⟨0, z, Nat.zero_le _, rfl, hz, by rw [Nat.zero_mul]; exact CopyTo.zero h, HG2.out, HA2.out, HB2.out⟩
 case round =>
  obtain ⟨n, cur, hn, rfl, HC, HT, HS, HZ, HD⟩ := hrel
  by_cases hlt : n < 16
  ·have i0 : (n : Int) < 16 := by omega
   have i1 : (0 : Int) ≤ (n : Int) := by omega
   have HP := Lib.hid (show ∀ j v, (b.sub (n * 16) 16)[j]? = some v → (b.sub 0 256)[n * 16 + j]? = some v from fun j v hv => by
    have hj : j < 16 := by have := (Array.getElem?_eq_some_iff.1 hv).1; rwa [Flat.sub_size] at this
    rw [b.sub_at _ _ (show n * 16 + j < 256 by omega), ← hv, b.sub_at _ _ hj]; congr 3; omega)
   go_wp2_with (first
    | ((with_reducible refine gate_dst (N := 12) rfl ?_); refine Kd.event_run rfl (exec_load_sub (n := n * 16) (cs := b.sub (n * 16) 16) rfl (by first | rfl | (simp; done)) HS.out HP.out Try.underlying27 rfl (SR.out _)) ?_)
    | (go_at_call 37; refine (HQ.out (n * 16) _).mono ?_; rintro e w3 ⟨rfl, hb⟩; have HD0 := Lib.hid (below_join HD.out hb); have HC0 := Lib.hid (blkB HC.out hb); have HS0 := Lib.hid (blkB HS.out hb); have HZ0 := Lib.hid (show ∃ z : Array Value, z.size = 256 ∧ w3.heap[g2]? = some (.cells z 40 (0, 0)) by obtain ⟨z, h, hz⟩ := HZ.out; exact ⟨z, h, blkB hz hb⟩); clear hb)
    | ((with_reducible refine gate_store (t := 27) (p := 14) rfl ?_); refine store_event (t := 27) (p := 14) rfl rfl rfl (exec_store_row (n := n * 16) (vs := b.sub (n * 16) 16) rfl (by first | rfl | (simp; done)) rfl HC0.out (by rw [Flat.sub_size]; have := HT.out.1; omega) (b.sub_one _ _) (SR.out _)) ?_; intro ws hws; have HC1 := Lib.hid (show ws.heap[g3]? = some (.cells (cur.toList.take (n * 16) ++ (b.sub (n * 16) 16).toList ++ cur.toList.drop (n * 16 + (b.sub (n * 16) 16).size)).toArray 40 (0, 0)) by rw [hws]; exact setRow_heap _ _ _ _ _ _ HC0.out); have HD1 := Lib.hid (show Below w.heap.size w ws by rw [hws]; exact below_setRow HD0.out h3.out _); have HS1 := Lib.hid (show ws.heap[g]? = some (.cells (b.sub 0 256) 28 (0, 0)) by rw [hws]; exact (setRow_other _ _ _ _ h13.out).trans HS0.out); have HZ1 := Lib.hid (show ∃ z : Array Value, z.size = 256 ∧ ws.heap[g2]? = some (.cells z 40 (0, 0)) by obtain ⟨z, hz, hz2⟩ := HZ0.out; exact ⟨z, hz, by rw [hws]; exact (setRow_other _ _ _ _ h23.out).trans hz2⟩); clear hws))
   go_roundw
   case rel => exact ⟨n + 1, _, by omega, by go_num, HC1.out, by rw [show (n + 1) * 16 = n * 16 + (b.sub (n * 16) 16).size by rw [Flat.sub_size]; omega]; exact HT.out.step (by simp) (by rw [Flat.sub_size]; omega) (fun j hj => by rw [Flat.sub_size] at hj; rw [Array.getElem?_toList, b.sub_at _ _ hj, b.sub_at _ _ (show n * 16 + j < 256 by omega)]; congr 3; omega), HS1.out, HZ1.out, HD1.out⟩
   case measure => simp [intOf]; omega
  ·obtain rfl : n = 16 := by omega
   obtain rfl := HT.out.done (b.sub_size 0 256)
   obtain ⟨z, hz, hz2⟩ := HZ.out
   have HZ2 := Lib.hid hz2
   have HZS := Lib.hid hz
   clear hz hz2 HZ
   go_wp2_with (first
    | ((with_reducible refine gate_dst (N := 15) rfl ?_); refine Kd.event_run rfl (exec_load_blk rfl rfl HC.out Try.underlying40 rfl SZ.out) ?_)
    | ((with_reducible refine gate_store (t := 40) (p := 2) rfl ?_); refine store_event (t := 40) (p := 2) rfl rfl rfl (exec_store_row (t2 := 40) (vs := b.sub 0 256) rfl rfl rfl HZ2.out (by rw [HZS.out, Flat.sub_size]; decide) (b.sub_one _ _) SZ.out) ?_; intro ws hws; have HR := Lib.hid (show ws.heap[g2]? = some (.cells (b.sub 0 256) 40 (0, 0)) by rw [hws]; exact setRow_whole HZ2.out (by rw [HZS.out, Flat.sub_size])); have HD1 := Lib.hid (show Below w.heap.size w ws by rw [hws]; exact below_setRow HD.out h2.out _); clear hws))
   (try simp only [Exit.inBlock, Exit.then])
   refine bodyPost_ret (results_cell rfl rfl (run_load_blk _ _ _ _ _ HR.out Try.underlying40 rfl SZ.out)) rfl ?_
   exact ⟨rfl, HD1.out⟩
end Go.Proofs.Ytmhmfhdmeedcfaa.G
end
section
namespace Go.Proofs.Ytmhmfhdmeedcfaa.G
open Go.RowKit Go.Proofs.YtmhmfhdmeedcfaaW.PrintWords Go.Proofs.YtmhmfhdmeedcfaaW.PrintLast Go.Proofs.YtmhmfhdmeedcfaaW.PrintMore AR M
set_option linter.unusedVariables false
set_option linter.unusedSimpArgs false
theorem bay_filled (b : Flat 258 .i8) (z : Array Value) (hz : z.size = 258) : (((z.setIfInBounds 0 (.int .i8 (b.z 0))).setIfInBounds 1 (.int .i8 (b.z 1))).toList.take 2 ++ (b.sub 2 256).toList ++ ((z.setIfInBounds 0 (.int .i8 (b.z 0))).setIfInBounds 1 (.int .i8 (b.z 1))).toList.drop (2 + (b.sub 2 256).size)).toArray = b.A := by
 have h := ((((CopyTo.zero (src := b.A) hz).set (b.at_ (j := 0) (by omega)) (by omega)).set (b.at_ (j := 1) (by omega)) (by omega)).step (m := 256) (vs := (b.sub 2 256).toList) (by simp [Flat.sub_size]) (by omega) (fun j hj => by
  rw [Array.getElem?_toList, b.sub_at _ _ hj, b.at_ (show 0 + 1 + 1 + j < 258 by omega)])).done b.size
 rw [Flat.sub_size]
 exact h
theorem zv38 (w : World) : (zeroValue 38).run Try.prog w = .ok (.agg (Array.replicate 258 (.int .i8 0))) w := by kernel_rfl
set_option maxHeartbeats 1000000 in
set_option maxRecDepth 100000 in
theorem toBay_any (b : Flat 258 .i8) (w : World) : Calls Try.prog 10 #[.agg b.A] w fun e w' => e = .returned (.agg b.A) ∧ Below w.heap.size w w' := by
 have HQ := Lib.hid (fun W => toInt8A16A16_any b W)
 go_enter Try.func10, Try.ntmps10
 go_wp2_with (first
  | ((with_reducible refine gate_dst (N := 1) rfl ?_); refine wpList_box_ev rfl 26 _ rfl b.A rfl ?_; intro g w1 hg hb hb1; have HG := Lib.hid hb; have HB0 := Lib.hid hb1; clear hb hb1 hg)
  | ((with_reducible refine gate_dst (N := 2) rfl ?_); refine box_event rfl (N := 2) rfl (t := 38) (exec_alloc rfl (zv38 _)) ?_; intro g2 hg wa ha hb; have HA := Lib.hid (show ∃ z : Array Value, z.size = 258 ∧ wa.heap[g2]? = some (.cells z 38 (0, 0)) from ⟨_, Array.size_replicate, ha⟩); have HB1 := Lib.hid (below_join HB0.out hb); have HG1 := Lib.hid (blkB HG.out hb); have h2 := Lib.hid (show w.heap.size ≤ g2 by have := HB0.out.size; omega); have l2 := Lib.hid (show g2 < wa.heap.size from (Array.getElem?_eq_some_iff.1 ha).1); clear ha hb hg)
  | ((with_reducible refine gate_dst (N := 3) rfl ?_); refine box_event rfl (N := 3) rfl (t := 38) (exec_alloc rfl (zv38 _)) ?_; intro g3 hg wb ha hb; obtain ⟨z, hz, ha⟩ : ∃ z : Array Value, z.size = 258 ∧ wb.heap[g3]? = some (.cells z 38 (0, 0)) := ⟨_, Array.size_replicate, ha⟩; have HB2 := below_join HB1.out hb; have HG2 := blkB HG1.out hb; have HA2 : ∃ z : Array Value, z.size = 258 ∧ wb.heap[g2]? = some (.cells z 38 (0, 0)) := (by obtain ⟨z, h, hz⟩ := HA.out; exact ⟨z, h, blkB hz hb⟩); have h3 : w.heap.size ≤ g3 := (by have := HB1.out.size; omega); have h13 : g ≠ g3 := (by have := (Array.getElem?_eq_some_iff.1 HG1.out).1; omega); have h31 := h13.symm; have h23 : g2 ≠ g3 := (by have := l2.out; omega);
       have c0 := blk_cell (j := 0) HG2 (b.at_ (by omega)); have c1 := blk_cell (j := 1) HG2 (b.at_ (by omega));
       obtain ⟨u0, hu0⟩ : ∃ u, z[0]? = some u := ⟨z[0]'(by omega), Array.getElem?_eq_getElem _⟩; obtain ⟨u1, hu1⟩ : ∃ u, z[1]? = some u := ⟨z[1]'(by omega), Array.getElem?_eq_getElem _⟩; have t0 := blk_cell ha hu0; have t1 := blk_cell ha hu1; have f0 := blk_frozen ha 0; have f1 := blk_frozen ha 1;
       have HW1 := setCell_eq_setRow wb g3 0 z _ _ (.int .i8 (b.z 0)) ha; have HW2 : (wb.setCell ⟨g3, 0, none⟩ (.int .i8 (b.z 0))).setCell ⟨g3, 1, none⟩ (.int .i8 (b.z 1)) = wb.setRow g3 ((z.setIfInBounds 0 (.int .i8 (b.z 0))).setIfInBounds 1 (.int .i8 (b.z 1))) := (by rw [HW1, setCell_eq_setRow _ g3 1 _ _ _ (.int .i8 (b.z 1)) (setRow_heap _ _ _ _ _ _ ha), setRow_setRow]);
       have HZL := Lib.hid hz;
       have HC := Lib.hid (show ((wb.setCell ⟨g3, 0, none⟩ (.int .i8 (b.z 0))).setCell ⟨g3, 1, none⟩ (.int .i8 (b.z 1))).heap[g3]? = some (.cells ((z.setIfInBounds 0 (.int .i8 (b.z 0))).setIfInBounds 1 (.int .i8 (b.z 1))) 38 (0, 0)) by rw [HW2]; exact setRow_heap _ _ _ _ _ _ ha);
       have HS := Lib.hid (show ((wb.setCell ⟨g3, 0, none⟩ (.int .i8 (b.z 0))).setCell ⟨g3, 1, none⟩ (.int .i8 (b.z 1))).heap[g]? = some (.cells b.A 26 (0, 0)) by rw [HW2]; exact (setRow_other _ _ _ _ h13).trans HG2);
       have HZ := Lib.hid (show ∃ z2 : Array Value, z2.size = 258 ∧ ((wb.setCell ⟨g3, 0, none⟩ (.int .i8 (b.z 0))).setCell ⟨g3, 1, none⟩ (.int .i8 (b.z 1))).heap[g2]? = some (.cells z2 38 (0, 0)) by obtain ⟨z2, q1, q2⟩ := HA2; exact ⟨z2, q1, by rw [HW2]; exact (setRow_other _ _ _ _ h23).trans q2⟩);
       have HD := Lib.hid (show Below w.heap.size w ((wb.setCell ⟨g3, 0, none⟩ (.int .i8 (b.z 0))).setCell ⟨g3, 1, none⟩ (.int .i8 (b.z 1))) by rw [HW2]; exact below_setRow HB2 h3 _);
       have h23' := Lib.hid h23; have h3' := Lib.hid h3;
       clear HW1 HW2 hu0 hu1 ha hb hg hz HB2 HG2 HA2 h23 h3)
  | ((with_reducible refine gate_dst (N := 11) rfl ?_); refine Kd.event_run rfl (exec_load_sub (n := 2) (cs := b.sub 2 256) rfl rfl HS.out (b.sub_in (by omega)) Try.underlying24 rfl (sz24 b)) ?_)
  | (go_at_call 36; refine (HQ.out _).mono ?_; rintro e w3 ⟨rfl, hb⟩; have HD0 := Lib.hid (below_join HD.out hb); have HC0 := Lib.hid (blkB HC.out hb); have HZ0 := Lib.hid (show ∃ z : Array Value, z.size = 258 ∧ w3.heap[g2]? = some (.cells z 38 (0, 0)) by obtain ⟨z, h, hz⟩ := HZ.out; exact ⟨z, h, blkB hz hb⟩); clear hb)
  | ((with_reducible refine gate_store (t := 24) (p := 13) rfl ?_); refine store_event (t := 24) (p := 13) rfl rfl rfl (exec_store_row (n := 2) (vs := b.sub 2 256) rfl rfl rfl HC0.out (by rw [Flat.sub_size]; simp [HZL.out]) (b.sub_one _ _) (sz24 b)) ?_; intro ws hws;
       have HC1 := Lib.hid (show ws.heap[g3]? = some (.cells b.A 38 (0, 0)) by rw [hws, setRow_heap _ _ _ _ _ _ HC0.out, bay_filled b z HZL.out]);
       have HD1 := Lib.hid (show Below w.heap.size w ws by rw [hws]; exact below_setRow HD0.out h3'.out _);
       have HZ1 := Lib.hid (show ∃ z : Array Value, z.size = 258 ∧ ws.heap[g2]? = some (.cells z 38 (0, 0)) by obtain ⟨z, hz, hz2⟩ := HZ0.out; exact ⟨z, hz, by rw [hws]; exact (setRow_other _ _ _ _ h23'.out).trans hz2⟩); clear hws)
  | ((with_reducible refine gate_dst (N := 14) rfl ?_); refine Kd.event_run rfl (exec_load_blk rfl rfl HC1.out Try.underlying38 rfl (szO38 b)) ?_)
  | ((with_reducible refine gate_store (t := 38) (p := 2) rfl ?_); obtain ⟨z9, hz9, hz8⟩ := HZ1.out; refine store_event (t := 38) (p := 2) rfl rfl rfl (exec_store_row (n := 0) (vs := b.A) rfl rfl rfl hz8 (by rw [hz9, Flat.size]; decide) b.one (szO38 b)) ?_; intro wt hwt; have HR := Lib.hid (show wt.heap[g2]? = some (.cells b.A 38 (0, 0)) by rw [hwt]; exact setRow_whole hz8 (by rw [hz9, Flat.size])); have HD2 := Lib.hid (show Below w.heap.size w wt by rw [hwt]; exact below_setRow HD1.out h2.out _); clear hwt hz8 hz9))
 (try simp only [Exit.inBlock, Exit.then])
 refine bodyPost_ret (results_cell rfl rfl (run_load_blk _ _ _ _ _ HR.out Try.underlying38 rfl (szO38 b))) rfl ?_
 exact ⟨rfl, HD2.out⟩
def laws_toBay.f (a0 : O26) : Option (O38) := some a0
def laws_toGrounds.f (a0 : O28) : Option (O40) := some a0
theorem laws_toBay.calls (a0 : O26) (r : O38) (w : World) (h : laws_toBay.f a0 = some r) :
  Calls Try.prog 10 #[VO26 a0] w fun e w' => e = .returned (VO38 r) ∧ Below w.heap.size w w' := by
 obtain rfl := Option.some.inj h
 exact toBay_any a0 w
theorem laws_toGrounds.calls (a0 : O28) (r : O40) (w : World) (h : laws_toGrounds.f a0 = some r) :
  Calls Try.prog 11 #[VO28 a0] w fun e w' => e = .returned (VO40 r) ∧ Below w.heap.size w w' := by
 obtain rfl := Option.some.inj h
 have := toGrounds_any a0 w
 rw [Flat.sub_whole] at this
 exact this
end Go.Proofs.Ytmhmfhdmeedcfaa.G
end
