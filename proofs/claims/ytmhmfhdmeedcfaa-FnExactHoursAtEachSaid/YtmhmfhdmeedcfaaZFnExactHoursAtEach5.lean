/- A part of the proof of: FnExactHoursAtEach returns true, whatever the input, and leaves its arguments as they were. -/
import Derived.Test.YtmhmfhdmeedcfaaProg
import Derived.Below
import Derived.Deep.Draws
import Derived.Deep.AppendLies
import Derived.Maps.AppendAt
import Derived.OwnWalk
import Derived.Laws.BytesArg
import Derived.Laws.MakeOwn
import Derived.Laws.OwnMore
import Derived.Deep.OwnRows
import Derived.Tactics
import Derived.Lib.ConvBytes
import Derived.Laws.Slices
import Derived.WalkKit
import Derived.KernelRfl
import Derived.RowKit3
import Derived.Deep.LoopGhost
import Derived.Deep.QuietTactic
import Derived.BigQuiet
import Derived.WideLaws
import Derived.Deep.DeepCutAuto
import Derived.Deep.CutBlock
import Derived.Deep.RegionHeld3
import Derived.Laws.Rows
import Derived.Lib.AppendStr
import Derived.ArgAppend
import Derived.Laws.IdiomCopy
import Derived.OrdersHeld
import Derived.Laws.BitsLemmas
import Derived.RowKit
import Derived.Laws.StructEq
import Derived.Deep.Slices
import Derived.ChangeSame
import Derived.ChangeArms
import Derived.OpenShut
import Derived.ProofKit
import Derived.Laws.Tables
import Derived.Laws.CopyOwn
import Derived.Laws.CopyRow
import Derived.Lib.Hide
import Derived.Test.YtmhmfhdmeedcfaaZFnExactHoursAtEach1
import Derived.Test.YtmhmfhdmeedcfaaZFnExactHoursAtEach2
import Derived.Test.YtmhmfhdmeedcfaaZFnExactHoursAtEach3
import Derived.Test.YtmhmfhdmeedcfaaZFnExactHoursAtEach4
section
namespace Go.Proofs.Ytmhmfhdmeedcfaa.G
open Go.RowKit Go.Proofs.YtmhmfhdmeedcfaaW.PrintWords Go.Proofs.YtmhmfhdmeedcfaaW.PrintLast Go.Proofs.YtmhmfhdmeedcfaaW.PrintMore
attribute [local go_sem] max2_int min2_int max_two min_two max_three min_three max_four min_four   -- for this text's walks alone
set_option linter.unusedVariables false
set_option linter.unusedSimpArgs false
def spec_l07Begin.f (a0_0 : Int) (a0_1 : Int) (a0_2 : Int) (a0_3 : Int) (a0_4 : Int) (a0_5 : Int) : Option (Int × Int × Int × Int × Int × Int × Bool × Int × Int × (List (S42))) := some (a0_0, a0_1, a0_2, a0_3, a0_4, a0_5, false, (-1), (-1), ([] : List (S42)))
set_option maxHeartbeats 8000000 in
set_option maxRecDepth 100000 in
theorem spec_l07Begin.calls (a0_0 : Int) (a0_1 : Int) (a0_2 : Int) (a0_3 : Int) (a0_4 : Int) (a0_5 : Int) (r1 : Int) (r2 : Int) (r3 : Int) (r4 : Int) (r5 : Int) (r6 : Int) (r7 : Bool) (r8 : Int) (r9 : Int) (r10 : List (S42)) (w : World) (h : spec_l07Begin.f a0_0 a0_1 a0_2 a0_3 a0_4 a0_5 = some (r1, r2, r3, r4, r5, r6, r7, r8, r9, r10)) :
  Calls Try.prog 51 #[.agg #[.int .i8 a0_0, .int .i8 a0_1, .int .i8 a0_2, .int .i8 a0_3, .int .i8 a0_4, .int .i8 a0_5]] w fun e w' => ∃ v9_ : Value, e = .returned (.agg #[.int .i8 r1, .int .i8 r2, .int .i8 r3, .int .i8 r4, .int .i8 r5, .int .i8 r6, .bool r7, .int .i64 r8, .int .i64 r9, v9_]) ∧ Kd.R k42 42 w' w.heap.size (fun _ => True) v9_ r10 ∧ Below w.heap.size w w' := by
 have hu44 := Try.underlying44
 have hu72 := Try.underlying72
 have HB := Aside0.mk (Below.refl w.heap.size w)
 have H : (some (a0_0, a0_1, a0_2, a0_3, a0_4, a0_5, false, (-1), (-1), ([] : List (S42)))) = some (r1, r2, r3, r4, r5, r6, r7, r8, r9, r10) := h
 clear h
 simp only [Option.some.injEq, Prod.mk.injEq] at H
 obtain ⟨rfl, rfl, rfl, rfl, rfl, rfl, rfl, rfl, rfl, rfl⟩ := H
 go_enter Try.func51, Try.ntmps51
 go_wp2_with (first | ((with_reducible refine gate_dst (N := 1) rfl ?_); refine box_event ?hg (N := 1) ?hd (cs := #[.int .i8 a0_0, .int .i8 a0_1, .int .i8 a0_2, .int .i8 a0_3, .int .i8 a0_4, .int .i8 a0_5]) (t := 44) ?hr ?_; (case hd => rfl); (case hg => rfl); (case hr => first | (go_simp; done) | (go_simp; rfl)); intro gb101 hg w2 hbox hb; have BK101 := Aside0.mk (hbox); have GW101 := Aside0.mk (sqS HB.out hg); replace HB := Aside0.mk (sqH HB.out hb); have GE101 := GW101; clear hb hbox hg) | ((with_reducible refine gate_dst (N := 2) rfl ?_); refine box_event ?hg (N := 2) ?hd (cs := #[.int .i8 0, .int .i8 0, .int .i8 0, .int .i8 0, .int .i8 0, .int .i8 0, .bool false, .int .i64 0, .int .i64 0, .slice none 0 0]) (t := 72) ?hr ?_; (case hd => rfl); (case hg => rfl); (case hr => first | (go_simp; done) | (go_simp; rfl)); intro gb102 hg w3 hbox hb; have BK102 := Aside0.mk (hbox); have GW102 := Aside0.mk (sqS HB.out hg); replace HB := Aside0.mk (sqH HB.out hb); have GE102 := GW102; have NB101_102 := Aside0.mk (sqN BK101.out hg); replace BK101 := Aside0.mk (sqB BK101.out hb); have NB102_101 := Aside0.mk (Ne.symm NB101_102.out); clear hb hbox hg; have hnb4 := NB101_102.out; have hnc4 := NB102_101.out; obtain ⟨hcz5_0, hcz5_1, hcz5_2, hcz5_3, hcz5_4, hcz5_5⟩ := sqC BK101.out; obtain ⟨hfz5_0, hfz5_1, hfz5_2, hfz5_3, hfz5_4, hfz5_5⟩ := sqF6 BK101.out; have hcz6_0 : w3.cell? ⟨gb102, 0, none⟩ = some (.int .i8 0) := (blk_cell BK102.out 0).trans rfl; have hcz6_1 : w3.cell? ⟨gb102, 1, none⟩ = some (.int .i8 0) := (blk_cell BK102.out 1).trans rfl; have hcz6_2 : w3.cell? ⟨gb102, 2, none⟩ = some (.int .i8 0) := (blk_cell BK102.out 2).trans rfl; have hcz6_3 : w3.cell? ⟨gb102, 3, none⟩ = some (.int .i8 0) := (blk_cell BK102.out 3).trans rfl; have hcz6_4 : w3.cell? ⟨gb102, 4, none⟩ = some (.int .i8 0) := (blk_cell BK102.out 4).trans rfl; have hcz6_5 : w3.cell? ⟨gb102, 5, none⟩ = some (.int .i8 0) := (blk_cell BK102.out 5).trans rfl; have hcz6_6 : w3.cell? ⟨gb102, 6, none⟩ = some (.bool false) := (blk_cell BK102.out 6).trans rfl; have hcz6_7 : w3.cell? ⟨gb102, 7, none⟩ = some (.int .i64 0) := (blk_cell BK102.out 7).trans rfl; have hcz6_8 : w3.cell? ⟨gb102, 8, none⟩ = some (.int .i64 0) := (blk_cell BK102.out 8).trans rfl; have hcz6_9 : w3.cell? ⟨gb102, 9, none⟩ = some (.slice none 0 0) := (blk_cell BK102.out 9).trans rfl; have hfz6_0 := blk_frozen BK102.out 0; have hfz6_1 := blk_frozen BK102.out 1; have hfz6_2 := blk_frozen BK102.out 2; have hfz6_3 := blk_frozen BK102.out 3; have hfz6_4 := blk_frozen BK102.out 4; have hfz6_5 := blk_frozen BK102.out 5; have hfz6_6 := blk_frozen BK102.out 6; have hfz6_7 := blk_frozen BK102.out 7; have hfz6_8 := blk_frozen BK102.out 8; have hfz6_9 := blk_frozen BK102.out 9))
 refine bodyPost_ret (results_cell_row rfl _ _ gb102 72 #[.int .i8 a0_0, .int .i8 a0_1, .int .i8 a0_2, .int .i8 a0_3, .int .i8 a0_4, .int .i8 a0_5, .bool false, .int .i64 (-1), .int .i64 (-1), .slice none 0 0] (0, 0) _ rfl (by (with_reducible repeat (first | refine blk_drewN ?_ _ | refine blk_drew ?_ | refine blk_alloc ?_ _)); refine blk_put (cs := #[.int .i8 a0_0, .int .i8 a0_1, .int .i8 a0_2, .int .i8 a0_3, .int .i8 a0_4, .int .i8 a0_5, .bool false, .int .i64 (-1), .int .i64 (-1), .slice none 0 0]) ?_ 9 _ rfl; (with_reducible repeat (first | refine blk_drewN ?_ _ | refine blk_drew ?_ | refine blk_alloc ?_ _)); refine blk_put (cs := #[.int .i8 a0_0, .int .i8 a0_1, .int .i8 a0_2, .int .i8 a0_3, .int .i8 a0_4, .int .i8 a0_5, .bool false, .int .i64 (-1), .int .i64 0, .slice none 0 0]) ?_ 8 _ rfl; (with_reducible repeat (first | refine blk_drewN ?_ _ | refine blk_drew ?_ | refine blk_alloc ?_ _)); refine blk_put (cs := #[.int .i8 a0_0, .int .i8 a0_1, .int .i8 a0_2, .int .i8 a0_3, .int .i8 a0_4, .int .i8 a0_5, .bool false, .int .i64 0, .int .i64 0, .slice none 0 0]) ?_ 7 _ rfl; (with_reducible repeat (first | refine blk_drewN ?_ _ | refine blk_drew ?_ | refine blk_alloc ?_ _)); refine blk_put (cs := #[.int .i8 a0_0, .int .i8 a0_1, .int .i8 a0_2, .int .i8 a0_3, .int .i8 a0_4, .int .i8 a0_5, .bool false, .int .i64 0, .int .i64 0, .slice none 0 0]) ?_ 6 _ rfl; (with_reducible repeat (first | refine blk_drewN ?_ _ | refine blk_drew ?_ | refine blk_alloc ?_ _)); refine blk_put (cs := #[.int .i8 a0_0, .int .i8 a0_1, .int .i8 a0_2, .int .i8 a0_3, .int .i8 a0_4, .int .i8 0, .bool false, .int .i64 0, .int .i64 0, .slice none 0 0]) ?_ 5 _ rfl; (with_reducible repeat (first | refine blk_drewN ?_ _ | refine blk_drew ?_ | refine blk_alloc ?_ _)); refine blk_put (cs := #[.int .i8 a0_0, .int .i8 a0_1, .int .i8 a0_2, .int .i8 a0_3, .int .i8 0, .int .i8 0, .bool false, .int .i64 0, .int .i64 0, .slice none 0 0]) ?_ 4 _ rfl; (with_reducible repeat (first | refine blk_drewN ?_ _ | refine blk_drew ?_ | refine blk_alloc ?_ _)); refine blk_put (cs := #[.int .i8 a0_0, .int .i8 a0_1, .int .i8 a0_2, .int .i8 0, .int .i8 0, .int .i8 0, .bool false, .int .i64 0, .int .i64 0, .slice none 0 0]) ?_ 3 _ rfl; (with_reducible repeat (first | refine blk_drewN ?_ _ | refine blk_drew ?_ | refine blk_alloc ?_ _)); refine blk_put (cs := #[.int .i8 a0_0, .int .i8 a0_1, .int .i8 0, .int .i8 0, .int .i8 0, .int .i8 0, .bool false, .int .i64 0, .int .i64 0, .slice none 0 0]) ?_ 2 _ rfl; (with_reducible repeat (first | refine blk_drewN ?_ _ | refine blk_drew ?_ | refine blk_alloc ?_ _)); refine blk_put (cs := #[.int .i8 a0_0, .int .i8 0, .int .i8 0, .int .i8 0, .int .i8 0, .int .i8 0, .bool false, .int .i64 0, .int .i64 0, .slice none 0 0]) ?_ 1 _ rfl; (with_reducible repeat (first | refine blk_drewN ?_ _ | refine blk_drew ?_ | refine blk_alloc ?_ _)); refine blk_put (cs := #[.int .i8 0, .int .i8 0, .int .i8 0, .int .i8 0, .int .i8 0, .int .i8 0, .bool false, .int .i64 0, .int .i64 0, .slice none 0 0]) ?_ 0 _ rfl; (with_reducible repeat (first | refine blk_drewN ?_ _ | refine blk_drew ?_ | refine blk_alloc ?_ _)); exact BK102.out) Try.underlying72 rfl (by kernel_rfl)) rfl ?_
 exact ⟨_, by first | rfl | (simp [errW_none, errW_some] <;> rfl) | (simp [*, errW_none, errW_some] <;> rfl), by first | exact Kd.R_nil _ _ _ _ _ | exact Kd.N_nil _ _ _ _ _ | exact Kd.V_nil _ _ _ _ _ | exact Kd.Q_nil _ _ _ _ _ | exact Kd.S_nil _ _ _ _ _, by repeat (first | (with_reducible first | exact HB.out | apply below_alloc | apply pw_below_drewN | apply below_drew1 | refine below_set ?_ GE101.out | refine below_set ?_ GE102.out) | exact HB.out)⟩
end Go.Proofs.Ytmhmfhdmeedcfaa.G
end
section
namespace Go.Proofs.Ytmhmfhdmeedcfaa.AR
open Go.RowKit Go.Proofs.YtmhmfhdmeedcfaaW.PrintWords
variable {P : Program} {ops : Array Oper} {rest : List Oper} {o : Oper} {a : Act} {Q : Exit → Act → World → Prop}
theorem results_cell {fn : Func} {p : Tmp} {ty : TypeId} (h : fn.results = #[.cell p ty]) {tmps : Array Value} {w : World} {g : Nat} {cs : Array Value} (hp : tmps.getD p undef = .pointer (some ⟨g, 0, none⟩))
  (hl : (loadVar ty ⟨g, 0, none⟩).run P w = .ok (.agg cs) w) : (results fn tmps).run P w = .ok (.agg cs) w := by
 have e : (results fn tmps).run P w = ((asAddr (tmps.getD p undef)).run P w).andThen fun a w₁ => (loadVar ty a).run P w₁ := by
  simp only [results, h]
  simp [Sem.run_bind, Result.andThen]
 rw [e, hp]
 exact hl
def CopyTo (cur : Array Value) (N i : Nat) (src : Array Value) : Prop := cur.size = N ∧ ∀ j, j < i → cur[j]? = src[j]?
theorem CopyTo.zero {cur : Array Value} {N : Nat} {src : Array Value} (h : cur.size = N) : CopyTo cur N 0 src := ⟨h, fun j hj => absurd hj (by omega)⟩
theorem CopyTo.step {cur src : Array Value} {N i m : Nat} {vs : List Value} (h : CopyTo cur N i src) (hm : vs.length = m) (hi : i + m ≤ N) (hv : ∀ j, j < m → vs[j]? = src[i + j]?) :
  CopyTo (cur.toList.take i ++ vs ++ cur.toList.drop (i + m)).toArray N (i + m) src := by
 obtain ⟨h1, h2⟩ := h
 have hl : cur.toList.length = N := by simpa using h1
 refine ⟨by simp [hm]; omega, fun j hj => ?_⟩
 simp only [List.getElem?_toArray]
 by_cases hji : j < i
 ·rw [List.append_assoc, List.getElem?_append_left (by simp; omega), List.getElem?_take_of_lt hji, ← h2 j hji]; simp
 ·rw [List.getElem?_append_left (by simp; omega), List.getElem?_append_right (by simp; omega), show (cur.toList.take i).length = i by simp; omega, hv (j - i) (by omega)]
  congr 1; omega
theorem CopyTo.set {cur src : Array Value} {N i : Nat} {v : Value} (h : CopyTo cur N i src) (hv : src[i]? = some v) (hi : i < N) : CopyTo (cur.setIfInBounds i v) N (i + 1) src := by
 obtain ⟨h1, h2⟩ := h
 refine ⟨by simpa using h1, fun j hj => ?_⟩
 by_cases e : j = i
 ·subst e; rw [hv, Array.getElem?_setIfInBounds_self_of_lt (by omega)]
 ·rw [Array.getElem?_setIfInBounds_ne (Ne.symm e)]; exact h2 j (by omega)
theorem CopyTo.done {cur src : Array Value} {N : Nat} (h : CopyTo cur N N src) (hs : src.size = N) : cur = src := by
 apply Array.ext_getElem?
 intro j
 by_cases hj : j < N
 ·exact h.2 j hj
 ·rw [Array.getElem?_eq_none (by have := h.1; omega), Array.getElem?_eq_none (by omega)]
end Go.Proofs.Ytmhmfhdmeedcfaa.AR
end
section
namespace Go.Proofs.Ytmhmfhdmeedcfaa.G
open Go.RowKit Go.Proofs.YtmhmfhdmeedcfaaW.PrintWords Go.Proofs.YtmhmfhdmeedcfaaW.PrintLast Go.Proofs.YtmhmfhdmeedcfaaW.PrintMore AR M
set_option linter.unusedVariables false
set_option linter.unusedSimpArgs false
theorem hour_same (k : Nat) (x y ch lo dr ki : Int) (ag : Bool) (fi gr : Int) (v v' : Value) (b : Flat 258 .i8) (g : Flat 256 .u8) (f s n : Int) :
  spec_l07Drift_hour.f k x y ch lo dr ki ag fi gr v b g f s n = spec_l07Drift_hour.f k x y ch lo dr ki ag fi gr v' b g f s n := by
 rcases k with _ | _ | _ | _ | k <;> simp only [spec_l07Drift_hour.f, spec_l07Drift_hour.j0, spec_l07Drift_hour.j1, spec_l07Drift_hour.j2, spec_l07Drift_hour.j3]
def allDrift (b : Flat 258 .i8) (g : Flat 256 .u8) : List S78 → Int → Int → Int → Int → Int → Int → Int → Bool → Int → Int → List S42 → Option (Int × Int × Int × Int × Int × Int × Bool × Int × Int × (List S42))
 | [], _, x, y, ch, lo, dr, ki, ag, fi, gr, acc => some (x, y, ch, lo, dr, ki, ag, fi, gr, acc)
 | w :: ws, n, x, y, ch, lo, dr, ki, ag, fi, gr, acc => (spec_l07Drift_hour.f 100 x y ch lo dr ki ag fi gr (.bool false) b g w.f0 w.f1 n).bind fun t => if acc.length < 1000000 then allDrift b g ws (n + 1) t.1 t.2.1 t.2.2.1 t.2.2.2.1 t.2.2.2.2.1 t.2.2.2.2.2.1 t.2.2.2.2.2.2.1 t.2.2.2.2.2.2.2.1 t.2.2.2.2.2.2.2.2 (acc ++ [⟨t.1, t.2.1⟩]) else none
def spec_l07All.f (a0 : O38) (a1 : O40) (a2_0 : Int) (a2_1 : Int) (a2_2 : Int) (a2_3 : Int) (a2_4 : Int) (a2_5 : Int) (l3 : List (S78)) : Option (Int × Int × Int × Int × Int × Int × Bool × Int × Int × (List (S42))) :=
 if l3.length < 1000000 then allDrift a0 a1 l3 0 a2_0 a2_1 a2_2 a2_3 a2_4 a2_5 false (-1) (-1) [] else none
theorem w64 (x : Int) (h0 : 0 ≤ x) (h1 : x < 2000000) : wrap64 x = x := by unfold wrap64; omega
theorem meas {n N : Nat} {x : Int} (h : x = ((n + 1 : Nat) : Int)) (hn : n < N) : N - (intOf (.int .i64 x)).toNat < N - (intOf (.int .i64 (n : Int))).toNat := by subst h; show N - (((n + 1 : Nat) : Int)).toNat < N - ((n : Int)).toNat; omega
theorem sizeD (cs : Array Value) (h : cs.size = 10) : (Try.prog.info? 72).map (·.size) = some cs.size := by rw [h]; kernel_rfl
theorem sizeB (cs : Array Value) (h : cs.size = 6) : (Try.prog.info? 44).map (·.size) = some cs.size := by rw [h]; kernel_rfl
set_option maxHeartbeats 4000000 in
set_option maxRecDepth 100000 in
theorem spec_l07All.calls (gp0 : Nat) (a0 : O38) (gp1 : Nat) (a1 : O40) (a2_0 : Int) (a2_1 : Int) (a2_2 : Int) (a2_3 : Int) (a2_4 : Int) (a2_5 : Int) (A3 : Option Addr) (c3 : Nat) (l3 : List (S78)) (r1 : Int) (r2 : Int) (r3 : Int) (r4 : Int) (r5 : Int) (r6 : Int) (r7 : Bool) (r8 : Int) (r9 : Int) (r10 : List (S42)) (w : World) (hp0 : w.heap[gp0]? = some (.cells (a0).A 38 (0, 0))) (hp1 : w.heap[gp1]? = some (.cells (a1).A 40 (0, 0))) (hr3 : Kd.C k78 w A3 l3.length l3) (hc3 : l3.length ≤ c3) (h : spec_l07All.f a0 a1 a2_0 a2_1 a2_2 a2_3 a2_4 a2_5 l3 = some (r1, r2, r3, r4, r5, r6, r7, r8, r9, r10)) :
  Calls Try.prog 35 #[.pointer (some ⟨gp0, 0, none⟩), .pointer (some ⟨gp1, 0, none⟩), .agg #[.int .i8 a2_0, .int .i8 a2_1, .int .i8 a2_2, .int .i8 a2_3, .int .i8 a2_4, .int .i8 a2_5], .slice A3 l3.length c3] w fun e w' => ∃ v9_ : Value, e = .returned (.agg #[.int .i8 r1, .int .i8 r2, .int .i8 r3, .int .i8 r4, .int .i8 r5, .int .i8 r6, .bool r7, .int .i64 r8, .int .i64 r9, v9_]) ∧ Kd.R k42 42 w' w.heap.size (fun _ => True) v9_ r10 ∧ Below w.heap.size w w' := by
 unfold spec_l07All.f at h
 by_cases hlen : l3.length < 1000000
 case neg => rw [if_neg hlen] at h; cases h
 rw [if_pos hlen] at h
 have HP0 := Aside0.mk hp0
 have HP1 := Aside0.mk hp1
 have HR3 := Aside0.mk hr3
 have HA := Aside0.mk h
 have HLN := Aside0.mk hlen
 clear h hp0 hp1 hr3 hc3 hlen
 go_enter Try.func35, Try.ntmps35
 go_wp2_with (first
  | ((with_reducible refine gate_dst (N := 6) rfl ?_); refine wpList_box_ev rfl 44 _ rfl #[.int .i8 a2_0, .int .i8 a2_1, .int .i8 a2_2, .int .i8 a2_3, .int .i8 a2_4, .int .i8 a2_5] rfl ?_; intro g6 w1 hg hb hb1; have HG6 := Aside0.mk hb; have HB1 := Aside0.mk hb1; clear hb hb1 hg)
  | ((with_reducible refine gate_dst (N := 8) rfl ?_); refine box_event rfl (N := 8) rfl (t := 72) (exec_alloc rfl (Try.zeroValue72 _)) ?_; intro g8 hg w2 ha hb; have HA8 := Aside0.mk (show ∃ z : Array Value, z.size = 10 ∧ w2.heap[g8]? = some (.cells z 72 (0, 0)) from ⟨_, rfl, ha⟩); have HG6a := Aside0.mk (blkB HG6.out hb); have HB2 := Aside0.mk (below_join HB1.out hb); have H8 := Aside0.mk (show w.heap.size ≤ g8 by have := HB1.out.size; omega); clear ha hb hg HG6 HB1)
  | ((with_reducible refine gate_dst (N := 11) rfl ?_); refine Kd.event_run rfl (exec_load_blk rfl rfl HG6a.out Try.underlying44 rfl (sizeB _ rfl)) ?_)
  | (go_at_call 51; refine (spec_l07Begin.calls a2_0 a2_1 a2_2 a2_3 a2_4 a2_5 a2_0 a2_1 a2_2 a2_3 a2_4 a2_5 false (-1) (-1) [] w2 rfl).mono ?_; rintro e w3 ⟨v9, rfl, hv, hb⟩; obtain ⟨A9, c9, e9⟩ := Kd.R_slice hv; subst e9; have HV := Aside0.mk hv; have HB3 := Aside0.mk hb; clear hv hb)
  | ((with_reducible refine gate_dst (N := 9) rfl ?_); refine box_event rfl (N := 9) rfl (t := 72) (exec_alloc rfl (Try.zeroValue72 _)) ?_; intro g9 hg w4 ha hb; have HA9 := Aside0.mk (show ∃ z : Array Value, z.size = 10 ∧ w4.heap[g9]? = some (.cells z 72 (0, 0)) from ⟨_, rfl, ha⟩); have HV4 := Aside0.mk (Kd.R_below HV.out hb); have HB4 := Aside0.mk (below_join HB3.out hb); have H9 := Aside0.mk (show w2.heap.size ≤ g9 by have := HB3.out.size; omega); clear ha hb hg HV HB3)
  | ((with_reducible refine gate_store (t := 72) (p := 9) rfl ?_); obtain ⟨z9, hz9, hc9⟩ := HA9.out; refine store_event (t := 72) (p := 9) rfl rfl rfl (exec_store_row (t2 := 72) (vs := #[.int .i8 a2_0, .int .i8 a2_1, .int .i8 a2_2, .int .i8 a2_3, .int .i8 a2_4, .int .i8 a2_5, .bool false, .int .i64 (-1), .int .i64 (-1), .slice A9 0 c9]) rfl rfl rfl hc9 (by rw [hz9]; simp) (by simp [Value.oneCell']) (sizeD _ rfl)) ?_; intro w5 hw5;
       have HW5 := Aside0.mk hw5; have HC9 := Aside0.mk hc9; have HZ9 := Aside0.mk hz9; clear hw5 hc9 hz9 HA9))
 have HI := Aside0.mk (show IsS72 w2 w5 g9 a2_0 a2_1 a2_2 a2_3 a2_4 a2_5 false (-1) (-1) (.slice A9 0 c9) from ⟨by rw [HW5.out]; exact setRow_whole HC9.out (by rw [HZ9.out]; rfl), H9.out⟩)
 have HO := Aside0.mk (show Kd.R k42 42 w5 w2.heap.size (fun _ => True) (.slice A9 0 c9) [] by rw [HW5.out]; exact Kd.R_mono (Kd.R_step (Kd.R_types HV4.out HC9.out (by decide)) (fun k_ hk_ _ => setRow_other _ _ _ _ hk_.2)) (fun _ _ => trivial))
 have HB := Aside0.mk (show Below w2.heap.size w2 w5 by rw [HW5.out]; exact below_setRow HB4.out H9.out _)
 clear HW5 HC9 HZ9 HV4 HB4
 clear HG6a
 go_loopw [10] (fun i wr => ∃ (n : Nat) (x y ch lo dr ki : Int) (ag : Bool) (fi gr : Int) (v : Value) (acc : List S42), n ≤ l3.length ∧ i = .int .i64 n ∧ Aside0 (allDrift a0 a1 (l3.drop n) n x y ch lo dr ki ag fi gr acc = some (r1, r2, r3, r4, r5, r6, r7, r8, r9, r10)) ∧ Aside0 (IsS72 w2 wr g9 x y ch lo dr ki ag fi gr v) ∧ Aside0 (Kd.R k42 42 wr w2.heap.size (fun _ => True) v acc) ∧ Aside0 (Below w2.heap.size w2 wr)) (fun i _ => l3.length - (intOf i).toNat)
 case atStart => exact ⟨0, _, _, _, _, _, _, _, _, _, _, _, Nat.zero_le _, rfl, HA, HI, HO, HB⟩
 case round =>
  clear HA HI HO HB
  obtain ⟨n, x, y, ch, lo, dr, ki, ag, fi, gr, v, acc, hn, rfl, HA, HI, HO, HB⟩ := hrel
  by_cases hlt : n < l3.length
  ·have i0 : (n : Int) < (l3.length : Int) := by omega
   have i1 : (0 : Int) ≤ (n : Int) := by omega
   have hA := HA.out
   rw [List.drop_eq_getElem_cons hlt] at hA
   simp only [allDrift] at hA
   replace hA := Option.bind_eq_some_iff.mp hA
   obtain ⟨⟨t1, t2, t3, t4, t5, t6, t7, t8, t9⟩, hh, hA⟩ := hA
   by_cases hacc : acc.length < 1000000
   case neg => simp only at hA; rw [if_neg hacc] at hA; cases hA
   simp only at hA
   rw [if_pos hacc, show (n : Int) + 1 = ((n + 1 : Nat) : Int) by omega] at hA
   have HA2 := Aside0.mk hA
   rw [hour_same 100 x y ch lo dr ki ag fi gr (.bool false) v] at hh
   have hrd : rd_T78 l3 (n : Int) = l3[n] := by simp [rd_T78, hlt]
   rw [← hrd] at hh
   have HH := Aside0.mk hh
   have HAC := Aside0.mk hacc
   clear hA hh hrd hacc HA
   have HBw := Aside0.mk (below_join HB2.out HB.out)
   obtain ⟨ad, ea, hx0, hx1⟩ := at_T78 HR3.out (n : Int) i1 i0
   cases ea
   simp only [Int.toNat_natCast] at hx0 hx1
   replace hx0 := (HBw.out.cell (World.block_lt_of_cell? w _ hx0)).trans hx0
   replace hx1 := (HBw.out.cell (World.block_lt_of_cell? w _ hx1)).trans hx1
   go_wp2_with (go_at_call 52; refine (spec_l07Drift_hour.calls 100 g9 x y ch lo dr ki ag fi gr v gp0 a0 gp1 a1 _ _ n t1 t2 t3 t4 t5 t6 t7 t8 t9 acc w2 _ HO.out HAC.out ((HBw.out.block _ (blk_lt HP0.out)).trans HP0.out) ((HBw.out.block _ (blk_lt HP1.out)).trans HP1.out) HI.out HB.out HH.out).mono ?_; rintro e w6 ⟨v2, rfl, hI, hO, hB⟩; have HI2 := Aside0.mk hI; have HO2 := Aside0.mk hO; have HB6 := Aside0.mk hB; clear hI hO hB)
   have hw64 : wrap64 ((n : Int) + 1) = ((n + 1 : Nat) : Int) := (w64 ((n : Int) + 1) (by omega) (by have := HLN.out; omega)).trans (by omega)
   go_roundw
   case rel => exact ⟨n + 1, _, _, _, _, _, _, _, _, _, _, _, by omega, congrArg (Value.int .i64) hw64, HA2, HI2, HO2, HB6⟩
   case measure => exact meas hw64 hlt
  ·have i0 : ¬ (n : Int) < (l3.length : Int) := by omega
   have hA := HA.out
   rw [List.drop_of_length_le (by omega)] at hA
   simp only [allDrift, Option.some.injEq, Prod.mk.injEq] at hA
   obtain ⟨rfl, rfl, rfl, rfl, rfl, rfl, rfl, rfl, rfl, rfl⟩ := hA
   clear HA
   obtain ⟨A9', c9', e9⟩ := Kd.R_slice HO.out
   subst e9
   have HC9 := Aside0.mk HI.out.1
   obtain ⟨z8, hz8, hc8⟩ := HA8.out
   have HC8 := Aside0.mk ((HB.out.block g8 (blk_lt hc8)).trans hc8)
   have HZ8 := Aside0.mk hz8
   clear hz8 hc8
   go_wp2_with (first
    | ((with_reducible refine gate_dst (N := 27) rfl ?_); refine Kd.event_run rfl (exec_load_blk rfl rfl HC9.out Try.underlying72 rfl (sizeD _ rfl)) ?_)
    | ((with_reducible refine gate_store (t := 72) (p := 8) rfl ?_); refine store_event (t := 72) (p := 8) rfl rfl rfl (exec_store_row (t2 := 72) (vs := #[.int .i8 x, .int .i8 y, .int .i8 ch, .int .i8 lo, .int .i8 dr, .int .i8 ki, .bool ag, .int .i64 fi, .int .i64 gr, .slice A9' acc.length c9']) rfl rfl rfl HC8.out (by rw [HZ8.out]; simp) (by simp [Value.oneCell']) (sizeD _ rfl)) ?_; intro ws hws;
           have HRw := Aside0.mk (show ws.heap[g8]? = some (.cells #[.int .i8 x, .int .i8 y, .int .i8 ch, .int .i8 lo, .int .i8 dr, .int .i8 ki, .bool ag, .int .i64 fi, .int .i64 gr, .slice A9' acc.length c9'] 72 (0, 0)) by rw [hws]; exact setRow_whole HC8.out (by rw [HZ8.out]; rfl));
           have HO2 := Aside0.mk (show Kd.R k42 42 ws w.heap.size (fun _ => True) (.slice A9' acc.length c9') acc by rw [hws]; exact Kd.R_lower (Kd.R_mono (Kd.R_step (Kd.R_types HO.out HC8.out (by decide)) (fun k_ hk_ _ => setRow_other _ _ _ _ hk_.2)) (fun _ _ => trivial)) HB2.out.size);
           have HBw := Aside0.mk (show Below w.heap.size w ws by rw [hws]; exact below_setRow (below_join HB2.out HB.out) H8.out _);
           clear hws))
   (try simp only [Exit.inBlock, Exit.then])
   refine bodyPost_ret (results_cell rfl rfl (run_load_blk _ _ _ _ _ HRw.out Try.underlying72 rfl (sizeD _ rfl))) rfl ?_
   exact ⟨_, rfl, HO2.out, HBw.out⟩
end Go.Proofs.Ytmhmfhdmeedcfaa.G
end
section
namespace Go.Proofs.Ytmhmfhdmeedcfaa.G
open Go.RowKit Go.Proofs.YtmhmfhdmeedcfaaW.PrintWords Go.Proofs.YtmhmfhdmeedcfaaW.PrintLast Go.Proofs.YtmhmfhdmeedcfaaW.PrintMore
attribute [local go_sem] max2_int min2_int max_two min_two max_three min_three max_four min_four   -- for this text's walks alone
set_option linter.unusedVariables false
set_option linter.unusedSimpArgs false
attribute [local go_sem high] eqA42
mutual
def spec_HoursAtEach.l0 : Nat → List (S42) → List Int → Int → Int → Int → Int → Int → Int → Int → Bool → Int → Int → List (S42) → Option ((List (S42)) × List Int × Int)
 | 0, _, _, _, _, _, _, _, _, _, _, _, _, _ => none
 | k + 1, x11, x12, x14, x351000, x351001, x351002, x351003, x351004, x351005, x351006, x351007, x351008, x351009 => if x14 < (x351009.length : Int) then (spec_HoursAtEach.l1 k x11 x12 x14 0 x351000 x351001 x351002 x351003 x351004 x351005 x351006 x351007 x351008 x351009) else (some (x11, x12, 0))
def spec_HoursAtEach.l1 : Nat → List (S42) → List Int → Int → Int → Int → Int → Int → Int → Int → Int → Bool → Int → Int → List (S42) → Option ((List (S42)) × List Int × Int)
 | 0, _, _, _, _, _, _, _, _, _, _, _, _, _, _ => none
 | k + 1, x11, x12, x14, x15, x351000, x351001, x351002, x351003, x351004, x351005, x351006, x351007, x351008, x351009 => if x15 < (x11.length : Int) then (if 0 ≤ x15 then (if 0 ≤ x14 then (if x14 < (x351009.length : Int) then (if (!(((rd_T42 x11 x15).f0) == ((rd_T42 x351009 x14).f0)) || (!(((rd_T42 x11 x15).f1) == ((rd_T42 x351009 x14).f1)))) = true then (spec_HoursAtEach.l1 k x11 x12 x14 (wrap64 (x15 + 1)) x351000 x351001 x351002 x351003 x351004 x351005 x351006 x351007 x351008 x351009) else (if x15 = (x11.length : Int) then (if x11.length < 70368744177664 then (if x12.length < 17592186044416 then ((some (x12 ++ [0] : List Int)).bind fun y357 => (if x15 < (y357.length : Int) then (spec_HoursAtEach.l0 k (x11 ++ [(⟨(rd_T42 x351009 x14).f0, (rd_T42 x351009 x14).f1⟩ : S42)]) (y357.set (x15 : Int).toNat (wrap64 ((rd y357 x15) + 1))) (wrap64 (x14 + 1)) x351000 x351001 x351002 x351003 x351004 x351005 x351006 x351007 x351008 x351009) else (none))) else (none)) else (none)) else (if x15 < (x12.length : Int) then (spec_HoursAtEach.l0 k x11 (x12.set (x15 : Int).toNat (wrap64 ((rd x12 x15) + 1))) (wrap64 (x14 + 1)) x351000 x351001 x351002 x351003 x351004 x351005 x351006 x351007 x351008 x351009) else (none)))) else (none)) else (none)) else (none)) else (if x15 = (x11.length : Int) then (if 0 ≤ x14 then (if x14 < (x351009.length : Int) then (if x11.length < 70368744177664 then (if x12.length < 17592186044416 then ((some (x12 ++ [0] : List Int)).bind fun y368 => (if 0 ≤ x15 then (if x15 < (y368.length : Int) then (spec_HoursAtEach.l0 k (x11 ++ [(⟨(rd_T42 x351009 x14).f0, (rd_T42 x351009 x14).f1⟩ : S42)]) (y368.set (x15 : Int).toNat (wrap64 ((rd y368 x15) + 1))) (wrap64 (x14 + 1)) x351000 x351001 x351002 x351003 x351004 x351005 x351006 x351007 x351008 x351009) else (none)) else (none))) else (none)) else (none)) else (none)) else (none)) else (if 0 ≤ x15 then (if x15 < (x12.length : Int) then (spec_HoursAtEach.l0 k x11 (x12.set (x15 : Int).toNat (wrap64 ((rd x12 x15) + 1))) (wrap64 (x14 + 1)) x351000 x351001 x351002 x351003 x351004 x351005 x351006 x351007 x351008 x351009) else (none)) else (none)))
end
def spec_HoursAtEach.f (k : Nat) (a0 : O38) (a1 : O40) (a2_0 : Int) (a2_1 : Int) (a2_2 : Int) (a2_3 : Int) (a2_4 : Int) (a2_5 : Int) (l3 : List (S78)) : Option ((List (S42)) × List Int × Int) := (some (([] : List (S42)) : List (S42))).bind fun y331 => ((some (([] : List Int) : List Int)).bind fun y334 => ((spec_l07Valid.f k a0 a1 a2_0 a2_1 a2_2 a2_3 a2_4 a2_5 l3).bind fun t337 => (if t337 = true then ((spec_l07All.f a0 a1 a2_0 a2_1 a2_2 a2_3 a2_4 a2_5 l3).bind fun bt338 => (spec_HoursAtEach.l0 k y331 y334 0 bt338.1 bt338.2.1 bt338.2.2.1 bt338.2.2.2.1 bt338.2.2.2.2.1 bt338.2.2.2.2.2.1 bt338.2.2.2.2.2.2.1 bt338.2.2.2.2.2.2.2.1 bt338.2.2.2.2.2.2.2.2.1 bt338.2.2.2.2.2.2.2.2.2)) else (some (y331, y334, 1)))))
set_option maxHeartbeats 8000000 in
set_option maxRecDepth 100000 in
theorem spec_HoursAtEach.calls (k : Nat) (a0 : O38) (a1 : O40) (a2_0 : Int) (a2_1 : Int) (a2_2 : Int) (a2_3 : Int) (a2_4 : Int) (a2_5 : Int) (A3 : Option Addr) (c3 : Nat) (l3 : List (S78)) (r1 : List (S42)) (r2 : List Int) (r3 : Int) (w : World) (hr3 : Kd.C k78 w A3 l3.length l3) (hc3 : l3.length ≤ c3) (h : spec_HoursAtEach.f k a0 a1 a2_0 a2_1 a2_2 a2_3 a2_4 a2_5 l3 = some (r1, r2, r3)) :
  Calls Try.prog 24 #[VO38 a0, VO40 a1, .agg #[.int .i8 a2_0, .int .i8 a2_1, .int .i8 a2_2, .int .i8 a2_3, .int .i8 a2_4, .int .i8 a2_5], .slice A3 l3.length c3] w fun e w' => ∃ v0_ v1_ : Value, e = .returned (.tuple #[v0_, v1_, .int .i64 r3]) ∧ Kd.R k42 42 w' w.heap.size (fun _ => True) v0_ r1 ∧ Kd.R (Kd.int .i64) 2 w' w.heap.size (fun _ => True) v1_ r2 ∧ Below w.heap.size w w' := by
 have hu44 := Try.underlying44
 have hu72 := Try.underlying72
 have hu42 := Try.underlying42
 have HR3 := Aside0.mk hr3
 have HC3 := Aside0.mk hc3
 clear hr3 hc3
 have HB := Aside0.mk (Below.refl w.heap.size w)
 have H : ((some (([] : List (S42)) : List (S42))).bind fun y331 => ((some (([] : List Int) : List Int)).bind fun y334 => ((spec_l07Valid.f k a0 a1 a2_0 a2_1 a2_2 a2_3 a2_4 a2_5 l3).bind fun t337 => (if t337 = true then ((spec_l07All.f a0 a1 a2_0 a2_1 a2_2 a2_3 a2_4 a2_5 l3).bind fun bt338 => (spec_HoursAtEach.l0 k y331 y334 0 bt338.1 bt338.2.1 bt338.2.2.1 bt338.2.2.2.1 bt338.2.2.2.2.1 bt338.2.2.2.2.2.1 bt338.2.2.2.2.2.2.1 bt338.2.2.2.2.2.2.2.1 bt338.2.2.2.2.2.2.2.2.1 bt338.2.2.2.2.2.2.2.2.2)) else (some (y331, y334, 1)))))) = some (r1, r2, r3) := h
 clear h
 obtain ⟨y331, hy331⟩ : ∃ y_ : List (S42), y_ = (([] : List (S42))) := ⟨_, rfl⟩
 replace H : ((some (([] : List Int) : List Int)).bind fun y334 => ((spec_l07Valid.f k a0 a1 a2_0 a2_1 a2_2 a2_3 a2_4 a2_5 l3).bind fun t337 => (if t337 = true then ((spec_l07All.f a0 a1 a2_0 a2_1 a2_2 a2_3 a2_4 a2_5 l3).bind fun bt338 => (spec_HoursAtEach.l0 k y331 y334 0 bt338.1 bt338.2.1 bt338.2.2.1 bt338.2.2.2.1 bt338.2.2.2.2.1 bt338.2.2.2.2.2.1 bt338.2.2.2.2.2.2.1 bt338.2.2.2.2.2.2.2.1 bt338.2.2.2.2.2.2.2.2.1 bt338.2.2.2.2.2.2.2.2.2)) else (some (y331, y334, 1))))) = some (r1, r2, r3) := by first | (rw [hy331]; with_reducible exact H) | (have H2_ := (Option.bind_some _ _).symm.trans H; rw [hy331]; with_reducible exact H2_) | (have H2_ := (Option.bind_some _ _).symm.trans H; with_reducible exact H2_) | with_reducible exact H | (rw [hy331]; exact H) | exact H
 have Ny331 := Aside0.mk hy331
 clear hy331
 obtain ⟨y334, hy334⟩ : ∃ y_ : List Int, y_ = (([] : List Int)) := ⟨_, rfl⟩
 replace H : ((spec_l07Valid.f k a0 a1 a2_0 a2_1 a2_2 a2_3 a2_4 a2_5 l3).bind fun t337 => (if t337 = true then ((spec_l07All.f a0 a1 a2_0 a2_1 a2_2 a2_3 a2_4 a2_5 l3).bind fun bt338 => (spec_HoursAtEach.l0 k y331 y334 0 bt338.1 bt338.2.1 bt338.2.2.1 bt338.2.2.2.1 bt338.2.2.2.2.1 bt338.2.2.2.2.2.1 bt338.2.2.2.2.2.2.1 bt338.2.2.2.2.2.2.2.1 bt338.2.2.2.2.2.2.2.2.1 bt338.2.2.2.2.2.2.2.2.2)) else (some (y331, y334, 1)))) = some (r1, r2, r3) := by first | (rw [hy334]; with_reducible exact H) | (have H2_ := (Option.bind_some _ _).symm.trans H; rw [hy334]; with_reducible exact H2_) | (have H2_ := (Option.bind_some _ _).symm.trans H; with_reducible exact H2_) | with_reducible exact H | (rw [hy334]; exact H) | exact H
 have Ny334 := Aside0.mk hy334
 clear hy334
 replace H := Option.bind_eq_some_iff.mp H
 obtain ⟨t337, A50, H⟩ := H
 replace H : (if t337 = true then ((spec_l07All.f a0 a1 a2_0 a2_1 a2_2 a2_3 a2_4 a2_5 l3).bind fun bt338 => (spec_HoursAtEach.l0 k y331 y334 0 bt338.1 bt338.2.1 bt338.2.2.1 bt338.2.2.2.1 bt338.2.2.2.2.1 bt338.2.2.2.2.2.1 bt338.2.2.2.2.2.2.1 bt338.2.2.2.2.2.2.2.1 bt338.2.2.2.2.2.2.2.2.1 bt338.2.2.2.2.2.2.2.2.2)) else (some (y331, y334, 1))) = some (r1, r2, r3) := H
 have A5 := Aside0.mk A50
 clear A50
 by_cases c6 : t337 = true
 ·subst c6
  have H1 : ((spec_l07All.f a0 a1 a2_0 a2_1 a2_2 a2_3 a2_4 a2_5 l3).bind fun bt338 => (spec_HoursAtEach.l0 k y331 y334 0 bt338.1 bt338.2.1 bt338.2.2.1 bt338.2.2.2.1 bt338.2.2.2.2.1 bt338.2.2.2.2.2.1 bt338.2.2.2.2.2.2.1 bt338.2.2.2.2.2.2.2.1 bt338.2.2.2.2.2.2.2.2.1 bt338.2.2.2.2.2.2.2.2.2)) = some (r1, r2, r3) := by rw [if_pos rfl] at H; exact H
  clear H
  have H := H1
  clear H1
  replace H := Option.bind_eq_some_iff.mp H
  obtain ⟨⟨t338, t339, t340, t341, t342, t343, t344, t345, t346, t347⟩, A70, H⟩ := H
  replace H : (spec_HoursAtEach.l0 k y331 y334 0 t338 t339 t340 t341 t342 t343 t344 t345 t346 t347) = some (r1, r2, r3) := H
  have A7 := Aside0.mk A70
  clear A70
  have H' := Aside0.mk H
  clear H
  go_enter Try.func24, Try.ntmps24
  go_wp2_with (first | ((with_reducible refine gate_dst (N := 4) rfl ?_); refine box_event ?hg (N := 4) ?hd (cs := (a0).A) (t := 38) ?hr ?_; (case hd => rfl); (case hg => rfl); (case hr => first | exact AR.run_box_row rfl rfl | (go_simp; done) | (go_simp; rfl)); intro gb328 hg w8 hbox hb; have BK328 := Aside0.mk (hbox); have GW328 := Aside0.mk (sqS HB.out hg); replace HB := Aside0.mk (sqH HB.out hb); have GE328 := GW328; clear hb hbox hg) | ((with_reducible refine gate_dst (N := 5) rfl ?_); refine box_event ?hg (N := 5) ?hd (cs := (a1).A) (t := 40) ?hr ?_; (case hd => rfl); (case hg => rfl); (case hr => first | exact AR.run_box_row rfl rfl | (go_simp; done) | (go_simp; rfl)); intro gb329 hg w9 hbox hb; have BK329 := Aside0.mk (hbox); have GW329 := Aside0.mk (sqS HB.out hg); replace HB := Aside0.mk (sqH HB.out hb); have GE329 := GW329; have NB328_329 := Aside0.mk (sqN BK328.out hg); replace BK328 := Aside0.mk (sqB BK328.out hb); have NB329_328 := Aside0.mk (Ne.symm NB328_329.out); clear hb hbox hg) | ((with_reducible refine gate_dst (N := 6) rfl ?_); refine box_event ?hg (N := 6) ?hd (cs := #[.int .i8 a2_0, .int .i8 a2_1, .int .i8 a2_2, .int .i8 a2_3, .int .i8 a2_4, .int .i8 a2_5]) (t := 44) ?hr ?_; (case hd => rfl); (case hg => rfl); (case hr => first | (go_simp; done) | (go_simp; rfl)); intro gb330 hg w10 hbox hb; have BK330 := Aside0.mk (hbox); have GW330 := Aside0.mk (sqS HB.out hg); replace HB := Aside0.mk (sqH HB.out hb); have GE330 := GW330; have NB328_330 := Aside0.mk (sqN BK328.out hg); replace BK328 := Aside0.mk (sqB BK328.out hb); have NB330_328 := Aside0.mk (Ne.symm NB328_330.out); have NB329_330 := Aside0.mk (sqN BK329.out hg); replace BK329 := Aside0.mk (sqB BK329.out hb); have NB330_329 := Aside0.mk (Ne.symm NB329_330.out); clear hb hbox hg) | ((with_reducible refine gate_dst (N := 16) rfl ?_); refine Kd.R_lit k42 _ 42 ?hg (N := 16) ?hd (xs := ([] : List (S42))) (inner := []) (ok := fun _ => True) (okp := fun _ => True) ?hr ?hp (fun _ hk => hk) trivial (Below.refl _ _) (Nat.le_refl _) (by simp) ?_; (case hd => rfl); (case hg => rfl); (case hr => first | (go_simp; done) | (go_simp; rfl)); (case hp => exact (Reps.none _ _)); intro v332 w11 ho12 hb hg_ hnew_; clear hg_ hnew_; (first | rw [← Ny331.out] at ho12 | (simp only [Int.reduceToNat] at ho12; rw [← Ny331.out] at ho12)); have HO333 := Aside0.mk (Kd.R_lower ho12 (sqW HB.out)); replace BK328 := Aside0.mk (sqB BK328.out hb); replace BK329 := Aside0.mk (sqB BK329.out hb); replace BK330 := Aside0.mk (sqB BK330.out hb); replace HB := Aside0.mk (sqH HB.out hb); clear hb ho12) | ((with_reducible refine gate_dst (N := 17) rfl ?_); refine Kd.R_lit (Kd.int .i64) _ 2 ?hg (N := 17) ?hd (xs := ([] : List Int)) (inner := []) (ok := fun _ => True) (okp := fun _ => True) ?hr ?hp (fun _ hk => hk) trivial (Below.refl _ _) (Nat.le_refl _) (by simp) ?_; (case hd => rfl); (case hg => rfl); (case hr => first | (go_simp; done) | (go_simp; rfl)); (case hp => exact (Reps.none _ _)); intro v335 w13 ho14 hb hg_ hnew_; clear hg_ hnew_; (first | rw [← Ny334.out] at ho14 | (simp only [Int.reduceToNat] at ho14; rw [← Ny334.out] at ho14)); replace HO333 := Aside0.mk (sqR HO333.out hb); have HO336 := Aside0.mk (Kd.R_lower ho14 (sqW HB.out)); replace BK328 := Aside0.mk (sqB BK328.out hb); replace BK329 := Aside0.mk (sqB BK329.out hb); replace BK330 := Aside0.mk (sqB BK330.out hb); replace HB := Aside0.mk (sqH HB.out hb); clear hb ho14; have hnb15 := NB330_328.out; have hnc15 := NB328_330.out; have hnb16 := NB330_329.out; have hnc16 := NB329_330.out; obtain ⟨hcz17_0, hcz17_1, hcz17_2, hcz17_3, hcz17_4, hcz17_5⟩ := sqC BK330.out; obtain ⟨hfz17_0, hfz17_1, hfz17_2, hfz17_3, hfz17_4, hfz17_5⟩ := sqF6 BK330.out) | (go_at_call 34; (with_reducible refine (spec_l07Valid.calls k gb328 a0 gb329 a1 a2_0 a2_1 a2_2 a2_3 a2_4 a2_5 _ _ l3 true _ ?side1 ?side2 ?side3 ?side4 A5.out).mono ?_); (case side1 => (with_reducible repeat (first | refine blk_drewN ?_ _ | refine blk_drew ?_ | refine blk_alloc ?_ _)); exact BK328.out); (case side2 => (with_reducible repeat (first | refine blk_drewN ?_ _ | refine blk_drew ?_ | refine blk_alloc ?_ _)); exact BK329.out); (case side3 => repeat (first | exact (Kd.C_below HR3.out HB.out) | (with_reducible refine Kd.C_alloc ?_ _) | (with_reducible refine Kd.C_drewN ?_ _) | (with_reducible refine Kd.C_drew ?_))); (case side4 => exact HC3.out); rintro e w18 ⟨rfl, hb⟩; replace HO333 := Aside0.mk (sqR HO333.out hb); replace HO336 := Aside0.mk (sqR HO336.out hb); replace BK328 := Aside0.mk (sqB BK328.out hb); replace BK329 := Aside0.mk (sqB BK329.out hb); replace BK330 := Aside0.mk (sqB BK330.out hb); replace HB := Aside0.mk (sqH HB.out hb); (try clear hb); (try clear hb2); (try clear hk); (try clear hi); obtain ⟨hcz19_0, hcz19_1, hcz19_2, hcz19_3, hcz19_4, hcz19_5⟩ := sqC BK330.out; obtain ⟨hfz19_0, hfz19_1, hfz19_2, hfz19_3, hfz19_4, hfz19_5⟩ := sqF6 BK330.out) | (go_at_call 35; (with_reducible refine (spec_l07All.calls gb328 a0 gb329 a1 a2_0 a2_1 a2_2 a2_3 a2_4 a2_5 _ _ l3 t338 t339 t340 t341 t342 t343 t344 t345 t346 t347 _ ?side1 ?side2 ?side3 ?side4 A7.out).mono ?_); (case side1 => (with_reducible repeat (first | refine blk_drewN ?_ _ | refine blk_drew ?_ | refine blk_alloc ?_ _)); exact BK328.out); (case side2 => (with_reducible repeat (first | refine blk_drewN ?_ _ | refine blk_drew ?_ | refine blk_alloc ?_ _)); exact BK329.out); (case side3 => repeat (first | exact (Kd.C_below HR3.out HB.out) | (with_reducible refine Kd.C_alloc ?_ _) | (with_reducible refine Kd.C_drewN ?_ _) | (with_reducible refine Kd.C_drew ?_))); (case side4 => exact HC3.out); rintro e w20 ⟨v348, rfl, ho0, hb⟩; replace HO336 := Aside0.mk (sqR HO336.out hb); have HO349 := Aside0.mk (Kd.R_lower (Kd.R_new' ho0 (Kd.R_lt (by (with_reducible repeat (first | apply Kd.R_alloc | apply Kd.R_drewN | apply Kd.R_drew)); exact HO333.out))) (sqW HB.out)); replace HO333 := Aside0.mk (Kd.R_elder' (by (with_reducible repeat (first | apply Kd.R_alloc | apply Kd.R_drewN | apply Kd.R_drew)); exact HO333.out) (Kd.R_base ho0) hb); replace BK328 := Aside0.mk (sqB BK328.out hb); replace BK329 := Aside0.mk (sqB BK329.out hb); replace BK330 := Aside0.mk (sqB BK330.out hb); replace HB := Aside0.mk (sqH HB.out hb); (try clear hb); (try clear hb2); (try clear hk); (try clear hi); (try clear ho0)) | ((with_reducible refine gate_dst (N := 13) rfl ?_); refine box_event ?hg (N := 13) ?hd (cs := #[.int .i8 0, .int .i8 0, .int .i8 0, .int .i8 0, .int .i8 0, .int .i8 0, .bool false, .int .i64 0, .int .i64 0, .slice none 0 0]) (t := 72) ?hr ?_; (case hd => rfl); (case hg => rfl); (case hr => first | (go_simp; done) | (go_simp; rfl)); intro gb350 hg w21 hbox hb; replace HO333 := Aside0.mk (sqR HO333.out hb); replace HO336 := Aside0.mk (sqR HO336.out hb); replace HO349 := Aside0.mk (sqR HO349.out hb); have BK350 := Aside0.mk (hbox); have GW350 := Aside0.mk (sqS HB.out hg); replace HB := Aside0.mk (sqH HB.out hb); have GE350 := GW350; have NB328_350 := Aside0.mk (sqN BK328.out hg); replace BK328 := Aside0.mk (sqB BK328.out hb); have NB350_328 := Aside0.mk (Ne.symm NB328_350.out); have NB329_350 := Aside0.mk (sqN BK329.out hg); replace BK329 := Aside0.mk (sqB BK329.out hb); have NB350_329 := Aside0.mk (Ne.symm NB329_350.out); have NB330_350 := Aside0.mk (sqN BK330.out hg); replace BK330 := Aside0.mk (sqB BK330.out hb); have NB350_330 := Aside0.mk (Ne.symm NB330_350.out); clear hb hbox hg; have hnb22 := NB350_328.out; have hnc22 := NB328_350.out; have hnb23 := NB350_329.out; have hnc23 := NB329_350.out; have hnb24 := NB350_330.out; have hnc24 := NB330_350.out; have hcz25_0 : w21.cell? ⟨gb350, 0, none⟩ = some (.int .i8 0) := (blk_cell BK350.out 0).trans rfl; have hcz25_1 : w21.cell? ⟨gb350, 1, none⟩ = some (.int .i8 0) := (blk_cell BK350.out 1).trans rfl; have hcz25_2 : w21.cell? ⟨gb350, 2, none⟩ = some (.int .i8 0) := (blk_cell BK350.out 2).trans rfl; have hcz25_3 : w21.cell? ⟨gb350, 3, none⟩ = some (.int .i8 0) := (blk_cell BK350.out 3).trans rfl; have hcz25_4 : w21.cell? ⟨gb350, 4, none⟩ = some (.int .i8 0) := (blk_cell BK350.out 4).trans rfl; have hcz25_5 : w21.cell? ⟨gb350, 5, none⟩ = some (.int .i8 0) := (blk_cell BK350.out 5).trans rfl; have hcz25_6 : w21.cell? ⟨gb350, 6, none⟩ = some (.bool false) := (blk_cell BK350.out 6).trans rfl; have hcz25_7 : w21.cell? ⟨gb350, 7, none⟩ = some (.int .i64 0) := (blk_cell BK350.out 7).trans rfl; have hcz25_8 : w21.cell? ⟨gb350, 8, none⟩ = some (.int .i64 0) := (blk_cell BK350.out 8).trans rfl; have hcz25_9 : w21.cell? ⟨gb350, 9, none⟩ = some (.slice none 0 0) := (blk_cell BK350.out 9).trans rfl; have hfz25_0 := blk_frozen BK350.out 0; have hfz25_1 := blk_frozen BK350.out 1; have hfz25_2 := blk_frozen BK350.out 2; have hfz25_3 := blk_frozen BK350.out 3; have hfz25_4 := blk_frozen BK350.out 4; have hfz25_5 := blk_frozen BK350.out 5; have hfz25_6 := blk_frozen BK350.out 6; have hfz25_7 := blk_frozen BK350.out 7; have hfz25_8 := blk_frozen BK350.out 8; have hfz25_9 := blk_frozen BK350.out 9; obtain ⟨Ao26, co26, eo26⟩ := Kd.R_slice HO349.out; subst eo26))
  repeat (go_quiet (fail); try go_wp2)
  go_loopg [11, 12, 14] k (fun kq v11 v12 v14 w' => ∃ (x11_1 : List (S42)) (x12_1 : List Int) (x14_1 : Int), v14 = .int .i64 x14_1 ∧ Aside0 (spec_HoursAtEach.l0 kq x11_1 x12_1 x14_1 t338 t339 t340 t341 t342 t343 t344 t345 t346 t347 = some (r1, r2, r3)) ∧ Aside0 (kq ≤ k) ∧ Aside0 (Kd.R k42 42 w' w.heap.size (fun k_ => some k_ ≠ ((.slice Ao26 t347.length co26) : Value).ownBlock) v11 x11_1) ∧ Aside0 (Kd.R (Kd.int .i64) 2 w' w.heap.size (fun _ => True) v12 x12_1) ∧ Aside0 (Kd.R k42 42 w' w.heap.size (fun k_ => some k_ ≠ (v11 : Value).ownBlock) (.slice Ao26 t347.length co26) t347) ∧ Aside0 (w'.heap[gb328]? = some (.cells (a0).A 38 (0, 0))) ∧ Aside0 (w'.heap[gb329]? = some (.cells (a1).A 40 (0, 0))) ∧ Aside0 (w'.heap[gb330]? = some (.cells #[.int .i8 a2_0, .int .i8 a2_1, .int .i8 a2_2, .int .i8 a2_3, .int .i8 a2_4, .int .i8 a2_5] 44 (0, 0))) ∧ Aside0 (w'.heap[gb350]? = some (.cells #[.int .i8 t338, .int .i8 t339, .int .i8 t340, .int .i8 t341, .int .i8 t342, .int .i8 t343, .bool t344, .int .i64 t345, .int .i64 t346, (.slice Ao26 t347.length co26)] 72 (0, 0))) ∧ Aside0 (Below w.heap.size w w'))
  case atStart => exact ⟨(y331), (y334), (0), (by first | rfl | (simp; done) | (simp [*]; done)), H', ⟨Nat.le_refl _⟩, ⟨by (with_reducible repeat (first | apply Kd.R_alloc | apply Kd.R_drewN | apply Kd.R_drew)); exact Kd.R_mono (Kd.R_far (p := ⟨gb350, 9, none⟩) (Kd.R_far (p := ⟨gb350, 8, none⟩) (Kd.R_far (p := ⟨gb350, 7, none⟩) (Kd.R_far (p := ⟨gb350, 6, none⟩) (Kd.R_far (p := ⟨gb350, 5, none⟩) (Kd.R_far (p := ⟨gb350, 4, none⟩) (Kd.R_far (p := ⟨gb350, 3, none⟩) (Kd.R_far (p := ⟨gb350, 2, none⟩) (Kd.R_far (p := ⟨gb350, 1, none⟩) (Kd.R_far (p := ⟨gb350, 0, none⟩) (Kd.R_types HO333.out BK350.out (by decide)) (fun _ hk => hk.2) (.int .i8 t338)) (fun _ hk => hk.2) (.int .i8 t339)) (fun _ hk => hk.2) (.int .i8 t340)) (fun _ hk => hk.2) (.int .i8 t341)) (fun _ hk => hk.2) (.int .i8 t342)) (fun _ hk => hk.2) (.int .i8 t343)) (fun _ hk => hk.2) (.bool t344)) (fun _ hk => hk.2) (.int .i64 t345)) (fun _ hk => hk.2) (.int .i64 t346)) (fun _ hk => hk.2) (.slice Ao26 t347.length co26)) (fun _ hk => hk.1.2)⟩, ⟨by (with_reducible repeat (first | apply Kd.R_alloc | apply Kd.R_drewN | apply Kd.R_drew)); exact Kd.R_mono (Kd.R_far (p := ⟨gb350, 9, none⟩) (Kd.R_far (p := ⟨gb350, 8, none⟩) (Kd.R_far (p := ⟨gb350, 7, none⟩) (Kd.R_far (p := ⟨gb350, 6, none⟩) (Kd.R_far (p := ⟨gb350, 5, none⟩) (Kd.R_far (p := ⟨gb350, 4, none⟩) (Kd.R_far (p := ⟨gb350, 3, none⟩) (Kd.R_far (p := ⟨gb350, 2, none⟩) (Kd.R_far (p := ⟨gb350, 1, none⟩) (Kd.R_far (p := ⟨gb350, 0, none⟩) (Kd.R_types HO336.out BK350.out (by decide)) (fun _ hk => hk.2) (.int .i8 t338)) (fun _ hk => hk.2) (.int .i8 t339)) (fun _ hk => hk.2) (.int .i8 t340)) (fun _ hk => hk.2) (.int .i8 t341)) (fun _ hk => hk.2) (.int .i8 t342)) (fun _ hk => hk.2) (.int .i8 t343)) (fun _ hk => hk.2) (.bool t344)) (fun _ hk => hk.2) (.int .i64 t345)) (fun _ hk => hk.2) (.int .i64 t346)) (fun _ hk => hk.2) (.slice Ao26 t347.length co26)) (fun _ hk => trivial)⟩, ⟨by (with_reducible repeat (first | apply Kd.R_alloc | apply Kd.R_drewN | apply Kd.R_drew)); exact Kd.R_mono (Kd.R_far (p := ⟨gb350, 9, none⟩) (Kd.R_far (p := ⟨gb350, 8, none⟩) (Kd.R_far (p := ⟨gb350, 7, none⟩) (Kd.R_far (p := ⟨gb350, 6, none⟩) (Kd.R_far (p := ⟨gb350, 5, none⟩) (Kd.R_far (p := ⟨gb350, 4, none⟩) (Kd.R_far (p := ⟨gb350, 3, none⟩) (Kd.R_far (p := ⟨gb350, 2, none⟩) (Kd.R_far (p := ⟨gb350, 1, none⟩) (Kd.R_far (p := ⟨gb350, 0, none⟩) (Kd.R_types HO349.out BK350.out (by decide)) (fun _ hk => hk.2) (.int .i8 t338)) (fun _ hk => hk.2) (.int .i8 t339)) (fun _ hk => hk.2) (.int .i8 t340)) (fun _ hk => hk.2) (.int .i8 t341)) (fun _ hk => hk.2) (.int .i8 t342)) (fun _ hk => hk.2) (.int .i8 t343)) (fun _ hk => hk.2) (.bool t344)) (fun _ hk => hk.2) (.int .i64 t345)) (fun _ hk => hk.2) (.int .i64 t346)) (fun _ hk => hk.2) (.slice Ao26 t347.length co26)) (fun _ hk => hk.1.2)⟩, ⟨by (with_reducible repeat (first | refine blk_drewN ?_ _ | refine blk_drew ?_ | refine blk_alloc ?_ _)); refine blk_far ?_ NB328_350.out _; (with_reducible repeat (first | refine blk_drewN ?_ _ | refine blk_drew ?_ | refine blk_alloc ?_ _)); refine blk_far ?_ NB328_350.out _; (with_reducible repeat (first | refine blk_drewN ?_ _ | refine blk_drew ?_ | refine blk_alloc ?_ _)); refine blk_far ?_ NB328_350.out _; (with_reducible repeat (first | refine blk_drewN ?_ _ | refine blk_drew ?_ | refine blk_alloc ?_ _)); refine blk_far ?_ NB328_350.out _; (with_reducible repeat (first | refine blk_drewN ?_ _ | refine blk_drew ?_ | refine blk_alloc ?_ _)); refine blk_far ?_ NB328_350.out _; (with_reducible repeat (first | refine blk_drewN ?_ _ | refine blk_drew ?_ | refine blk_alloc ?_ _)); refine blk_far ?_ NB328_350.out _; (with_reducible repeat (first | refine blk_drewN ?_ _ | refine blk_drew ?_ | refine blk_alloc ?_ _)); refine blk_far ?_ NB328_350.out _; (with_reducible repeat (first | refine blk_drewN ?_ _ | refine blk_drew ?_ | refine blk_alloc ?_ _)); refine blk_far ?_ NB328_350.out _; (with_reducible repeat (first | refine blk_drewN ?_ _ | refine blk_drew ?_ | refine blk_alloc ?_ _)); refine blk_far ?_ NB328_350.out _; (with_reducible repeat (first | refine blk_drewN ?_ _ | refine blk_drew ?_ | refine blk_alloc ?_ _)); refine blk_far ?_ NB328_350.out _; (with_reducible repeat (first | refine blk_drewN ?_ _ | refine blk_drew ?_ | refine blk_alloc ?_ _)); exact BK328.out⟩, ⟨by (with_reducible repeat (first | refine blk_drewN ?_ _ | refine blk_drew ?_ | refine blk_alloc ?_ _)); refine blk_far ?_ NB329_350.out _; (with_reducible repeat (first | refine blk_drewN ?_ _ | refine blk_drew ?_ | refine blk_alloc ?_ _)); refine blk_far ?_ NB329_350.out _; (with_reducible repeat (first | refine blk_drewN ?_ _ | refine blk_drew ?_ | refine blk_alloc ?_ _)); refine blk_far ?_ NB329_350.out _; (with_reducible repeat (first | refine blk_drewN ?_ _ | refine blk_drew ?_ | refine blk_alloc ?_ _)); refine blk_far ?_ NB329_350.out _; (with_reducible repeat (first | refine blk_drewN ?_ _ | refine blk_drew ?_ | refine blk_alloc ?_ _)); refine blk_far ?_ NB329_350.out _; (with_reducible repeat (first | refine blk_drewN ?_ _ | refine blk_drew ?_ | refine blk_alloc ?_ _)); refine blk_far ?_ NB329_350.out _; (with_reducible repeat (first | refine blk_drewN ?_ _ | refine blk_drew ?_ | refine blk_alloc ?_ _)); refine blk_far ?_ NB329_350.out _; (with_reducible repeat (first | refine blk_drewN ?_ _ | refine blk_drew ?_ | refine blk_alloc ?_ _)); refine blk_far ?_ NB329_350.out _; (with_reducible repeat (first | refine blk_drewN ?_ _ | refine blk_drew ?_ | refine blk_alloc ?_ _)); refine blk_far ?_ NB329_350.out _; (with_reducible repeat (first | refine blk_drewN ?_ _ | refine blk_drew ?_ | refine blk_alloc ?_ _)); refine blk_far ?_ NB329_350.out _; (with_reducible repeat (first | refine blk_drewN ?_ _ | refine blk_drew ?_ | refine blk_alloc ?_ _)); exact BK329.out⟩, ⟨by (with_reducible repeat (first | refine blk_drewN ?_ _ | refine blk_drew ?_ | refine blk_alloc ?_ _)); refine blk_far ?_ NB330_350.out _; (with_reducible repeat (first | refine blk_drewN ?_ _ | refine blk_drew ?_ | refine blk_alloc ?_ _)); refine blk_far ?_ NB330_350.out _; (with_reducible repeat (first | refine blk_drewN ?_ _ | refine blk_drew ?_ | refine blk_alloc ?_ _)); refine blk_far ?_ NB330_350.out _; (with_reducible repeat (first | refine blk_drewN ?_ _ | refine blk_drew ?_ | refine blk_alloc ?_ _)); refine blk_far ?_ NB330_350.out _; (with_reducible repeat (first | refine blk_drewN ?_ _ | refine blk_drew ?_ | refine blk_alloc ?_ _)); refine blk_far ?_ NB330_350.out _; (with_reducible repeat (first | refine blk_drewN ?_ _ | refine blk_drew ?_ | refine blk_alloc ?_ _)); refine blk_far ?_ NB330_350.out _; (with_reducible repeat (first | refine blk_drewN ?_ _ | refine blk_drew ?_ | refine blk_alloc ?_ _)); refine blk_far ?_ NB330_350.out _; (with_reducible repeat (first | refine blk_drewN ?_ _ | refine blk_drew ?_ | refine blk_alloc ?_ _)); refine blk_far ?_ NB330_350.out _; (with_reducible repeat (first | refine blk_drewN ?_ _ | refine blk_drew ?_ | refine blk_alloc ?_ _)); refine blk_far ?_ NB330_350.out _; (with_reducible repeat (first | refine blk_drewN ?_ _ | refine blk_drew ?_ | refine blk_alloc ?_ _)); refine blk_far ?_ NB330_350.out _; (with_reducible repeat (first | refine blk_drewN ?_ _ | refine blk_drew ?_ | refine blk_alloc ?_ _)); exact BK330.out⟩, ⟨by (with_reducible repeat (first | refine blk_drewN ?_ _ | refine blk_drew ?_ | refine blk_alloc ?_ _)); refine blk_put (cs := #[.int .i8 t338, .int .i8 t339, .int .i8 t340, .int .i8 t341, .int .i8 t342, .int .i8 t343, .bool t344, .int .i64 t345, .int .i64 t346, .slice none 0 0]) ?_ 9 _ rfl; (with_reducible repeat (first | refine blk_drewN ?_ _ | refine blk_drew ?_ | refine blk_alloc ?_ _)); refine blk_put (cs := #[.int .i8 t338, .int .i8 t339, .int .i8 t340, .int .i8 t341, .int .i8 t342, .int .i8 t343, .bool t344, .int .i64 t345, .int .i64 0, .slice none 0 0]) ?_ 8 _ rfl; (with_reducible repeat (first | refine blk_drewN ?_ _ | refine blk_drew ?_ | refine blk_alloc ?_ _)); refine blk_put (cs := #[.int .i8 t338, .int .i8 t339, .int .i8 t340, .int .i8 t341, .int .i8 t342, .int .i8 t343, .bool t344, .int .i64 0, .int .i64 0, .slice none 0 0]) ?_ 7 _ rfl; (with_reducible repeat (first | refine blk_drewN ?_ _ | refine blk_drew ?_ | refine blk_alloc ?_ _)); refine blk_put (cs := #[.int .i8 t338, .int .i8 t339, .int .i8 t340, .int .i8 t341, .int .i8 t342, .int .i8 t343, .bool false, .int .i64 0, .int .i64 0, .slice none 0 0]) ?_ 6 _ rfl; (with_reducible repeat (first | refine blk_drewN ?_ _ | refine blk_drew ?_ | refine blk_alloc ?_ _)); refine blk_put (cs := #[.int .i8 t338, .int .i8 t339, .int .i8 t340, .int .i8 t341, .int .i8 t342, .int .i8 0, .bool false, .int .i64 0, .int .i64 0, .slice none 0 0]) ?_ 5 _ rfl; (with_reducible repeat (first | refine blk_drewN ?_ _ | refine blk_drew ?_ | refine blk_alloc ?_ _)); refine blk_put (cs := #[.int .i8 t338, .int .i8 t339, .int .i8 t340, .int .i8 t341, .int .i8 0, .int .i8 0, .bool false, .int .i64 0, .int .i64 0, .slice none 0 0]) ?_ 4 _ rfl; (with_reducible repeat (first | refine blk_drewN ?_ _ | refine blk_drew ?_ | refine blk_alloc ?_ _)); refine blk_put (cs := #[.int .i8 t338, .int .i8 t339, .int .i8 t340, .int .i8 0, .int .i8 0, .int .i8 0, .bool false, .int .i64 0, .int .i64 0, .slice none 0 0]) ?_ 3 _ rfl; (with_reducible repeat (first | refine blk_drewN ?_ _ | refine blk_drew ?_ | refine blk_alloc ?_ _)); refine blk_put (cs := #[.int .i8 t338, .int .i8 t339, .int .i8 0, .int .i8 0, .int .i8 0, .int .i8 0, .bool false, .int .i64 0, .int .i64 0, .slice none 0 0]) ?_ 2 _ rfl; (with_reducible repeat (first | refine blk_drewN ?_ _ | refine blk_drew ?_ | refine blk_alloc ?_ _)); refine blk_put (cs := #[.int .i8 t338, .int .i8 0, .int .i8 0, .int .i8 0, .int .i8 0, .int .i8 0, .bool false, .int .i64 0, .int .i64 0, .slice none 0 0]) ?_ 1 _ rfl; (with_reducible repeat (first | refine blk_drewN ?_ _ | refine blk_drew ?_ | refine blk_alloc ?_ _)); refine blk_put (cs := #[.int .i8 0, .int .i8 0, .int .i8 0, .int .i8 0, .int .i8 0, .int .i8 0, .bool false, .int .i64 0, .int .i64 0, .slice none 0 0]) ?_ 0 _ rfl; (with_reducible repeat (first | refine blk_drewN ?_ _ | refine blk_drew ?_ | refine blk_alloc ?_ _)); exact BK350.out⟩, ⟨by repeat (first | (with_reducible first | exact HB.out | apply below_alloc | apply pw_below_drewN | apply below_drew1 | refine below_set ?_ GE328.out | refine below_set ?_ GE329.out | refine below_set ?_ GE330.out | refine below_set ?_ GE350.out) | exact HB.out)⟩⟩
  case round =>
   clear H'
   try clear c1
   try clear c2
   try clear p2
   try clear c3
   try clear c6
   try clear c15
   try clear c16
   try clear c22
   try clear c23
   try clear c24
   try clear hcz17_0
   try clear hcz17_1
   try clear hcz17_2
   try clear hcz17_3
   try clear hcz17_4
   try clear hcz17_5
   try clear hcz19_0
   try clear hcz19_1
   try clear hcz19_2
   try clear hcz19_3
   try clear hcz19_4
   try clear hcz19_5
   try clear hcz25_0
   try clear hcz25_1
   try clear hcz25_2
   try clear hcz25_3
   try clear hcz25_4
   try clear hcz25_5
   try clear hcz25_6
   try clear hcz25_7
   try clear hcz25_8
   try clear hcz25_9
   try clear hfz17_0
   try clear hfz17_1
   try clear hfz17_2
   try clear hfz17_3
   try clear hfz17_4
   try clear hfz17_5
   try clear hfz19_0
   try clear hfz19_1
   try clear hfz19_2
   try clear hfz19_3
   try clear hfz19_4
   try clear hfz19_5
   try clear hfz25_0
   try clear hfz25_1
   try clear hfz25_2
   try clear hfz25_3
   try clear hfz25_4
   try clear hfz25_5
   try clear hfz25_6
   try clear hfz25_7
   try clear hfz25_8
   try clear hfz25_9
   obtain ⟨x11_1, x12_1, x14_1, rfl, HA, HK1, HO_11, HO_12, HO_351009, BK328, BK329, BK330, BK350, HB⟩ := hrel
   cases gk with
   | zero => exact absurd HA.out (by simp [spec_HoursAtEach.l0])
   | succ k1 =>
    have H := HA.out
    clear HA
    simp only [spec_HoursAtEach.l0] at H
    by_cases c27 : x14_1 < (t347.length : Int)
    ·rw [if_pos c27] at H
     have c27b0 : decide (x14_1 < (t347.length : Int)) = true := decide_eq_true c27
     clear c27
     have H' := Aside0.mk H
     clear H
     have hnb28 := NB350_328.out
     have hnc28 := NB328_350.out
     have hnb29 := NB350_329.out
     have hnc29 := NB329_350.out
     have hnb30 := NB350_330.out
     have hnc30 := NB330_350.out
     have hcz31_0 : wr.cell? ⟨gb350, 0, none⟩ = some (.int .i8 t338) := (blk_cell BK350.out 0).trans rfl
     have hcz31_1 : wr.cell? ⟨gb350, 1, none⟩ = some (.int .i8 t339) := (blk_cell BK350.out 1).trans rfl
     have hcz31_2 : wr.cell? ⟨gb350, 2, none⟩ = some (.int .i8 t340) := (blk_cell BK350.out 2).trans rfl
     have hcz31_3 : wr.cell? ⟨gb350, 3, none⟩ = some (.int .i8 t341) := (blk_cell BK350.out 3).trans rfl
     have hcz31_4 : wr.cell? ⟨gb350, 4, none⟩ = some (.int .i8 t342) := (blk_cell BK350.out 4).trans rfl
     have hcz31_5 : wr.cell? ⟨gb350, 5, none⟩ = some (.int .i8 t343) := (blk_cell BK350.out 5).trans rfl
     have hcz31_6 : wr.cell? ⟨gb350, 6, none⟩ = some (.bool t344) := (blk_cell BK350.out 6).trans rfl
     have hcz31_7 : wr.cell? ⟨gb350, 7, none⟩ = some (.int .i64 t345) := (blk_cell BK350.out 7).trans rfl
     have hcz31_8 : wr.cell? ⟨gb350, 8, none⟩ = some (.int .i64 t346) := (blk_cell BK350.out 8).trans rfl
     have hcz31_9 : wr.cell? ⟨gb350, 9, none⟩ = some (.slice Ao26 t347.length co26) := (blk_cell BK350.out 9).trans rfl
     have hfz31_0 := blk_frozen BK350.out 0
     have hfz31_1 := blk_frozen BK350.out 1
     have hfz31_2 := blk_frozen BK350.out 2
     have hfz31_3 := blk_frozen BK350.out 3
     have hfz31_4 := blk_frozen BK350.out 4
     have hfz31_5 := blk_frozen BK350.out 5
     have hfz31_6 := blk_frozen BK350.out 6
     have hfz31_7 := blk_frozen BK350.out 7
     have hfz31_8 := blk_frozen BK350.out 8
     have hfz31_9 := blk_frozen BK350.out 9
     go_wp2
     repeat (go_quiet (fail); try go_wp2)
     go_loopg [15] k1 (fun kq v15 w' => ∃ (x15_2 : Int), v15 = .int .i64 x15_2 ∧ Aside0 (spec_HoursAtEach.l1 kq x11_1 x12_1 x14_1 x15_2 t338 t339 t340 t341 t342 t343 t344 t345 t346 t347 = some (r1, r2, r3)) ∧ Aside0 (kq ≤ k1) ∧ Aside0 (Kd.R k42 42 w' w.heap.size (fun k_ => some k_ ≠ ((.slice Ao26 t347.length co26) : Value).ownBlock) u11 x11_1) ∧ Aside0 (Kd.R (Kd.int .i64) 2 w' w.heap.size (fun _ => True) u12 x12_1) ∧ Aside0 (Kd.R k42 42 w' w.heap.size (fun k_ => some k_ ≠ (u11 : Value).ownBlock) (.slice Ao26 t347.length co26) t347) ∧ Aside0 (w'.heap[gb328]? = some (.cells (a0).A 38 (0, 0))) ∧ Aside0 (w'.heap[gb329]? = some (.cells (a1).A 40 (0, 0))) ∧ Aside0 (w'.heap[gb330]? = some (.cells #[.int .i8 a2_0, .int .i8 a2_1, .int .i8 a2_2, .int .i8 a2_3, .int .i8 a2_4, .int .i8 a2_5] 44 (0, 0))) ∧ Aside0 (w'.heap[gb350]? = some (.cells #[.int .i8 t338, .int .i8 t339, .int .i8 t340, .int .i8 t341, .int .i8 t342, .int .i8 t343, .bool t344, .int .i64 t345, .int .i64 t346, (.slice Ao26 t347.length co26)] 72 (0, 0))) ∧ Aside0 (Below w.heap.size w w'))
     case atStart => exact ⟨(0), (by first | rfl | (simp; done) | (simp [*]; done)), H', ⟨Nat.le_refl _⟩, ⟨by (with_reducible repeat (first | apply Kd.R_alloc | apply Kd.R_drewN | apply Kd.R_drew)); exact HO_11.out⟩, ⟨by (with_reducible repeat (first | apply Kd.R_alloc | apply Kd.R_drewN | apply Kd.R_drew)); exact HO_12.out⟩, ⟨by (with_reducible repeat (first | apply Kd.R_alloc | apply Kd.R_drewN | apply Kd.R_drew)); exact HO_351009.out⟩, ⟨by (with_reducible repeat (first | refine blk_drewN ?_ _ | refine blk_drew ?_ | refine blk_alloc ?_ _)); exact BK328.out⟩, ⟨by (with_reducible repeat (first | refine blk_drewN ?_ _ | refine blk_drew ?_ | refine blk_alloc ?_ _)); exact BK329.out⟩, ⟨by (with_reducible repeat (first | refine blk_drewN ?_ _ | refine blk_drew ?_ | refine blk_alloc ?_ _)); exact BK330.out⟩, ⟨by (with_reducible repeat (first | refine blk_drewN ?_ _ | refine blk_drew ?_ | refine blk_alloc ?_ _)); exact BK350.out⟩, ⟨by repeat (first | (with_reducible first | exact HB.out | apply below_alloc | apply pw_below_drewN | apply below_drew1 | refine below_set ?_ GE328.out | refine below_set ?_ GE329.out | refine below_set ?_ GE330.out | refine below_set ?_ GE350.out) | exact HB.out)⟩⟩
     case round =>
      clear H'
      try clear c1
      try clear c2
      try clear p2
      try clear c3
      try clear c6
      try clear c15
      try clear c16
      try clear c22
      try clear c23
      try clear c24
      try clear c27
      try clear c27b0
      try clear c28
      try clear c29
      try clear c30
      try clear hcz17_0
      try clear hcz17_1
      try clear hcz17_2
      try clear hcz17_3
      try clear hcz17_4
      try clear hcz17_5
      try clear hcz19_0
      try clear hcz19_1
      try clear hcz19_2
      try clear hcz19_3
      try clear hcz19_4
      try clear hcz19_5
      try clear hcz25_0
      try clear hcz25_1
      try clear hcz25_2
      try clear hcz25_3
      try clear hcz25_4
      try clear hcz25_5
      try clear hcz25_6
      try clear hcz25_7
      try clear hcz25_8
      try clear hcz25_9
      try clear hcz31_0
      try clear hcz31_1
      try clear hcz31_2
      try clear hcz31_3
      try clear hcz31_4
      try clear hcz31_5
      try clear hcz31_6
      try clear hcz31_7
      try clear hcz31_8
      try clear hcz31_9
      try clear hfz17_0
      try clear hfz17_1
      try clear hfz17_2
      try clear hfz17_3
      try clear hfz17_4
      try clear hfz17_5
      try clear hfz19_0
      try clear hfz19_1
      try clear hfz19_2
      try clear hfz19_3
      try clear hfz19_4
      try clear hfz19_5
      try clear hfz25_0
      try clear hfz25_1
      try clear hfz25_2
      try clear hfz25_3
      try clear hfz25_4
      try clear hfz25_5
      try clear hfz25_6
      try clear hfz25_7
      try clear hfz25_8
      try clear hfz25_9
      try clear hfz31_0
      try clear hfz31_1
      try clear hfz31_2
      try clear hfz31_3
      try clear hfz31_4
      try clear hfz31_5
      try clear hfz31_6
      try clear hfz31_7
      try clear hfz31_8
      try clear hfz31_9
      try clear p2
      obtain ⟨x15_2, rfl, HA, HK2, HO_11, HO_12, HO_351009, BK328, BK329, BK330, BK350, HB⟩ := hrel
      cases gk with
      | zero => exact absurd HA.out (by simp [spec_HoursAtEach.l1])
      | succ k2 =>
       have H := HA.out
       clear HA
       simp only [spec_HoursAtEach.l1] at H
       by_cases c32 : x15_2 < (x11_1.length : Int)
       ·rw [if_pos c32] at H
        have c32b0 : decide (x15_2 < (x11_1.length : Int)) = true := decide_eq_true c32
        clear c32
        by_cases c33 : 0 ≤ x15_2
        ·rw [if_pos c33] at H
         have c33b0 : decide (0 ≤ x15_2) = true := decide_eq_true c33
         clear c33
         by_cases c34 : 0 ≤ x14_1
         ·rw [if_pos c34] at H
          have c34b0 : decide (0 ≤ x14_1) = true := decide_eq_true c34
          clear c34
          by_cases c35 : x14_1 < (t347.length : Int)
          ·rw [if_pos c35] at H
           have c35b0 : decide (x14_1 < (t347.length : Int)) = true := decide_eq_true c35
           clear c35
           by_cases c36 : (!(((rd_T42 x11_1 x15_2).f0) == ((rd_T42 t347 x14_1).f0)) || (!(((rd_T42 x11_1 x15_2).f1) == ((rd_T42 t347 x14_1).f1)))) = true
           ·rw [if_pos c36] at H
            have c36b0 : (!(((rd_T42 x11_1 x15_2).f0) == ((rd_T42 t347 x14_1).f0)) || (!(((rd_T42 x11_1 x15_2).f1) == ((rd_T42 t347 x14_1).f1)))) = true := c36
            clear c36
            have H' := Aside0.mk H
            clear H
            obtain ⟨Ao37, co37, eo37⟩ := Kd.R_slice HO_11.out
            subst eo37
            have p351 : 0 ≤ (x15_2 : Int) := of_decide_eq_true (by first | (with_reducible assumption) | assumption)
            have q351 : x15_2 < (x11_1.length : Int) := of_decide_eq_true (by first | (with_reducible assumption) | assumption)
            obtain ⟨ad351, e351, hx351_0, hx351_1⟩ := at_T42 (Kd.R_reads' HO_11.out).2.2 x15_2 p351 q351
            cases e351
            replace p351 := eq_true p351
            replace q351 := eq_true q351
            have hnb38 := NB350_328.out
            have hnc38 := NB328_350.out
            have hnb39 := NB350_329.out
            have hnc39 := NB329_350.out
            have hnb40 := NB350_330.out
            have hnc40 := NB330_350.out
            have hcz41_0 : wr.cell? ⟨gb350, 0, none⟩ = some (.int .i8 t338) := (blk_cell BK350.out 0).trans rfl
            have hcz41_1 : wr.cell? ⟨gb350, 1, none⟩ = some (.int .i8 t339) := (blk_cell BK350.out 1).trans rfl
            have hcz41_2 : wr.cell? ⟨gb350, 2, none⟩ = some (.int .i8 t340) := (blk_cell BK350.out 2).trans rfl
            have hcz41_3 : wr.cell? ⟨gb350, 3, none⟩ = some (.int .i8 t341) := (blk_cell BK350.out 3).trans rfl
            have hcz41_4 : wr.cell? ⟨gb350, 4, none⟩ = some (.int .i8 t342) := (blk_cell BK350.out 4).trans rfl
            have hcz41_5 : wr.cell? ⟨gb350, 5, none⟩ = some (.int .i8 t343) := (blk_cell BK350.out 5).trans rfl
            have hcz41_6 : wr.cell? ⟨gb350, 6, none⟩ = some (.bool t344) := (blk_cell BK350.out 6).trans rfl
            have hcz41_7 : wr.cell? ⟨gb350, 7, none⟩ = some (.int .i64 t345) := (blk_cell BK350.out 7).trans rfl
            have hcz41_8 : wr.cell? ⟨gb350, 8, none⟩ = some (.int .i64 t346) := (blk_cell BK350.out 8).trans rfl
            have hcz41_9 : wr.cell? ⟨gb350, 9, none⟩ = some (.slice Ao26 t347.length co26) := (blk_cell BK350.out 9).trans rfl
            have hfz41_0 := blk_frozen BK350.out 0
            have hfz41_1 := blk_frozen BK350.out 1
            have hfz41_2 := blk_frozen BK350.out 2
            have hfz41_3 := blk_frozen BK350.out 3
            have hfz41_4 := blk_frozen BK350.out 4
            have hfz41_5 := blk_frozen BK350.out 5
            have hfz41_6 := blk_frozen BK350.out 6
            have hfz41_7 := blk_frozen BK350.out 7
            have hfz41_8 := blk_frozen BK350.out 8
            have hfz41_9 := blk_frozen BK350.out 9
            have p352 : 0 ≤ (x14_1 : Int) := of_decide_eq_true (by first | (with_reducible assumption) | assumption)
            have q352 : x14_1 < (t347.length : Int) := of_decide_eq_true (by first | (with_reducible assumption) | assumption)
            obtain ⟨ad352, e352, hx352_0, hx352_1⟩ := at_T42 (Kd.R_reads' HO_351009.out).2.2 x14_1 p352 q352
            cases e352
            replace p352 := eq_true p352
            replace q352 := eq_true q352
            go_wp2
            repeat (go_quiet (fail); try go_wp2)
            go_roundg k2
            case measure => have := HK1.out; have := HK2.out; omega
            case rel => exact ⟨(wrap64 (x15_2 + 1)), (by first | rfl | (simp; done) | (simp [*]; done)), H', ⟨by have := HK1.out; have := HK2.out; omega⟩, ⟨by (with_reducible repeat (first | apply Kd.R_alloc | apply Kd.R_drewN | apply Kd.R_drew)); exact HO_11.out⟩, ⟨by (with_reducible repeat (first | apply Kd.R_alloc | apply Kd.R_drewN | apply Kd.R_drew)); exact HO_12.out⟩, ⟨by (with_reducible repeat (first | apply Kd.R_alloc | apply Kd.R_drewN | apply Kd.R_drew)); exact HO_351009.out⟩, ⟨by (with_reducible repeat (first | refine blk_drewN ?_ _ | refine blk_drew ?_ | refine blk_alloc ?_ _)); exact BK328.out⟩, ⟨by (with_reducible repeat (first | refine blk_drewN ?_ _ | refine blk_drew ?_ | refine blk_alloc ?_ _)); exact BK329.out⟩, ⟨by (with_reducible repeat (first | refine blk_drewN ?_ _ | refine blk_drew ?_ | refine blk_alloc ?_ _)); exact BK330.out⟩, ⟨by (with_reducible repeat (first | refine blk_drewN ?_ _ | refine blk_drew ?_ | refine blk_alloc ?_ _)); exact BK350.out⟩, ⟨by repeat (first | (with_reducible first | exact HB.out | apply below_alloc | apply pw_below_drewN | apply below_drew1 | refine below_set ?_ GE328.out | refine below_set ?_ GE329.out | refine below_set ?_ GE330.out | refine below_set ?_ GE350.out) | exact HB.out)⟩⟩
           ·rw [if_neg c36] at H
            have c36b0 : (!(((rd_T42 x11_1 x15_2).f0) == ((rd_T42 t347 x14_1).f0)) || (!(((rd_T42 x11_1 x15_2).f1) == ((rd_T42 t347 x14_1).f1)))) = false := by simpa using c36
            clear c36
            by_cases c42 : x15_2 = (x11_1.length : Int)
            ·rw [if_pos c42] at H
             have c42b0 : (x15_2 == (x11_1.length : Int)) = true := beq_iff_eq.mpr c42
             have c42b1 : (x15_2 != (x11_1.length : Int)) = false := bne_eq_false_iff_eq.mpr c42
             clear c42
             by_cases c43 : x11_1.length < 70368744177664
             ·rw [if_pos c43] at H
              have LMc43 := Aside0.mk c43
              clear c43
              obtain ⟨y354, hy354⟩ : ∃ y_ : List (S42), y_ = (x11_1 ++ [(⟨(rd_T42 t347 x14_1).f0, (rd_T42 t347 x14_1).f1⟩ : S42)]) := ⟨_, rfl⟩
              replace H : (if x12_1.length < 17592186044416 then ((some (x12_1 ++ [0] : List Int)).bind fun y357 => (if x15_2 < (y357.length : Int) then (spec_HoursAtEach.l0 k2 y354 (y357.set (x15_2 : Int).toNat (wrap64 ((rd y357 x15_2) + 1))) (wrap64 (x14_1 + 1)) t338 t339 t340 t341 t342 t343 t344 t345 t346 t347) else (none))) else (none)) = some (r1, r2, r3) := by first | (rw [hy354]; with_reducible exact H) | (have H2_ := (Option.bind_some _ _).symm.trans H; rw [hy354]; with_reducible exact H2_) | (have H2_ := (Option.bind_some _ _).symm.trans H; with_reducible exact H2_) | with_reducible exact H | (rw [hy354]; exact H) | exact H
              have Ny354 := Aside0.mk hy354
              clear hy354
              by_cases c44 : x12_1.length < 17592186044416
              ·rw [if_pos c44] at H
               have LMc44 := Aside0.mk c44
               clear c44
               obtain ⟨y357, hy357⟩ : ∃ y_ : List Int, y_ = (x12_1 ++ [0]) := ⟨_, rfl⟩
               replace H : (if x15_2 < (y357.length : Int) then (spec_HoursAtEach.l0 k2 y354 (y357.set (x15_2 : Int).toNat (wrap64 ((rd y357 x15_2) + 1))) (wrap64 (x14_1 + 1)) t338 t339 t340 t341 t342 t343 t344 t345 t346 t347) else (none)) = some (r1, r2, r3) := by first | (rw [hy357]; with_reducible exact H) | (have H2_ := (Option.bind_some _ _).symm.trans H; rw [hy357]; with_reducible exact H2_) | (have H2_ := (Option.bind_some _ _).symm.trans H; with_reducible exact H2_) | with_reducible exact H | (rw [hy357]; exact H) | exact H
               have Ny357 := Aside0.mk hy357
               clear hy357
               by_cases c45 : x15_2 < (y357.length : Int)
               ·rw [if_pos c45] at H
                have c45b0 : decide (x15_2 < (y357.length : Int)) = true := decide_eq_true c45
                clear c45
                obtain ⟨y361, hy361⟩ : ∃ y_ : List Int, y_ = (y357.set (x15_2 : Int).toNat (wrap64 ((rd y357 x15_2) + 1))) := ⟨_, rfl⟩
                replace H : (spec_HoursAtEach.l0 k2 y354 y361 (wrap64 (x14_1 + 1)) t338 t339 t340 t341 t342 t343 t344 t345 t346 t347) = some (r1, r2, r3) := by first | (rw [hy361]; with_reducible exact H) | (have H2_ := (Option.bind_some _ _).symm.trans H; rw [hy361]; with_reducible exact H2_) | (have H2_ := (Option.bind_some _ _).symm.trans H; with_reducible exact H2_) | with_reducible exact H | (rw [hy361]; exact H) | exact H
                have Ny361 := Aside0.mk hy361
                clear hy361
                have H' := Aside0.mk H
                clear H
                obtain ⟨Ao47, co47, eo47⟩ := Kd.R_slice HO_11.out
                subst eo47
                have p351 : 0 ≤ (x15_2 : Int) := of_decide_eq_true (by first | (with_reducible assumption) | assumption)
                have q351 : x15_2 < (x11_1.length : Int) := of_decide_eq_true (by first | (with_reducible assumption) | assumption)
                obtain ⟨ad351, e351, hx351_0, hx351_1⟩ := at_T42 (Kd.R_reads' HO_11.out).2.2 x15_2 p351 q351
                cases e351
                replace p351 := eq_true p351
                replace q351 := eq_true q351
                have hnb48 := NB350_328.out
                have hnc48 := NB328_350.out
                have hnb49 := NB350_329.out
                have hnc49 := NB329_350.out
                have hnb50 := NB350_330.out
                have hnc50 := NB330_350.out
                have hcz51_0 : wr.cell? ⟨gb350, 0, none⟩ = some (.int .i8 t338) := (blk_cell BK350.out 0).trans rfl
                have hcz51_1 : wr.cell? ⟨gb350, 1, none⟩ = some (.int .i8 t339) := (blk_cell BK350.out 1).trans rfl
                have hcz51_2 : wr.cell? ⟨gb350, 2, none⟩ = some (.int .i8 t340) := (blk_cell BK350.out 2).trans rfl
                have hcz51_3 : wr.cell? ⟨gb350, 3, none⟩ = some (.int .i8 t341) := (blk_cell BK350.out 3).trans rfl
                have hcz51_4 : wr.cell? ⟨gb350, 4, none⟩ = some (.int .i8 t342) := (blk_cell BK350.out 4).trans rfl
                have hcz51_5 : wr.cell? ⟨gb350, 5, none⟩ = some (.int .i8 t343) := (blk_cell BK350.out 5).trans rfl
                have hcz51_6 : wr.cell? ⟨gb350, 6, none⟩ = some (.bool t344) := (blk_cell BK350.out 6).trans rfl
                have hcz51_7 : wr.cell? ⟨gb350, 7, none⟩ = some (.int .i64 t345) := (blk_cell BK350.out 7).trans rfl
                have hcz51_8 : wr.cell? ⟨gb350, 8, none⟩ = some (.int .i64 t346) := (blk_cell BK350.out 8).trans rfl
                have hcz51_9 : wr.cell? ⟨gb350, 9, none⟩ = some (.slice Ao26 t347.length co26) := (blk_cell BK350.out 9).trans rfl
                have hfz51_0 := blk_frozen BK350.out 0
                have hfz51_1 := blk_frozen BK350.out 1
                have hfz51_2 := blk_frozen BK350.out 2
                have hfz51_3 := blk_frozen BK350.out 3
                have hfz51_4 := blk_frozen BK350.out 4
                have hfz51_5 := blk_frozen BK350.out 5
                have hfz51_6 := blk_frozen BK350.out 6
                have hfz51_7 := blk_frozen BK350.out 7
                have hfz51_8 := blk_frozen BK350.out 8
                have hfz51_9 := blk_frozen BK350.out 9
                have p352 : 0 ≤ (x14_1 : Int) := of_decide_eq_true (by first | (with_reducible assumption) | assumption)
                have q352 : x14_1 < (t347.length : Int) := of_decide_eq_true (by first | (with_reducible assumption) | assumption)
                obtain ⟨ad352, e352, hx352_0, hx352_1⟩ := at_T42 (Kd.R_reads' HO_351009.out).2.2 x14_1 p352 q352
                cases e352
                replace p352 := eq_true p352
                replace q352 := eq_true q352
                have p353 : 0 ≤ (x14_1 : Int) := of_decide_eq_true (by first | (with_reducible assumption) | assumption)
                have q353 : x14_1 < (t347.length : Int) := of_decide_eq_true (by first | (with_reducible assumption) | assumption)
                obtain ⟨ad353, e353, hx353_0, hx353_1⟩ := at_T42 (Kd.R_reads' HO_351009.out).2.2 x14_1 p353 q353
                obtain rfl : ad352 = ad353 := (by injection e353)
                replace p353 := eq_true p353
                replace q353 := eq_true q353
                go_wp2
                repeat (go_quiet (fail); try go_wp2_with (first | ((with_reducible refine gate_builtin (b := .append) (xs := #[.tmp 56, .tmp 62]) rfl ?_); at_builtin; refine Kd.R_append k42 (w0 := w) w.heap.size rfl (.tmp 56) (.tmp 62) 35 42 (.agg #[(.int .i8 0), (.int .i8 0)]) 2 rfl Try.underlying35 info42 rfl (by decide) (by omega) (.slice (some ad351) x11_1.length co47) x11_1 (⟨(rd_T42 t347 x14_1).f0, (rd_T42 t347 x14_1).f1⟩ : S42) [.int .i8 ((rd_T42 t347 x14_1).f0), .int .i8 ((rd_T42 t347 x14_1).f1)] (fun k_ => some k_ ≠ (.slice (some ad352) t347.length co26 : Value).ownBlock) (fun _ => False) rfl rfl ?aP (fun _ hk => hk.elim) ?aF ?aO ?aB ?aS ?aL ?_; (case aP => exact k42_mkM _ _ _ (⟨(rd_T42 t347 x14_1).f0, (rd_T42 t347 x14_1).f1⟩ : S42)); (case aB => exact (sqI HB.out)); (case aF => exact (fun k_ hk => Kd.fresh' (Kd.R_lt (by (with_reducible repeat (first | apply Kd.R_alloc | apply Kd.R_drewN | apply Kd.R_drew)); exact HO_351009.out)) k_ hk)); (case aO => exact (by (with_reducible repeat (first | apply Kd.R_alloc | apply Kd.R_drewN | apply Kd.R_drew)); exact HO_11.out)); (case aS => exact (sqW HB.out)); (case aL => have := LMc43.out; omega); intro v355 w52 ho hb hg hat; rw [← Ny354.out] at ho; have n0_ := Aside0.mk (Kd.R_over' (by (with_reducible repeat (first | apply Kd.R_alloc | apply Kd.R_drewN | apply Kd.R_drew)); exact HO_12.out) (Kd.R_typed (by (with_reducible repeat (first | apply Kd.R_alloc | apply Kd.R_drewN | apply Kd.R_drew)); exact HO_11.out)) (by decide) hg); have n1_ := Aside0.mk (Kd.R_after (ok := (fun _ => True)) (by (with_reducible repeat (first | apply Kd.R_alloc | apply Kd.R_drewN | apply Kd.R_drew)); exact Kd.R_mono HO_351009.out (fun _ hk => ⟨trivial, hk⟩)) hg hat); have n2_ := Aside0.mk (blk_grown (sqO BK328.out) hg (Kd.R_ne HO_11.out BK328.out (by decide))); have n3_ := Aside0.mk (blk_grown (sqO BK329.out) hg (Kd.R_ne HO_11.out BK329.out (by decide))); have n4_ := Aside0.mk (blk_grown (sqO BK330.out) hg (Kd.R_ne HO_11.out BK330.out (by decide))); have n5_ := Aside0.mk (blk_grown (sqO BK350.out) hg (Kd.R_ne HO_11.out BK350.out (by decide))); have n6_ := Aside0.mk (hb); have n7_ := Aside0.mk (ho); clear HO_12; clear HO_351009; clear BK328; clear BK329; clear BK330; clear BK350; clear HB; clear HO_11; have HO_12 := n0_; have HO_351009 := n1_; have BK328 := n2_; have BK329 := n3_; have BK330 := n4_; have BK350 := n5_; have HB := n6_; have HO356 := n7_; clear n0_ n1_ n2_ n3_ n4_ n5_ n6_ n7_; clear ho hb hg hat) | ((with_reducible refine gate_builtin (b := .append) (xs := #[.tmp 64, .tmp 65]) rfl ?_); at_builtin; refine Kd.R_append (Kd.int .i64) (w0 := w) w.heap.size rfl (.tmp 64) (.tmp 65) 55 2 (.int .i64 0) 8 rfl Try.underlying55 info2 rfl (by decide) (by omega) u12 x12_1 0 [.int .i64 0] (fun _ => True) (fun _ => False) rfl rfl ?aP (fun _ hk => hk.elim) ?aF ?aO ?aB ?aS ?aL ?_; (case aP => exact rfl); (case aB => exact (sqI HB.out)); (case aF => exact (fun _ _ => trivial)); (case aO => exact (by (with_reducible repeat (first | apply Kd.R_alloc | apply Kd.R_drewN | apply Kd.R_drew)); exact HO_12.out)); (case aS => exact (sqW HB.out)); (case aL => have := LMc44.out; omega); intro v358 w53 ho hb hg hat; rw [← Ny357.out] at ho; have n0_ := Aside0.mk (Kd.R_over' (by (with_reducible repeat (first | apply Kd.R_alloc | apply Kd.R_drewN | apply Kd.R_drew)); exact HO_351009.out) (Kd.R_typed (by (with_reducible repeat (first | apply Kd.R_alloc | apply Kd.R_drewN | apply Kd.R_drew)); exact HO_12.out)) (by decide) hg); have n1_ := Aside0.mk (blk_grown (sqO BK328.out) hg (Kd.R_ne HO_12.out BK328.out (by decide))); have n2_ := Aside0.mk (blk_grown (sqO BK329.out) hg (Kd.R_ne HO_12.out BK329.out (by decide))); have n3_ := Aside0.mk (blk_grown (sqO BK330.out) hg (Kd.R_ne HO_12.out BK330.out (by decide))); have n4_ := Aside0.mk (blk_grown (sqO BK350.out) hg (Kd.R_ne HO_12.out BK350.out (by decide))); have n5_ := Aside0.mk (Kd.R_over' (by (with_reducible repeat (first | apply Kd.R_alloc | apply Kd.R_drewN | apply Kd.R_drew)); exact HO356.out) (Kd.R_typed (by (with_reducible repeat (first | apply Kd.R_alloc | apply Kd.R_drewN | apply Kd.R_drew)); exact HO_12.out)) (by decide) hg); have n6_ := Aside0.mk (hb); have n7_ := Aside0.mk (ho); clear HO_351009; clear BK328; clear BK329; clear BK330; clear BK350; clear HO356; clear HB; clear HO_12; have HO_351009 := n0_; have BK328 := n1_; have BK329 := n2_; have BK330 := n3_; have BK350 := n4_; have HO356 := n5_; have HB := n6_; have HO359 := n7_; clear n0_ n1_ n2_ n3_ n4_ n5_ n6_ n7_; clear ho hb hg hat; obtain ⟨Ao54, co54, eo54⟩ := Kd.R_slice HO359.out; subst eo54; have p360 : 0 ≤ (x15_2 : Int) := of_decide_eq_true (by first | (with_reducible assumption) | assumption); have q360 : x15_2 < (y357.length : Int) := of_decide_eq_true (by first | (with_reducible assumption) | assumption); obtain ⟨ad360, e360, hx360_0⟩ := Kd.at_int (Kd.R_reads' HO359.out).2.2 x15_2 p360 q360; cases e360; replace p360 := eq_true p360; replace q360 := eq_true q360; have p46 : 0 ≤ (x15_2 : Int) := of_decide_eq_true (by first | (with_reducible assumption) | assumption); have q46 : (x15_2 : Int) < ((y357.length : Int) : Int) := of_decide_eq_true (by first | (with_reducible assumption) | assumption); obtain ⟨go46, co46, eo46, gb46, gl46, cl46, HG46⟩ := Kd.R_form HO359.out (by omega); (first | cases eo46 | (injection eo46 with ea_ en_ ec_; (first | subst ea_ | (injection ea_ with ea_; subst ea_)); subst ec_; clear en_)); have GB46 := Aside0.mk gb46; have GG46 := Aside0.mk HG46; clear gb46 gl46 HG46; (first | simp only [add_plain] at hx360_0 | skip); obtain ⟨hx46_0, hf46_0⟩ := Kd.R_celln 0 HO359.out (x15_2 : Int) p46 q46; replace p46 := eq_true p46; replace q46 := eq_true q46; obtain ⟨hy55_, hz55_⟩ := Kd.R_celln 0 HO359.out (x15_2 : Int) (of_decide_eq_true (by first | (with_reducible assumption) | assumption)) (of_decide_eq_true (by first | (with_reducible assumption) | assumption)); have HP55 := Kd.R_putg HO359.out (x15_2 : Int) (wrap64 ((rd y357 x15_2) + 1))) | ((with_reducible refine gate_store (t := 2) (p := 72) rfl ?_); (try (rw [drewN_self w53]; generalize hq_ : World.drewN w53 _ = w53; have n0_ := Aside0.mk (Kd.R_at hq_ HO_351009.out); have n1_ := Aside0.mk (Kd.R_at hq_ HO356.out); have n2_ := Aside0.mk (Kd.R_at hq_ HO359.out); have n3_ := Aside0.mk (blk_at hq_ BK328.out); have n4_ := Aside0.mk (blk_at hq_ BK329.out); have n5_ := Aside0.mk (blk_at hq_ BK330.out); have n6_ := Aside0.mk (blk_at hq_ BK350.out); have n7_ := Aside0.mk (below_at hq_ HB.out); clear hq_ HO_351009 HO356 HO359 BK328 BK329 BK330 BK350 HB; have HO_351009 := n0_; have HO356 := n1_; have HO359 := n2_; have BK328 := n3_; have BK329 := n4_; have BK330 := n5_; have BK350 := n6_; have HB := n7_; clear n0_ n1_ n2_ n3_ n4_ n5_ n6_ n7_; (try (obtain ⟨hy55_, hz55_⟩ := Kd.R_celln 0 HO359.out (x15_2 : Int) (of_decide_eq_true (by first | (with_reducible assumption) | assumption)) (of_decide_eq_true (by first | (with_reducible assumption) | assumption)))); (try (have HP55 := Kd.R_putg HO359.out (x15_2 : Int) (wrap64 ((rd y357 x15_2) + 1)))))); refine store_event (t := 2) (p := 72) (v := ?vo_w56) (w1 := (w53.setCell ⟨go46, (x15_2 : Int).toNat, none⟩ (.int .i64 (wrap64 ((rd y357 x15_2) + 1))))) ?hg ?ho ?hn ?hr ?_; (case ho => rfl); (case hg => rfl); (case hn => rfl); (case hr => first | (go_simp; done) | (go_simp; rfl)); intro w56 hw; have hg : w53.grownBy w56 (some go46) := (by rw [hw]; exact HP55.2); have hp_ : Kd.R (Kd.int .i64) 2 w56 w.heap.size (fun _ => True) (.slice (some ⟨go46, 0, none⟩) y357.length co54) y361 := (by rw [hw, Ny361.out]; exact HP55.1); clear HP55; replace HO_351009 := Aside0.mk (Kd.R_over' (v := (.slice (some ⟨go46, 0, none⟩) y357.length co54)) (by (with_reducible repeat (first | apply Kd.R_alloc | apply Kd.R_drewN | apply Kd.R_drew)); exact HO_351009.out) (Kd.R_typed HO359.out) (by decide) hg); replace BK328 := Aside0.mk (blk_grown (sqO BK328.out) hg (Kd.R_ne HO359.out BK328.out (by decide))); replace BK329 := Aside0.mk (blk_grown (sqO BK329.out) hg (Kd.R_ne HO359.out BK329.out (by decide))); replace BK330 := Aside0.mk (blk_grown (sqO BK330.out) hg (Kd.R_ne HO359.out BK330.out (by decide))); replace BK350 := Aside0.mk (blk_grown (sqO BK350.out) hg (Kd.R_ne HO359.out BK350.out (by decide))); replace HO356 := Aside0.mk (Kd.R_over' (v := (.slice (some ⟨go46, 0, none⟩) y357.length co54)) (by (with_reducible repeat (first | apply Kd.R_alloc | apply Kd.R_drewN | apply Kd.R_drew)); exact HO356.out) (Kd.R_typed HO359.out) (by decide) hg); replace HO359 := Aside0.mk (hp_); replace HB := Aside0.mk ((by rw [hw]; exact below_set (HB.out) GB46.out : Below w.heap.size w w56)); clear hg hw hp_)))
                go_roundg k2
                case measure => have := HK1.out; have := HK2.out; omega
                case rel => exact ⟨(y354), (y361), (wrap64 (x14_1 + 1)), (by first | rfl | (simp; done) | (simp [*]; done)), H', ⟨by have := HK1.out; have := HK2.out; omega⟩, ⟨by (with_reducible repeat (first | apply Kd.R_alloc | apply Kd.R_drewN | apply Kd.R_drew)); exact HO356.out⟩, ⟨by (with_reducible repeat (first | apply Kd.R_alloc | apply Kd.R_drewN | apply Kd.R_drew)); exact HO359.out⟩, ⟨by (with_reducible repeat (first | apply Kd.R_alloc | apply Kd.R_drewN | apply Kd.R_drew)); exact Kd.R_mono HO_351009.out (fun _ hk => hk.2)⟩, ⟨by (with_reducible repeat (first | refine blk_drewN ?_ _ | refine blk_drew ?_ | refine blk_alloc ?_ _)); exact BK328.out⟩, ⟨by (with_reducible repeat (first | refine blk_drewN ?_ _ | refine blk_drew ?_ | refine blk_alloc ?_ _)); exact BK329.out⟩, ⟨by (with_reducible repeat (first | refine blk_drewN ?_ _ | refine blk_drew ?_ | refine blk_alloc ?_ _)); exact BK330.out⟩, ⟨by (with_reducible repeat (first | refine blk_drewN ?_ _ | refine blk_drew ?_ | refine blk_alloc ?_ _)); exact BK350.out⟩, ⟨by repeat (first | (with_reducible first | exact HB.out | apply below_alloc | apply pw_below_drewN | apply below_drew1 | refine below_set ?_ GE328.out | refine below_set ?_ GE329.out | refine below_set ?_ GE330.out | refine below_set ?_ GE350.out) | exact HB.out)⟩⟩
               ·rw [if_neg c45] at H
                exact absurd H (by simp)
              ·rw [if_neg c44] at H
               exact absurd H (by simp)
             ·rw [if_neg c43] at H
              exact absurd H (by simp)
            ·rw [if_neg c42] at H
             have c42b0 : (x15_2 == (x11_1.length : Int)) = false := beq_eq_false_iff_ne.mpr c42
             have c42b1 : (x15_2 != (x11_1.length : Int)) = true := bne_iff_ne.mpr c42
             by_cases c57 : x15_2 < (x12_1.length : Int)
             ·rw [if_pos c57] at H
              have c57b0 : decide (x15_2 < (x12_1.length : Int)) = true := decide_eq_true c57
              clear c57
              obtain ⟨y363, hy363⟩ : ∃ y_ : List Int, y_ = (x12_1.set (x15_2 : Int).toNat (wrap64 ((rd x12_1 x15_2) + 1))) := ⟨_, rfl⟩
              replace H : (spec_HoursAtEach.l0 k2 x11_1 y363 (wrap64 (x14_1 + 1)) t338 t339 t340 t341 t342 t343 t344 t345 t346 t347) = some (r1, r2, r3) := by first | (rw [hy363]; with_reducible exact H) | (have H2_ := (Option.bind_some _ _).symm.trans H; rw [hy363]; with_reducible exact H2_) | (have H2_ := (Option.bind_some _ _).symm.trans H; with_reducible exact H2_) | with_reducible exact H | (rw [hy363]; exact H) | exact H
              have Ny363 := Aside0.mk hy363
              clear hy363
              have H' := Aside0.mk H
              clear H
              obtain ⟨Ao59, co59, eo59⟩ := Kd.R_slice HO_11.out
              subst eo59
              have p351 : 0 ≤ (x15_2 : Int) := of_decide_eq_true (by first | (with_reducible assumption) | assumption)
              have q351 : x15_2 < (x11_1.length : Int) := of_decide_eq_true (by first | (with_reducible assumption) | assumption)
              obtain ⟨ad351, e351, hx351_0, hx351_1⟩ := at_T42 (Kd.R_reads' HO_11.out).2.2 x15_2 p351 q351
              cases e351
              replace p351 := eq_true p351
              replace q351 := eq_true q351
              have hnb60 := NB350_328.out
              have hnc60 := NB328_350.out
              have hnb61 := NB350_329.out
              have hnc61 := NB329_350.out
              have hnb62 := NB350_330.out
              have hnc62 := NB330_350.out
              have hcz63_0 : wr.cell? ⟨gb350, 0, none⟩ = some (.int .i8 t338) := (blk_cell BK350.out 0).trans rfl
              have hcz63_1 : wr.cell? ⟨gb350, 1, none⟩ = some (.int .i8 t339) := (blk_cell BK350.out 1).trans rfl
              have hcz63_2 : wr.cell? ⟨gb350, 2, none⟩ = some (.int .i8 t340) := (blk_cell BK350.out 2).trans rfl
              have hcz63_3 : wr.cell? ⟨gb350, 3, none⟩ = some (.int .i8 t341) := (blk_cell BK350.out 3).trans rfl
              have hcz63_4 : wr.cell? ⟨gb350, 4, none⟩ = some (.int .i8 t342) := (blk_cell BK350.out 4).trans rfl
              have hcz63_5 : wr.cell? ⟨gb350, 5, none⟩ = some (.int .i8 t343) := (blk_cell BK350.out 5).trans rfl
              have hcz63_6 : wr.cell? ⟨gb350, 6, none⟩ = some (.bool t344) := (blk_cell BK350.out 6).trans rfl
              have hcz63_7 : wr.cell? ⟨gb350, 7, none⟩ = some (.int .i64 t345) := (blk_cell BK350.out 7).trans rfl
              have hcz63_8 : wr.cell? ⟨gb350, 8, none⟩ = some (.int .i64 t346) := (blk_cell BK350.out 8).trans rfl
              have hcz63_9 : wr.cell? ⟨gb350, 9, none⟩ = some (.slice Ao26 t347.length co26) := (blk_cell BK350.out 9).trans rfl
              have hfz63_0 := blk_frozen BK350.out 0
              have hfz63_1 := blk_frozen BK350.out 1
              have hfz63_2 := blk_frozen BK350.out 2
              have hfz63_3 := blk_frozen BK350.out 3
              have hfz63_4 := blk_frozen BK350.out 4
              have hfz63_5 := blk_frozen BK350.out 5
              have hfz63_6 := blk_frozen BK350.out 6
              have hfz63_7 := blk_frozen BK350.out 7
              have hfz63_8 := blk_frozen BK350.out 8
              have hfz63_9 := blk_frozen BK350.out 9
              have p352 : 0 ≤ (x14_1 : Int) := of_decide_eq_true (by first | (with_reducible assumption) | assumption)
              have q352 : x14_1 < (t347.length : Int) := of_decide_eq_true (by first | (with_reducible assumption) | assumption)
              obtain ⟨ad352, e352, hx352_0, hx352_1⟩ := at_T42 (Kd.R_reads' HO_351009.out).2.2 x14_1 p352 q352
              cases e352
              replace p352 := eq_true p352
              replace q352 := eq_true q352
              obtain ⟨Ao64, co64, eo64⟩ := Kd.R_slice HO_12.out
              subst eo64
              have p362 : 0 ≤ (x15_2 : Int) := of_decide_eq_true (by first | (with_reducible assumption) | assumption)
              have q362 : x15_2 < (x12_1.length : Int) := of_decide_eq_true (by first | (with_reducible assumption) | assumption)
              obtain ⟨ad362, e362, hx362_0⟩ := Kd.at_int (Kd.R_reads' HO_12.out).2.2 x15_2 p362 q362
              cases e362
              replace p362 := eq_true p362
              replace q362 := eq_true q362
              have p58 : 0 ≤ (x15_2 : Int) := of_decide_eq_true (by first | (with_reducible assumption) | assumption)
              have q58 : (x15_2 : Int) < ((x12_1.length : Int) : Int) := of_decide_eq_true (by first | (with_reducible assumption) | assumption)
              obtain ⟨go58, co58, eo58, gb58, gl58, cl58, HG58⟩ := Kd.R_form HO_12.out (by omega)
              (first | cases eo58 | (injection eo58 with ea_ en_ ec_; (first | subst ea_ | (injection ea_ with ea_; subst ea_)); subst ec_; clear en_))
              have GB58 := Aside0.mk gb58
              have GG58 := Aside0.mk HG58
              clear gb58 gl58 HG58
              (first | simp only [add_plain] at hx362_0 | skip)
              obtain ⟨hx58_0, hf58_0⟩ := Kd.R_celln 0 HO_12.out (x15_2 : Int) p58 q58
              replace p58 := eq_true p58
              replace q58 := eq_true q58
              have HP65 := Kd.R_putg HO_12.out (x15_2 : Int) (wrap64 ((rd x12_1 x15_2) + 1))
              go_wp2
              repeat (go_quiet (fail); try go_wp2_with (first | ((with_reducible refine gate_store (t := 2) (p := 72) rfl ?_); (try (rw [drewN_self wr]; generalize hq_ : World.drewN wr _ = wr; have n0_ := Aside0.mk (Kd.R_at hq_ HO_11.out); have n1_ := Aside0.mk (Kd.R_at hq_ HO_12.out); have n2_ := Aside0.mk (Kd.R_at hq_ HO_351009.out); have n3_ := Aside0.mk (blk_at hq_ BK328.out); have n4_ := Aside0.mk (blk_at hq_ BK329.out); have n5_ := Aside0.mk (blk_at hq_ BK330.out); have n6_ := Aside0.mk (blk_at hq_ BK350.out); have n7_ := Aside0.mk (below_at hq_ HB.out); clear hq_ HO_11 HO_12 HO_351009 BK328 BK329 BK330 BK350 HB; have HO_11 := n0_; have HO_12 := n1_; have HO_351009 := n2_; have BK328 := n3_; have BK329 := n4_; have BK330 := n5_; have BK350 := n6_; have HB := n7_; clear n0_ n1_ n2_ n3_ n4_ n5_ n6_ n7_; (try (obtain ⟨hx58_0, hf58_0⟩ := Kd.R_celln 0 HO_12.out (x15_2 : Int) (of_eq_true p58) (of_eq_true q58))); (try (have HP65 := Kd.R_putg HO_12.out (x15_2 : Int) (wrap64 ((rd x12_1 x15_2) + 1)))))); refine store_event (t := 2) (p := 72) (v := ?vo_w66) (w1 := (wr.setCell ⟨go58, (x15_2 : Int).toNat, none⟩ (.int .i64 (wrap64 ((rd x12_1 x15_2) + 1))))) ?hg ?ho ?hn ?hr ?_; (case ho => rfl); (case hg => rfl); (case hn => rfl); (case hr => first | (go_simp; done) | (go_simp; rfl)); intro w66 hw; have hg : wr.grownBy w66 (some go58) := (by rw [hw]; exact HP65.2); have hp_ : Kd.R (Kd.int .i64) 2 w66 w.heap.size (fun _ => True) (.slice (some ⟨go58, 0, none⟩) x12_1.length co64) y363 := (by rw [hw, Ny363.out]; exact HP65.1); clear HP65; replace HO_11 := Aside0.mk (Kd.R_over' (v := (.slice (some ⟨go58, 0, none⟩) x12_1.length co64)) (by (with_reducible repeat (first | apply Kd.R_alloc | apply Kd.R_drewN | apply Kd.R_drew)); exact HO_11.out) (Kd.R_typed HO_12.out) (by decide) hg); replace HO_351009 := Aside0.mk (Kd.R_over' (v := (.slice (some ⟨go58, 0, none⟩) x12_1.length co64)) (by (with_reducible repeat (first | apply Kd.R_alloc | apply Kd.R_drewN | apply Kd.R_drew)); exact HO_351009.out) (Kd.R_typed HO_12.out) (by decide) hg); replace BK328 := Aside0.mk (blk_grown (sqO BK328.out) hg (Kd.R_ne HO_12.out BK328.out (by decide))); replace BK329 := Aside0.mk (blk_grown (sqO BK329.out) hg (Kd.R_ne HO_12.out BK329.out (by decide))); replace BK330 := Aside0.mk (blk_grown (sqO BK330.out) hg (Kd.R_ne HO_12.out BK330.out (by decide))); replace BK350 := Aside0.mk (blk_grown (sqO BK350.out) hg (Kd.R_ne HO_12.out BK350.out (by decide))); replace HO_12 := Aside0.mk (hp_); replace HB := Aside0.mk ((by rw [hw]; exact below_set (HB.out) GB58.out : Below w.heap.size w w66)); clear hg hw hp_)))
              go_roundg k2
              case measure => have := HK1.out; have := HK2.out; omega
              case rel => exact ⟨(x11_1), (y363), (wrap64 (x14_1 + 1)), (by first | rfl | (simp; done) | (simp [*]; done)), H', ⟨by have := HK1.out; have := HK2.out; omega⟩, ⟨by (with_reducible repeat (first | apply Kd.R_alloc | apply Kd.R_drewN | apply Kd.R_drew)); exact HO_11.out⟩, ⟨by (with_reducible repeat (first | apply Kd.R_alloc | apply Kd.R_drewN | apply Kd.R_drew)); exact HO_12.out⟩, ⟨by (with_reducible repeat (first | apply Kd.R_alloc | apply Kd.R_drewN | apply Kd.R_drew)); exact HO_351009.out⟩, ⟨by (with_reducible repeat (first | refine blk_drewN ?_ _ | refine blk_drew ?_ | refine blk_alloc ?_ _)); exact BK328.out⟩, ⟨by (with_reducible repeat (first | refine blk_drewN ?_ _ | refine blk_drew ?_ | refine blk_alloc ?_ _)); exact BK329.out⟩, ⟨by (with_reducible repeat (first | refine blk_drewN ?_ _ | refine blk_drew ?_ | refine blk_alloc ?_ _)); exact BK330.out⟩, ⟨by (with_reducible repeat (first | refine blk_drewN ?_ _ | refine blk_drew ?_ | refine blk_alloc ?_ _)); exact BK350.out⟩, ⟨by repeat (first | (with_reducible first | exact HB.out | apply below_alloc | apply pw_below_drewN | apply below_drew1 | refine below_set ?_ GE328.out | refine below_set ?_ GE329.out | refine below_set ?_ GE330.out | refine below_set ?_ GE350.out) | exact HB.out)⟩⟩
             ·rw [if_neg c57] at H
              exact absurd H (by simp)
          ·rw [if_neg c35] at H
           exact absurd H (by simp)
         ·rw [if_neg c34] at H
          exact absurd H (by simp)
        ·rw [if_neg c33] at H
         exact absurd H (by simp)
       ·rw [if_neg c32] at H
        have c32b0 : decide (x15_2 < (x11_1.length : Int)) = false := decide_eq_false c32
        clear c32
        by_cases c67 : x15_2 = (x11_1.length : Int)
        ·rw [if_pos c67] at H
         have c67b0 : (x15_2 == (x11_1.length : Int)) = true := beq_iff_eq.mpr c67
         have c67b1 : (x15_2 != (x11_1.length : Int)) = false := bne_eq_false_iff_eq.mpr c67
         clear c67
         by_cases c68 : 0 ≤ x14_1
         ·rw [if_pos c68] at H
          have c68b0 : decide (0 ≤ x14_1) = true := decide_eq_true c68
          clear c68
          by_cases c69 : x14_1 < (t347.length : Int)
          ·rw [if_pos c69] at H
           have c69b0 : decide (x14_1 < (t347.length : Int)) = true := decide_eq_true c69
           clear c69
           by_cases c70 : x11_1.length < 70368744177664
           ·rw [if_pos c70] at H
            have LMc70 := Aside0.mk c70
            clear c70
            obtain ⟨y365, hy365⟩ : ∃ y_ : List (S42), y_ = (x11_1 ++ [(⟨(rd_T42 t347 x14_1).f0, (rd_T42 t347 x14_1).f1⟩ : S42)]) := ⟨_, rfl⟩
            replace H : (if x12_1.length < 17592186044416 then ((some (x12_1 ++ [0] : List Int)).bind fun y368 => (if 0 ≤ x15_2 then (if x15_2 < (y368.length : Int) then (spec_HoursAtEach.l0 k2 y365 (y368.set (x15_2 : Int).toNat (wrap64 ((rd y368 x15_2) + 1))) (wrap64 (x14_1 + 1)) t338 t339 t340 t341 t342 t343 t344 t345 t346 t347) else (none)) else (none))) else (none)) = some (r1, r2, r3) := by first | (rw [hy365]; with_reducible exact H) | (have H2_ := (Option.bind_some _ _).symm.trans H; rw [hy365]; with_reducible exact H2_) | (have H2_ := (Option.bind_some _ _).symm.trans H; with_reducible exact H2_) | with_reducible exact H | (rw [hy365]; exact H) | exact H
            have Ny365 := Aside0.mk hy365
            clear hy365
            by_cases c71 : x12_1.length < 17592186044416
            ·rw [if_pos c71] at H
             have LMc71 := Aside0.mk c71
             clear c71
             obtain ⟨y368, hy368⟩ : ∃ y_ : List Int, y_ = (x12_1 ++ [0]) := ⟨_, rfl⟩
             replace H : (if 0 ≤ x15_2 then (if x15_2 < (y368.length : Int) then (spec_HoursAtEach.l0 k2 y365 (y368.set (x15_2 : Int).toNat (wrap64 ((rd y368 x15_2) + 1))) (wrap64 (x14_1 + 1)) t338 t339 t340 t341 t342 t343 t344 t345 t346 t347) else (none)) else (none)) = some (r1, r2, r3) := by first | (rw [hy368]; with_reducible exact H) | (have H2_ := (Option.bind_some _ _).symm.trans H; rw [hy368]; with_reducible exact H2_) | (have H2_ := (Option.bind_some _ _).symm.trans H; with_reducible exact H2_) | with_reducible exact H | (rw [hy368]; exact H) | exact H
             have Ny368 := Aside0.mk hy368
             clear hy368
             by_cases c72 : 0 ≤ x15_2
             ·rw [if_pos c72] at H
              have c72b0 : decide (0 ≤ x15_2) = true := decide_eq_true c72
              clear c72
              by_cases c73 : x15_2 < (y368.length : Int)
              ·rw [if_pos c73] at H
               have c73b0 : decide (x15_2 < (y368.length : Int)) = true := decide_eq_true c73
               clear c73
               obtain ⟨y372, hy372⟩ : ∃ y_ : List Int, y_ = (y368.set (x15_2 : Int).toNat (wrap64 ((rd y368 x15_2) + 1))) := ⟨_, rfl⟩
               replace H : (spec_HoursAtEach.l0 k2 y365 y372 (wrap64 (x14_1 + 1)) t338 t339 t340 t341 t342 t343 t344 t345 t346 t347) = some (r1, r2, r3) := by first | (rw [hy372]; with_reducible exact H) | (have H2_ := (Option.bind_some _ _).symm.trans H; rw [hy372]; with_reducible exact H2_) | (have H2_ := (Option.bind_some _ _).symm.trans H; with_reducible exact H2_) | with_reducible exact H | (rw [hy372]; exact H) | exact H
               have Ny372 := Aside0.mk hy372
               clear hy372
               have H' := Aside0.mk H
               clear H
               obtain ⟨Ao75, co75, eo75⟩ := Kd.R_slice HO_11.out
               subst eo75
               have hnb76 := NB350_328.out
               have hnc76 := NB328_350.out
               have hnb77 := NB350_329.out
               have hnc77 := NB329_350.out
               have hnb78 := NB350_330.out
               have hnc78 := NB330_350.out
               have hcz79_0 : wr.cell? ⟨gb350, 0, none⟩ = some (.int .i8 t338) := (blk_cell BK350.out 0).trans rfl
               have hcz79_1 : wr.cell? ⟨gb350, 1, none⟩ = some (.int .i8 t339) := (blk_cell BK350.out 1).trans rfl
               have hcz79_2 : wr.cell? ⟨gb350, 2, none⟩ = some (.int .i8 t340) := (blk_cell BK350.out 2).trans rfl
               have hcz79_3 : wr.cell? ⟨gb350, 3, none⟩ = some (.int .i8 t341) := (blk_cell BK350.out 3).trans rfl
               have hcz79_4 : wr.cell? ⟨gb350, 4, none⟩ = some (.int .i8 t342) := (blk_cell BK350.out 4).trans rfl
               have hcz79_5 : wr.cell? ⟨gb350, 5, none⟩ = some (.int .i8 t343) := (blk_cell BK350.out 5).trans rfl
               have hcz79_6 : wr.cell? ⟨gb350, 6, none⟩ = some (.bool t344) := (blk_cell BK350.out 6).trans rfl
               have hcz79_7 : wr.cell? ⟨gb350, 7, none⟩ = some (.int .i64 t345) := (blk_cell BK350.out 7).trans rfl
               have hcz79_8 : wr.cell? ⟨gb350, 8, none⟩ = some (.int .i64 t346) := (blk_cell BK350.out 8).trans rfl
               have hcz79_9 : wr.cell? ⟨gb350, 9, none⟩ = some (.slice Ao26 t347.length co26) := (blk_cell BK350.out 9).trans rfl
               have hfz79_0 := blk_frozen BK350.out 0
               have hfz79_1 := blk_frozen BK350.out 1
               have hfz79_2 := blk_frozen BK350.out 2
               have hfz79_3 := blk_frozen BK350.out 3
               have hfz79_4 := blk_frozen BK350.out 4
               have hfz79_5 := blk_frozen BK350.out 5
               have hfz79_6 := blk_frozen BK350.out 6
               have hfz79_7 := blk_frozen BK350.out 7
               have hfz79_8 := blk_frozen BK350.out 8
               have hfz79_9 := blk_frozen BK350.out 9
               have p364 : 0 ≤ (x14_1 : Int) := of_decide_eq_true (by first | (with_reducible assumption) | assumption)
               have q364 : x14_1 < (t347.length : Int) := of_decide_eq_true (by first | (with_reducible assumption) | assumption)
               obtain ⟨ad364, e364, hx364_0, hx364_1⟩ := at_T42 (Kd.R_reads' HO_351009.out).2.2 x14_1 p364 q364
               cases e364
               replace p364 := eq_true p364
               replace q364 := eq_true q364
               go_wp2
               repeat (go_quiet (fail); try go_wp2_with (first | ((with_reducible refine gate_builtin (b := .append) (xs := #[.tmp 56, .tmp 62]) rfl ?_); at_builtin; refine Kd.R_append k42 (w0 := w) w.heap.size rfl (.tmp 56) (.tmp 62) 35 42 (.agg #[(.int .i8 0), (.int .i8 0)]) 2 rfl Try.underlying35 info42 rfl (by decide) (by omega) (.slice Ao75 x11_1.length co75) x11_1 (⟨(rd_T42 t347 x14_1).f0, (rd_T42 t347 x14_1).f1⟩ : S42) [.int .i8 ((rd_T42 t347 x14_1).f0), .int .i8 ((rd_T42 t347 x14_1).f1)] (fun k_ => some k_ ≠ (.slice (some ad364) t347.length co26 : Value).ownBlock) (fun _ => False) rfl rfl ?aP (fun _ hk => hk.elim) ?aF ?aO ?aB ?aS ?aL ?_; (case aP => exact k42_mkM _ _ _ (⟨(rd_T42 t347 x14_1).f0, (rd_T42 t347 x14_1).f1⟩ : S42)); (case aB => exact (sqI HB.out)); (case aF => exact (fun k_ hk => Kd.fresh' (Kd.R_lt (by (with_reducible repeat (first | apply Kd.R_alloc | apply Kd.R_drewN | apply Kd.R_drew)); exact HO_351009.out)) k_ hk)); (case aO => exact (by (with_reducible repeat (first | apply Kd.R_alloc | apply Kd.R_drewN | apply Kd.R_drew)); exact HO_11.out)); (case aS => exact (sqW HB.out)); (case aL => have := LMc70.out; omega); intro v366 w80 ho hb hg hat; rw [← Ny365.out] at ho; have n0_ := Aside0.mk (Kd.R_over' (by (with_reducible repeat (first | apply Kd.R_alloc | apply Kd.R_drewN | apply Kd.R_drew)); exact HO_12.out) (Kd.R_typed (by (with_reducible repeat (first | apply Kd.R_alloc | apply Kd.R_drewN | apply Kd.R_drew)); exact HO_11.out)) (by decide) hg); have n1_ := Aside0.mk (Kd.R_after (ok := (fun _ => True)) (by (with_reducible repeat (first | apply Kd.R_alloc | apply Kd.R_drewN | apply Kd.R_drew)); exact Kd.R_mono HO_351009.out (fun _ hk => ⟨trivial, hk⟩)) hg hat); have n2_ := Aside0.mk (blk_grown (sqO BK328.out) hg (Kd.R_ne HO_11.out BK328.out (by decide))); have n3_ := Aside0.mk (blk_grown (sqO BK329.out) hg (Kd.R_ne HO_11.out BK329.out (by decide))); have n4_ := Aside0.mk (blk_grown (sqO BK330.out) hg (Kd.R_ne HO_11.out BK330.out (by decide))); have n5_ := Aside0.mk (blk_grown (sqO BK350.out) hg (Kd.R_ne HO_11.out BK350.out (by decide))); have n6_ := Aside0.mk (hb); have n7_ := Aside0.mk (ho); clear HO_12; clear HO_351009; clear BK328; clear BK329; clear BK330; clear BK350; clear HB; clear HO_11; have HO_12 := n0_; have HO_351009 := n1_; have BK328 := n2_; have BK329 := n3_; have BK330 := n4_; have BK350 := n5_; have HB := n6_; have HO367 := n7_; clear n0_ n1_ n2_ n3_ n4_ n5_ n6_ n7_; clear ho hb hg hat) | ((with_reducible refine gate_builtin (b := .append) (xs := #[.tmp 64, .tmp 65]) rfl ?_); at_builtin; refine Kd.R_append (Kd.int .i64) (w0 := w) w.heap.size rfl (.tmp 64) (.tmp 65) 55 2 (.int .i64 0) 8 rfl Try.underlying55 info2 rfl (by decide) (by omega) u12 x12_1 0 [.int .i64 0] (fun _ => True) (fun _ => False) rfl rfl ?aP (fun _ hk => hk.elim) ?aF ?aO ?aB ?aS ?aL ?_; (case aP => exact rfl); (case aB => exact (sqI HB.out)); (case aF => exact (fun _ _ => trivial)); (case aO => exact (by (with_reducible repeat (first | apply Kd.R_alloc | apply Kd.R_drewN | apply Kd.R_drew)); exact HO_12.out)); (case aS => exact (sqW HB.out)); (case aL => have := LMc71.out; omega); intro v369 w81 ho hb hg hat; rw [← Ny368.out] at ho; have n0_ := Aside0.mk (Kd.R_over' (by (with_reducible repeat (first | apply Kd.R_alloc | apply Kd.R_drewN | apply Kd.R_drew)); exact HO_351009.out) (Kd.R_typed (by (with_reducible repeat (first | apply Kd.R_alloc | apply Kd.R_drewN | apply Kd.R_drew)); exact HO_12.out)) (by decide) hg); have n1_ := Aside0.mk (blk_grown (sqO BK328.out) hg (Kd.R_ne HO_12.out BK328.out (by decide))); have n2_ := Aside0.mk (blk_grown (sqO BK329.out) hg (Kd.R_ne HO_12.out BK329.out (by decide))); have n3_ := Aside0.mk (blk_grown (sqO BK330.out) hg (Kd.R_ne HO_12.out BK330.out (by decide))); have n4_ := Aside0.mk (blk_grown (sqO BK350.out) hg (Kd.R_ne HO_12.out BK350.out (by decide))); have n5_ := Aside0.mk (Kd.R_over' (by (with_reducible repeat (first | apply Kd.R_alloc | apply Kd.R_drewN | apply Kd.R_drew)); exact HO367.out) (Kd.R_typed (by (with_reducible repeat (first | apply Kd.R_alloc | apply Kd.R_drewN | apply Kd.R_drew)); exact HO_12.out)) (by decide) hg); have n6_ := Aside0.mk (hb); have n7_ := Aside0.mk (ho); clear HO_351009; clear BK328; clear BK329; clear BK330; clear BK350; clear HO367; clear HB; clear HO_12; have HO_351009 := n0_; have BK328 := n1_; have BK329 := n2_; have BK330 := n3_; have BK350 := n4_; have HO367 := n5_; have HB := n6_; have HO370 := n7_; clear n0_ n1_ n2_ n3_ n4_ n5_ n6_ n7_; clear ho hb hg hat; obtain ⟨Ao82, co82, eo82⟩ := Kd.R_slice HO370.out; subst eo82; have p371 : 0 ≤ (x15_2 : Int) := of_decide_eq_true (by first | (with_reducible assumption) | assumption); have q371 : x15_2 < (y368.length : Int) := of_decide_eq_true (by first | (with_reducible assumption) | assumption); obtain ⟨ad371, e371, hx371_0⟩ := Kd.at_int (Kd.R_reads' HO370.out).2.2 x15_2 p371 q371; cases e371; replace p371 := eq_true p371; replace q371 := eq_true q371; have p74 : 0 ≤ (x15_2 : Int) := of_decide_eq_true (by first | (with_reducible assumption) | assumption); have q74 : (x15_2 : Int) < ((y368.length : Int) : Int) := of_decide_eq_true (by first | (with_reducible assumption) | assumption); obtain ⟨go74, co74, eo74, gb74, gl74, cl74, HG74⟩ := Kd.R_form HO370.out (by omega); (first | cases eo74 | (injection eo74 with ea_ en_ ec_; (first | subst ea_ | (injection ea_ with ea_; subst ea_)); subst ec_; clear en_)); have GB74 := Aside0.mk gb74; have GG74 := Aside0.mk HG74; clear gb74 gl74 HG74; (first | simp only [add_plain] at hx371_0 | skip); obtain ⟨hx74_0, hf74_0⟩ := Kd.R_celln 0 HO370.out (x15_2 : Int) p74 q74; replace p74 := eq_true p74; replace q74 := eq_true q74; obtain ⟨hy83_, hz83_⟩ := Kd.R_celln 0 HO370.out (x15_2 : Int) (of_decide_eq_true (by first | (with_reducible assumption) | assumption)) (of_decide_eq_true (by first | (with_reducible assumption) | assumption)); have HP83 := Kd.R_putg HO370.out (x15_2 : Int) (wrap64 ((rd y368 x15_2) + 1))) | ((with_reducible refine gate_store (t := 2) (p := 72) rfl ?_); (try (rw [drewN_self w81]; generalize hq_ : World.drewN w81 _ = w81; have n0_ := Aside0.mk (Kd.R_at hq_ HO_351009.out); have n1_ := Aside0.mk (Kd.R_at hq_ HO367.out); have n2_ := Aside0.mk (Kd.R_at hq_ HO370.out); have n3_ := Aside0.mk (blk_at hq_ BK328.out); have n4_ := Aside0.mk (blk_at hq_ BK329.out); have n5_ := Aside0.mk (blk_at hq_ BK330.out); have n6_ := Aside0.mk (blk_at hq_ BK350.out); have n7_ := Aside0.mk (below_at hq_ HB.out); clear hq_ HO_351009 HO367 HO370 BK328 BK329 BK330 BK350 HB; have HO_351009 := n0_; have HO367 := n1_; have HO370 := n2_; have BK328 := n3_; have BK329 := n4_; have BK330 := n5_; have BK350 := n6_; have HB := n7_; clear n0_ n1_ n2_ n3_ n4_ n5_ n6_ n7_; (try (obtain ⟨hy83_, hz83_⟩ := Kd.R_celln 0 HO370.out (x15_2 : Int) (of_decide_eq_true (by first | (with_reducible assumption) | assumption)) (of_decide_eq_true (by first | (with_reducible assumption) | assumption)))); (try (have HP83 := Kd.R_putg HO370.out (x15_2 : Int) (wrap64 ((rd y368 x15_2) + 1)))))); refine store_event (t := 2) (p := 72) (v := ?vo_w84) (w1 := (w81.setCell ⟨go74, (x15_2 : Int).toNat, none⟩ (.int .i64 (wrap64 ((rd y368 x15_2) + 1))))) ?hg ?ho ?hn ?hr ?_; (case ho => rfl); (case hg => rfl); (case hn => rfl); (case hr => first | (go_simp; done) | (go_simp; rfl)); intro w84 hw; have hg : w81.grownBy w84 (some go74) := (by rw [hw]; exact HP83.2); have hp_ : Kd.R (Kd.int .i64) 2 w84 w.heap.size (fun _ => True) (.slice (some ⟨go74, 0, none⟩) y368.length co82) y372 := (by rw [hw, Ny372.out]; exact HP83.1); clear HP83; replace HO_351009 := Aside0.mk (Kd.R_over' (v := (.slice (some ⟨go74, 0, none⟩) y368.length co82)) (by (with_reducible repeat (first | apply Kd.R_alloc | apply Kd.R_drewN | apply Kd.R_drew)); exact HO_351009.out) (Kd.R_typed HO370.out) (by decide) hg); replace BK328 := Aside0.mk (blk_grown (sqO BK328.out) hg (Kd.R_ne HO370.out BK328.out (by decide))); replace BK329 := Aside0.mk (blk_grown (sqO BK329.out) hg (Kd.R_ne HO370.out BK329.out (by decide))); replace BK330 := Aside0.mk (blk_grown (sqO BK330.out) hg (Kd.R_ne HO370.out BK330.out (by decide))); replace BK350 := Aside0.mk (blk_grown (sqO BK350.out) hg (Kd.R_ne HO370.out BK350.out (by decide))); replace HO367 := Aside0.mk (Kd.R_over' (v := (.slice (some ⟨go74, 0, none⟩) y368.length co82)) (by (with_reducible repeat (first | apply Kd.R_alloc | apply Kd.R_drewN | apply Kd.R_drew)); exact HO367.out) (Kd.R_typed HO370.out) (by decide) hg); replace HO370 := Aside0.mk (hp_); replace HB := Aside0.mk ((by rw [hw]; exact below_set (HB.out) GB74.out : Below w.heap.size w w84)); clear hg hw hp_)))
               go_roundg k2
               case measure => have := HK1.out; have := HK2.out; omega
               case rel => exact ⟨(y365), (y372), (wrap64 (x14_1 + 1)), (by first | rfl | (simp; done) | (simp [*]; done)), H', ⟨by have := HK1.out; have := HK2.out; omega⟩, ⟨by (with_reducible repeat (first | apply Kd.R_alloc | apply Kd.R_drewN | apply Kd.R_drew)); exact HO367.out⟩, ⟨by (with_reducible repeat (first | apply Kd.R_alloc | apply Kd.R_drewN | apply Kd.R_drew)); exact HO370.out⟩, ⟨by (with_reducible repeat (first | apply Kd.R_alloc | apply Kd.R_drewN | apply Kd.R_drew)); exact Kd.R_mono HO_351009.out (fun _ hk => hk.2)⟩, ⟨by (with_reducible repeat (first | refine blk_drewN ?_ _ | refine blk_drew ?_ | refine blk_alloc ?_ _)); exact BK328.out⟩, ⟨by (with_reducible repeat (first | refine blk_drewN ?_ _ | refine blk_drew ?_ | refine blk_alloc ?_ _)); exact BK329.out⟩, ⟨by (with_reducible repeat (first | refine blk_drewN ?_ _ | refine blk_drew ?_ | refine blk_alloc ?_ _)); exact BK330.out⟩, ⟨by (with_reducible repeat (first | refine blk_drewN ?_ _ | refine blk_drew ?_ | refine blk_alloc ?_ _)); exact BK350.out⟩, ⟨by repeat (first | (with_reducible first | exact HB.out | apply below_alloc | apply pw_below_drewN | apply below_drew1 | refine below_set ?_ GE328.out | refine below_set ?_ GE329.out | refine below_set ?_ GE330.out | refine below_set ?_ GE350.out) | exact HB.out)⟩⟩
              ·rw [if_neg c73] at H
               exact absurd H (by simp)
             ·rw [if_neg c72] at H
              exact absurd H (by simp)
            ·rw [if_neg c71] at H
             exact absurd H (by simp)
           ·rw [if_neg c70] at H
            exact absurd H (by simp)
          ·rw [if_neg c69] at H
           exact absurd H (by simp)
         ·rw [if_neg c68] at H
          exact absurd H (by simp)
        ·rw [if_neg c67] at H
         have c67b0 : (x15_2 == (x11_1.length : Int)) = false := beq_eq_false_iff_ne.mpr c67
         have c67b1 : (x15_2 != (x11_1.length : Int)) = true := bne_iff_ne.mpr c67
         by_cases c85 : 0 ≤ x15_2
         ·rw [if_pos c85] at H
          have c85b0 : decide (0 ≤ x15_2) = true := decide_eq_true c85
          clear c85
          by_cases c86 : x15_2 < (x12_1.length : Int)
          ·rw [if_pos c86] at H
           have c86b0 : decide (x15_2 < (x12_1.length : Int)) = true := decide_eq_true c86
           clear c86
           obtain ⟨y374, hy374⟩ : ∃ y_ : List Int, y_ = (x12_1.set (x15_2 : Int).toNat (wrap64 ((rd x12_1 x15_2) + 1))) := ⟨_, rfl⟩
           replace H : (spec_HoursAtEach.l0 k2 x11_1 y374 (wrap64 (x14_1 + 1)) t338 t339 t340 t341 t342 t343 t344 t345 t346 t347) = some (r1, r2, r3) := by first | (rw [hy374]; with_reducible exact H) | (have H2_ := (Option.bind_some _ _).symm.trans H; rw [hy374]; with_reducible exact H2_) | (have H2_ := (Option.bind_some _ _).symm.trans H; with_reducible exact H2_) | with_reducible exact H | (rw [hy374]; exact H) | exact H
           have Ny374 := Aside0.mk hy374
           clear hy374
           have H' := Aside0.mk H
           clear H
           obtain ⟨Ao88, co88, eo88⟩ := Kd.R_slice HO_11.out
           subst eo88
           obtain ⟨Ao89, co89, eo89⟩ := Kd.R_slice HO_12.out
           subst eo89
           have p373 : 0 ≤ (x15_2 : Int) := of_decide_eq_true (by first | (with_reducible assumption) | assumption)
           have q373 : x15_2 < (x12_1.length : Int) := of_decide_eq_true (by first | (with_reducible assumption) | assumption)
           obtain ⟨ad373, e373, hx373_0⟩ := Kd.at_int (Kd.R_reads' HO_12.out).2.2 x15_2 p373 q373
           cases e373
           replace p373 := eq_true p373
           replace q373 := eq_true q373
           have p87 : 0 ≤ (x15_2 : Int) := of_decide_eq_true (by first | (with_reducible assumption) | assumption)
           have q87 : (x15_2 : Int) < ((x12_1.length : Int) : Int) := of_decide_eq_true (by first | (with_reducible assumption) | assumption)
           obtain ⟨go87, co87, eo87, gb87, gl87, cl87, HG87⟩ := Kd.R_form HO_12.out (by omega)
           (first | cases eo87 | (injection eo87 with ea_ en_ ec_; (first | subst ea_ | (injection ea_ with ea_; subst ea_)); subst ec_; clear en_))
           have GB87 := Aside0.mk gb87
           have GG87 := Aside0.mk HG87
           clear gb87 gl87 HG87
           (first | simp only [add_plain] at hx373_0 | skip)
           obtain ⟨hx87_0, hf87_0⟩ := Kd.R_celln 0 HO_12.out (x15_2 : Int) p87 q87
           replace p87 := eq_true p87
           replace q87 := eq_true q87
           have HP90 := Kd.R_putg HO_12.out (x15_2 : Int) (wrap64 ((rd x12_1 x15_2) + 1))
           go_wp2
           repeat (go_quiet (fail); try go_wp2_with (first | ((with_reducible refine gate_store (t := 2) (p := 72) rfl ?_); (try (rw [drewN_self wr]; generalize hq_ : World.drewN wr _ = wr; have n0_ := Aside0.mk (Kd.R_at hq_ HO_11.out); have n1_ := Aside0.mk (Kd.R_at hq_ HO_12.out); have n2_ := Aside0.mk (Kd.R_at hq_ HO_351009.out); have n3_ := Aside0.mk (blk_at hq_ BK328.out); have n4_ := Aside0.mk (blk_at hq_ BK329.out); have n5_ := Aside0.mk (blk_at hq_ BK330.out); have n6_ := Aside0.mk (blk_at hq_ BK350.out); have n7_ := Aside0.mk (below_at hq_ HB.out); clear hq_ HO_11 HO_12 HO_351009 BK328 BK329 BK330 BK350 HB; have HO_11 := n0_; have HO_12 := n1_; have HO_351009 := n2_; have BK328 := n3_; have BK329 := n4_; have BK330 := n5_; have BK350 := n6_; have HB := n7_; clear n0_ n1_ n2_ n3_ n4_ n5_ n6_ n7_; (try (obtain ⟨hx87_0, hf87_0⟩ := Kd.R_celln 0 HO_12.out (x15_2 : Int) (of_eq_true p87) (of_eq_true q87))); (try (have HP90 := Kd.R_putg HO_12.out (x15_2 : Int) (wrap64 ((rd x12_1 x15_2) + 1)))))); refine store_event (t := 2) (p := 72) (v := ?vo_w91) (w1 := (wr.setCell ⟨go87, (x15_2 : Int).toNat, none⟩ (.int .i64 (wrap64 ((rd x12_1 x15_2) + 1))))) ?hg ?ho ?hn ?hr ?_; (case ho => rfl); (case hg => rfl); (case hn => rfl); (case hr => first | (go_simp; done) | (go_simp; rfl)); intro w91 hw; have hg : wr.grownBy w91 (some go87) := (by rw [hw]; exact HP90.2); have hp_ : Kd.R (Kd.int .i64) 2 w91 w.heap.size (fun _ => True) (.slice (some ⟨go87, 0, none⟩) x12_1.length co89) y374 := (by rw [hw, Ny374.out]; exact HP90.1); clear HP90; replace HO_11 := Aside0.mk (Kd.R_over' (v := (.slice (some ⟨go87, 0, none⟩) x12_1.length co89)) (by (with_reducible repeat (first | apply Kd.R_alloc | apply Kd.R_drewN | apply Kd.R_drew)); exact HO_11.out) (Kd.R_typed HO_12.out) (by decide) hg); replace HO_351009 := Aside0.mk (Kd.R_over' (v := (.slice (some ⟨go87, 0, none⟩) x12_1.length co89)) (by (with_reducible repeat (first | apply Kd.R_alloc | apply Kd.R_drewN | apply Kd.R_drew)); exact HO_351009.out) (Kd.R_typed HO_12.out) (by decide) hg); replace BK328 := Aside0.mk (blk_grown (sqO BK328.out) hg (Kd.R_ne HO_12.out BK328.out (by decide))); replace BK329 := Aside0.mk (blk_grown (sqO BK329.out) hg (Kd.R_ne HO_12.out BK329.out (by decide))); replace BK330 := Aside0.mk (blk_grown (sqO BK330.out) hg (Kd.R_ne HO_12.out BK330.out (by decide))); replace BK350 := Aside0.mk (blk_grown (sqO BK350.out) hg (Kd.R_ne HO_12.out BK350.out (by decide))); replace HO_12 := Aside0.mk (hp_); replace HB := Aside0.mk ((by rw [hw]; exact below_set (HB.out) GB87.out : Below w.heap.size w w91)); clear hg hw hp_)))
           go_roundg k2
           case measure => have := HK1.out; have := HK2.out; omega
           case rel => exact ⟨(x11_1), (y374), (wrap64 (x14_1 + 1)), (by first | rfl | (simp; done) | (simp [*]; done)), H', ⟨by have := HK1.out; have := HK2.out; omega⟩, ⟨by (with_reducible repeat (first | apply Kd.R_alloc | apply Kd.R_drewN | apply Kd.R_drew)); exact HO_11.out⟩, ⟨by (with_reducible repeat (first | apply Kd.R_alloc | apply Kd.R_drewN | apply Kd.R_drew)); exact HO_12.out⟩, ⟨by (with_reducible repeat (first | apply Kd.R_alloc | apply Kd.R_drewN | apply Kd.R_drew)); exact HO_351009.out⟩, ⟨by (with_reducible repeat (first | refine blk_drewN ?_ _ | refine blk_drew ?_ | refine blk_alloc ?_ _)); exact BK328.out⟩, ⟨by (with_reducible repeat (first | refine blk_drewN ?_ _ | refine blk_drew ?_ | refine blk_alloc ?_ _)); exact BK329.out⟩, ⟨by (with_reducible repeat (first | refine blk_drewN ?_ _ | refine blk_drew ?_ | refine blk_alloc ?_ _)); exact BK330.out⟩, ⟨by (with_reducible repeat (first | refine blk_drewN ?_ _ | refine blk_drew ?_ | refine blk_alloc ?_ _)); exact BK350.out⟩, ⟨by repeat (first | (with_reducible first | exact HB.out | apply below_alloc | apply pw_below_drewN | apply below_drew1 | refine below_set ?_ GE328.out | refine below_set ?_ GE329.out | refine below_set ?_ GE330.out | refine below_set ?_ GE350.out) | exact HB.out)⟩⟩
          ·rw [if_neg c86] at H
           exact absurd H (by simp)
         ·rw [if_neg c85] at H
          exact absurd H (by simp)
    ·rw [if_neg c27] at H
     have c27b0 : decide (x14_1 < (t347.length : Int)) = false := decide_eq_false c27
     clear c27
     simp only [Option.some.injEq, Prod.mk.injEq] at H
     obtain ⟨rfl, rfl, rfl⟩ := H
     have hnb92 := NB350_328.out
     have hnc92 := NB328_350.out
     have hnb93 := NB350_329.out
     have hnc93 := NB329_350.out
     have hnb94 := NB350_330.out
     have hnc94 := NB330_350.out
     have hcz95_0 : wr.cell? ⟨gb350, 0, none⟩ = some (.int .i8 t338) := (blk_cell BK350.out 0).trans rfl
     have hcz95_1 : wr.cell? ⟨gb350, 1, none⟩ = some (.int .i8 t339) := (blk_cell BK350.out 1).trans rfl
     have hcz95_2 : wr.cell? ⟨gb350, 2, none⟩ = some (.int .i8 t340) := (blk_cell BK350.out 2).trans rfl
     have hcz95_3 : wr.cell? ⟨gb350, 3, none⟩ = some (.int .i8 t341) := (blk_cell BK350.out 3).trans rfl
     have hcz95_4 : wr.cell? ⟨gb350, 4, none⟩ = some (.int .i8 t342) := (blk_cell BK350.out 4).trans rfl
     have hcz95_5 : wr.cell? ⟨gb350, 5, none⟩ = some (.int .i8 t343) := (blk_cell BK350.out 5).trans rfl
     have hcz95_6 : wr.cell? ⟨gb350, 6, none⟩ = some (.bool t344) := (blk_cell BK350.out 6).trans rfl
     have hcz95_7 : wr.cell? ⟨gb350, 7, none⟩ = some (.int .i64 t345) := (blk_cell BK350.out 7).trans rfl
     have hcz95_8 : wr.cell? ⟨gb350, 8, none⟩ = some (.int .i64 t346) := (blk_cell BK350.out 8).trans rfl
     have hcz95_9 : wr.cell? ⟨gb350, 9, none⟩ = some (.slice Ao26 t347.length co26) := (blk_cell BK350.out 9).trans rfl
     have hfz95_0 := blk_frozen BK350.out 0
     have hfz95_1 := blk_frozen BK350.out 1
     have hfz95_2 := blk_frozen BK350.out 2
     have hfz95_3 := blk_frozen BK350.out 3
     have hfz95_4 := blk_frozen BK350.out 4
     have hfz95_5 := blk_frozen BK350.out 5
     have hfz95_6 := blk_frozen BK350.out 6
     have hfz95_7 := blk_frozen BK350.out 7
     have hfz95_8 := blk_frozen BK350.out 8
     have hfz95_9 := blk_frozen BK350.out 9
     go_wp2
     repeat (go_quiet (fail); try go_wp2)
     go_ret3
     exact ⟨_, _, by first | rfl | (simp [errW_none, errW_some] <;> rfl) | (simp [*, errW_none, errW_some] <;> rfl), by (with_reducible repeat (first | apply Kd.R_alloc | apply Kd.R_drewN | apply Kd.R_drew)); exact Kd.R_mono HO_11.out (fun _ hk => trivial), by (with_reducible repeat (first | apply Kd.R_alloc | apply Kd.R_drewN | apply Kd.R_drew)); exact HO_12.out, by repeat (first | (with_reducible first | exact HB.out | apply below_alloc | apply pw_below_drewN | apply below_drew1 | refine below_set ?_ GE328.out | refine below_set ?_ GE329.out | refine below_set ?_ GE330.out | refine below_set ?_ GE350.out) | exact HB.out)⟩
 ·replace c6 := Bool.eq_false_iff.mpr c6
  subst c6
  have H1 : (some (y331, y334, 1)) = some (r1, r2, r3) := by rw [if_neg (show ¬ (false = true) by decide)] at H; exact H
  clear H
  have H := H1
  clear H1
  simp only [Option.some.injEq, Prod.mk.injEq] at H
  obtain ⟨rfl, rfl, rfl⟩ := H
  go_enter Try.func24, Try.ntmps24
  go_wp2_with (first | ((with_reducible refine gate_dst (N := 4) rfl ?_); refine box_event ?hg (N := 4) ?hd (cs := (a0).A) (t := 38) ?hr ?_; (case hd => rfl); (case hg => rfl); (case hr => first | exact AR.run_box_row rfl rfl | (go_simp; done) | (go_simp; rfl)); intro gb328 hg w96 hbox hb; have BK328 := Aside0.mk (hbox); have GW328 := Aside0.mk (sqS HB.out hg); replace HB := Aside0.mk (sqH HB.out hb); have GE328 := GW328; clear hb hbox hg) | ((with_reducible refine gate_dst (N := 5) rfl ?_); refine box_event ?hg (N := 5) ?hd (cs := (a1).A) (t := 40) ?hr ?_; (case hd => rfl); (case hg => rfl); (case hr => first | exact AR.run_box_row rfl rfl | (go_simp; done) | (go_simp; rfl)); intro gb329 hg w97 hbox hb; have BK329 := Aside0.mk (hbox); have GW329 := Aside0.mk (sqS HB.out hg); replace HB := Aside0.mk (sqH HB.out hb); have GE329 := GW329; have NB328_329 := Aside0.mk (sqN BK328.out hg); replace BK328 := Aside0.mk (sqB BK328.out hb); have NB329_328 := Aside0.mk (Ne.symm NB328_329.out); clear hb hbox hg) | ((with_reducible refine gate_dst (N := 6) rfl ?_); refine box_event ?hg (N := 6) ?hd (cs := #[.int .i8 a2_0, .int .i8 a2_1, .int .i8 a2_2, .int .i8 a2_3, .int .i8 a2_4, .int .i8 a2_5]) (t := 44) ?hr ?_; (case hd => rfl); (case hg => rfl); (case hr => first | (go_simp; done) | (go_simp; rfl)); intro gb330 hg w98 hbox hb; have BK330 := Aside0.mk (hbox); have GW330 := Aside0.mk (sqS HB.out hg); replace HB := Aside0.mk (sqH HB.out hb); have GE330 := GW330; have NB328_330 := Aside0.mk (sqN BK328.out hg); replace BK328 := Aside0.mk (sqB BK328.out hb); have NB330_328 := Aside0.mk (Ne.symm NB328_330.out); have NB329_330 := Aside0.mk (sqN BK329.out hg); replace BK329 := Aside0.mk (sqB BK329.out hb); have NB330_329 := Aside0.mk (Ne.symm NB329_330.out); clear hb hbox hg) | ((with_reducible refine gate_dst (N := 16) rfl ?_); refine Kd.R_lit k42 _ 42 ?hg (N := 16) ?hd (xs := ([] : List (S42))) (inner := []) (ok := fun _ => True) (okp := fun _ => True) ?hr ?hp (fun _ hk => hk) trivial (Below.refl _ _) (Nat.le_refl _) (by simp) ?_; (case hd => rfl); (case hg => rfl); (case hr => first | (go_simp; done) | (go_simp; rfl)); (case hp => exact (Reps.none _ _)); intro v332 w99 ho100 hb hg_ hnew_; clear hg_ hnew_; (first | rw [← Ny331.out] at ho100 | (simp only [Int.reduceToNat] at ho100; rw [← Ny331.out] at ho100)); have HO333 := Aside0.mk (Kd.R_lower ho100 (sqW HB.out)); replace BK328 := Aside0.mk (sqB BK328.out hb); replace BK329 := Aside0.mk (sqB BK329.out hb); replace BK330 := Aside0.mk (sqB BK330.out hb); replace HB := Aside0.mk (sqH HB.out hb); clear hb ho100) | ((with_reducible refine gate_dst (N := 17) rfl ?_); refine Kd.R_lit (Kd.int .i64) _ 2 ?hg (N := 17) ?hd (xs := ([] : List Int)) (inner := []) (ok := fun _ => True) (okp := fun _ => True) ?hr ?hp (fun _ hk => hk) trivial (Below.refl _ _) (Nat.le_refl _) (by simp) ?_; (case hd => rfl); (case hg => rfl); (case hr => first | (go_simp; done) | (go_simp; rfl)); (case hp => exact (Reps.none _ _)); intro v335 w101 ho102 hb hg_ hnew_; clear hg_ hnew_; (first | rw [← Ny334.out] at ho102 | (simp only [Int.reduceToNat] at ho102; rw [← Ny334.out] at ho102)); replace HO333 := Aside0.mk (sqR HO333.out hb); have HO336 := Aside0.mk (Kd.R_lower ho102 (sqW HB.out)); replace BK328 := Aside0.mk (sqB BK328.out hb); replace BK329 := Aside0.mk (sqB BK329.out hb); replace BK330 := Aside0.mk (sqB BK330.out hb); replace HB := Aside0.mk (sqH HB.out hb); clear hb ho102; have hnb103 := NB330_328.out; have hnc103 := NB328_330.out; have hnb104 := NB330_329.out; have hnc104 := NB329_330.out; obtain ⟨hcz105_0, hcz105_1, hcz105_2, hcz105_3, hcz105_4, hcz105_5⟩ := sqC BK330.out; obtain ⟨hfz105_0, hfz105_1, hfz105_2, hfz105_3, hfz105_4, hfz105_5⟩ := sqF6 BK330.out) | (go_at_call 34; (with_reducible refine (spec_l07Valid.calls k gb328 a0 gb329 a1 a2_0 a2_1 a2_2 a2_3 a2_4 a2_5 _ _ l3 false _ ?side1 ?side2 ?side3 ?side4 A5.out).mono ?_); (case side1 => (with_reducible repeat (first | refine blk_drewN ?_ _ | refine blk_drew ?_ | refine blk_alloc ?_ _)); exact BK328.out); (case side2 => (with_reducible repeat (first | refine blk_drewN ?_ _ | refine blk_drew ?_ | refine blk_alloc ?_ _)); exact BK329.out); (case side3 => repeat (first | exact (Kd.C_below HR3.out HB.out) | (with_reducible refine Kd.C_alloc ?_ _) | (with_reducible refine Kd.C_drewN ?_ _) | (with_reducible refine Kd.C_drew ?_))); (case side4 => exact HC3.out); rintro e w106 ⟨rfl, hb⟩; replace HO333 := Aside0.mk (sqR HO333.out hb); replace HO336 := Aside0.mk (sqR HO336.out hb); replace BK328 := Aside0.mk (sqB BK328.out hb); replace BK329 := Aside0.mk (sqB BK329.out hb); replace BK330 := Aside0.mk (sqB BK330.out hb); replace HB := Aside0.mk (sqH HB.out hb); (try clear hb); (try clear hb2); (try clear hk); (try clear hi)))
  repeat (go_quiet (fail); try go_wp2)
  go_ret3
  exact ⟨_, _, by first | rfl | (simp [errW_none, errW_some] <;> rfl) | (simp [*, errW_none, errW_some] <;> rfl), by (with_reducible repeat (first | apply Kd.R_alloc | apply Kd.R_drewN | apply Kd.R_drew)); exact HO333.out, by (with_reducible repeat (first | apply Kd.R_alloc | apply Kd.R_drewN | apply Kd.R_drew)); exact HO336.out, by repeat (first | (with_reducible first | exact HB.out | apply below_alloc | apply pw_below_drewN | apply below_drew1 | refine below_set ?_ GE328.out | refine below_set ?_ GE329.out | refine below_set ?_ GE330.out) | exact HB.out)⟩
end Go.Proofs.Ytmhmfhdmeedcfaa.G
end
section
namespace Go.Proofs.Ytmhmfhdmeedcfaa.G
open Go.RowKit Go.Proofs.YtmhmfhdmeedcfaaW.PrintWords Go.Proofs.YtmhmfhdmeedcfaaW.PrintLast Go.Proofs.YtmhmfhdmeedcfaaW.PrintMore
attribute [local go_sem] max2_int min2_int max_two min_two max_three min_three max_four min_four   -- for this text's walks alone
set_option linter.unusedVariables false
set_option linter.unusedSimpArgs false
def impl_isWind.f (a0_0 : Int) (a0_1 : Int) : Option (Bool) := if a0_0 ≥ 0 then (if a0_0 ≤ 12 then (if a0_1 ≥ 0 then (some (decide (a0_1 ≤ 7))) else (some false)) else (some false)) else (some false)
set_option maxHeartbeats 8000000 in
set_option maxRecDepth 100000 in
theorem impl_isWind.calls (a0_0 : Int) (a0_1 : Int) (r : Bool) (w : World) (h : impl_isWind.f a0_0 a0_1 = some r) :
  Calls Try.prog 70 #[.agg #[.int .i8 a0_0, .int .i8 a0_1]] w fun e w' => e = .returned (.bool r) ∧ Below w.heap.size w w' := by
 have hu78 := Try.underlying78
 have HB := Aside0.mk (Below.refl w.heap.size w)
 have H : (if a0_0 ≥ 0 then (if a0_0 ≤ 12 then (if a0_1 ≥ 0 then (some (decide (a0_1 ≤ 7))) else (some false)) else (some false)) else (some false)) = some r := h
 clear h
 by_cases c2 : a0_0 ≥ 0
 ·rw [if_pos c2] at H
  have c2b0 : decide (0 ≤ a0_0) = true := decide_eq_true c2
  clear c2
  by_cases c3 : a0_0 ≤ 12
  ·rw [if_pos c3] at H
   have c3b0 : decide (a0_0 ≤ 12) = true := decide_eq_true c3
   clear c3
   by_cases c4 : a0_1 ≥ 0
   ·rw [if_pos c4] at H
    have c4b0 : decide (0 ≤ a0_1) = true := decide_eq_true c4
    clear c4
    obtain rfl := Option.some.inj H
    go_enter Try.func70, Try.ntmps70
    go_wp2_with (first | ((with_reducible refine gate_dst (N := 1) rfl ?_); refine box_event ?hg (N := 1) ?hd (cs := #[.int .i8 a0_0, .int .i8 a0_1]) (t := 78) ?hr ?_; (case hd => rfl); (case hg => rfl); (case hr => first | (go_simp; done) | (go_simp; rfl)); intro gb168 hg w5 hbox hb; have BK168 := Aside0.mk (hbox); have GW168 := Aside0.mk (sqS HB.out hg); replace HB := Aside0.mk (sqH HB.out hb); have GE168 := GW168; clear hb hbox hg; obtain ⟨hcz6_0, hcz6_1⟩ := sqC2 BK168.out; obtain ⟨hfz6_0, hfz6_1⟩ := sqF2 BK168.out))
    go_ret
    exact ⟨by first | rfl | (simp [errW_none, errW_some] <;> rfl) | (simp [*, errW_none, errW_some] <;> rfl), by repeat (first | (with_reducible first | exact HB.out | apply below_alloc | apply pw_below_drewN | apply below_drew1 | refine below_set ?_ GE168.out) | exact HB.out)⟩
   ·rw [if_neg c4] at H
    have c4b0 : decide (0 ≤ a0_1) = false := decide_eq_false c4
    clear c4
    obtain rfl := Option.some.inj H
    go_enter Try.func70, Try.ntmps70
    go_wp2_with (first | ((with_reducible refine gate_dst (N := 1) rfl ?_); refine box_event ?hg (N := 1) ?hd (cs := #[.int .i8 a0_0, .int .i8 a0_1]) (t := 78) ?hr ?_; (case hd => rfl); (case hg => rfl); (case hr => first | (go_simp; done) | (go_simp; rfl)); intro gb168 hg w7 hbox hb; have BK168 := Aside0.mk (hbox); have GW168 := Aside0.mk (sqS HB.out hg); replace HB := Aside0.mk (sqH HB.out hb); have GE168 := GW168; clear hb hbox hg; obtain ⟨hcz8_0, hcz8_1⟩ := sqC2 BK168.out; obtain ⟨hfz8_0, hfz8_1⟩ := sqF2 BK168.out))
    go_ret
    exact ⟨by first | rfl | (simp [errW_none, errW_some] <;> rfl) | (simp [*, errW_none, errW_some] <;> rfl), by repeat (first | (with_reducible first | exact HB.out | apply below_alloc | apply pw_below_drewN | apply below_drew1 | refine below_set ?_ GE168.out) | exact HB.out)⟩
  ·rw [if_neg c3] at H
   have c3b0 : decide (a0_0 ≤ 12) = false := decide_eq_false c3
   clear c3
   obtain rfl := Option.some.inj H
   go_enter Try.func70, Try.ntmps70
   go_wp2_with (first | ((with_reducible refine gate_dst (N := 1) rfl ?_); refine box_event ?hg (N := 1) ?hd (cs := #[.int .i8 a0_0, .int .i8 a0_1]) (t := 78) ?hr ?_; (case hd => rfl); (case hg => rfl); (case hr => first | (go_simp; done) | (go_simp; rfl)); intro gb168 hg w9 hbox hb; have BK168 := Aside0.mk (hbox); have GW168 := Aside0.mk (sqS HB.out hg); replace HB := Aside0.mk (sqH HB.out hb); have GE168 := GW168; clear hb hbox hg; obtain ⟨hcz10_0, hcz10_1⟩ := sqC2 BK168.out; obtain ⟨hfz10_0, hfz10_1⟩ := sqF2 BK168.out))
   go_ret
   exact ⟨by first | rfl | (simp [errW_none, errW_some] <;> rfl) | (simp [*, errW_none, errW_some] <;> rfl), by repeat (first | (with_reducible first | exact HB.out | apply below_alloc | apply pw_below_drewN | apply below_drew1 | refine below_set ?_ GE168.out) | exact HB.out)⟩
 ·rw [if_neg c2] at H
  have c2b0 : decide (0 ≤ a0_0) = false := decide_eq_false c2
  clear c2
  obtain rfl := Option.some.inj H
  go_enter Try.func70, Try.ntmps70
  go_wp2_with (first | ((with_reducible refine gate_dst (N := 1) rfl ?_); refine box_event ?hg (N := 1) ?hd (cs := #[.int .i8 a0_0, .int .i8 a0_1]) (t := 78) ?hr ?_; (case hd => rfl); (case hg => rfl); (case hr => first | (go_simp; done) | (go_simp; rfl)); intro gb168 hg w11 hbox hb; have BK168 := Aside0.mk (hbox); have GW168 := Aside0.mk (sqS HB.out hg); replace HB := Aside0.mk (sqH HB.out hb); have GE168 := GW168; clear hb hbox hg; obtain ⟨hcz12_0, hcz12_1⟩ := sqC2 BK168.out; obtain ⟨hfz12_0, hfz12_1⟩ := sqF2 BK168.out))
  go_ret
  exact ⟨by first | rfl | (simp [errW_none, errW_some] <;> rfl) | (simp [*, errW_none, errW_some] <;> rfl), by repeat (first | (with_reducible first | exact HB.out | apply below_alloc | apply pw_below_drewN | apply below_drew1 | refine below_set ?_ GE168.out) | exact HB.out)⟩
end Go.Proofs.Ytmhmfhdmeedcfaa.G
end
section
namespace Go.Proofs.Ytmhmfhdmeedcfaa.G
open Go.RowKit Go.Proofs.YtmhmfhdmeedcfaaW.PrintWords Go.Proofs.YtmhmfhdmeedcfaaW.PrintLast Go.Proofs.YtmhmfhdmeedcfaaW.PrintMore
attribute [local go_sem] max2_int min2_int max_two min_two max_three min_three max_four min_four   -- for this text's walks alone
set_option linter.unusedVariables false
set_option linter.unusedSimpArgs false
def impl_ValidWinds.l0 : Nat → List (S78) → List (S78) → Int → Int → Option (Bool)
 | 0, _, _, _, _ => none
 | k + 1, x0, x5, x6, x7 => if x7 < x6 then (if 0 ≤ x7 then (if x7 < (x5.length : Int) then ((impl_isWind.f ((rd_T78 x5 x7).f0) ((rd_T78 x5 x7).f1)).bind fun t171 => (if t171 = true then (impl_ValidWinds.l0 k x0 x5 x6 (wrap64 (x7 + 1))) else (some false))) else (none)) else (none)) else (some (decide ((x0.length : Int) ≤ 48)))
def impl_ValidWinds.f (k : Nat) (l0 : List (S78)) : Option (Bool) := impl_ValidWinds.l0 k l0 l0 (l0.length : Int) 0
set_option maxHeartbeats 8000000 in
set_option maxRecDepth 100000 in
theorem impl_ValidWinds.calls (k : Nat) (A0 : Option Addr) (c0 : Nat) (l0 : List (S78)) (r : Bool) (w : World) (hr0 : Kd.C k78 w A0 l0.length l0) (hc0 : l0.length ≤ c0) (h : impl_ValidWinds.f k l0 = some r) :
  Calls Try.prog 56 #[.slice A0 l0.length c0] w fun e w' => e = .returned (.bool r) ∧ Below w.heap.size w w' := by
 have hu78 := Try.underlying78
 have HR0 := Aside0.mk hr0
 have HC0 := Aside0.mk hc0
 clear hr0 hc0
 have HB := Aside0.mk (Below.refl w.heap.size w)
 have H : (impl_ValidWinds.l0 k l0 l0 (l0.length : Int) 0) = some r := h
 clear h
 have H' := Aside0.mk H
 clear H
 go_enter Try.func56, Try.ntmps56
 go_wp2
 go_loopg [7] k (fun kq v7 w' => ∃ (x7_1 : Int), v7 = .int .i64 x7_1 ∧ Aside0 (impl_ValidWinds.l0 kq l0 l0 (l0.length : Int) x7_1 = some r) ∧ Aside0 (kq ≤ k) ∧ Aside0 (Below w.heap.size w w'))
 case atStart => exact ⟨(0), (by first | rfl | (simp; done) | (simp [*]; done)), H', ⟨Nat.le_refl _⟩, ⟨by repeat (first | (with_reducible first | exact HB.out | apply below_alloc | apply pw_below_drewN | apply below_drew1) | exact HB.out)⟩⟩
 case round =>
  clear H'
  obtain ⟨x7_1, rfl, HA, HK1, HB⟩ := hrel
  cases gk with
  | zero => exact absurd HA.out (by simp [impl_ValidWinds.l0])
  | succ k1 =>
   have H := HA.out
   clear HA
   simp only [impl_ValidWinds.l0] at H
   by_cases c2 : x7_1 < (l0.length : Int)
   ·rw [if_pos c2] at H
    have c2b0 : decide (x7_1 < (l0.length : Int)) = true := decide_eq_true c2
    clear c2
    by_cases c3 : 0 ≤ x7_1
    ·rw [if_pos c3] at H
     have c3b0 : decide (0 ≤ x7_1) = true := decide_eq_true c3
     clear c3
     by_cases c4 : x7_1 < (l0.length : Int)
     ·rw [if_pos c4] at H
      have c4b0 : decide (x7_1 < (l0.length : Int)) = true := decide_eq_true c4
      clear c4
      replace H := Option.bind_eq_some_iff.mp H
      obtain ⟨t171, A50, H⟩ := H
      replace H : (if t171 = true then (impl_ValidWinds.l0 k1 l0 l0 (l0.length : Int) (wrap64 (x7_1 + 1))) else (some false)) = some r := H
      have A5 := Aside0.mk A50
      clear A50
      by_cases c6 : t171 = true
      ·subst c6
       have H1 : (impl_ValidWinds.l0 k1 l0 l0 (l0.length : Int) (wrap64 (x7_1 + 1))) = some r := by rw [if_pos rfl] at H; exact H
       clear H
       have H := H1
       clear H1
       have H' := Aside0.mk H
       clear H
       have p169 : 0 ≤ (x7_1 : Int) := of_decide_eq_true (by first | (with_reducible assumption) | assumption)
       have q169 : x7_1 < (l0.length : Int) := of_decide_eq_true (by first | (with_reducible assumption) | assumption)
       obtain ⟨ad169, e169, hx169_0, hx169_1⟩ := at_T78 HR0.out x7_1 p169 q169
       cases e169
       replace hx169_0 := (HB.out.cell (World.block_lt_of_cell? w _ hx169_0)).trans hx169_0
       replace hx169_1 := (HB.out.cell (World.block_lt_of_cell? w _ hx169_1)).trans hx169_1
       replace p169 := eq_true p169
       replace q169 := eq_true q169
       go_wp2_with (first | ((with_reducible refine gate_dst (N := 4) rfl ?_); refine box_event ?hg (N := 4) ?hd (cs := #[.int .i8 0, .int .i8 0]) (t := 78) ?hr ?_; (case hd => rfl); (case hg => rfl); (case hr => first | (go_simp; done) | (go_simp; rfl)); intro gb170 hg w7 hbox hb; have BK170 := Aside0.mk (hbox); have GW170 := Aside0.mk (sqS HB.out hg); replace HB := Aside0.mk (sqH HB.out hb); have GE170 := GW170; clear hb hbox hg; obtain ⟨hcz8_0, hcz8_1⟩ := sqC2 BK170.out; obtain ⟨hfz8_0, hfz8_1⟩ := sqF2 BK170.out) | ((with_reducible refine gate_callee (f := 70) rfl ?_); refine goesL_ (some 12) rfl rfl Try.func70 (by kernel_rfl) rfl #[.agg #[.int .i8 ((rd_T78 l0 x7_1).f0), .int .i8 ((rd_T78 l0 x7_1).f1)]] rfl (by (try simp only [List.map_toArray, List.map_cons, List.map_nil]); first | done | rfl | (simp only [List.length_drop, List.length_take]; rfl)) ?_; (with_reducible refine (impl_isWind.calls ((rd_T78 l0 x7_1).f0) ((rd_T78 l0 x7_1).f1) true _ A5.out).mono ?_); rintro e w9 ⟨rfl, hb⟩; refine ⟨_, rfl, ?_⟩; replace BK170 := Aside0.mk (blk_below (g := gb170) (o := .cells #[.int .i8 ((rd_T78 l0 x7_1).f0), .int .i8 ((rd_T78 l0 x7_1).f1)] 78 (0, 0)) (by (with_reducible repeat (first | refine blk_drewN ?_ _ | refine blk_drew ?_ | refine blk_alloc ?_ _)); refine blk_put (cs := #[.int .i8 ((rd_T78 l0 x7_1).f0), .int .i8 0]) ?_ 1 _ rfl; (with_reducible repeat (first | refine blk_drewN ?_ _ | refine blk_drew ?_ | refine blk_alloc ?_ _)); refine blk_put (cs := #[.int .i8 0, .int .i8 0]) ?_ 0 _ rfl; (with_reducible repeat (first | refine blk_drewN ?_ _ | refine blk_drew ?_ | refine blk_alloc ?_ _)); exact BK170.out) hb); replace HB := Aside0.mk (sqH HB.out hb); (try clear hb); (try clear hb2); (try clear hk); (try clear hi)))
       go_roundg k1
       case measure => have := HK1.out; omega
       case rel => exact ⟨(wrap64 (x7_1 + 1)), (by first | rfl | (simp; done) | (simp [*]; done)), H', ⟨by have := HK1.out; omega⟩, ⟨by repeat (first | (with_reducible first | exact HB.out | apply below_alloc | apply pw_below_drewN | apply below_drew1 | refine below_set ?_ GE170.out) | exact HB.out)⟩⟩
      ·replace c6 := Bool.eq_false_iff.mpr c6
       subst c6
       have H1 : (some false) = some r := by rw [if_neg (show ¬ (false = true) by decide)] at H; exact H
       clear H
       have H := H1
       clear H1
       obtain rfl := Option.some.inj H
       have p169 : 0 ≤ (x7_1 : Int) := of_decide_eq_true (by first | (with_reducible assumption) | assumption)
       have q169 : x7_1 < (l0.length : Int) := of_decide_eq_true (by first | (with_reducible assumption) | assumption)
       obtain ⟨ad169, e169, hx169_0, hx169_1⟩ := at_T78 HR0.out x7_1 p169 q169
       cases e169
       replace hx169_0 := (HB.out.cell (World.block_lt_of_cell? w _ hx169_0)).trans hx169_0
       replace hx169_1 := (HB.out.cell (World.block_lt_of_cell? w _ hx169_1)).trans hx169_1
       replace p169 := eq_true p169
       replace q169 := eq_true q169
       go_wp2_with (first | ((with_reducible refine gate_dst (N := 4) rfl ?_); refine box_event ?hg (N := 4) ?hd (cs := #[.int .i8 0, .int .i8 0]) (t := 78) ?hr ?_; (case hd => rfl); (case hg => rfl); (case hr => first | (go_simp; done) | (go_simp; rfl)); intro gb170 hg w10 hbox hb; have BK170 := Aside0.mk (hbox); have GW170 := Aside0.mk (sqS HB.out hg); replace HB := Aside0.mk (sqH HB.out hb); have GE170 := GW170; clear hb hbox hg; obtain ⟨hcz11_0, hcz11_1⟩ := sqC2 BK170.out; obtain ⟨hfz11_0, hfz11_1⟩ := sqF2 BK170.out) | ((with_reducible refine gate_callee (f := 70) rfl ?_); refine goesL_ (some 12) rfl rfl Try.func70 (by kernel_rfl) rfl #[.agg #[.int .i8 ((rd_T78 l0 x7_1).f0), .int .i8 ((rd_T78 l0 x7_1).f1)]] rfl (by (try simp only [List.map_toArray, List.map_cons, List.map_nil]); first | done | rfl | (simp only [List.length_drop, List.length_take]; rfl)) ?_; (with_reducible refine (impl_isWind.calls ((rd_T78 l0 x7_1).f0) ((rd_T78 l0 x7_1).f1) false _ A5.out).mono ?_); rintro e w12 ⟨rfl, hb⟩; refine ⟨_, rfl, ?_⟩; replace BK170 := Aside0.mk (blk_below (g := gb170) (o := .cells #[.int .i8 ((rd_T78 l0 x7_1).f0), .int .i8 ((rd_T78 l0 x7_1).f1)] 78 (0, 0)) (by (with_reducible repeat (first | refine blk_drewN ?_ _ | refine blk_drew ?_ | refine blk_alloc ?_ _)); refine blk_put (cs := #[.int .i8 ((rd_T78 l0 x7_1).f0), .int .i8 0]) ?_ 1 _ rfl; (with_reducible repeat (first | refine blk_drewN ?_ _ | refine blk_drew ?_ | refine blk_alloc ?_ _)); refine blk_put (cs := #[.int .i8 0, .int .i8 0]) ?_ 0 _ rfl; (with_reducible repeat (first | refine blk_drewN ?_ _ | refine blk_drew ?_ | refine blk_alloc ?_ _)); exact BK170.out) hb); replace HB := Aside0.mk (sqH HB.out hb); (try clear hb); (try clear hb2); (try clear hk); (try clear hi)))
       go_ret
       exact ⟨by first | rfl | (simp [errW_none, errW_some] <;> rfl) | (simp [*, errW_none, errW_some] <;> rfl), by repeat (first | (with_reducible first | exact HB.out | apply below_alloc | apply pw_below_drewN | apply below_drew1 | refine below_set ?_ GE170.out) | exact HB.out)⟩
     ·rw [if_neg c4] at H
      exact absurd H (by simp)
    ·rw [if_neg c3] at H
     exact absurd H (by simp)
   ·rw [if_neg c2] at H
    have c2b0 : decide (x7_1 < (l0.length : Int)) = false := decide_eq_false c2
    clear c2
    obtain rfl := Option.some.inj H
    go_wp2
    go_ret
    exact ⟨by first | rfl | (simp [errW_none, errW_some] <;> rfl) | (simp [*, errW_none, errW_some] <;> rfl), by repeat (first | (with_reducible first | exact HB.out | apply below_alloc | apply pw_below_drewN | apply below_drew1) | exact HB.out)⟩
end Go.Proofs.Ytmhmfhdmeedcfaa.G
end
section
namespace Go.Proofs.Ytmhmfhdmeedcfaa.G
open Go.RowKit Go.Proofs.YtmhmfhdmeedcfaaW.PrintWords Go.Proofs.YtmhmfhdmeedcfaaW.PrintLast Go.Proofs.YtmhmfhdmeedcfaaW.PrintMore
attribute [local go_sem] max2_int min2_int max_two min_two max_three min_three max_four min_four   -- for this text's walks alone
set_option linter.unusedVariables false
set_option linter.unusedSimpArgs false
def impl_isPlace.f (a0 : O38) (a1_0 : Int) (a1_1 : Int) : Option (Bool) := if a1_0 ≥ 0 then (if a1_0 < (a0.z 0) then (if a1_1 ≥ 0 then (some (decide (a1_1 < (a0.z 1)))) else (some false)) else (some false)) else (some false)
set_option maxHeartbeats 8000000 in
set_option maxRecDepth 100000 in
theorem impl_isPlace.calls (a0 : O38) (a1_0 : Int) (a1_1 : Int) (r : Bool) (w : World) (h : impl_isPlace.f a0 a1_0 a1_1 = some r) :
  Calls Try.prog 84 #[VO38 a0, .agg #[.int .i8 a1_0, .int .i8 a1_1]] w fun e w' => e = .returned (.bool r) ∧ Below w.heap.size w w' := by
 have hu42 := Try.underlying42
 have HB := Aside0.mk (Below.refl w.heap.size w)
 have H : (if a1_0 ≥ 0 then (if a1_0 < (a0.z 0) then (if a1_1 ≥ 0 then (some (decide (a1_1 < (a0.z 1)))) else (some false)) else (some false)) else (some false)) = some r := h
 clear h
 by_cases c3 : a1_0 ≥ 0
 ·rw [if_pos c3] at H
  have c3b0 : decide (0 ≤ a1_0) = true := decide_eq_true c3
  clear c3
  by_cases c4 : a1_0 < (a0.z 0)
  ·rw [if_pos c4] at H
   have c4b0 : decide (a1_0 < (a0.z 0)) = true := decide_eq_true c4
   clear c4
   by_cases c5 : a1_1 ≥ 0
   ·rw [if_pos c5] at H
    have c5b0 : decide (0 ≤ a1_1) = true := decide_eq_true c5
    clear c5
    obtain rfl := Option.some.inj H
    go_enter Try.func84, Try.ntmps84
    go_wp2_with (first | ((with_reducible refine gate_dst (N := 2) rfl ?_); refine box_event ?hg (N := 2) ?hd (cs := (a0).A) (t := 38) ?hr ?_; (case hd => rfl); (case hg => rfl); (case hr => first | exact AR.run_box_row rfl rfl | (go_simp; done) | (go_simp; rfl)); intro gb172 hg w6 hbox hb; have BK172 := Aside0.mk (hbox); have GW172 := Aside0.mk (sqS HB.out hg); replace HB := Aside0.mk (sqH HB.out hb); have GE172 := GW172; clear hb hbox hg) | ((with_reducible refine gate_dst (N := 3) rfl ?_); refine box_event ?hg (N := 3) ?hd (cs := #[.int .i8 a1_0, .int .i8 a1_1]) (t := 42) ?hr ?_; (case hd => rfl); (case hg => rfl); (case hr => first | (go_simp; done) | (go_simp; rfl)); intro gb173 hg w7 hbox hb; have BK173 := Aside0.mk (hbox); have GW173 := Aside0.mk (sqS HB.out hg); replace HB := Aside0.mk (sqH HB.out hb); have GE173 := GW173; have NB172_173 := Aside0.mk (sqN BK172.out hg); replace BK172 := Aside0.mk (sqB BK172.out hb); have NB173_172 := Aside0.mk (Ne.symm NB172_173.out); clear hb hbox hg; have hnb8 := NB173_172.out; have hnc8 := NB172_173.out; obtain ⟨hcz9_0, hcz9_1⟩ := sqC2 BK173.out; obtain ⟨hfz9_0, hfz9_1⟩ := sqF2 BK173.out; have hco172_0 : w7.cell? ⟨gb172, 0, none⟩ = some (.int .i8 (a0.z 0)) := AR.blk_cell BK172.out (Flat.at_ a0 (by decide)); have hco172_1 : w7.cell? ⟨gb172, 1, none⟩ = some (.int .i8 (a0.z 1)) := AR.blk_cell BK172.out (Flat.at_ a0 (by decide))))
    go_ret
    exact ⟨by first | rfl | (simp [errW_none, errW_some] <;> rfl) | (simp [*, errW_none, errW_some] <;> rfl), by repeat (first | (with_reducible first | exact HB.out | apply below_alloc | apply pw_below_drewN | apply below_drew1 | refine below_set ?_ GE172.out | refine below_set ?_ GE173.out) | exact HB.out)⟩
   ·rw [if_neg c5] at H
    have c5b0 : decide (0 ≤ a1_1) = false := decide_eq_false c5
    clear c5
    obtain rfl := Option.some.inj H
    go_enter Try.func84, Try.ntmps84
    go_wp2_with (first | ((with_reducible refine gate_dst (N := 2) rfl ?_); refine box_event ?hg (N := 2) ?hd (cs := (a0).A) (t := 38) ?hr ?_; (case hd => rfl); (case hg => rfl); (case hr => first | exact AR.run_box_row rfl rfl | (go_simp; done) | (go_simp; rfl)); intro gb172 hg w10 hbox hb; have BK172 := Aside0.mk (hbox); have GW172 := Aside0.mk (sqS HB.out hg); replace HB := Aside0.mk (sqH HB.out hb); have GE172 := GW172; clear hb hbox hg) | ((with_reducible refine gate_dst (N := 3) rfl ?_); refine box_event ?hg (N := 3) ?hd (cs := #[.int .i8 a1_0, .int .i8 a1_1]) (t := 42) ?hr ?_; (case hd => rfl); (case hg => rfl); (case hr => first | (go_simp; done) | (go_simp; rfl)); intro gb173 hg w11 hbox hb; have BK173 := Aside0.mk (hbox); have GW173 := Aside0.mk (sqS HB.out hg); replace HB := Aside0.mk (sqH HB.out hb); have GE173 := GW173; have NB172_173 := Aside0.mk (sqN BK172.out hg); replace BK172 := Aside0.mk (sqB BK172.out hb); have NB173_172 := Aside0.mk (Ne.symm NB172_173.out); clear hb hbox hg; have hnb12 := NB173_172.out; have hnc12 := NB172_173.out; obtain ⟨hcz13_0, hcz13_1⟩ := sqC2 BK173.out; obtain ⟨hfz13_0, hfz13_1⟩ := sqF2 BK173.out; have hco172_0 : w11.cell? ⟨gb172, 0, none⟩ = some (.int .i8 (a0.z 0)) := AR.blk_cell BK172.out (Flat.at_ a0 (by decide)); have hco172_1 : w11.cell? ⟨gb172, 1, none⟩ = some (.int .i8 (a0.z 1)) := AR.blk_cell BK172.out (Flat.at_ a0 (by decide))))
    go_ret
    exact ⟨by first | rfl | (simp [errW_none, errW_some] <;> rfl) | (simp [*, errW_none, errW_some] <;> rfl), by repeat (first | (with_reducible first | exact HB.out | apply below_alloc | apply pw_below_drewN | apply below_drew1 | refine below_set ?_ GE172.out | refine below_set ?_ GE173.out) | exact HB.out)⟩
  ·rw [if_neg c4] at H
   have c4b0 : decide (a1_0 < (a0.z 0)) = false := decide_eq_false c4
   clear c4
   obtain rfl := Option.some.inj H
   go_enter Try.func84, Try.ntmps84
   go_wp2_with (first | ((with_reducible refine gate_dst (N := 2) rfl ?_); refine box_event ?hg (N := 2) ?hd (cs := (a0).A) (t := 38) ?hr ?_; (case hd => rfl); (case hg => rfl); (case hr => first | exact AR.run_box_row rfl rfl | (go_simp; done) | (go_simp; rfl)); intro gb172 hg w14 hbox hb; have BK172 := Aside0.mk (hbox); have GW172 := Aside0.mk (sqS HB.out hg); replace HB := Aside0.mk (sqH HB.out hb); have GE172 := GW172; clear hb hbox hg) | ((with_reducible refine gate_dst (N := 3) rfl ?_); refine box_event ?hg (N := 3) ?hd (cs := #[.int .i8 a1_0, .int .i8 a1_1]) (t := 42) ?hr ?_; (case hd => rfl); (case hg => rfl); (case hr => first | (go_simp; done) | (go_simp; rfl)); intro gb173 hg w15 hbox hb; have BK173 := Aside0.mk (hbox); have GW173 := Aside0.mk (sqS HB.out hg); replace HB := Aside0.mk (sqH HB.out hb); have GE173 := GW173; have NB172_173 := Aside0.mk (sqN BK172.out hg); replace BK172 := Aside0.mk (sqB BK172.out hb); have NB173_172 := Aside0.mk (Ne.symm NB172_173.out); clear hb hbox hg; have hnb16 := NB173_172.out; have hnc16 := NB172_173.out; obtain ⟨hcz17_0, hcz17_1⟩ := sqC2 BK173.out; obtain ⟨hfz17_0, hfz17_1⟩ := sqF2 BK173.out; have hco172_0 : w15.cell? ⟨gb172, 0, none⟩ = some (.int .i8 (a0.z 0)) := AR.blk_cell BK172.out (Flat.at_ a0 (by decide)); have hco172_1 : w15.cell? ⟨gb172, 1, none⟩ = some (.int .i8 (a0.z 1)) := AR.blk_cell BK172.out (Flat.at_ a0 (by decide))))
   go_ret
   exact ⟨by first | rfl | (simp [errW_none, errW_some] <;> rfl) | (simp [*, errW_none, errW_some] <;> rfl), by repeat (first | (with_reducible first | exact HB.out | apply below_alloc | apply pw_below_drewN | apply below_drew1 | refine below_set ?_ GE172.out | refine below_set ?_ GE173.out) | exact HB.out)⟩
 ·rw [if_neg c3] at H
  have c3b0 : decide (0 ≤ a1_0) = false := decide_eq_false c3
  clear c3
  obtain rfl := Option.some.inj H
  go_enter Try.func84, Try.ntmps84
  go_wp2_with (first | ((with_reducible refine gate_dst (N := 2) rfl ?_); refine box_event ?hg (N := 2) ?hd (cs := (a0).A) (t := 38) ?hr ?_; (case hd => rfl); (case hg => rfl); (case hr => first | exact AR.run_box_row rfl rfl | (go_simp; done) | (go_simp; rfl)); intro gb172 hg w18 hbox hb; have BK172 := Aside0.mk (hbox); have GW172 := Aside0.mk (sqS HB.out hg); replace HB := Aside0.mk (sqH HB.out hb); have GE172 := GW172; clear hb hbox hg) | ((with_reducible refine gate_dst (N := 3) rfl ?_); refine box_event ?hg (N := 3) ?hd (cs := #[.int .i8 a1_0, .int .i8 a1_1]) (t := 42) ?hr ?_; (case hd => rfl); (case hg => rfl); (case hr => first | (go_simp; done) | (go_simp; rfl)); intro gb173 hg w19 hbox hb; have BK173 := Aside0.mk (hbox); have GW173 := Aside0.mk (sqS HB.out hg); replace HB := Aside0.mk (sqH HB.out hb); have GE173 := GW173; have NB172_173 := Aside0.mk (sqN BK172.out hg); replace BK172 := Aside0.mk (sqB BK172.out hb); have NB173_172 := Aside0.mk (Ne.symm NB172_173.out); clear hb hbox hg; have hnb20 := NB173_172.out; have hnc20 := NB172_173.out; obtain ⟨hcz21_0, hcz21_1⟩ := sqC2 BK173.out; obtain ⟨hfz21_0, hfz21_1⟩ := sqF2 BK173.out))
  go_ret
  exact ⟨by first | rfl | (simp [errW_none, errW_some] <;> rfl) | (simp [*, errW_none, errW_some] <;> rfl), by repeat (first | (with_reducible first | exact HB.out | apply below_alloc | apply pw_below_drewN | apply below_drew1 | refine below_set ?_ GE172.out | refine below_set ?_ GE173.out) | exact HB.out)⟩
end Go.Proofs.Ytmhmfhdmeedcfaa.G
end
section
namespace Go.Proofs.Ytmhmfhdmeedcfaa.G
open Go.RowKit Go.Proofs.YtmhmfhdmeedcfaaW.PrintWords Go.Proofs.YtmhmfhdmeedcfaaW.PrintLast Go.Proofs.YtmhmfhdmeedcfaaW.PrintMore
attribute [local go_sem] max2_int min2_int max_two min_two max_three min_three max_four min_four   -- for this text's walks alone
set_option linter.unusedVariables false
set_option linter.unusedSimpArgs false
def impl_isWater.f (a0 : O38) (a1_0 : Int) (a1_1 : Int) : Option (Bool) := (impl_isPlace.f a0 a1_0 a1_1).bind fun t176 => (if t176 = true then ((impl_depth.f a0 a1_0 a1_1).bind fun t177 => (some (decide (t177 > 0)))) else (some false))
set_option maxHeartbeats 8000000 in
set_option maxRecDepth 100000 in
theorem impl_isWater.calls (a0 : O38) (a1_0 : Int) (a1_1 : Int) (r : Bool) (w : World) (h : impl_isWater.f a0 a1_0 a1_1 = some r) :
  Calls Try.prog 75 #[VO38 a0, .agg #[.int .i8 a1_0, .int .i8 a1_1]] w fun e w' => e = .returned (.bool r) ∧ Below w.heap.size w w' := by
 have hu42 := Try.underlying42
 have HB := Aside0.mk (Below.refl w.heap.size w)
 have H : ((impl_isPlace.f a0 a1_0 a1_1).bind fun t176 => (if t176 = true then ((impl_depth.f a0 a1_0 a1_1).bind fun t177 => (some (decide (t177 > 0)))) else (some false))) = some r := h
 clear h
 replace H := Option.bind_eq_some_iff.mp H
 obtain ⟨t176, A30, H⟩ := H
 replace H : (if t176 = true then ((impl_depth.f a0 a1_0 a1_1).bind fun t177 => (some (decide (t177 > 0)))) else (some false)) = some r := H
 have A3 := Aside0.mk A30
 clear A30
 by_cases c4 : t176 = true
 ·subst c4
  have H1 : ((impl_depth.f a0 a1_0 a1_1).bind fun t177 => (some (decide (t177 > 0)))) = some r := by rw [if_pos rfl] at H; exact H
  clear H
  have H := H1
  clear H1
  replace H := Option.bind_eq_some_iff.mp H
  obtain ⟨t177, A50, H⟩ := H
  replace H : (some (decide (t177 > 0))) = some r := H
  have A5 := Aside0.mk A50
  clear A50
  obtain rfl := Option.some.inj H
  go_enter Try.func75, Try.ntmps75
  go_wp2_with (first | ((with_reducible refine gate_dst (N := 2) rfl ?_); refine box_event ?hg (N := 2) ?hd (cs := (a0).A) (t := 38) ?hr ?_; (case hd => rfl); (case hg => rfl); (case hr => first | exact AR.run_box_row rfl rfl | (go_simp; done) | (go_simp; rfl)); intro gb174 hg w6 hbox hb; have BK174 := Aside0.mk (hbox); have GW174 := Aside0.mk (sqS HB.out hg); replace HB := Aside0.mk (sqH HB.out hb); have GE174 := GW174; clear hb hbox hg) | ((with_reducible refine gate_dst (N := 3) rfl ?_); refine box_event ?hg (N := 3) ?hd (cs := #[.int .i8 a1_0, .int .i8 a1_1]) (t := 42) ?hr ?_; (case hd => rfl); (case hg => rfl); (case hr => first | (go_simp; done) | (go_simp; rfl)); intro gb175 hg w7 hbox hb; have BK175 := Aside0.mk (hbox); have GW175 := Aside0.mk (sqS HB.out hg); replace HB := Aside0.mk (sqH HB.out hb); have GE175 := GW175; have NB174_175 := Aside0.mk (sqN BK174.out hg); replace BK174 := Aside0.mk (sqB BK174.out hb); have NB175_174 := Aside0.mk (Ne.symm NB174_175.out); clear hb hbox hg) | ((with_reducible refine gate_dst (N := 5) rfl ?_); (with_reducible refine AR.gate_load (t := 38) rfl ?_); (try refine gate_guard (by rfl) ?_); refine AR.wpList_load_blk rfl 38 _ rfl gb174 rfl (a0).A _ (sqO BK174.out) Try.underlying38 rfl (szO38 _) ?_; have hnb8 := NB175_174.out; have hnc8 := NB174_175.out; obtain ⟨hcz9_0, hcz9_1⟩ := sqC2 BK175.out; obtain ⟨hfz9_0, hfz9_1⟩ := sqF2 BK175.out) | ((with_reducible refine gate_callee (f := 84) rfl ?_); refine goesL_ (some 7) rfl rfl Try.func84 (by kernel_rfl) rfl #[VO38 a0, .agg #[.int .i8 a1_0, .int .i8 a1_1]] rfl (by (try simp only [List.map_toArray, List.map_cons, List.map_nil]); first | done | rfl | (simp only [List.length_drop, List.length_take]; rfl)) ?_; (with_reducible refine (impl_isPlace.calls a0 a1_0 a1_1 true _ A3.out).mono ?_); rintro e w10 ⟨rfl, hb⟩; refine ⟨_, rfl, ?_⟩; replace BK174 := Aside0.mk (sqB BK174.out hb); replace BK175 := Aside0.mk (sqB BK175.out hb); replace HB := Aside0.mk (sqH HB.out hb); (try clear hb); (try clear hb2); (try clear hk); (try clear hi)) | ((with_reducible refine gate_dst (N := 9) rfl ?_); (with_reducible refine AR.gate_load (t := 38) rfl ?_); (try refine gate_guard (by rfl) ?_); refine AR.wpList_load_blk rfl 38 _ rfl gb174 rfl (a0).A _ (sqO BK174.out) Try.underlying38 rfl (szO38 _) ?_; obtain ⟨hcz11_0, hcz11_1⟩ := sqC2 BK175.out; obtain ⟨hfz11_0, hfz11_1⟩ := sqF2 BK175.out) | (go_at_call 85; (with_reducible refine (impl_depth.calls a0 a1_0 a1_1 t177 _ A5.out).mono ?_); rintro e w12 ⟨rfl, hb⟩; replace BK174 := Aside0.mk (sqB BK174.out hb); replace BK175 := Aside0.mk (sqB BK175.out hb); replace HB := Aside0.mk (sqH HB.out hb); (try clear hb); (try clear hb2); (try clear hk); (try clear hi)))
  go_ret
  exact ⟨by first | rfl | (simp [errW_none, errW_some] <;> rfl) | (simp [*, errW_none, errW_some] <;> rfl), by repeat (first | (with_reducible first | exact HB.out | apply below_alloc | apply pw_below_drewN | apply below_drew1 | refine below_set ?_ GE174.out | refine below_set ?_ GE175.out) | exact HB.out)⟩
 ·replace c4 := Bool.eq_false_iff.mpr c4
  subst c4
  have H1 : (some false) = some r := by rw [if_neg (show ¬ (false = true) by decide)] at H; exact H
  clear H
  have H := H1
  clear H1
  obtain rfl := Option.some.inj H
  go_enter Try.func75, Try.ntmps75
  go_wp2_with (first | ((with_reducible refine gate_dst (N := 2) rfl ?_); refine box_event ?hg (N := 2) ?hd (cs := (a0).A) (t := 38) ?hr ?_; (case hd => rfl); (case hg => rfl); (case hr => first | exact AR.run_box_row rfl rfl | (go_simp; done) | (go_simp; rfl)); intro gb174 hg w13 hbox hb; have BK174 := Aside0.mk (hbox); have GW174 := Aside0.mk (sqS HB.out hg); replace HB := Aside0.mk (sqH HB.out hb); have GE174 := GW174; clear hb hbox hg) | ((with_reducible refine gate_dst (N := 3) rfl ?_); refine box_event ?hg (N := 3) ?hd (cs := #[.int .i8 a1_0, .int .i8 a1_1]) (t := 42) ?hr ?_; (case hd => rfl); (case hg => rfl); (case hr => first | (go_simp; done) | (go_simp; rfl)); intro gb175 hg w14 hbox hb; have BK175 := Aside0.mk (hbox); have GW175 := Aside0.mk (sqS HB.out hg); replace HB := Aside0.mk (sqH HB.out hb); have GE175 := GW175; have NB174_175 := Aside0.mk (sqN BK174.out hg); replace BK174 := Aside0.mk (sqB BK174.out hb); have NB175_174 := Aside0.mk (Ne.symm NB174_175.out); clear hb hbox hg) | ((with_reducible refine gate_dst (N := 5) rfl ?_); (with_reducible refine AR.gate_load (t := 38) rfl ?_); (try refine gate_guard (by rfl) ?_); refine AR.wpList_load_blk rfl 38 _ rfl gb174 rfl (a0).A _ (sqO BK174.out) Try.underlying38 rfl (szO38 _) ?_; have hnb15 := NB175_174.out; have hnc15 := NB174_175.out; obtain ⟨hcz16_0, hcz16_1⟩ := sqC2 BK175.out; obtain ⟨hfz16_0, hfz16_1⟩ := sqF2 BK175.out) | ((with_reducible refine gate_callee (f := 84) rfl ?_); refine goesL_ (some 7) rfl rfl Try.func84 (by kernel_rfl) rfl #[VO38 a0, .agg #[.int .i8 a1_0, .int .i8 a1_1]] rfl (by (try simp only [List.map_toArray, List.map_cons, List.map_nil]); first | done | rfl | (simp only [List.length_drop, List.length_take]; rfl)) ?_; (with_reducible refine (impl_isPlace.calls a0 a1_0 a1_1 false _ A3.out).mono ?_); rintro e w17 ⟨rfl, hb⟩; refine ⟨_, rfl, ?_⟩; replace BK174 := Aside0.mk (sqB BK174.out hb); replace BK175 := Aside0.mk (sqB BK175.out hb); replace HB := Aside0.mk (sqH HB.out hb); (try clear hb); (try clear hb2); (try clear hk); (try clear hi)))
  go_ret
  exact ⟨by first | rfl | (simp [errW_none, errW_some] <;> rfl) | (simp [*, errW_none, errW_some] <;> rfl), by repeat (first | (with_reducible first | exact HB.out | apply below_alloc | apply pw_below_drewN | apply below_drew1 | refine below_set ?_ GE174.out | refine below_set ?_ GE175.out) | exact HB.out)⟩
end Go.Proofs.Ytmhmfhdmeedcfaa.G
end
section
namespace Go.Proofs.Ytmhmfhdmeedcfaa.G
open Go.RowKit Go.Proofs.YtmhmfhdmeedcfaaW.PrintWords Go.Proofs.YtmhmfhdmeedcfaaW.PrintLast Go.Proofs.YtmhmfhdmeedcfaaW.PrintMore
attribute [local go_sem] max2_int min2_int max_two min_two max_three min_three max_four min_four   -- for this text's walks alone
set_option linter.unusedVariables false
set_option linter.unusedSimpArgs false
def impl_isBoat.f (a0 : O38) (a1_0 : Int) (a1_1 : Int) (a1_2 : Int) (a1_3 : Int) (a1_4 : Int) (a1_5 : Int) : Option (Bool) := (impl_isWater.f a0 a1_0 a1_1).bind fun t180 => (if t180 = true then (if a1_2 ≥ 1 then (if a1_2 ≤ 60 then (if a1_3 ≥ 0 then (if a1_3 ≤ 5 then (if a1_4 ≥ 1 then (if a1_4 ≤ 30 then (if a1_5 ≥ 0 then (some (decide (a1_5 ≤ 9))) else (some false)) else (some false)) else (some false)) else (some false)) else (some false)) else (some false)) else (some false)) else (some false))
set_option maxHeartbeats 8000000 in
set_option maxRecDepth 100000 in
theorem impl_isBoat.calls (a0 : O38) (a1_0 : Int) (a1_1 : Int) (a1_2 : Int) (a1_3 : Int) (a1_4 : Int) (a1_5 : Int) (r : Bool) (w : World) (h : impl_isBoat.f a0 a1_0 a1_1 a1_2 a1_3 a1_4 a1_5 = some r) :
  Calls Try.prog 62 #[VO38 a0, .agg #[.int .i8 a1_0, .int .i8 a1_1, .int .i8 a1_2, .int .i8 a1_3, .int .i8 a1_4, .int .i8 a1_5]] w fun e w' => e = .returned (.bool r) ∧ Below w.heap.size w w' := by
 have hu44 := Try.underlying44
 have hu42 := Try.underlying42
 have HB := Aside0.mk (Below.refl w.heap.size w)
 have H : ((impl_isWater.f a0 a1_0 a1_1).bind fun t180 => (if t180 = true then (if a1_2 ≥ 1 then (if a1_2 ≤ 60 then (if a1_3 ≥ 0 then (if a1_3 ≤ 5 then (if a1_4 ≥ 1 then (if a1_4 ≤ 30 then (if a1_5 ≥ 0 then (some (decide (a1_5 ≤ 9))) else (some false)) else (some false)) else (some false)) else (some false)) else (some false)) else (some false)) else (some false)) else (some false))) = some r := h
 clear h
 replace H := Option.bind_eq_some_iff.mp H
 obtain ⟨t180, A30, H⟩ := H
 replace H : (if t180 = true then (if a1_2 ≥ 1 then (if a1_2 ≤ 60 then (if a1_3 ≥ 0 then (if a1_3 ≤ 5 then (if a1_4 ≥ 1 then (if a1_4 ≤ 30 then (if a1_5 ≥ 0 then (some (decide (a1_5 ≤ 9))) else (some false)) else (some false)) else (some false)) else (some false)) else (some false)) else (some false)) else (some false)) else (some false)) = some r := H
 have A3 := Aside0.mk A30
 clear A30
 by_cases c4 : t180 = true
 ·subst c4
  have H1 : (if a1_2 ≥ 1 then (if a1_2 ≤ 60 then (if a1_3 ≥ 0 then (if a1_3 ≤ 5 then (if a1_4 ≥ 1 then (if a1_4 ≤ 30 then (if a1_5 ≥ 0 then (some (decide (a1_5 ≤ 9))) else (some false)) else (some false)) else (some false)) else (some false)) else (some false)) else (some false)) else (some false)) = some r := by rw [if_pos rfl] at H; exact H
  clear H
  have H := H1
  clear H1
  by_cases c5 : a1_2 ≥ 1
  ·rw [if_pos c5] at H
   have c5b0 : decide (1 ≤ a1_2) = true := decide_eq_true c5
   clear c5
   by_cases c6 : a1_2 ≤ 60
   ·rw [if_pos c6] at H
    have c6b0 : decide (a1_2 ≤ 60) = true := decide_eq_true c6
    clear c6
    by_cases c7 : a1_3 ≥ 0
    ·rw [if_pos c7] at H
     have c7b0 : decide (0 ≤ a1_3) = true := decide_eq_true c7
     clear c7
     by_cases c8 : a1_3 ≤ 5
     ·rw [if_pos c8] at H
      have c8b0 : decide (a1_3 ≤ 5) = true := decide_eq_true c8
      clear c8
      by_cases c9 : a1_4 ≥ 1
      ·rw [if_pos c9] at H
       have c9b0 : decide (1 ≤ a1_4) = true := decide_eq_true c9
       clear c9
       by_cases c10 : a1_4 ≤ 30
       ·rw [if_pos c10] at H
        have c10b0 : decide (a1_4 ≤ 30) = true := decide_eq_true c10
        clear c10
        by_cases c11 : a1_5 ≥ 0
        ·rw [if_pos c11] at H
         have c11b0 : decide (0 ≤ a1_5) = true := decide_eq_true c11
         clear c11
         obtain rfl := Option.some.inj H
         go_enter Try.func62, Try.ntmps62
         go_wp2_with (first | ((with_reducible refine gate_dst (N := 2) rfl ?_); refine box_event ?hg (N := 2) ?hd (cs := (a0).A) (t := 38) ?hr ?_; (case hd => rfl); (case hg => rfl); (case hr => first | exact AR.run_box_row rfl rfl | (go_simp; done) | (go_simp; rfl)); intro gb178 hg w12 hbox hb; have BK178 := Aside0.mk (hbox); have GW178 := Aside0.mk (sqS HB.out hg); replace HB := Aside0.mk (sqH HB.out hb); have GE178 := GW178; clear hb hbox hg) | ((with_reducible refine gate_dst (N := 3) rfl ?_); refine box_event ?hg (N := 3) ?hd (cs := #[.int .i8 a1_0, .int .i8 a1_1, .int .i8 a1_2, .int .i8 a1_3, .int .i8 a1_4, .int .i8 a1_5]) (t := 44) ?hr ?_; (case hd => rfl); (case hg => rfl); (case hr => first | (go_simp; done) | (go_simp; rfl)); intro gb179 hg w13 hbox hb; have BK179 := Aside0.mk (hbox); have GW179 := Aside0.mk (sqS HB.out hg); replace HB := Aside0.mk (sqH HB.out hb); have GE179 := GW179; have NB178_179 := Aside0.mk (sqN BK178.out hg); replace BK178 := Aside0.mk (sqB BK178.out hb); have NB179_178 := Aside0.mk (Ne.symm NB178_179.out); clear hb hbox hg) | ((with_reducible refine gate_dst (N := 5) rfl ?_); (with_reducible refine AR.gate_load (t := 38) rfl ?_); (try refine gate_guard (by rfl) ?_); refine AR.wpList_load_blk rfl 38 _ rfl gb178 rfl (a0).A _ (sqO BK178.out) Try.underlying38 rfl (szO38 _) ?_; have hnb14 := NB179_178.out; have hnc14 := NB178_179.out; obtain ⟨hcz15_0, hcz15_1, hcz15_2, hcz15_3, hcz15_4, hcz15_5⟩ := sqC BK179.out; obtain ⟨hfz15_0, hfz15_1, hfz15_2, hfz15_3, hfz15_4, hfz15_5⟩ := sqF6 BK179.out) | ((with_reducible refine gate_callee (f := 75) rfl ?_); refine goesL_ (some 8) rfl rfl Try.func75 (by kernel_rfl) rfl #[VO38 a0, .agg #[.int .i8 a1_0, .int .i8 a1_1]] rfl (by (try simp only [List.map_toArray, List.map_cons, List.map_nil]); first | done | rfl | (simp only [List.length_drop, List.length_take]; rfl)) ?_; (with_reducible refine (impl_isWater.calls a0 a1_0 a1_1 true _ A3.out).mono ?_); rintro e w16 ⟨rfl, hb⟩; refine ⟨_, rfl, ?_⟩; replace BK178 := Aside0.mk (sqB BK178.out hb); replace BK179 := Aside0.mk (sqB BK179.out hb); replace HB := Aside0.mk (sqH HB.out hb); (try clear hb); (try clear hb2); (try clear hk); (try clear hi); obtain ⟨hcz17_0, hcz17_1, hcz17_2, hcz17_3, hcz17_4, hcz17_5⟩ := sqC BK179.out; obtain ⟨hfz17_0, hfz17_1, hfz17_2, hfz17_3, hfz17_4, hfz17_5⟩ := sqF6 BK179.out))
         go_ret
         exact ⟨by first | rfl | (simp [errW_none, errW_some] <;> rfl) | (simp [*, errW_none, errW_some] <;> rfl), by repeat (first | (with_reducible first | exact HB.out | apply below_alloc | apply pw_below_drewN | apply below_drew1 | refine below_set ?_ GE178.out | refine below_set ?_ GE179.out) | exact HB.out)⟩
        ·rw [if_neg c11] at H
         have c11b0 : decide (0 ≤ a1_5) = false := decide_eq_false c11
         clear c11
         obtain rfl := Option.some.inj H
         go_enter Try.func62, Try.ntmps62
         go_wp2_with (first | ((with_reducible refine gate_dst (N := 2) rfl ?_); refine box_event ?hg (N := 2) ?hd (cs := (a0).A) (t := 38) ?hr ?_; (case hd => rfl); (case hg => rfl); (case hr => first | exact AR.run_box_row rfl rfl | (go_simp; done) | (go_simp; rfl)); intro gb178 hg w18 hbox hb; have BK178 := Aside0.mk (hbox); have GW178 := Aside0.mk (sqS HB.out hg); replace HB := Aside0.mk (sqH HB.out hb); have GE178 := GW178; clear hb hbox hg) | ((with_reducible refine gate_dst (N := 3) rfl ?_); refine box_event ?hg (N := 3) ?hd (cs := #[.int .i8 a1_0, .int .i8 a1_1, .int .i8 a1_2, .int .i8 a1_3, .int .i8 a1_4, .int .i8 a1_5]) (t := 44) ?hr ?_; (case hd => rfl); (case hg => rfl); (case hr => first | (go_simp; done) | (go_simp; rfl)); intro gb179 hg w19 hbox hb; have BK179 := Aside0.mk (hbox); have GW179 := Aside0.mk (sqS HB.out hg); replace HB := Aside0.mk (sqH HB.out hb); have GE179 := GW179; have NB178_179 := Aside0.mk (sqN BK178.out hg); replace BK178 := Aside0.mk (sqB BK178.out hb); have NB179_178 := Aside0.mk (Ne.symm NB178_179.out); clear hb hbox hg) | ((with_reducible refine gate_dst (N := 5) rfl ?_); (with_reducible refine AR.gate_load (t := 38) rfl ?_); (try refine gate_guard (by rfl) ?_); refine AR.wpList_load_blk rfl 38 _ rfl gb178 rfl (a0).A _ (sqO BK178.out) Try.underlying38 rfl (szO38 _) ?_; have hnb20 := NB179_178.out; have hnc20 := NB178_179.out; obtain ⟨hcz21_0, hcz21_1, hcz21_2, hcz21_3, hcz21_4, hcz21_5⟩ := sqC BK179.out; obtain ⟨hfz21_0, hfz21_1, hfz21_2, hfz21_3, hfz21_4, hfz21_5⟩ := sqF6 BK179.out) | ((with_reducible refine gate_callee (f := 75) rfl ?_); refine goesL_ (some 8) rfl rfl Try.func75 (by kernel_rfl) rfl #[VO38 a0, .agg #[.int .i8 a1_0, .int .i8 a1_1]] rfl (by (try simp only [List.map_toArray, List.map_cons, List.map_nil]); first | done | rfl | (simp only [List.length_drop, List.length_take]; rfl)) ?_; (with_reducible refine (impl_isWater.calls a0 a1_0 a1_1 true _ A3.out).mono ?_); rintro e w22 ⟨rfl, hb⟩; refine ⟨_, rfl, ?_⟩; replace BK178 := Aside0.mk (sqB BK178.out hb); replace BK179 := Aside0.mk (sqB BK179.out hb); replace HB := Aside0.mk (sqH HB.out hb); (try clear hb); (try clear hb2); (try clear hk); (try clear hi); obtain ⟨hcz23_0, hcz23_1, hcz23_2, hcz23_3, hcz23_4, hcz23_5⟩ := sqC BK179.out; obtain ⟨hfz23_0, hfz23_1, hfz23_2, hfz23_3, hfz23_4, hfz23_5⟩ := sqF6 BK179.out))
         go_ret
         exact ⟨by first | rfl | (simp [errW_none, errW_some] <;> rfl) | (simp [*, errW_none, errW_some] <;> rfl), by repeat (first | (with_reducible first | exact HB.out | apply below_alloc | apply pw_below_drewN | apply below_drew1 | refine below_set ?_ GE178.out | refine below_set ?_ GE179.out) | exact HB.out)⟩
       ·rw [if_neg c10] at H
        have c10b0 : decide (a1_4 ≤ 30) = false := decide_eq_false c10
        clear c10
        obtain rfl := Option.some.inj H
        go_enter Try.func62, Try.ntmps62
        go_wp2_with (first | ((with_reducible refine gate_dst (N := 2) rfl ?_); refine box_event ?hg (N := 2) ?hd (cs := (a0).A) (t := 38) ?hr ?_; (case hd => rfl); (case hg => rfl); (case hr => first | exact AR.run_box_row rfl rfl | (go_simp; done) | (go_simp; rfl)); intro gb178 hg w24 hbox hb; have BK178 := Aside0.mk (hbox); have GW178 := Aside0.mk (sqS HB.out hg); replace HB := Aside0.mk (sqH HB.out hb); have GE178 := GW178; clear hb hbox hg) | ((with_reducible refine gate_dst (N := 3) rfl ?_); refine box_event ?hg (N := 3) ?hd (cs := #[.int .i8 a1_0, .int .i8 a1_1, .int .i8 a1_2, .int .i8 a1_3, .int .i8 a1_4, .int .i8 a1_5]) (t := 44) ?hr ?_; (case hd => rfl); (case hg => rfl); (case hr => first | (go_simp; done) | (go_simp; rfl)); intro gb179 hg w25 hbox hb; have BK179 := Aside0.mk (hbox); have GW179 := Aside0.mk (sqS HB.out hg); replace HB := Aside0.mk (sqH HB.out hb); have GE179 := GW179; have NB178_179 := Aside0.mk (sqN BK178.out hg); replace BK178 := Aside0.mk (sqB BK178.out hb); have NB179_178 := Aside0.mk (Ne.symm NB178_179.out); clear hb hbox hg) | ((with_reducible refine gate_dst (N := 5) rfl ?_); (with_reducible refine AR.gate_load (t := 38) rfl ?_); (try refine gate_guard (by rfl) ?_); refine AR.wpList_load_blk rfl 38 _ rfl gb178 rfl (a0).A _ (sqO BK178.out) Try.underlying38 rfl (szO38 _) ?_; have hnb26 := NB179_178.out; have hnc26 := NB178_179.out; obtain ⟨hcz27_0, hcz27_1, hcz27_2, hcz27_3, hcz27_4, hcz27_5⟩ := sqC BK179.out; obtain ⟨hfz27_0, hfz27_1, hfz27_2, hfz27_3, hfz27_4, hfz27_5⟩ := sqF6 BK179.out) | ((with_reducible refine gate_callee (f := 75) rfl ?_); refine goesL_ (some 8) rfl rfl Try.func75 (by kernel_rfl) rfl #[VO38 a0, .agg #[.int .i8 a1_0, .int .i8 a1_1]] rfl (by (try simp only [List.map_toArray, List.map_cons, List.map_nil]); first | done | rfl | (simp only [List.length_drop, List.length_take]; rfl)) ?_; (with_reducible refine (impl_isWater.calls a0 a1_0 a1_1 true _ A3.out).mono ?_); rintro e w28 ⟨rfl, hb⟩; refine ⟨_, rfl, ?_⟩; replace BK178 := Aside0.mk (sqB BK178.out hb); replace BK179 := Aside0.mk (sqB BK179.out hb); replace HB := Aside0.mk (sqH HB.out hb); (try clear hb); (try clear hb2); (try clear hk); (try clear hi); obtain ⟨hcz29_0, hcz29_1, hcz29_2, hcz29_3, hcz29_4, hcz29_5⟩ := sqC BK179.out; obtain ⟨hfz29_0, hfz29_1, hfz29_2, hfz29_3, hfz29_4, hfz29_5⟩ := sqF6 BK179.out))
        go_ret
        exact ⟨by first | rfl | (simp [errW_none, errW_some] <;> rfl) | (simp [*, errW_none, errW_some] <;> rfl), by repeat (first | (with_reducible first | exact HB.out | apply below_alloc | apply pw_below_drewN | apply below_drew1 | refine below_set ?_ GE178.out | refine below_set ?_ GE179.out) | exact HB.out)⟩
      ·rw [if_neg c9] at H
       have c9b0 : decide (1 ≤ a1_4) = false := decide_eq_false c9
       clear c9
       obtain rfl := Option.some.inj H
       go_enter Try.func62, Try.ntmps62
       go_wp2_with (first | ((with_reducible refine gate_dst (N := 2) rfl ?_); refine box_event ?hg (N := 2) ?hd (cs := (a0).A) (t := 38) ?hr ?_; (case hd => rfl); (case hg => rfl); (case hr => first | exact AR.run_box_row rfl rfl | (go_simp; done) | (go_simp; rfl)); intro gb178 hg w30 hbox hb; have BK178 := Aside0.mk (hbox); have GW178 := Aside0.mk (sqS HB.out hg); replace HB := Aside0.mk (sqH HB.out hb); have GE178 := GW178; clear hb hbox hg) | ((with_reducible refine gate_dst (N := 3) rfl ?_); refine box_event ?hg (N := 3) ?hd (cs := #[.int .i8 a1_0, .int .i8 a1_1, .int .i8 a1_2, .int .i8 a1_3, .int .i8 a1_4, .int .i8 a1_5]) (t := 44) ?hr ?_; (case hd => rfl); (case hg => rfl); (case hr => first | (go_simp; done) | (go_simp; rfl)); intro gb179 hg w31 hbox hb; have BK179 := Aside0.mk (hbox); have GW179 := Aside0.mk (sqS HB.out hg); replace HB := Aside0.mk (sqH HB.out hb); have GE179 := GW179; have NB178_179 := Aside0.mk (sqN BK178.out hg); replace BK178 := Aside0.mk (sqB BK178.out hb); have NB179_178 := Aside0.mk (Ne.symm NB178_179.out); clear hb hbox hg) | ((with_reducible refine gate_dst (N := 5) rfl ?_); (with_reducible refine AR.gate_load (t := 38) rfl ?_); (try refine gate_guard (by rfl) ?_); refine AR.wpList_load_blk rfl 38 _ rfl gb178 rfl (a0).A _ (sqO BK178.out) Try.underlying38 rfl (szO38 _) ?_; have hnb32 := NB179_178.out; have hnc32 := NB178_179.out; obtain ⟨hcz33_0, hcz33_1, hcz33_2, hcz33_3, hcz33_4, hcz33_5⟩ := sqC BK179.out; obtain ⟨hfz33_0, hfz33_1, hfz33_2, hfz33_3, hfz33_4, hfz33_5⟩ := sqF6 BK179.out) | ((with_reducible refine gate_callee (f := 75) rfl ?_); refine goesL_ (some 8) rfl rfl Try.func75 (by kernel_rfl) rfl #[VO38 a0, .agg #[.int .i8 a1_0, .int .i8 a1_1]] rfl (by (try simp only [List.map_toArray, List.map_cons, List.map_nil]); first | done | rfl | (simp only [List.length_drop, List.length_take]; rfl)) ?_; (with_reducible refine (impl_isWater.calls a0 a1_0 a1_1 true _ A3.out).mono ?_); rintro e w34 ⟨rfl, hb⟩; refine ⟨_, rfl, ?_⟩; replace BK178 := Aside0.mk (sqB BK178.out hb); replace BK179 := Aside0.mk (sqB BK179.out hb); replace HB := Aside0.mk (sqH HB.out hb); (try clear hb); (try clear hb2); (try clear hk); (try clear hi); obtain ⟨hcz35_0, hcz35_1, hcz35_2, hcz35_3, hcz35_4, hcz35_5⟩ := sqC BK179.out; obtain ⟨hfz35_0, hfz35_1, hfz35_2, hfz35_3, hfz35_4, hfz35_5⟩ := sqF6 BK179.out))
       go_ret
       exact ⟨by first | rfl | (simp [errW_none, errW_some] <;> rfl) | (simp [*, errW_none, errW_some] <;> rfl), by repeat (first | (with_reducible first | exact HB.out | apply below_alloc | apply pw_below_drewN | apply below_drew1 | refine below_set ?_ GE178.out | refine below_set ?_ GE179.out) | exact HB.out)⟩
     ·rw [if_neg c8] at H
      have c8b0 : decide (a1_3 ≤ 5) = false := decide_eq_false c8
      clear c8
      obtain rfl := Option.some.inj H
      go_enter Try.func62, Try.ntmps62
      go_wp2_with (first | ((with_reducible refine gate_dst (N := 2) rfl ?_); refine box_event ?hg (N := 2) ?hd (cs := (a0).A) (t := 38) ?hr ?_; (case hd => rfl); (case hg => rfl); (case hr => first | exact AR.run_box_row rfl rfl | (go_simp; done) | (go_simp; rfl)); intro gb178 hg w36 hbox hb; have BK178 := Aside0.mk (hbox); have GW178 := Aside0.mk (sqS HB.out hg); replace HB := Aside0.mk (sqH HB.out hb); have GE178 := GW178; clear hb hbox hg) | ((with_reducible refine gate_dst (N := 3) rfl ?_); refine box_event ?hg (N := 3) ?hd (cs := #[.int .i8 a1_0, .int .i8 a1_1, .int .i8 a1_2, .int .i8 a1_3, .int .i8 a1_4, .int .i8 a1_5]) (t := 44) ?hr ?_; (case hd => rfl); (case hg => rfl); (case hr => first | (go_simp; done) | (go_simp; rfl)); intro gb179 hg w37 hbox hb; have BK179 := Aside0.mk (hbox); have GW179 := Aside0.mk (sqS HB.out hg); replace HB := Aside0.mk (sqH HB.out hb); have GE179 := GW179; have NB178_179 := Aside0.mk (sqN BK178.out hg); replace BK178 := Aside0.mk (sqB BK178.out hb); have NB179_178 := Aside0.mk (Ne.symm NB178_179.out); clear hb hbox hg) | ((with_reducible refine gate_dst (N := 5) rfl ?_); (with_reducible refine AR.gate_load (t := 38) rfl ?_); (try refine gate_guard (by rfl) ?_); refine AR.wpList_load_blk rfl 38 _ rfl gb178 rfl (a0).A _ (sqO BK178.out) Try.underlying38 rfl (szO38 _) ?_; have hnb38 := NB179_178.out; have hnc38 := NB178_179.out; obtain ⟨hcz39_0, hcz39_1, hcz39_2, hcz39_3, hcz39_4, hcz39_5⟩ := sqC BK179.out; obtain ⟨hfz39_0, hfz39_1, hfz39_2, hfz39_3, hfz39_4, hfz39_5⟩ := sqF6 BK179.out) | ((with_reducible refine gate_callee (f := 75) rfl ?_); refine goesL_ (some 8) rfl rfl Try.func75 (by kernel_rfl) rfl #[VO38 a0, .agg #[.int .i8 a1_0, .int .i8 a1_1]] rfl (by (try simp only [List.map_toArray, List.map_cons, List.map_nil]); first | done | rfl | (simp only [List.length_drop, List.length_take]; rfl)) ?_; (with_reducible refine (impl_isWater.calls a0 a1_0 a1_1 true _ A3.out).mono ?_); rintro e w40 ⟨rfl, hb⟩; refine ⟨_, rfl, ?_⟩; replace BK178 := Aside0.mk (sqB BK178.out hb); replace BK179 := Aside0.mk (sqB BK179.out hb); replace HB := Aside0.mk (sqH HB.out hb); (try clear hb); (try clear hb2); (try clear hk); (try clear hi); obtain ⟨hcz41_0, hcz41_1, hcz41_2, hcz41_3, hcz41_4, hcz41_5⟩ := sqC BK179.out; obtain ⟨hfz41_0, hfz41_1, hfz41_2, hfz41_3, hfz41_4, hfz41_5⟩ := sqF6 BK179.out))
      go_ret
      exact ⟨by first | rfl | (simp [errW_none, errW_some] <;> rfl) | (simp [*, errW_none, errW_some] <;> rfl), by repeat (first | (with_reducible first | exact HB.out | apply below_alloc | apply pw_below_drewN | apply below_drew1 | refine below_set ?_ GE178.out | refine below_set ?_ GE179.out) | exact HB.out)⟩
    ·rw [if_neg c7] at H
     have c7b0 : decide (0 ≤ a1_3) = false := decide_eq_false c7
     clear c7
     obtain rfl := Option.some.inj H
     go_enter Try.func62, Try.ntmps62
     go_wp2_with (first | ((with_reducible refine gate_dst (N := 2) rfl ?_); refine box_event ?hg (N := 2) ?hd (cs := (a0).A) (t := 38) ?hr ?_; (case hd => rfl); (case hg => rfl); (case hr => first | exact AR.run_box_row rfl rfl | (go_simp; done) | (go_simp; rfl)); intro gb178 hg w42 hbox hb; have BK178 := Aside0.mk (hbox); have GW178 := Aside0.mk (sqS HB.out hg); replace HB := Aside0.mk (sqH HB.out hb); have GE178 := GW178; clear hb hbox hg) | ((with_reducible refine gate_dst (N := 3) rfl ?_); refine box_event ?hg (N := 3) ?hd (cs := #[.int .i8 a1_0, .int .i8 a1_1, .int .i8 a1_2, .int .i8 a1_3, .int .i8 a1_4, .int .i8 a1_5]) (t := 44) ?hr ?_; (case hd => rfl); (case hg => rfl); (case hr => first | (go_simp; done) | (go_simp; rfl)); intro gb179 hg w43 hbox hb; have BK179 := Aside0.mk (hbox); have GW179 := Aside0.mk (sqS HB.out hg); replace HB := Aside0.mk (sqH HB.out hb); have GE179 := GW179; have NB178_179 := Aside0.mk (sqN BK178.out hg); replace BK178 := Aside0.mk (sqB BK178.out hb); have NB179_178 := Aside0.mk (Ne.symm NB178_179.out); clear hb hbox hg) | ((with_reducible refine gate_dst (N := 5) rfl ?_); (with_reducible refine AR.gate_load (t := 38) rfl ?_); (try refine gate_guard (by rfl) ?_); refine AR.wpList_load_blk rfl 38 _ rfl gb178 rfl (a0).A _ (sqO BK178.out) Try.underlying38 rfl (szO38 _) ?_; have hnb44 := NB179_178.out; have hnc44 := NB178_179.out; obtain ⟨hcz45_0, hcz45_1, hcz45_2, hcz45_3, hcz45_4, hcz45_5⟩ := sqC BK179.out; obtain ⟨hfz45_0, hfz45_1, hfz45_2, hfz45_3, hfz45_4, hfz45_5⟩ := sqF6 BK179.out) | ((with_reducible refine gate_callee (f := 75) rfl ?_); refine goesL_ (some 8) rfl rfl Try.func75 (by kernel_rfl) rfl #[VO38 a0, .agg #[.int .i8 a1_0, .int .i8 a1_1]] rfl (by (try simp only [List.map_toArray, List.map_cons, List.map_nil]); first | done | rfl | (simp only [List.length_drop, List.length_take]; rfl)) ?_; (with_reducible refine (impl_isWater.calls a0 a1_0 a1_1 true _ A3.out).mono ?_); rintro e w46 ⟨rfl, hb⟩; refine ⟨_, rfl, ?_⟩; replace BK178 := Aside0.mk (sqB BK178.out hb); replace BK179 := Aside0.mk (sqB BK179.out hb); replace HB := Aside0.mk (sqH HB.out hb); (try clear hb); (try clear hb2); (try clear hk); (try clear hi); obtain ⟨hcz47_0, hcz47_1, hcz47_2, hcz47_3, hcz47_4, hcz47_5⟩ := sqC BK179.out; obtain ⟨hfz47_0, hfz47_1, hfz47_2, hfz47_3, hfz47_4, hfz47_5⟩ := sqF6 BK179.out))
     go_ret
     exact ⟨by first | rfl | (simp [errW_none, errW_some] <;> rfl) | (simp [*, errW_none, errW_some] <;> rfl), by repeat (first | (with_reducible first | exact HB.out | apply below_alloc | apply pw_below_drewN | apply below_drew1 | refine below_set ?_ GE178.out | refine below_set ?_ GE179.out) | exact HB.out)⟩
   ·rw [if_neg c6] at H
    have c6b0 : decide (a1_2 ≤ 60) = false := decide_eq_false c6
    clear c6
    obtain rfl := Option.some.inj H
    go_enter Try.func62, Try.ntmps62
    go_wp2_with (first | ((with_reducible refine gate_dst (N := 2) rfl ?_); refine box_event ?hg (N := 2) ?hd (cs := (a0).A) (t := 38) ?hr ?_; (case hd => rfl); (case hg => rfl); (case hr => first | exact AR.run_box_row rfl rfl | (go_simp; done) | (go_simp; rfl)); intro gb178 hg w48 hbox hb; have BK178 := Aside0.mk (hbox); have GW178 := Aside0.mk (sqS HB.out hg); replace HB := Aside0.mk (sqH HB.out hb); have GE178 := GW178; clear hb hbox hg) | ((with_reducible refine gate_dst (N := 3) rfl ?_); refine box_event ?hg (N := 3) ?hd (cs := #[.int .i8 a1_0, .int .i8 a1_1, .int .i8 a1_2, .int .i8 a1_3, .int .i8 a1_4, .int .i8 a1_5]) (t := 44) ?hr ?_; (case hd => rfl); (case hg => rfl); (case hr => first | (go_simp; done) | (go_simp; rfl)); intro gb179 hg w49 hbox hb; have BK179 := Aside0.mk (hbox); have GW179 := Aside0.mk (sqS HB.out hg); replace HB := Aside0.mk (sqH HB.out hb); have GE179 := GW179; have NB178_179 := Aside0.mk (sqN BK178.out hg); replace BK178 := Aside0.mk (sqB BK178.out hb); have NB179_178 := Aside0.mk (Ne.symm NB178_179.out); clear hb hbox hg) | ((with_reducible refine gate_dst (N := 5) rfl ?_); (with_reducible refine AR.gate_load (t := 38) rfl ?_); (try refine gate_guard (by rfl) ?_); refine AR.wpList_load_blk rfl 38 _ rfl gb178 rfl (a0).A _ (sqO BK178.out) Try.underlying38 rfl (szO38 _) ?_; have hnb50 := NB179_178.out; have hnc50 := NB178_179.out; obtain ⟨hcz51_0, hcz51_1, hcz51_2, hcz51_3, hcz51_4, hcz51_5⟩ := sqC BK179.out; obtain ⟨hfz51_0, hfz51_1, hfz51_2, hfz51_3, hfz51_4, hfz51_5⟩ := sqF6 BK179.out) | ((with_reducible refine gate_callee (f := 75) rfl ?_); refine goesL_ (some 8) rfl rfl Try.func75 (by kernel_rfl) rfl #[VO38 a0, .agg #[.int .i8 a1_0, .int .i8 a1_1]] rfl (by (try simp only [List.map_toArray, List.map_cons, List.map_nil]); first | done | rfl | (simp only [List.length_drop, List.length_take]; rfl)) ?_; (with_reducible refine (impl_isWater.calls a0 a1_0 a1_1 true _ A3.out).mono ?_); rintro e w52 ⟨rfl, hb⟩; refine ⟨_, rfl, ?_⟩; replace BK178 := Aside0.mk (sqB BK178.out hb); replace BK179 := Aside0.mk (sqB BK179.out hb); replace HB := Aside0.mk (sqH HB.out hb); (try clear hb); (try clear hb2); (try clear hk); (try clear hi); obtain ⟨hcz53_0, hcz53_1, hcz53_2, hcz53_3, hcz53_4, hcz53_5⟩ := sqC BK179.out; obtain ⟨hfz53_0, hfz53_1, hfz53_2, hfz53_3, hfz53_4, hfz53_5⟩ := sqF6 BK179.out))
    go_ret
    exact ⟨by first | rfl | (simp [errW_none, errW_some] <;> rfl) | (simp [*, errW_none, errW_some] <;> rfl), by repeat (first | (with_reducible first | exact HB.out | apply below_alloc | apply pw_below_drewN | apply below_drew1 | refine below_set ?_ GE178.out | refine below_set ?_ GE179.out) | exact HB.out)⟩
  ·rw [if_neg c5] at H
   have c5b0 : decide (1 ≤ a1_2) = false := decide_eq_false c5
   clear c5
   obtain rfl := Option.some.inj H
   go_enter Try.func62, Try.ntmps62
   go_wp2_with (first | ((with_reducible refine gate_dst (N := 2) rfl ?_); refine box_event ?hg (N := 2) ?hd (cs := (a0).A) (t := 38) ?hr ?_; (case hd => rfl); (case hg => rfl); (case hr => first | exact AR.run_box_row rfl rfl | (go_simp; done) | (go_simp; rfl)); intro gb178 hg w54 hbox hb; have BK178 := Aside0.mk (hbox); have GW178 := Aside0.mk (sqS HB.out hg); replace HB := Aside0.mk (sqH HB.out hb); have GE178 := GW178; clear hb hbox hg) | ((with_reducible refine gate_dst (N := 3) rfl ?_); refine box_event ?hg (N := 3) ?hd (cs := #[.int .i8 a1_0, .int .i8 a1_1, .int .i8 a1_2, .int .i8 a1_3, .int .i8 a1_4, .int .i8 a1_5]) (t := 44) ?hr ?_; (case hd => rfl); (case hg => rfl); (case hr => first | (go_simp; done) | (go_simp; rfl)); intro gb179 hg w55 hbox hb; have BK179 := Aside0.mk (hbox); have GW179 := Aside0.mk (sqS HB.out hg); replace HB := Aside0.mk (sqH HB.out hb); have GE179 := GW179; have NB178_179 := Aside0.mk (sqN BK178.out hg); replace BK178 := Aside0.mk (sqB BK178.out hb); have NB179_178 := Aside0.mk (Ne.symm NB178_179.out); clear hb hbox hg) | ((with_reducible refine gate_dst (N := 5) rfl ?_); (with_reducible refine AR.gate_load (t := 38) rfl ?_); (try refine gate_guard (by rfl) ?_); refine AR.wpList_load_blk rfl 38 _ rfl gb178 rfl (a0).A _ (sqO BK178.out) Try.underlying38 rfl (szO38 _) ?_; have hnb56 := NB179_178.out; have hnc56 := NB178_179.out; obtain ⟨hcz57_0, hcz57_1, hcz57_2, hcz57_3, hcz57_4, hcz57_5⟩ := sqC BK179.out; obtain ⟨hfz57_0, hfz57_1, hfz57_2, hfz57_3, hfz57_4, hfz57_5⟩ := sqF6 BK179.out) | ((with_reducible refine gate_callee (f := 75) rfl ?_); refine goesL_ (some 8) rfl rfl Try.func75 (by kernel_rfl) rfl #[VO38 a0, .agg #[.int .i8 a1_0, .int .i8 a1_1]] rfl (by (try simp only [List.map_toArray, List.map_cons, List.map_nil]); first | done | rfl | (simp only [List.length_drop, List.length_take]; rfl)) ?_; (with_reducible refine (impl_isWater.calls a0 a1_0 a1_1 true _ A3.out).mono ?_); rintro e w58 ⟨rfl, hb⟩; refine ⟨_, rfl, ?_⟩; replace BK178 := Aside0.mk (sqB BK178.out hb); replace BK179 := Aside0.mk (sqB BK179.out hb); replace HB := Aside0.mk (sqH HB.out hb); (try clear hb); (try clear hb2); (try clear hk); (try clear hi); obtain ⟨hcz59_0, hcz59_1, hcz59_2, hcz59_3, hcz59_4, hcz59_5⟩ := sqC BK179.out; obtain ⟨hfz59_0, hfz59_1, hfz59_2, hfz59_3, hfz59_4, hfz59_5⟩ := sqF6 BK179.out))
   go_ret
   exact ⟨by first | rfl | (simp [errW_none, errW_some] <;> rfl) | (simp [*, errW_none, errW_some] <;> rfl), by repeat (first | (with_reducible first | exact HB.out | apply below_alloc | apply pw_below_drewN | apply below_drew1 | refine below_set ?_ GE178.out | refine below_set ?_ GE179.out) | exact HB.out)⟩
 ·replace c4 := Bool.eq_false_iff.mpr c4
  subst c4
  have H1 : (some false) = some r := by rw [if_neg (show ¬ (false = true) by decide)] at H; exact H
  clear H
  have H := H1
  clear H1
  obtain rfl := Option.some.inj H
  go_enter Try.func62, Try.ntmps62
  go_wp2_with (first | ((with_reducible refine gate_dst (N := 2) rfl ?_); refine box_event ?hg (N := 2) ?hd (cs := (a0).A) (t := 38) ?hr ?_; (case hd => rfl); (case hg => rfl); (case hr => first | exact AR.run_box_row rfl rfl | (go_simp; done) | (go_simp; rfl)); intro gb178 hg w60 hbox hb; have BK178 := Aside0.mk (hbox); have GW178 := Aside0.mk (sqS HB.out hg); replace HB := Aside0.mk (sqH HB.out hb); have GE178 := GW178; clear hb hbox hg) | ((with_reducible refine gate_dst (N := 3) rfl ?_); refine box_event ?hg (N := 3) ?hd (cs := #[.int .i8 a1_0, .int .i8 a1_1, .int .i8 a1_2, .int .i8 a1_3, .int .i8 a1_4, .int .i8 a1_5]) (t := 44) ?hr ?_; (case hd => rfl); (case hg => rfl); (case hr => first | (go_simp; done) | (go_simp; rfl)); intro gb179 hg w61 hbox hb; have BK179 := Aside0.mk (hbox); have GW179 := Aside0.mk (sqS HB.out hg); replace HB := Aside0.mk (sqH HB.out hb); have GE179 := GW179; have NB178_179 := Aside0.mk (sqN BK178.out hg); replace BK178 := Aside0.mk (sqB BK178.out hb); have NB179_178 := Aside0.mk (Ne.symm NB178_179.out); clear hb hbox hg) | ((with_reducible refine gate_dst (N := 5) rfl ?_); (with_reducible refine AR.gate_load (t := 38) rfl ?_); (try refine gate_guard (by rfl) ?_); refine AR.wpList_load_blk rfl 38 _ rfl gb178 rfl (a0).A _ (sqO BK178.out) Try.underlying38 rfl (szO38 _) ?_; have hnb62 := NB179_178.out; have hnc62 := NB178_179.out; obtain ⟨hcz63_0, hcz63_1, hcz63_2, hcz63_3, hcz63_4, hcz63_5⟩ := sqC BK179.out; obtain ⟨hfz63_0, hfz63_1, hfz63_2, hfz63_3, hfz63_4, hfz63_5⟩ := sqF6 BK179.out) | ((with_reducible refine gate_callee (f := 75) rfl ?_); refine goesL_ (some 8) rfl rfl Try.func75 (by kernel_rfl) rfl #[VO38 a0, .agg #[.int .i8 a1_0, .int .i8 a1_1]] rfl (by (try simp only [List.map_toArray, List.map_cons, List.map_nil]); first | done | rfl | (simp only [List.length_drop, List.length_take]; rfl)) ?_; (with_reducible refine (impl_isWater.calls a0 a1_0 a1_1 false _ A3.out).mono ?_); rintro e w64 ⟨rfl, hb⟩; refine ⟨_, rfl, ?_⟩; replace BK178 := Aside0.mk (sqB BK178.out hb); replace BK179 := Aside0.mk (sqB BK179.out hb); replace HB := Aside0.mk (sqH HB.out hb); (try clear hb); (try clear hb2); (try clear hk); (try clear hi)))
  go_ret
  exact ⟨by first | rfl | (simp [errW_none, errW_some] <;> rfl) | (simp [*, errW_none, errW_some] <;> rfl), by repeat (first | (with_reducible first | exact HB.out | apply below_alloc | apply pw_below_drewN | apply below_drew1 | refine below_set ?_ GE178.out | refine below_set ?_ GE179.out) | exact HB.out)⟩
end Go.Proofs.Ytmhmfhdmeedcfaa.G
end
