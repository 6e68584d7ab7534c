/- A part of the proof of: FnExactHoursAtEach returns true, whatever the input, and leaves its arguments as they were. -/
import Derived.Test.YtmhmfhdmeedcfaaProg
import Derived.Deep.Slices
import Derived.ChangeSame
import Derived.ChangeArms
import Derived.OpenShut
import Derived.WalkKit
import Derived.ProofKit
import Derived.Below
import Derived.Deep.Draws
import Derived.Deep.AppendLies
import Derived.Maps.AppendAt
import Derived.OwnWalk
import Derived.Laws.BytesArg
import Derived.Laws.MakeOwn
import Derived.Laws.OwnMore
import Derived.Deep.OwnRows
import Derived.Tactics
import Derived.Lib.ConvBytes
import Derived.Laws.Slices
import Derived.KernelRfl
import Derived.RowKit3
import Derived.Deep.LoopGhost
import Derived.Deep.QuietTactic
import Derived.BigQuiet
import Derived.WideLaws
import Derived.Deep.DeepCutAuto
import Derived.Deep.CutBlock
import Derived.Deep.RegionHeld3
import Derived.Laws.Rows
import Derived.Lib.AppendStr
import Derived.ArgAppend
import Derived.Laws.IdiomCopy
import Derived.RowKit
import Derived.Laws.Tables
import Derived.OrdersHeld
import Derived.Laws.BitsLemmas
import Derived.Lib.Hide
import Derived.Laws.StructEq
import Derived.Laws.CopyOwn
import Derived.Laws.CopyRow
import Derived.Test.YtmhmfhdmeedcfaaZFnExactHoursAtEach1
import Derived.Test.YtmhmfhdmeedcfaaZFnExactHoursAtEach2
section
namespace Go.Proofs.Ytmhmfhdmeedcfaa.G
open Go.RowKit Go.Proofs.YtmhmfhdmeedcfaaW.PrintWords Go.Proofs.YtmhmfhdmeedcfaaW.PrintLast Go.Proofs.YtmhmfhdmeedcfaaW.PrintMore AR M
set_option linter.unusedVariables false
set_option linter.unusedSimpArgs false
def okD (b : Flat 258 .i8) (y x : Nat) : Bool := inB (dep b x y) 0 30 && (dep b x y == 0 || isP b x y)
def allB (P : Nat → Nat → Bool) : Bool := (List.range 16).all fun y => (List.range 16).all fun x => P y x
theorem allB_iff {P : Nat → Nat → Bool} : allB P = true ↔ ∀ y, y < 16 → ∀ x, x < 16 → P y x = true := by
 simp only [allB, List.all_eq_true, List.mem_range]
theorem allB_no {P : Nat → Nat → Bool} {y x : Nat} (hy : y < 16) (hx : x < 16) (h : P y x = false) : allB P = false := by
 rw [← Bool.not_eq_true, allB_iff]
 exact fun hh => by rw [hh y hy x hx] at h; exact absurd h (by decide)
def bayB (b : Flat 258 .i8) : Bool := inB (b.z 0) 1 16 && inB (b.z 1) 1 16 && allB (okD b)
theorem bayB_true {b : Flat 258 .i8} (h : bayB b = true) : (1 ≤ b.z 0 ∧ b.z 0 ≤ 16) ∧ (1 ≤ b.z 1 ∧ b.z 1 ≤ 16) ∧ ∀ y, y < 16 → ∀ x, x < 16 → okD b y x = true := by
 unfold bayB at h
 rw [Bool.and_eq_true, Bool.and_eq_true] at h
 exact ⟨inB_true h.1.1, inB_true h.1.2, allB_iff.1 h.2⟩
theorem bayB_ok {b : Flat 258 .i8} (h1 : inB (b.z 0) 1 16 = true) (h2 : inB (b.z 1) 1 16 = true) (h : ∀ y, y < 16 → ∀ x, x < 16 → okD b y x = true) : bayB b = true := by
 unfold bayB
 rw [h1, h2, allB_iff.2 h]; rfl
theorem bayB_no {b : Flat 258 .i8} {y x : Nat} (hy : y < 16) (hx : x < 16) (h : okD b y x = false) : bayB b = false := by
 unfold bayB
 rw [allB_no hy hx h, Bool.and_false]
theorem dep_nat (b : Flat 258 .i8) (y x : Nat) : dep b x y = b.z (2 + y * 16 + x) := by simp [dep]
theorem next_row {y : Nat} {P : Nat → Nat → Bool} (h0 : ∀ j, j < y → ∀ x, x < 16 → P j x = true) (h1 : ∀ j, j < 16 → P y j = true) : ∀ j, j < y + 1 → ∀ x, x < 16 → P j x = true := by
 intro j hj x hx
 by_cases e : j = y
 ·subst e; exact h1 x hx
 ·exact h0 j (by omega) x hx
theorem next_one {x : Nat} {P : Nat → Bool} (h0 : ∀ j, j < x → P j = true) (h1 : P x = true) : ∀ j, j < x + 1 → P j = true := by
 intro j hj
 by_cases e : j = x
 ·subst e; exact h1
 ·exact h0 j (by omega)
theorem l01Bay_any (g : Nat) (b : Flat 258 .i8) (w : World) (hB : BayAt w g b) :
  Calls Try.prog 63 #[.pointer (some ⟨g, 0, none⟩)] w fun e w' => e = .returned (.bool (bayB b)) ∧ Below w.heap.size w w' := by
 obtain ⟨a0, a1⟩ := bounds_i8 (b.ok 0 (by omega))
 obtain ⟨b0, b1⟩ := bounds_i8 (b.ok 1 (by omega))
 have c0 := hB.cell (j := 0) (by omega)
 have c1 := hB.cell (j := 1) (by omega)
 have BB := Lib.hid hB
 cases e1 : inB (b.z 0) 1 16
 ·have HV := Lib.hid (show bayB b = false by unfold bayB; rw [e1]; rfl)
  have HQ1 := Lib.hid (fun W => in_b e1 W)
  clear e1 hB
  go_enter Try.func63, Try.ntmps63
  go_wp2_with (go_at_call 74; refine (HQ1.out _).mono ?_; rintro e w' ⟨rfl, rfl⟩)
  go_ret
  exact ⟨by rw [HV.out]; rfl, Below.refl _ _⟩
 ·cases e2 : inB (b.z 1) 1 16
  ·have HV := Lib.hid (show bayB b = false by unfold bayB; rw [e1, e2]; rfl)
   have HQ1 := Lib.hid (fun W => in_b e1 W)
   have HQ2 := Lib.hid (fun W => in_b e2 W)
   clear e1 e2 hB
   go_enter Try.func63, Try.ntmps63
   go_wp2_with (go_at_call 74; (first | (with_reducible refine (HQ1.out _).mono ?_) | (with_reducible refine (HQ2.out _).mono ?_)); rintro e w' ⟨rfl, rfl⟩)
   go_ret
   exact ⟨by rw [HV.out]; rfl, Below.refl _ _⟩
  ·have HE := Lib.hid (And.intro e1 e2)
   have HQ1 := Lib.hid (fun W => in_b e1 W)
   have HQ2 := Lib.hid (fun W => in_b e2 W)
   clear e1 e2 hB
   go_enter Try.func63, Try.ntmps63
   go_wp2_with (go_at_call 74; (first | (with_reducible refine (HQ1.out _).mono ?_) | (with_reducible refine (HQ2.out _).mono ?_)); rintro e w' ⟨rfl, rfl⟩)
   clear c0 c1 a0 a1 b0 b1 HQ1 HQ2
   go_loopw [3] (fun i wr => ∃ y : Nat, y ≤ 16 ∧ i = .int .i8 y ∧ Hid (∀ j, j < y → ∀ x, x < 16 → okD b j x = true) ∧ Hid (Below w.heap.size w wr)) (fun i _ => 16 - (intOf i).toNat)
   case atStart => exact ⟨0, Nat.zero_le _, rfl, fun j h => absurd h (by omega), Below.refl _ _⟩
   case round =>
    obtain ⟨y, hy, rfl, HN, HD⟩ := hrel
    by_cases hlt : y < 16
    ·have i0 : (y : Int) < 16 := by omega
     have i1 : (0 : Int) ≤ (y : Int) := by omega
     obtain ⟨wo, rfl⟩ : ∃ wo : World, wo = wr := ⟨_, rfl⟩
     go_wp2
     go_loopw [4] (fun i wr => ∃ x : Nat, x ≤ 16 ∧ i = .int .i8 x ∧ Hid (∀ j, j < x → okD b y j = true) ∧ Hid (Below w.heap.size w wr)) (fun i _ => 16 - (intOf i).toNat)
     case atStart => exact ⟨0, Nat.zero_le _, rfl, fun j h => absurd h (by omega), HD.out⟩
     case round =>
      obtain ⟨x, hx, rfl, HN1, HD1⟩ := hrel
      by_cases hlx : x < 16
      ·have j0 : (x : Int) < 16 := by omega
       have j1 : (0 : Int) ≤ (x : Int) := by omega
       have BW := Lib.hid (BB.out.below HD1.out)
       have cd := BW.out.cell (j := 2 + y * 16 + x) (by omega)
       obtain ⟨d0, d1⟩ := bounds_i8 (b.ok (2 + y * 16 + x) (by omega))
       have HP := Lib.hid (dep_nat b y x)
       generalize b.z (2 + y * 16 + x) = d at cd d0 d1 HP
       cases e3 : inB d 0 30
       ·have HH := Lib.hid (bayB_no hlt hlx (show okD b y x = false by unfold okD; rw [HP.out, e3]; rfl))
        have HQ := Lib.hid (fun W => in_b e3 W)
        clear e3
        go_wp2_with (go_at_call 74; refine (HQ.out _).mono ?_; rintro e w' ⟨rfl, rfl⟩)
        go_ret
        exact ⟨by rw [HH.out]; rfl, HD1.out⟩
       ·cases e4 : (d == 0)
        ·have e4' : (d != 0) = true := by simp only [bne, e4]; rfl
         cases e5 : isP b x y
         ·have HH := Lib.hid (bayB_no hlt hlx (show okD b y x = false by unfold okD; rw [HP.out, e3, e4, e5]; rfl))
          have HQ := Lib.hid (fun W => in_b e3 W)
          have HI := Lib.hid (e5 ▸ is_any g b x y wr BW.out (by omega) (by omega))
          clear e3 e5
          go_wp2_with (first | (go_at_call 74; refine (HQ.out _).mono ?_; rintro e w' ⟨rfl, rfl⟩) | (go_at_call 64; refine HI.out.mono ?_; rintro e w1 ⟨rfl, hb⟩; have HB1 := Lib.hid (below_join HD1.out hb); clear hb))
          go_ret
          exact ⟨by rw [HH.out]; rfl, HB1.out⟩
         ·have HH := Lib.hid (show okD b y x = true by unfold okD; rw [HP.out, e3, e4, e5]; rfl)
          have HQ := Lib.hid (fun W => in_b e3 W)
          have HI := Lib.hid (e5 ▸ is_any g b x y wr BW.out (by omega) (by omega))
          clear e3 e5
          go_wp2_with (first | (go_at_call 74; refine (HQ.out _).mono ?_; rintro e w' ⟨rfl, rfl⟩) | (go_at_call 64; refine HI.out.mono ?_; rintro e w1 ⟨rfl, hb⟩; have HB1 := Lib.hid (below_join HD1.out hb); clear hb))
          go_roundw
          case rel => exact ⟨x + 1, by omega, by go_num, next_one HN1.out HH.out, HB1.out⟩
          case measure => simp [intOf]; omega
        ·have e4' : (d != 0) = false := by simp only [bne, e4]; rfl
         have HH := Lib.hid (show okD b y x = true by unfold okD; rw [HP.out, e3, e4]; rfl)
         have HQ := Lib.hid (fun W => in_b e3 W)
         clear e3
         go_wp2_with (go_at_call 74; refine (HQ.out _).mono ?_; rintro e w' ⟨rfl, rfl⟩)
         go_roundw
         case rel => exact ⟨x + 1, by omega, by go_num, next_one HN1.out HH.out, HD1.out⟩
         case measure => simp [intOf]; omega
      ·have HH := Lib.hid (next_row HN.out (fun j hj => HN1.out j (by omega)))
       have j0 : ¬ (x : Int) < 16 := by omega
       go_wp2
       go_roundw
       case rel => exact ⟨y + 1, by omega, by go_num, HH.out, HD1.out⟩
       case measure => simp [intOf]; omega
    ·have HH := Lib.hid (bayB_ok HE.out.1 HE.out.2 (fun j hj => HN.out j (by omega)))
     have i0 : ¬ (y : Int) < 16 := by omega
     go_wp2
     go_ret
     exact ⟨by rw [HH.out]; rfl, HD.out⟩
end Go.Proofs.Ytmhmfhdmeedcfaa.G
end
section
namespace Go.Proofs.Ytmhmfhdmeedcfaa.AR
open Go.RowKit Go.Proofs.YtmhmfhdmeedcfaaW.PrintWords
variable {P : Program} {ops : Array Oper} {rest : List Oper} {o : Oper} {a : Act} {Q : Exit → Act → World → Prop}
theorem run_store_row (w : World) (ty t2 : TypeId) (g n : Nat) (vs old : Array Value) (hg : w.heap[g]? = some (.cells old t2 (0, 0))) (hn : n + vs.size ≤ old.size) (h1 : vs.all (·.oneCell') = true) (hi : (P.info? ty).map (·.size) = some vs.size) :
  (storeVar ty ⟨g, n, none⟩ (.agg vs)).run P w = .ok () (w.setRow g (old.toList.take n ++ vs.toList ++ old.toList.drop (n + vs.size)).toArray) := by
 have hst := run_storeCells_at (P := P) g n t2 vs.toList 0 old w hg (by simpa using hn) (by
  intro v hv
  exact (Array.all_eq_true_iff_forall_mem.1 h1) v (by simpa using hv))
 cases hq : P.info? ty with
 | none => simp [hq] at hi
 | some i =>
  have hs : i.size = vs.size := by simpa [hq] using hi
  simp only [Nat.add_zero, Array.length_toList] at hst
  simp [storeVar, Sem.run_bind, sizeOf, typeInfo, hq, hs, Value.cells, hst]
theorem exec_store_row {w : World} {ty t2 : TypeId} {p v : Operand} {g n : Nat} {vs old : Array Value} (ho : o.op = .store ty p v) (hp : a.eval p = .pointer (some ⟨g, n, none⟩)) (hv : a.eval v = .agg vs)
  (hg : w.heap[g]? = some (.cells old t2 (0, 0))) (hn : n + vs.size ≤ old.size) (h1 : vs.all (·.oneCell') = true) (hi : (P.info? ty).map (·.size) = some vs.size) :
  (execOp a.eval o).run P w = .ok .skip (w.setRow g (old.toList.take n ++ vs.toList ++ old.toList.drop (n + vs.size)).toArray) := by
 unfold execOp
 simp only [ho, hp, hv, Instr.storeAt, Instr.sureAddr, Sem.run_bind, Sem.run_pure, Result.andThen_ok, run_store_row w ty t2 g n vs old hg hn h1 hi]
theorem exec_alloc {w : World} {ty : TypeId} {cs : Array Value} (ho : o.op = .alloc ty) (hz : (zeroValue ty).run P w = .ok (.agg cs) w) :
  (execOp a.eval o).run P w = .ok (.value (.pointer (some ⟨w.heap.size, 0, none⟩))) (w.alloc (.cells cs ty (0, 0))) := by
 unfold execOp
 simp only [ho, Instr.alloc, Sem.run_bind, hz, Result.andThen_ok]
 rfl
theorem exec_load_sub {w : World} {ty t2 : TypeId} {x : Operand} {g n : Nat} {cs old : Array Value} {d : TypeDesc} (ho : o.op = .load ty x) (hx : a.eval x = .pointer (some ⟨g, n, none⟩))
  (hg : w.heap[g]? = some (.cells old t2 (0, 0))) (hc : ∀ j v, cs[j]? = some v → old[n + j]? = some v) (hu : P.underlying ty = some d) (hd : (match d with | .struct _ | .array _ _ => true | _ => false) = true) (hi : (P.info? ty).map (·.size) = some cs.size) :
  (execOp a.eval o).run P w = .ok (.value (.agg cs)) w := by
 unfold execOp
 simp only [ho, hx, Instr.loadAt, Instr.sureAddr, Sem.run_bind, Sem.run_pure, Result.andThen_ok, run_load_sub w g n ty cs d (fun j v hv => (cell_of_row w g (n + j) old t2 (0, 0) hg).trans (hc j v hv)) hu hd hi]
theorem exec_index_row {w : World} {T e : TypeId} {x i : Operand} {cs : Array Value} {k : Int} {len sz : Nat} {d : TypeDesc} (ho : o.op = .index T x i) (hx : a.eval x = .agg cs) (hk : a.eval i = .int .i64 k) (h0 : 0 ≤ k) (h1 : k < len)
  (hu : P.underlying T = some (.array len e)) (he : P.underlying e = some d) (hd : (match d with | .struct _ | .array _ _ => true | _ => false) = true) (hi : (P.info? e).map (·.size) = some sz) :
  (execOp a.eval o).run P w = .ok (.value (.agg (cs.extract (k.toNat * sz) (k.toNat * sz + sz)))) w := by
 have hagg : (isAgg e).run P w = .ok true w := by
  unfold isAgg
  rw [Sem.run_bind, run_underlying he w]
  cases d <;> simp_all
 cases hq : P.info? e with
 | none => simp [hq] at hi
 | some i =>
  have hs : i.size = sz := by simpa [hq] using hi
  unfold execOp
  simp [ho, hx, hk, Instr.index, asIntOf, Sem.run_bind, run_underlying hu w, h0, h1, part, hagg, sizeOf, typeInfo, hq, hs]
theorem exec_index_cell {w : World} {T e : TypeId} {x i : Operand} {cs : Array Value} {k : Int} {len : Nat} {v : Value} (ho : o.op = .index T x i) (hx : a.eval x = .agg cs) (hk : a.eval i = .int .i64 k) (h0 : 0 ≤ k) (h1 : k < len)
  (hu : P.underlying T = some (.array len e)) (hag : ∀ w, (isAgg e).run P w = .ok false w) (hi : (P.info? e).map (·.size) = some 1) (hv : cs[k.toNat]? = some v) :
  (execOp a.eval o).run P w = .ok (.value v) w := by
 cases hq : P.info? e with
 | none => simp [hq] at hi
 | some i =>
  have hs : i.size = 1 := by simpa [hq] using hi
  unfold execOp
  simp [ho, hx, hk, Instr.index, asIntOf, Sem.run_bind, run_underlying hu w, h0, h1, part, hag w, sizeOf, typeInfo, hq, hs, hv]
end Go.Proofs.Ytmhmfhdmeedcfaa.AR
namespace Go.Proofs.Ytmhmfhdmeedcfaa.G
open Go.RowKit Go.Proofs.YtmhmfhdmeedcfaaW.PrintWords AR
def Flat.sub {C : Nat} {k : IntKind} (o : Flat C k) (off n : Nat) : Array Value := ((List.range n).map fun j => Value.int k (o.z (off + j))).toArray
theorem Flat.sub_size {C : Nat} {k : IntKind} (o : Flat C k) (off n : Nat) : (o.sub off n).size = n := by simp [Flat.sub]
theorem Flat.sub_at {C : Nat} {k : IntKind} (o : Flat C k) (off n : Nat) {j : Nat} (h : j < n) : (o.sub off n)[j]? = some (.int k (o.z (off + j))) := by simp [Flat.sub, h]
theorem Flat.sub_one {C : Nat} {k : IntKind} (o : Flat C k) (off n : Nat) : (o.sub off n).all (·.oneCell') = true := by
 rw [Array.all_eq_true_iff_forall_mem]
 intro v hv
 simp only [Flat.sub, List.mem_toArray, List.mem_map] at hv
 obtain ⟨j, _, rfl⟩ := hv
 rfl
theorem Flat.sub_whole {C : Nat} {k : IntKind} (o : Flat C k) : o.sub 0 C = o.A := by simp [Flat.sub, Flat.A]
theorem Flat.sub_part {C : Nat} {k : IntKind} (o : Flat C k) {off n j m : Nat} (h : j + m ≤ n) : (o.sub off n).extract j (j + m) = o.sub (off + j) m := by
 apply Array.ext_getElem?
 intro i
 by_cases hi : i < m
 ·rw [Flat.sub_at o _ _ hi, Array.getElem?_extract, if_pos (by rw [Flat.sub_size]; omega), Flat.sub_at o _ _ (by omega)]
  congr 3; omega
 ·rw [Array.getElem?_eq_none (by simp [Flat.sub_size]; omega), Array.getElem?_eq_none (by rw [Flat.sub_size]; omega)]
theorem Flat.sub_in {C : Nat} {k : IntKind} (o : Flat C k) {off n : Nat} (h : off + n ≤ C) (j : Nat) (v : Value) (hv : (o.sub off n)[j]? = some v) : o.A[off + j]? = some v := by
 have hj : j < n := by have := (Array.getElem?_eq_some_iff.1 hv).1; rwa [Flat.sub_size] at this
 rw [Flat.at_ o (by omega), ← hv, Flat.sub_at o _ _ hj]
end Go.Proofs.Ytmhmfhdmeedcfaa.G
end
section
namespace Go.Proofs.Ytmhmfhdmeedcfaa.G
open Go.RowKit Go.Proofs.YtmhmfhdmeedcfaaW.PrintWords Go.Proofs.YtmhmfhdmeedcfaaW.PrintLast Go.Proofs.YtmhmfhdmeedcfaaW.PrintMore AR M
set_option linter.unusedVariables false
set_option linter.unusedSimpArgs false
theorem sz24 (b : Flat 258 .i8) : (Try.prog.info? 24).map (·.size) = some (b.sub 2 256).size := by rw [Flat.sub_size]; kernel_rfl
theorem sz23 : (Try.prog.info? 23).map (·.size) = some 16 := by kernel_rfl
theorem szr23 (b : Flat 258 .i8) (n : Nat) : (Try.prog.info? 23).map (·.size) = some (b.sub n 16).size := by rw [Flat.sub_size]; kernel_rfl
theorem sz22 : (Try.prog.info? 22).map (·.size) = some 1 := by kernel_rfl
theorem isP_nat {b : Flat 258 .i8} {x y : Nat} : isP b x y = (decide ((x : Int) < b.z 0) && decide ((y : Int) < b.z 1)) := by
 rw [Bool.eq_iff_iff]; simp [isP]
theorem setRow_whole {w : World} {g : Nat} {old cs : Array Value} {t : TypeId} (hg : w.heap[g]? = some (.cells old t (0, 0))) (hs : old.size = cs.size) : (w.setRow g (old.toList.take 0 ++ cs.toList ++ old.toList.drop (0 + cs.size)).toArray).heap[g]? = some (.cells cs t (0, 0)) := by
 rw [setRow_heap w g old _ t (0, 0) hg, List.drop_of_length_le (by simp; omega)]
 simp
theorem ValidBay_any (b : Flat 258 .i8) (w : World) : Calls Try.prog 69 #[.agg b.A] w fun e w' => e = .returned (.bool (bayB b)) ∧ Below w.heap.size w w' := by
 obtain ⟨a0, a1⟩ := bounds_i8 (b.ok 0 (by omega))
 obtain ⟨b0, b1⟩ := bounds_i8 (b.ok 1 (by omega))
 by_cases hin : inB (b.z 0) 1 16 && inB (b.z 1) 1 16
 ·obtain ⟨h1, h2⟩ : inB (b.z 0) 1 16 = true ∧ inB (b.z 1) 1 16 = true := by simpa using hin
  obtain ⟨p0, p1⟩ := inB_true h1
  obtain ⟨q0, q1⟩ := inB_true h2
  have HE := Lib.hid (And.intro h1 h2)
  have r0 : ¬ b.z 0 < 1 := by omega
  have r1 : ¬ 16 < b.z 0 := by omega
  have r2 : ¬ b.z 1 < 1 := by omega
  have r3 : ¬ 16 < b.z 1 := by omega
  clear hin h1 h2
  go_enter Try.func69, Try.ntmps69
  go_wp2_with (first
   | ((with_reducible refine gate_box (t := 38) rfl ?_); refine wpList_box_ev rfl _ _ rfl b.A rfl ?_; intro g w1 hg hb hb1; have HG := Lib.hid hb; have HB0 := Lib.hid hb1; have hge := Lib.hid (show w.heap.size ≤ g by omega); have c0 := BayAt.cell (b := b) hb (j := 0) (by omega); have c1 := BayAt.cell (b := b) hb (j := 1) (by omega); clear hb hb1 hg)
   | ((with_reducible refine gate_dst (N := 26) rfl ?_); refine Kd.event_run rfl (exec_load_sub (cs := b.sub 2 256) rfl rfl HG.out (b.sub_in (by omega)) Try.underlying24 rfl (sz24 b)) ?_))
  clear c0 c1
  go_loopw [27] (fun i wr => ∃ y : Nat, y ≤ 16 ∧ i = .int .i64 y ∧ Hid (∀ j, j < y → ∀ x, x < 16 → okD b j x = true) ∧ Hid (Below w.heap.size w wr) ∧ Hid (BayAt wr g b)) (fun i _ => 16 - (intOf i).toNat)
  case atStart => exact ⟨0, Nat.zero_le _, rfl, fun j h => absurd h (by omega), HB0.out, HG.out⟩
  case round =>
   obtain ⟨y, hy, rfl, HN, HD, HG1⟩ := hrel
   by_cases hlt : y < 16
   ·have i0 : (y : Int) < 16 := by omega
    have i1 : (0 : Int) ≤ (y : Int) := by omega
    have HY := Lib.hid hlt
    obtain ⟨wo, rfl⟩ : ∃ wo : World, wo = wr := ⟨_, rfl⟩
    go_wp2_with (first
     | ((with_reducible refine gate_dst (N := 30) rfl ?_); refine Kd.event_run rfl (exec_index_row (k := (y : Int)) (sz := 16) rfl rfl rfl i1 i0 Try.underlying24 Try.underlying23 rfl sz23) ?_; rw [Int.toNat_natCast, b.sub_part (show y * 16 + 16 ≤ 256 by omega)])
     | ((with_reducible refine gate_dst (N := 4) rfl ?_); refine box_event rfl (N := 4) rfl (t := 23) (exec_alloc rfl (Try.zeroValue23 _)) ?_; intro gr hgr wa ha hb; have HA := Lib.hid ha; have HBa := Lib.hid (below_join HD.out hb); have HGa := Lib.hid (BayAt.below (b := b) HG1.out hb); have hne := Lib.hid (show w.heap.size ≤ gr by have := HD.out.size; omega); have hng := Lib.hid (show g ≠ gr by have := (Array.getElem?_eq_some_iff.1 HG1.out).1; omega); clear ha hb hgr)
     | ((with_reducible refine gate_store (t := 23) (p := 4) rfl ?_); refine store_event (t := 23) (p := 4) rfl rfl rfl (exec_store_row (t2 := 23) (vs := b.sub (2 + y * 16) 16) rfl rfl rfl HA.out (by rw [Flat.sub_size]; decide) (b.sub_one _ _) (szr23 b _)) ?_; intro ws hws; have HS := Lib.hid (show ws.heap[gr]? = some (.cells (b.sub (2 + y * 16) 16) 23 (0, 0)) by rw [hws]; exact setRow_whole HA.out (by rw [Flat.sub_size]; rfl)); have HBs := Lib.hid (show Below w.heap.size w ws by rw [hws]; exact below_setRow HBa.out hne.out _); have HGs := Lib.hid (show BayAt ws g b by rw [hws]; exact (setRow_other _ _ _ _ hng.out).trans HGa.out); clear hws)
     | ((with_reducible refine gate_dst (N := 31) rfl ?_); refine Kd.event_run rfl (exec_load_blk rfl rfl HS.out Try.underlying23 rfl (szr23 b _)) ?_))
    go_loopw [32] (fun i wr => ∃ x : Nat, x ≤ 16 ∧ i = .int .i64 x ∧ Hid (∀ j, j < x → okD b y j = true) ∧ Hid (wr = ws)) (fun i _ => 16 - (intOf i).toNat)
    case atStart => exact ⟨0, Nat.zero_le _, rfl, fun j h => absurd h (by omega), rfl⟩
    case round =>
     obtain ⟨x, hx, rfl, HN1, HW⟩ := hrel
     obtain rfl := HW.out
     by_cases hlx : x < 16
     ·have j0 : (x : Int) < 16 := by omega
      have j1 : (0 : Int) ≤ (x : Int) := by omega
      have c0 := BayAt.cell HGs.out (j := 0) (by omega)
      have c1 := BayAt.cell HGs.out (j := 1) (by omega)
      have hv := b.sub_at (2 + y * 16) 16 (j := x) (by omega)
      have HP := Lib.hid (dep_nat b y x)
      have HIP := Lib.hid (isP_nat (b := b) (x := x) (y := y))
      generalize b.z (2 + y * 16 + x) = d at hv HP
      by_cases h1 : d < 0
      ·have HH := Lib.hid (bayB_no hlt hlx (show okD b y x = false by unfold okD; rw [HP.out, show inB d 0 30 = false by simp [inB]; omega]; rfl))
       go_wp2_with ((with_reducible refine gate_dst (N := 35) rfl ?_); refine Kd.event_run rfl (exec_index_cell (k := (x : Int)) rfl rfl rfl j1 j0 Try.underlying23 Try.isAgg22 sz22 (v := .int .i8 d) (by rw [Int.toNat_natCast]; exact hv)) ?_)
       go_ret
       exact ⟨by rw [HH.out]; rfl, HBs.out⟩
      ·by_cases h2 : 30 < d
       ·have HH := Lib.hid (bayB_no hlt hlx (show okD b y x = false by unfold okD; rw [HP.out, show inB d 0 30 = false by simp [inB]; omega]; rfl))
        go_wp2_with ((with_reducible refine gate_dst (N := 35) rfl ?_); refine Kd.event_run rfl (exec_index_cell (k := (x : Int)) rfl rfl rfl j1 j0 Try.underlying23 Try.isAgg22 sz22 (v := .int .i8 d) (by rw [Int.toNat_natCast]; exact hv)) ?_)
        go_ret
        exact ⟨by rw [HH.out]; rfl, HBs.out⟩
       ·have HI := Lib.hid (show inB d 0 30 = true by simp [inB]; omega)
        cases e4 : (d == 0)
        ·have e4' : (d != 0) = true := by simp only [bne, e4]; rfl
         by_cases h5 : (x : Int) < b.z 0
         ·have h5' : ¬ b.z 0 ≤ (x : Int) := by omega
          by_cases h6 : (y : Int) < b.z 1
          ·have h6' : ¬ b.z 1 ≤ (y : Int) := by omega
           have HH := Lib.hid (show okD b y x = true by unfold okD; rw [HP.out, HI.out, e4, HIP.out, decide_eq_true h5, decide_eq_true h6]; rfl)
           go_wp2_with ((with_reducible refine gate_dst (N := 35) rfl ?_); refine Kd.event_run rfl (exec_index_cell (k := (x : Int)) rfl rfl rfl j1 j0 Try.underlying23 Try.isAgg22 sz22 (v := .int .i8 d) (by rw [Int.toNat_natCast]; exact hv)) ?_)
           go_roundw
           case rel => exact ⟨x + 1, by omega, by go_num, next_one HN1.out HH.out, by first | exact trivial | rfl⟩
           case measure => simp [intOf]; omega
          ·have h6' : b.z 1 ≤ (y : Int) := by omega
           have HH := Lib.hid (bayB_no hlt hlx (show okD b y x = false by unfold okD; rw [HP.out, HI.out, e4, HIP.out, decide_eq_true h5, decide_eq_false h6]; rfl))
           go_wp2_with ((with_reducible refine gate_dst (N := 35) rfl ?_); refine Kd.event_run rfl (exec_index_cell (k := (x : Int)) rfl rfl rfl j1 j0 Try.underlying23 Try.isAgg22 sz22 (v := .int .i8 d) (by rw [Int.toNat_natCast]; exact hv)) ?_)
           go_ret
           exact ⟨by rw [HH.out]; rfl, HBs.out⟩
         ·have h5' : b.z 0 ≤ (x : Int) := by omega
          have HH := Lib.hid (bayB_no hlt hlx (show okD b y x = false by unfold okD; rw [HP.out, HI.out, e4, HIP.out, decide_eq_false h5]; rfl))
          go_wp2_with ((with_reducible refine gate_dst (N := 35) rfl ?_); refine Kd.event_run rfl (exec_index_cell (k := (x : Int)) rfl rfl rfl j1 j0 Try.underlying23 Try.isAgg22 sz22 (v := .int .i8 d) (by rw [Int.toNat_natCast]; exact hv)) ?_)
          go_ret
          exact ⟨by rw [HH.out]; rfl, HBs.out⟩
        ·have e4' : (d != 0) = false := by simp only [bne, e4]; rfl
         have HH := Lib.hid (show okD b y x = true by unfold okD; rw [HP.out, HI.out, e4]; rfl)
         go_wp2_with ((with_reducible refine gate_dst (N := 35) rfl ?_); refine Kd.event_run rfl (exec_index_cell (k := (x : Int)) rfl rfl rfl j1 j0 Try.underlying23 Try.isAgg22 sz22 (v := .int .i8 d) (by rw [Int.toNat_natCast]; exact hv)) ?_)
         go_roundw
         case rel => exact ⟨x + 1, by omega, by go_num, next_one HN1.out HH.out, by first | exact trivial | rfl⟩
         case measure => simp [intOf]; omega
     ·have HH := Lib.hid (next_row HN.out (fun j hj => HN1.out j (by omega)))
      have j0 : ¬ (x : Int) < 16 := by omega
      go_wp2
      go_roundw
      case rel => exact ⟨y + 1, by omega, by go_num, HH.out, HBs.out, HGs.out⟩
      case measure => simp [intOf]; omega
   ·have HH := Lib.hid (bayB_ok HE.out.1 HE.out.2 (fun j hj => HN.out j (by omega)))
    have i0 : ¬ (y : Int) < 16 := by omega
    go_wp2
    go_ret
    exact ⟨by rw [HH.out]; rfl, HD.out⟩
 ·have HV := Lib.hid (show bayB b = false by unfold bayB; rw [Bool.eq_false_iff.2 hin]; rfl)
  have hor : b.z 0 < 1 ∨ 16 < b.z 0 ∨ b.z 1 < 1 ∨ 16 < b.z 1 := by simp [inB] at hin; omega
  clear hin
  by_cases r0 : b.z 0 < 1
  ·go_enter Try.func69, Try.ntmps69
   go_wp2_with ((with_reducible refine gate_box (t := 38) rfl ?_); refine wpList_box_ev rfl _ _ rfl b.A rfl ?_; intro g w1 hg hb hb1; have HB0 := Lib.hid hb1; have c0 := BayAt.cell (b := b) hb (j := 0) (by omega); have c1 := BayAt.cell (b := b) hb (j := 1) (by omega); clear hb hb1 hg)
   go_ret
   exact ⟨by rw [HV.out]; rfl, HB0.out⟩
  ·by_cases r1 : 16 < b.z 0
   ·go_enter Try.func69, Try.ntmps69
    go_wp2_with ((with_reducible refine gate_box (t := 38) rfl ?_); refine wpList_box_ev rfl _ _ rfl b.A rfl ?_; intro g w1 hg hb hb1; have HB0 := Lib.hid hb1; have c0 := BayAt.cell (b := b) hb (j := 0) (by omega); have c1 := BayAt.cell (b := b) hb (j := 1) (by omega); clear hb hb1 hg)
    go_ret
    exact ⟨by rw [HV.out]; rfl, HB0.out⟩
   ·by_cases r2 : b.z 1 < 1
    ·go_enter Try.func69, Try.ntmps69
     go_wp2_with ((with_reducible refine gate_box (t := 38) rfl ?_); refine wpList_box_ev rfl _ _ rfl b.A rfl ?_; intro g w1 hg hb hb1; have HB0 := Lib.hid hb1; have c0 := BayAt.cell (b := b) hb (j := 0) (by omega); have c1 := BayAt.cell (b := b) hb (j := 1) (by omega); clear hb hb1 hg)
     go_ret
     exact ⟨by rw [HV.out]; rfl, HB0.out⟩
    ·have r3 : 16 < b.z 1 := by omega
     go_enter Try.func69, Try.ntmps69
     go_wp2_with ((with_reducible refine gate_box (t := 38) rfl ?_); refine wpList_box_ev rfl _ _ rfl b.A rfl ?_; intro g w1 hg hb hb1; have HB0 := Lib.hid hb1; have c0 := BayAt.cell (b := b) hb (j := 0) (by omega); have c1 := BayAt.cell (b := b) hb (j := 1) (by omega); clear hb hb1 hg)
     go_ret
     exact ⟨by rw [HV.out]; rfl, HB0.out⟩
end Go.Proofs.Ytmhmfhdmeedcfaa.G
end
section
namespace Go.Proofs.Ytmhmfhdmeedcfaa.G
open Go.RowKit Go.Proofs.YtmhmfhdmeedcfaaW.PrintWords Go.Proofs.YtmhmfhdmeedcfaaW.PrintLast Go.Proofs.YtmhmfhdmeedcfaaW.PrintMore AR M
set_option linter.unusedVariables false
set_option linter.unusedSimpArgs false
def okG (b : Flat 258 .i8) (d : Flat 256 .u8) (y x : Nat) : Bool := decide (d.z (y * 16 + x) ≤ 3) && (d.z (y * 16 + x) == 0 || isP b x y)
def groundsB (b : Flat 258 .i8) (d : Flat 256 .u8) : Bool := bayB b && allB (okG b d)
theorem groundsB_true {b : Flat 258 .i8} {d : Flat 256 .u8} (h : groundsB b d = true) : bayB b = true ∧ ∀ y, y < 16 → ∀ x, x < 16 → okG b d y x = true := by
 unfold groundsB at h
 rw [Bool.and_eq_true] at h
 exact ⟨h.1, allB_iff.1 h.2⟩
theorem groundsB_ok {b : Flat 258 .i8} {d : Flat 256 .u8} (h1 : bayB b = true) (h : ∀ y, y < 16 → ∀ x, x < 16 → okG b d y x = true) : groundsB b d = true := by
 unfold groundsB
 rw [h1, allB_iff.2 h]; rfl
theorem groundsB_no {b : Flat 258 .i8} {d : Flat 256 .u8} {y x : Nat} (hy : y < 16) (hx : x < 16) (h : okG b d y x = false) : groundsB b d = false := by
 unfold groundsB
 rw [allB_no hy hx h, Bool.and_false]
theorem l07Grounds_any (g g1 : Nat) (b : Flat 258 .i8) (d : Flat 256 .u8) (w : World) (hB : BayAt w g b) (hG : GroundsAt w g1 d) :
  Calls Try.prog 48 #[.pointer (some ⟨g, 0, none⟩), .pointer (some ⟨g1, 0, none⟩)] w fun e w' => e = .returned (.bool (groundsB b d)) ∧ Below w.heap.size w w' := by
 have BB := Lib.hid hB
 have GG := Lib.hid hG
 cases e1 : bayB b
 ·have HV := Lib.hid (show groundsB b d = false by unfold groundsB; rw [e1]; rfl)
  have HQ1 := Lib.hid (e1 ▸ l01Bay_any g b w hB)
  clear e1 hB hG
  go_enter Try.func48, Try.ntmps48
  go_wp2_with (go_at_call 63; refine (HQ1.out).mono ?_; rintro e w1 ⟨rfl, hb⟩; have HB1 := Lib.hid hb; clear hb)
  go_ret
  exact ⟨by rw [HV.out]; rfl, HB1.out⟩
 ·have HE := Lib.hid e1
  have HQ1 := Lib.hid (e1 ▸ l01Bay_any g b w hB)
  clear e1 hB hG
  go_enter Try.func48, Try.ntmps48
  go_wp2_with (go_at_call 63; refine (HQ1.out).mono ?_; rintro e w1 ⟨rfl, hb⟩; have HB1 := Lib.hid hb; clear hb)
  clear HQ1
  go_loopw [5] (fun i wr => ∃ y : Nat, y ≤ 16 ∧ i = .int .i8 y ∧ Hid (∀ j, j < y → ∀ x, x < 16 → okG b d j x = true) ∧ Hid (Below w.heap.size w wr)) (fun i _ => 16 - (intOf i).toNat)
  case atStart => exact ⟨0, Nat.zero_le _, rfl, fun j h => absurd h (by omega), HB1.out⟩
  case round =>
   obtain ⟨y, hy, rfl, HN, HD⟩ := hrel
   by_cases hlt : y < 16
   ·have i0 : (y : Int) < 16 := by omega
    have i1 : (0 : Int) ≤ (y : Int) := by omega
    obtain ⟨wo, rfl⟩ : ∃ wo : World, wo = wr := ⟨_, rfl⟩
    go_wp2
    go_loopw [6] (fun i wr => ∃ x : Nat, x ≤ 16 ∧ i = .int .i8 x ∧ Hid (∀ j, j < x → okG b d y j = true) ∧ Hid (Below w.heap.size w wr)) (fun i _ => 16 - (intOf i).toNat)
    case atStart => exact ⟨0, Nat.zero_le _, rfl, fun j h => absurd h (by omega), HD.out⟩
    case round =>
     obtain ⟨x, hx, rfl, HN1, HD1⟩ := hrel
     by_cases hlx : x < 16
     ·have j0 : (x : Int) < 16 := by omega
      have j1 : (0 : Int) ≤ (x : Int) := by omega
      have BW := Lib.hid (BB.out.below HD1.out)
      have cd := (GG.out.below HD1.out).cell (j := y * 16 + x) (by omega)
      have HP := Lib.hid (show okG b d y x = (decide (d.z (y * 16 + x) ≤ 3) && (d.z (y * 16 + x) == 0 || isP b x y)) from rfl)
      generalize d.z (y * 16 + x) = k at cd HP
      by_cases hk : 3 < k
      ·have HH := Lib.hid (groundsB_no hlt hlx (show okG b d y x = false by rw [HP.out, decide_eq_false (show ¬ k ≤ 3 by omega)]; rfl))
       go_wp2
       go_ret
       exact ⟨by rw [HH.out]; rfl, HD1.out⟩
      ·have hk3 : decide (k ≤ 3) = true := decide_eq_true (by omega)
       cases e4 : (k == 0)
       ·have e4' : (k != 0) = true := by simp only [bne, e4]; rfl
        cases e5 : isP b x y
        ·have HH := Lib.hid (groundsB_no hlt hlx (show okG b d y x = false by rw [HP.out, hk3, e4, e5]; rfl))
         have HI := Lib.hid (e5 ▸ is_any g b x y wr BW.out (by omega) (by omega))
         clear e5 hk3
         go_wp2_with (go_at_call 64; refine HI.out.mono ?_; rintro e w1 ⟨rfl, hb⟩; have HB1 := Lib.hid (below_join HD1.out hb); clear hb)
         go_ret
         exact ⟨by rw [HH.out]; rfl, HB1.out⟩
        ·have HH := Lib.hid (show okG b d y x = true by rw [HP.out, hk3, e4, e5]; rfl)
         have HI := Lib.hid (e5 ▸ is_any g b x y wr BW.out (by omega) (by omega))
         clear e5 hk3
         go_wp2_with (go_at_call 64; refine HI.out.mono ?_; rintro e w1 ⟨rfl, hb⟩; have HB1 := Lib.hid (below_join HD1.out hb); clear hb)
         go_roundw
         case rel => exact ⟨x + 1, by omega, by go_num, next_one HN1.out HH.out, HB1.out⟩
         case measure => simp [intOf]; omega
       ·have e4' : (k != 0) = false := by simp only [bne, e4]; rfl
        have HH := Lib.hid (show okG b d y x = true by rw [HP.out, hk3, e4]; rfl)
        clear hk3
        go_wp2
        go_roundw
        case rel => exact ⟨x + 1, by omega, by go_num, next_one HN1.out HH.out, HD1.out⟩
        case measure => simp [intOf]; omega
     ·have HH := Lib.hid (next_row HN.out (fun j hj => HN1.out j (by omega)))
      have j0 : ¬ (x : Int) < 16 := by omega
      go_wp2
      go_roundw
      case rel => exact ⟨y + 1, by omega, by go_num, HH.out, HD1.out⟩
      case measure => simp [intOf]; omega
   ·have HH := Lib.hid (groundsB_ok HE.out (fun j hj => HN.out j (by omega)))
    have i0 : ¬ (y : Int) < 16 := by omega
    go_wp2
    go_ret
    exact ⟨by rw [HH.out]; rfl, HD.out⟩
end Go.Proofs.Ytmhmfhdmeedcfaa.G
end
section
namespace Go.Proofs.Ytmhmfhdmeedcfaa.G
open Go.RowKit Go.Proofs.YtmhmfhdmeedcfaaW.PrintWords Go.Proofs.YtmhmfhdmeedcfaaW.PrintLast Go.Proofs.YtmhmfhdmeedcfaaW.PrintMore AR M
set_option linter.unusedVariables false
set_option linter.unusedSimpArgs false
theorem sz27 : (Try.prog.info? 27).map (·.size) = some 16 := by kernel_rfl
theorem szr27 (b : Flat 256 .u8) (n : Nat) : (Try.prog.info? 27).map (·.size) = some (b.sub n 16).size := by rw [Flat.sub_size]; kernel_rfl
theorem sz5 : (Try.prog.info? 5).map (·.size) = some 1 := by kernel_rfl
theorem ValidGrounds_any (b : Flat 258 .i8) (d : Flat 256 .u8) (w : World) : Calls Try.prog 55 #[.agg b.A, .agg d.A] w fun e w' => e = .returned (.bool (groundsB b d)) ∧ Below w.heap.size w w' := by
 obtain ⟨a0, a1⟩ := bounds_i8 (b.ok 0 (by omega))
 obtain ⟨b0, b1⟩ := bounds_i8 (b.ok 1 (by omega))
 cases e1 : bayB b
 ·have HV := Lib.hid (show groundsB b d = false by unfold groundsB; rw [e1]; rfl)
  have HC := Lib.hid (fun W => e1 ▸ ValidBay_any b W)
  clear e1
  go_enter Try.func55, Try.ntmps55
  go_wp2_with (first
   | ((with_reducible refine gate_dst (N := 2) rfl ?_); refine wpList_box_ev rfl 38 _ rfl b.A rfl ?_; intro g w1 hg hb hb1; have HG := Lib.hid hb; have HB0 := Lib.hid hb1; clear hb hb1 hg)
   | ((with_reducible refine gate_dst (N := 3) rfl ?_); refine wpList_box_ev rfl 40 _ rfl d.A rfl ?_; intro g1 w2 hg hb hb1; have HG1 := Lib.hid (BayAt.below (b := b) HG.out hb1); have HB1 := Lib.hid (below_join HB0.out hb1); clear hb hb1 hg)
   | ((with_reducible refine gate_dst (N := 9) rfl ?_); refine Kd.event_run rfl (exec_load_blk rfl rfl HG1.out Try.underlying38 rfl (szO38 b)) ?_)
   | (go_at_call 69; refine (HC.out _).mono ?_; rintro e w3 ⟨rfl, hb⟩; have HB2 := Lib.hid (below_join HB1.out hb); clear hb))
  go_ret
  exact ⟨by rw [HV.out]; rfl, HB2.out⟩
 ·have HE := Lib.hid e1
  have HC := Lib.hid (fun W => e1 ▸ ValidBay_any b W)
  clear e1
  go_enter Try.func55, Try.ntmps55
  go_wp2_with (first
   | ((with_reducible refine gate_dst (N := 2) rfl ?_); refine wpList_box_ev rfl 38 _ rfl b.A rfl ?_; intro g w1 hg hb hb1; have HG := Lib.hid hb; have HB0 := Lib.hid hb1; clear hb hb1 hg)
   | ((with_reducible refine gate_dst (N := 3) rfl ?_); refine wpList_box_ev rfl 40 _ rfl d.A rfl ?_; intro g1 w2 hg hb hb1; have HG1 := Lib.hid (BayAt.below (b := b) HG.out hb1); have HD1 := Lib.hid hb; have HB1 := Lib.hid (below_join HB0.out hb1); clear hb hb1 hg)
   | ((with_reducible refine gate_dst (N := 9) rfl ?_); refine Kd.event_run rfl (exec_load_blk rfl rfl HG1.out Try.underlying38 rfl (szO38 b)) ?_)
   | (go_at_call 69; refine (HC.out _).mono ?_; rintro e w3 ⟨rfl, hb⟩; have HB2 := Lib.hid (below_join HB1.out hb); have HG2 := Lib.hid (BayAt.below (b := b) HG1.out hb); have HD2 := Lib.hid (GroundsAt.below (d := d) HD1.out hb); clear hb)
   | ((with_reducible refine gate_dst (N := 12) rfl ?_); refine Kd.event_run rfl (exec_load_blk rfl rfl HD2.out Try.underlying40 rfl (szO40 d)) ?_))
  clear HC
  rw [← d.sub_whole]
  go_loopw [13] (fun i wr => ∃ y : Nat, y ≤ 16 ∧ i = .int .i64 y ∧ Hid (∀ j, j < y → ∀ x, x < 16 → okG b d j x = true) ∧ Hid (Below w.heap.size w wr) ∧ Hid (BayAt wr g b)) (fun i _ => 16 - (intOf i).toNat)
  case atStart => exact ⟨0, Nat.zero_le _, rfl, fun j h => absurd h (by omega), HB2.out, HG2.out⟩
  case round =>
   obtain ⟨y, hy, rfl, HN, HD, HG1⟩ := hrel
   by_cases hlt : y < 16
   ·have i0 : (y : Int) < 16 := by omega
    have i1 : (0 : Int) ≤ (y : Int) := by omega
    obtain ⟨wo, rfl⟩ : ∃ wo : World, wo = wr := ⟨_, rfl⟩
    go_wp2_with (first
     | ((with_reducible refine gate_dst (N := 16) rfl ?_); refine Kd.event_run rfl (exec_index_row (k := (y : Int)) (sz := 16) rfl rfl rfl i1 i0 Try.underlying40 Try.underlying27 rfl sz27) ?_; rw [Int.toNat_natCast, d.sub_part (show y * 16 + 16 ≤ 256 by omega), Nat.zero_add])
     | ((with_reducible refine gate_dst (N := 6) rfl ?_); refine box_event rfl (N := 6) rfl (t := 27) (exec_alloc rfl (Try.zeroValue27 _)) ?_; intro gr hgr wa ha hb; have HA := Lib.hid ha; have HBa := Lib.hid (below_join HD.out hb); have HGa := Lib.hid (BayAt.below (b := b) HG1.out hb); have hne := Lib.hid (show w.heap.size ≤ gr by have := HD.out.size; omega); have hng := Lib.hid (show g ≠ gr by have := (Array.getElem?_eq_some_iff.1 HG1.out).1; omega); clear ha hb hgr)
     | ((with_reducible refine gate_store (t := 27) (p := 6) rfl ?_); refine store_event (t := 27) (p := 6) rfl rfl rfl (exec_store_row (t2 := 27) (vs := d.sub (y * 16) 16) rfl rfl rfl HA.out (by rw [Flat.sub_size]; decide) (d.sub_one _ _) (szr27 d _)) ?_; intro ws hws; have HS := Lib.hid (show ws.heap[gr]? = some (.cells (d.sub (y * 16) 16) 27 (0, 0)) by rw [hws]; exact setRow_whole HA.out (by rw [Flat.sub_size]; rfl)); have HBs := Lib.hid (show Below w.heap.size w ws by rw [hws]; exact below_setRow HBa.out hne.out _); have HGs := Lib.hid (show BayAt ws g b by rw [hws]; exact (setRow_other _ _ _ _ hng.out).trans HGa.out); clear hws)
     | ((with_reducible refine gate_dst (N := 17) rfl ?_); refine Kd.event_run rfl (exec_load_blk rfl rfl HS.out Try.underlying27 rfl (szr27 d _)) ?_))
    go_loopw [18] (fun i wr => ∃ x : Nat, x ≤ 16 ∧ i = .int .i64 x ∧ Hid (∀ j, j < x → okG b d y j = true) ∧ Hid (wr = ws)) (fun i _ => 16 - (intOf i).toNat)
    case atStart => exact ⟨0, Nat.zero_le _, rfl, fun j h => absurd h (by omega), rfl⟩
    case round =>
     obtain ⟨x, hx, rfl, HN1, HW⟩ := hrel
     obtain rfl := HW.out
     by_cases hlx : x < 16
     ·have j0 : (x : Int) < 16 := by omega
      have j1 : (0 : Int) ≤ (x : Int) := by omega
      have c0 := BayAt.cell HGs.out (j := 0) (by omega)
      have c1 := BayAt.cell HGs.out (j := 1) (by omega)
      have hv := d.sub_at (y * 16) 16 (j := x) (by omega)
      have HP := Lib.hid (show okG b d y x = (decide (d.z (y * 16 + x) ≤ 3) && (d.z (y * 16 + x) == 0 || isP b x y)) from rfl)
      have HIP := Lib.hid (isP_nat (b := b) (x := x) (y := y))
      generalize d.z (y * 16 + x) = k at hv HP
      by_cases h1 : 3 < k
      ·have HH := Lib.hid (groundsB_no hlt hlx (show okG b d y x = false by rw [HP.out, decide_eq_false (show ¬ k ≤ 3 by omega)]; rfl))
       go_wp2_with ((with_reducible refine gate_dst (N := 21) rfl ?_); refine Kd.event_run rfl (exec_index_cell (k := (x : Int)) rfl rfl rfl j1 j0 Try.underlying27 Try.isAgg5 sz5 (v := .int .u8 k) (by rw [Int.toNat_natCast]; exact hv)) ?_)
       go_ret
       exact ⟨by rw [HH.out]; rfl, HBs.out⟩
      ·have HI := Lib.hid (show decide (k ≤ 3) = true from decide_eq_true (by omega))
       cases e4 : (k == 0)
       ·have e4' : (k != 0) = true := by simp only [bne, e4]; rfl
        by_cases h5 : (x : Int) < b.z 0
        ·have h5' : ¬ b.z 0 ≤ (x : Int) := by omega
         by_cases h6 : (y : Int) < b.z 1
         ·have h6' : ¬ b.z 1 ≤ (y : Int) := by omega
          have HH := Lib.hid (show okG b d y x = true by rw [HP.out, HI.out, e4, HIP.out, decide_eq_true h5, decide_eq_true h6]; rfl)
          go_wp2_with ((with_reducible refine gate_dst (N := 21) rfl ?_); refine Kd.event_run rfl (exec_index_cell (k := (x : Int)) rfl rfl rfl j1 j0 Try.underlying27 Try.isAgg5 sz5 (v := .int .u8 k) (by rw [Int.toNat_natCast]; exact hv)) ?_)
          go_roundw
          case rel => exact ⟨x + 1, by omega, by go_num, next_one HN1.out HH.out, by first | exact trivial | rfl⟩
          case measure => simp [intOf]; omega
         ·have h6' : b.z 1 ≤ (y : Int) := by omega
          have HH := Lib.hid (groundsB_no hlt hlx (show okG b d y x = false by rw [HP.out, HI.out, e4, HIP.out, decide_eq_true h5, decide_eq_false h6]; rfl))
          go_wp2_with ((with_reducible refine gate_dst (N := 21) rfl ?_); refine Kd.event_run rfl (exec_index_cell (k := (x : Int)) rfl rfl rfl j1 j0 Try.underlying27 Try.isAgg5 sz5 (v := .int .u8 k) (by rw [Int.toNat_natCast]; exact hv)) ?_)
          go_ret
          exact ⟨by rw [HH.out]; rfl, HBs.out⟩
        ·have h5' : b.z 0 ≤ (x : Int) := by omega
         have HH := Lib.hid (groundsB_no hlt hlx (show okG b d y x = false by rw [HP.out, HI.out, e4, HIP.out, decide_eq_false h5]; rfl))
         go_wp2_with ((with_reducible refine gate_dst (N := 21) rfl ?_); refine Kd.event_run rfl (exec_index_cell (k := (x : Int)) rfl rfl rfl j1 j0 Try.underlying27 Try.isAgg5 sz5 (v := .int .u8 k) (by rw [Int.toNat_natCast]; exact hv)) ?_)
         go_ret
         exact ⟨by rw [HH.out]; rfl, HBs.out⟩
       ·have e4' : (k != 0) = false := by simp only [bne, e4]; rfl
        have HH := Lib.hid (show okG b d y x = true by rw [HP.out, HI.out, e4]; rfl)
        go_wp2_with ((with_reducible refine gate_dst (N := 21) rfl ?_); refine Kd.event_run rfl (exec_index_cell (k := (x : Int)) rfl rfl rfl j1 j0 Try.underlying27 Try.isAgg5 sz5 (v := .int .u8 k) (by rw [Int.toNat_natCast]; exact hv)) ?_)
        go_roundw
        case rel => exact ⟨x + 1, by omega, by go_num, next_one HN1.out HH.out, by first | exact trivial | rfl⟩
        case measure => simp [intOf]; omega
     ·have HH := Lib.hid (next_row HN.out (fun j hj => HN1.out j (by omega)))
      have j0 : ¬ (x : Int) < 16 := by omega
      go_wp2
      go_roundw
      case rel => exact ⟨y + 1, by omega, by go_num, HH.out, HBs.out, HGs.out⟩
      case measure => simp [intOf]; omega
   ·have HH := Lib.hid (groundsB_ok HE.out (fun j hj => HN.out j (by omega)))
    have i0 : ¬ (y : Int) < 16 := by omega
    go_wp2
    go_ret
    exact ⟨by rw [HH.out]; rfl, HD.out⟩
def spec_l07Grounds.f (a0 : O38) (a1 : O40) : Option (Bool) := some (groundsB a0 a1)
def impl_ValidGrounds.f (a0 : O38) (a1 : O40) : Option (Bool) := some (groundsB a0 a1)
theorem spec_l07Grounds.calls (gp0 : Nat) (a0 : O38) (gp1 : Nat) (a1 : O40) (r : Bool) (w : World) (hp0 : w.heap[gp0]? = some (.cells (a0).A 38 (0, 0))) (hp1 : w.heap[gp1]? = some (.cells (a1).A 40 (0, 0))) (h : spec_l07Grounds.f a0 a1 = some r) :
  Calls Try.prog 48 #[.pointer (some ⟨gp0, 0, none⟩), .pointer (some ⟨gp1, 0, none⟩)] w fun e w' => e = .returned (.bool r) ∧ Below w.heap.size w w' := by
 obtain rfl := Option.some.inj h
 exact l07Grounds_any gp0 gp1 a0 a1 w hp0 hp1
theorem impl_ValidGrounds.calls (a0 : O38) (a1 : O40) (r : Bool) (w : World) (h : impl_ValidGrounds.f a0 a1 = some r) :
  Calls Try.prog 55 #[VO38 a0, VO40 a1] w fun e w' => e = .returned (.bool r) ∧ Below w.heap.size w w' := by
 obtain rfl := Option.some.inj h
 exact ValidGrounds_any a0 a1 w
end Go.Proofs.Ytmhmfhdmeedcfaa.G
end
section
namespace Go.Proofs.Ytmhmfhdmeedcfaa.G
open Go.RowKit Go.Proofs.YtmhmfhdmeedcfaaW.PrintWords Go.Proofs.YtmhmfhdmeedcfaaW.PrintLast Go.Proofs.YtmhmfhdmeedcfaaW.PrintMore
attribute [local go_sem] max2_int min2_int max_two min_two max_three min_three max_four min_four   -- for this text's walks alone
set_option linter.unusedVariables false
set_option linter.unusedSimpArgs false
def spec_l07Valid.f (k : Nat) (a0 : O38) (a1 : O40) (a2_0 : Int) (a2_1 : Int) (a2_2 : Int) (a2_3 : Int) (a2_4 : Int) (a2_5 : Int) (l3 : List (S78)) : Option (Bool) := (spec_l07Grounds.f a0 a1).bind fun t121 => (if t121 = true then ((spec_l01Boat.f a0 a2_0 a2_1 a2_2 a2_3 a2_4 a2_5).bind fun t122 => (if t122 = true then ((spec_l07Winds.f k l3).bind fun t123 => (some t123)) else (some false))) else (some false))
set_option maxHeartbeats 8000000 in
set_option maxRecDepth 100000 in
theorem spec_l07Valid.calls (k : Nat) (gp0 : Nat) (a0 : O38) (gp1 : Nat) (a1 : O40) (a2_0 : Int) (a2_1 : Int) (a2_2 : Int) (a2_3 : Int) (a2_4 : Int) (a2_5 : Int) (A3 : Option Addr) (c3 : Nat) (l3 : List (S78)) (r : Bool) (w : World) (hp0 : w.heap[gp0]? = some (.cells (a0).A 38 (0, 0))) (hp1 : w.heap[gp1]? = some (.cells (a1).A 40 (0, 0))) (hr3 : Kd.C k78 w A3 l3.length l3) (hc3 : l3.length ≤ c3) (h : spec_l07Valid.f k a0 a1 a2_0 a2_1 a2_2 a2_3 a2_4 a2_5 l3 = some r) :
  Calls Try.prog 34 #[.pointer (some ⟨gp0, 0, none⟩), .pointer (some ⟨gp1, 0, none⟩), .agg #[.int .i8 a2_0, .int .i8 a2_1, .int .i8 a2_2, .int .i8 a2_3, .int .i8 a2_4, .int .i8 a2_5], .slice A3 l3.length c3] w fun e w' => e = .returned (.bool r) ∧ Below w.heap.size w w' := by
 have hu44 := Try.underlying44
 have HR3 := Aside0.mk hr3
 have HC3 := Aside0.mk hc3
 clear hr3 hc3
 have BK118 := Aside0.mk hp0
 clear hp0
 have BK119 := Aside0.mk hp1
 clear hp1
 have HB := Aside0.mk (Below.refl w.heap.size w)
 have H : ((spec_l07Grounds.f a0 a1).bind fun t121 => (if t121 = true then ((spec_l01Boat.f a0 a2_0 a2_1 a2_2 a2_3 a2_4 a2_5).bind fun t122 => (if t122 = true then ((spec_l07Winds.f k l3).bind fun t123 => (some t123)) else (some false))) else (some false))) = some r := h
 clear h
 replace H := Option.bind_eq_some_iff.mp H
 obtain ⟨t121, A50, H⟩ := H
 replace H : (if t121 = true then ((spec_l01Boat.f a0 a2_0 a2_1 a2_2 a2_3 a2_4 a2_5).bind fun t122 => (if t122 = true then ((spec_l07Winds.f k l3).bind fun t123 => (some t123)) else (some false))) else (some false)) = some r := H
 have A5 := Aside0.mk A50
 clear A50
 by_cases c6 : t121 = true
 ·subst c6
  have H1 : ((spec_l01Boat.f a0 a2_0 a2_1 a2_2 a2_3 a2_4 a2_5).bind fun t122 => (if t122 = true then ((spec_l07Winds.f k l3).bind fun t123 => (some t123)) else (some false))) = some r := by rw [if_pos rfl] at H; exact H
  clear H
  have H := H1
  clear H1
  replace H := Option.bind_eq_some_iff.mp H
  obtain ⟨t122, A70, H⟩ := H
  replace H : (if t122 = true then ((spec_l07Winds.f k l3).bind fun t123 => (some t123)) else (some false)) = some r := H
  have A7 := Aside0.mk A70
  clear A70
  by_cases c8 : t122 = true
  ·subst c8
   have H1 : ((spec_l07Winds.f k l3).bind fun t123 => (some t123)) = some r := by rw [if_pos rfl] at H; exact H
   clear H
   have H := H1
   clear H1
   replace H := Option.bind_eq_some_iff.mp H
   obtain ⟨t123, A90, H⟩ := H
   replace H : (some t123) = some r := H
   have A9 := Aside0.mk A90
   clear A90
   obtain rfl := Option.some.inj H
   go_enter Try.func34, Try.ntmps34
   go_wp2_with (first | ((with_reducible refine gate_dst (N := 6) rfl ?_); refine box_event ?hg (N := 6) ?hd (cs := #[.int .i8 a2_0, .int .i8 a2_1, .int .i8 a2_2, .int .i8 a2_3, .int .i8 a2_4, .int .i8 a2_5]) (t := 44) ?hr ?_; (case hd => rfl); (case hg => rfl); (case hr => first | (go_simp; done) | (go_simp; rfl)); intro gb120 hg w10 hbox hb; have BK120 := Aside0.mk (hbox); have GW120 := Aside0.mk (sqS HB.out hg); replace HB := Aside0.mk (sqH HB.out hb); have GE120 := GW120; have NB118_120 := Aside0.mk (sqN BK118.out hg); replace BK118 := Aside0.mk (sqB BK118.out hb); have NB120_118 := Aside0.mk (Ne.symm NB118_120.out); have NB119_120 := Aside0.mk (sqN BK119.out hg); replace BK119 := Aside0.mk (sqB BK119.out hb); have NB120_119 := Aside0.mk (Ne.symm NB119_120.out); clear hb hbox hg) | ((with_reducible refine gate_callee (f := 48) rfl ?_); refine goesL_ (some 11) rfl rfl Try.func48 (by kernel_rfl) rfl #[.pointer (some ⟨gp0, 0, none⟩), .pointer (some ⟨gp1, 0, none⟩)] rfl (by (try simp only [List.map_toArray, List.map_cons, List.map_nil]); first | done | rfl | (simp only [List.length_drop, List.length_take]; rfl)) ?_; (with_reducible refine (spec_l07Grounds.calls gp0 a0 gp1 a1 true _ ?side1 ?side2 A5.out).mono ?_); (case side1 => (with_reducible repeat (first | refine blk_drewN ?_ _ | refine blk_drew ?_ | refine blk_alloc ?_ _)); exact BK118.out); (case side2 => (with_reducible repeat (first | refine blk_drewN ?_ _ | refine blk_drew ?_ | refine blk_alloc ?_ _)); exact BK119.out); rintro e w11 ⟨rfl, hb⟩; refine ⟨_, rfl, ?_⟩; replace BK118 := Aside0.mk (sqB BK118.out hb); replace BK119 := Aside0.mk (sqB BK119.out hb); replace BK120 := Aside0.mk (sqB BK120.out hb); replace HB := Aside0.mk (sqH HB.out hb); (try clear hb); (try clear hb2); (try clear hk); (try clear hi); have hnb12 := NB120_118.out; have hnc12 := NB118_120.out; have hnb13 := NB120_119.out; have hnc13 := NB119_120.out; obtain ⟨hcz14_0, hcz14_1, hcz14_2, hcz14_3, hcz14_4, hcz14_5⟩ := sqC BK120.out; obtain ⟨hfz14_0, hfz14_1, hfz14_2, hfz14_3, hfz14_4, hfz14_5⟩ := sqF6 BK120.out) | (go_at_call 60; (with_reducible refine (spec_l01Boat.calls gp0 a0 a2_0 a2_1 a2_2 a2_3 a2_4 a2_5 true _ ?side1 A7.out).mono ?_); (case side1 => (with_reducible repeat (first | refine blk_drewN ?_ _ | refine blk_drew ?_ | refine blk_alloc ?_ _)); exact BK118.out); rintro e w15 ⟨rfl, hb⟩; replace BK118 := Aside0.mk (sqB BK118.out hb); replace BK119 := Aside0.mk (sqB BK119.out hb); replace BK120 := Aside0.mk (sqB BK120.out hb); replace HB := Aside0.mk (sqH HB.out hb); (try clear hb); (try clear hb2); (try clear hk); (try clear hi)) | (go_at_call 49; (with_reducible refine (spec_l07Winds.calls k _ _ l3 t123 _ ?side1 ?side2 A9.out).mono ?_); (case side1 => repeat (first | exact (Kd.C_below HR3.out HB.out) | (with_reducible refine Kd.C_alloc ?_ _) | (with_reducible refine Kd.C_drewN ?_ _) | (with_reducible refine Kd.C_drew ?_))); (case side2 => exact HC3.out); rintro e w16 ⟨rfl, hb⟩; replace BK118 := Aside0.mk (sqB BK118.out hb); replace BK119 := Aside0.mk (sqB BK119.out hb); replace BK120 := Aside0.mk (sqB BK120.out hb); replace HB := Aside0.mk (sqH HB.out hb); (try clear hb); (try clear hb2); (try clear hk); (try clear hi)))
   go_ret
   exact ⟨by first | rfl | (simp [errW_none, errW_some] <;> rfl) | (simp [*, errW_none, errW_some] <;> rfl), by repeat (first | (with_reducible first | exact HB.out | apply below_alloc | apply pw_below_drewN | apply below_drew1 | refine below_set ?_ GE118.out | refine below_set ?_ GE119.out | refine below_set ?_ GE120.out) | exact HB.out)⟩
  ·replace c8 := Bool.eq_false_iff.mpr c8
   subst c8
   have H1 : (some false) = some r := by rw [if_neg (show ¬ (false = true) by decide)] at H; exact H
   clear H
   have H := H1
   clear H1
   obtain rfl := Option.some.inj H
   go_enter Try.func34, Try.ntmps34
   go_wp2_with (first | ((with_reducible refine gate_dst (N := 6) rfl ?_); refine box_event ?hg (N := 6) ?hd (cs := #[.int .i8 a2_0, .int .i8 a2_1, .int .i8 a2_2, .int .i8 a2_3, .int .i8 a2_4, .int .i8 a2_5]) (t := 44) ?hr ?_; (case hd => rfl); (case hg => rfl); (case hr => first | (go_simp; done) | (go_simp; rfl)); intro gb120 hg w17 hbox hb; have BK120 := Aside0.mk (hbox); have GW120 := Aside0.mk (sqS HB.out hg); replace HB := Aside0.mk (sqH HB.out hb); have GE120 := GW120; have NB118_120 := Aside0.mk (sqN BK118.out hg); replace BK118 := Aside0.mk (sqB BK118.out hb); have NB120_118 := Aside0.mk (Ne.symm NB118_120.out); have NB119_120 := Aside0.mk (sqN BK119.out hg); replace BK119 := Aside0.mk (sqB BK119.out hb); have NB120_119 := Aside0.mk (Ne.symm NB119_120.out); clear hb hbox hg) | ((with_reducible refine gate_callee (f := 48) rfl ?_); refine goesL_ (some 11) rfl rfl Try.func48 (by kernel_rfl) rfl #[.pointer (some ⟨gp0, 0, none⟩), .pointer (some ⟨gp1, 0, none⟩)] rfl (by (try simp only [List.map_toArray, List.map_cons, List.map_nil]); first | done | rfl | (simp only [List.length_drop, List.length_take]; rfl)) ?_; (with_reducible refine (spec_l07Grounds.calls gp0 a0 gp1 a1 true _ ?side1 ?side2 A5.out).mono ?_); (case side1 => (with_reducible repeat (first | refine blk_drewN ?_ _ | refine blk_drew ?_ | refine blk_alloc ?_ _)); exact BK118.out); (case side2 => (with_reducible repeat (first | refine blk_drewN ?_ _ | refine blk_drew ?_ | refine blk_alloc ?_ _)); exact BK119.out); rintro e w18 ⟨rfl, hb⟩; refine ⟨_, rfl, ?_⟩; replace BK118 := Aside0.mk (sqB BK118.out hb); replace BK119 := Aside0.mk (sqB BK119.out hb); replace BK120 := Aside0.mk (sqB BK120.out hb); replace HB := Aside0.mk (sqH HB.out hb); (try clear hb); (try clear hb2); (try clear hk); (try clear hi); have hnb19 := NB120_118.out; have hnc19 := NB118_120.out; have hnb20 := NB120_119.out; have hnc20 := NB119_120.out; obtain ⟨hcz21_0, hcz21_1, hcz21_2, hcz21_3, hcz21_4, hcz21_5⟩ := sqC BK120.out; obtain ⟨hfz21_0, hfz21_1, hfz21_2, hfz21_3, hfz21_4, hfz21_5⟩ := sqF6 BK120.out) | (go_at_call 60; (with_reducible refine (spec_l01Boat.calls gp0 a0 a2_0 a2_1 a2_2 a2_3 a2_4 a2_5 false _ ?side1 A7.out).mono ?_); (case side1 => (with_reducible repeat (first | refine blk_drewN ?_ _ | refine blk_drew ?_ | refine blk_alloc ?_ _)); exact BK118.out); rintro e w22 ⟨rfl, hb⟩; replace BK118 := Aside0.mk (sqB BK118.out hb); replace BK119 := Aside0.mk (sqB BK119.out hb); replace BK120 := Aside0.mk (sqB BK120.out hb); replace HB := Aside0.mk (sqH HB.out hb); (try clear hb); (try clear hb2); (try clear hk); (try clear hi)))
   go_ret
   exact ⟨by first | rfl | (simp [errW_none, errW_some] <;> rfl) | (simp [*, errW_none, errW_some] <;> rfl), by repeat (first | (with_reducible first | exact HB.out | apply below_alloc | apply pw_below_drewN | apply below_drew1 | refine below_set ?_ GE118.out | refine below_set ?_ GE119.out | refine below_set ?_ GE120.out) | exact HB.out)⟩
 ·replace c6 := Bool.eq_false_iff.mpr c6
  subst c6
  have H1 : (some false) = some r := by rw [if_neg (show ¬ (false = true) by decide)] at H; exact H
  clear H
  have H := H1
  clear H1
  obtain rfl := Option.some.inj H
  go_enter Try.func34, Try.ntmps34
  go_wp2_with (first | ((with_reducible refine gate_dst (N := 6) rfl ?_); refine box_event ?hg (N := 6) ?hd (cs := #[.int .i8 a2_0, .int .i8 a2_1, .int .i8 a2_2, .int .i8 a2_3, .int .i8 a2_4, .int .i8 a2_5]) (t := 44) ?hr ?_; (case hd => rfl); (case hg => rfl); (case hr => first | (go_simp; done) | (go_simp; rfl)); intro gb120 hg w23 hbox hb; have BK120 := Aside0.mk (hbox); have GW120 := Aside0.mk (sqS HB.out hg); replace HB := Aside0.mk (sqH HB.out hb); have GE120 := GW120; have NB118_120 := Aside0.mk (sqN BK118.out hg); replace BK118 := Aside0.mk (sqB BK118.out hb); have NB120_118 := Aside0.mk (Ne.symm NB118_120.out); have NB119_120 := Aside0.mk (sqN BK119.out hg); replace BK119 := Aside0.mk (sqB BK119.out hb); have NB120_119 := Aside0.mk (Ne.symm NB119_120.out); clear hb hbox hg) | ((with_reducible refine gate_callee (f := 48) rfl ?_); refine goesL_ (some 11) rfl rfl Try.func48 (by kernel_rfl) rfl #[.pointer (some ⟨gp0, 0, none⟩), .pointer (some ⟨gp1, 0, none⟩)] rfl (by (try simp only [List.map_toArray, List.map_cons, List.map_nil]); first | done | rfl | (simp only [List.length_drop, List.length_take]; rfl)) ?_; (with_reducible refine (spec_l07Grounds.calls gp0 a0 gp1 a1 false _ ?side1 ?side2 A5.out).mono ?_); (case side1 => (with_reducible repeat (first | refine blk_drewN ?_ _ | refine blk_drew ?_ | refine blk_alloc ?_ _)); exact BK118.out); (case side2 => (with_reducible repeat (first | refine blk_drewN ?_ _ | refine blk_drew ?_ | refine blk_alloc ?_ _)); exact BK119.out); rintro e w24 ⟨rfl, hb⟩; refine ⟨_, rfl, ?_⟩; replace BK118 := Aside0.mk (sqB BK118.out hb); replace BK119 := Aside0.mk (sqB BK119.out hb); replace BK120 := Aside0.mk (sqB BK120.out hb); replace HB := Aside0.mk (sqH HB.out hb); (try clear hb); (try clear hb2); (try clear hk); (try clear hi)))
  go_ret
  exact ⟨by first | rfl | (simp [errW_none, errW_some] <;> rfl) | (simp [*, errW_none, errW_some] <;> rfl), by repeat (first | (with_reducible first | exact HB.out | apply below_alloc | apply pw_below_drewN | apply below_drew1 | refine below_set ?_ GE118.out | refine below_set ?_ GE119.out | refine below_set ?_ GE120.out) | exact HB.out)⟩
end Go.Proofs.Ytmhmfhdmeedcfaa.G
end
section
namespace Go.Proofs.Ytmhmfhdmeedcfaa.G
open Go.RowKit Go.Proofs.YtmhmfhdmeedcfaaW.PrintWords Go.Proofs.YtmhmfhdmeedcfaaW.PrintLast Go.Proofs.YtmhmfhdmeedcfaaW.PrintMore
attribute [local go_sem] max2_int min2_int max_two min_two max_three min_three max_four min_four   -- for this text's walks alone
set_option linter.unusedVariables false
set_option linter.unusedSimpArgs false
def spec_l00Min.f (a0 : Int) (a1 : Int) : Option (Int) := if a0 < a1 then (some a0) else (some a1)
set_option maxHeartbeats 8000000 in
set_option maxRecDepth 100000 in
theorem spec_l00Min.calls (a0 : Int) (a1 : Int) (r : Int) (w : World) (h : spec_l00Min.f a0 a1 = some r) :
  Calls Try.prog 86 #[.int .i64 a0, .int .i64 a1] w fun e w' => e = .returned (.int .i64 r) ∧ Drawn0 w w' := by
 have H : (if a0 < a1 then (some a0) else (some a1)) = some r := h
 clear h
 by_cases c3 : a0 < a1
 ·rw [if_pos c3] at H
  have c3b0 : decide (a0 < a1) = true := decide_eq_true c3
  clear c3
  obtain rfl := Option.some.inj H
  go_enter Try.func86, Try.ntmps86
  go_wp2
  go_ret
  exact ⟨by first | rfl | (simp; done) | (simp [*]; done), by repeat (first | exact Drawn0.refl _ | apply Drawn0.step)⟩
 ·rw [if_neg c3] at H
  have c3b0 : decide (a0 < a1) = false := decide_eq_false c3
  clear c3
  obtain rfl := Option.some.inj H
  go_enter Try.func86, Try.ntmps86
  go_wp2
  go_ret
  exact ⟨by first | rfl | (simp; done) | (simp [*]; done), by repeat (first | exact Drawn0.refl _ | apply Drawn0.step)⟩
end Go.Proofs.Ytmhmfhdmeedcfaa.G
end
section
namespace Go.Proofs.Ytmhmfhdmeedcfaa.G
open Go.RowKit Go.Proofs.YtmhmfhdmeedcfaaW.PrintWords Go.Proofs.YtmhmfhdmeedcfaaW.PrintLast Go.Proofs.YtmhmfhdmeedcfaaW.PrintMore
attribute [local go_sem] max2_int min2_int max_two min_two max_three min_three max_four min_four   -- for this text's walks alone
set_option linter.unusedVariables false
set_option linter.unusedSimpArgs false
def spec_l07Hold.f (a0 : O38) (a1 : O40) (a2_0 : Int) (a2_1 : Int) (a2_2 : Int) (a2_3 : Int) (a2_4 : Int) (a2_5 : Int) : Option (Int) := (some (([2, 4, 6, 1] : List Int) : List Int)).bind fun y106 => ((spec_l01Depth.f a0 a2_0 a2_1).bind fun t109 => (if t109 = 0 then (none) else ((spec_l00Min.f 6 (wrap64 (Int.tdiv (wrap64 (a2_2)) t109))).bind fun t110 => (if 0 ≤ a2_1 then (if a2_1 < 16 then (if 0 ≤ a2_0 then (if a2_0 < 16 then (if 0 ≤ (a1.z (a2_1.toNat * 16 + a2_0.toNat)) then (if (a1.z (a2_1.toNat * 16 + a2_0.toNat)) < (y106.length : Int) then (some (wrap64 ((rd y106 (a1.z (a2_1.toNat * 16 + a2_0.toNat))) + t110))) else (none)) else (none)) else (none)) else (none)) else (none)) else (none)))))
def spec_l07Hold.T2 : Bool × List (List Nat × List Nat) := (true, [([], []), ([0], [0]), ([1], [1]), ([], []), ([], []), ([4], [4]), ([3, 5], [3, 5]), ([2, 6], [2, 6]), ([7, 6], [7]), ([8, 8, 0, 1, 2, 3, 4, 5, 6, 7, 8], [8])])
def spec_l07Hold.B2 : List Nat := [0, 1, 3, 0, 0, 16, 56, 127, 255, 511]
theorem spec_l07Hold.tab2 : rtab .any (opsOf Try.f76 2) = spec_l07Hold.T2 := by kernel_rfl
theorem spec_l07Hold.bits2 : waitsOk spec_l07Hold.T2.2 spec_l07Hold.B2 = true := by kernel_rfl
def spec_l07Hold.T3 : Bool × List (List Nat × List Nat) := (true, [([], []), ([], []), ([], []), ([2], [2]), ([3], [3]), ([], []), ([5], [5]), ([6], [6]), ([1], [1]), ([8, 4], [4, 8]), ([9, 7], [7, 9]), ([10], [10]), ([0, 11], [0, 11]), ([12], [12]), ([], []), ([13, 14], [13, 14]), ([15, 0, 1, 2, 3, 4, 5, 6, 7, 8, 9, 10, 11, 12, 13, 14, 15], [15])])
def spec_l07Hold.B3 : List Nat := [0, 0, 0, 4, 12, 0, 32, 96, 2, 286, 1022, 2046, 4095, 8191, 0, 32767, 65535]
theorem spec_l07Hold.tab3 : rtab .any (opsOf Try.f76 3) = spec_l07Hold.T3 := by kernel_rfl
theorem spec_l07Hold.bits3 : waitsOk spec_l07Hold.T3.2 spec_l07Hold.B3 = true := by kernel_rfl
set_option maxHeartbeats 8000000 in
set_option maxRecDepth 100000 in
theorem spec_l07Hold.calls (gp0 : Nat) (a0 : O38) (gp1 : Nat) (a1 : O40) (a2_0 : Int) (a2_1 : Int) (a2_2 : Int) (a2_3 : Int) (a2_4 : Int) (a2_5 : Int) (r : Int) (w : World) (hp0 : w.heap[gp0]? = some (.cells (a0).A 38 (0, 0))) (hp1 : w.heap[gp1]? = some (.cells (a1).A 40 (0, 0))) (h : spec_l07Hold.f a0 a1 a2_0 a2_1 a2_2 a2_3 a2_4 a2_5 = some r) :
  Calls Try.prog 76 #[.pointer (some ⟨gp0, 0, none⟩), .pointer (some ⟨gp1, 0, none⟩), .agg #[.int .i8 a2_0, .int .i8 a2_1, .int .i8 a2_2, .int .i8 a2_3, .int .i8 a2_4, .int .i8 a2_5]] w fun e w' => e = .returned (.int .i64 r) ∧ Below w.heap.size w w' := by
 have hu44 := Try.underlying44
 have hu42 := Try.underlying42
 have BK103 := Aside0.mk hp0
 clear hp0
 have BK104 := Aside0.mk hp1
 clear hp1
 have HB := Aside0.mk (Below.refl w.heap.size w)
 have H : ((some (([2, 4, 6, 1] : List Int) : List Int)).bind fun y106 => ((spec_l01Depth.f a0 a2_0 a2_1).bind fun t109 => (if t109 = 0 then (none) else ((spec_l00Min.f 6 (wrap64 (Int.tdiv (wrap64 (a2_2)) t109))).bind fun t110 => (if 0 ≤ a2_1 then (if a2_1 < 16 then (if 0 ≤ a2_0 then (if a2_0 < 16 then (if 0 ≤ (a1.z (a2_1.toNat * 16 + a2_0.toNat)) then (if (a1.z (a2_1.toNat * 16 + a2_0.toNat)) < (y106.length : Int) then (some (wrap64 ((rd y106 (a1.z (a2_1.toNat * 16 + a2_0.toNat))) + t110))) else (none)) else (none)) else (none)) else (none)) else (none)) else (none)))))) = some r := h
 clear h
 obtain ⟨y106, hy106⟩ : ∃ y_ : List Int, y_ = (([2, 4, 6, 1] : List Int)) := ⟨_, rfl⟩
 replace H : ((spec_l01Depth.f a0 a2_0 a2_1).bind fun t109 => (if t109 = 0 then (none) else ((spec_l00Min.f 6 (wrap64 (Int.tdiv (wrap64 (a2_2)) t109))).bind fun t110 => (if 0 ≤ a2_1 then (if a2_1 < 16 then (if 0 ≤ a2_0 then (if a2_0 < 16 then (if 0 ≤ (a1.z (a2_1.toNat * 16 + a2_0.toNat)) then (if (a1.z (a2_1.toNat * 16 + a2_0.toNat)) < (y106.length : Int) then (some (wrap64 ((rd y106 (a1.z (a2_1.toNat * 16 + a2_0.toNat))) + t110))) else (none)) else (none)) else (none)) else (none)) else (none)) else (none))))) = some r := by first | (rw [hy106]; with_reducible exact H) | (have H2_ := (Option.bind_some _ _).symm.trans H; rw [hy106]; with_reducible exact H2_) | (have H2_ := (Option.bind_some _ _).symm.trans H; with_reducible exact H2_) | with_reducible exact H | (rw [hy106]; exact H) | exact H
 have Ny106 := Aside0.mk hy106
 clear hy106
 replace H := Option.bind_eq_some_iff.mp H
 obtain ⟨t109, A40, H⟩ := H
 replace H : (if t109 = 0 then (none) else ((spec_l00Min.f 6 (wrap64 (Int.tdiv (wrap64 (a2_2)) t109))).bind fun t110 => (if 0 ≤ a2_1 then (if a2_1 < 16 then (if 0 ≤ a2_0 then (if a2_0 < 16 then (if 0 ≤ (a1.z (a2_1.toNat * 16 + a2_0.toNat)) then (if (a1.z (a2_1.toNat * 16 + a2_0.toNat)) < (y106.length : Int) then (some (wrap64 ((rd y106 (a1.z (a2_1.toNat * 16 + a2_0.toNat))) + t110))) else (none)) else (none)) else (none)) else (none)) else (none)) else (none)))) = some r := H
 have A4 := Aside0.mk A40
 clear A40
 by_cases c5 : t109 = 0
 ·rw [if_pos c5] at H
  exact absurd H (by simp)
 ·rw [if_neg c5] at H
  have c5b0 : (t109 == 0) = false := beq_eq_false_iff_ne.mpr c5
  have c5b1 : (t109 != 0) = true := bne_iff_ne.mpr c5
  replace H := Option.bind_eq_some_iff.mp H
  obtain ⟨t110, A60, H⟩ := H
  replace H : (if 0 ≤ a2_1 then (if a2_1 < 16 then (if 0 ≤ a2_0 then (if a2_0 < 16 then (if 0 ≤ (a1.z (a2_1.toNat * 16 + a2_0.toNat)) then (if (a1.z (a2_1.toNat * 16 + a2_0.toNat)) < (y106.length : Int) then (some (wrap64 ((rd y106 (a1.z (a2_1.toNat * 16 + a2_0.toNat))) + t110))) else (none)) else (none)) else (none)) else (none)) else (none)) else (none)) = some r := H
  have A6 := Aside0.mk A60
  clear A60
  by_cases c7 : 0 ≤ a2_1
  ·rw [if_pos c7] at H
   have c7b0 : decide (0 ≤ a2_1) = true := decide_eq_true c7
   clear c7
   by_cases c8 : a2_1 < 16
   ·rw [if_pos c8] at H
    have c8b0 : decide (a2_1 < 16) = true := decide_eq_true c8
    clear c8
    by_cases c10 : 0 ≤ a2_0
    ·rw [if_pos c10] at H
     have c10b0 : decide (0 ≤ a2_0) = true := decide_eq_true c10
     clear c10
     by_cases c11 : a2_0 < 16
     ·rw [if_pos c11] at H
      have c11b0 : decide (a2_0 < 16) = true := decide_eq_true c11
      clear c11
      obtain ⟨ji13, hji13⟩ : ∃ j_ : Int, (a1.z (a2_1.toNat * 16 + a2_0.toNat)) = j_ := ⟨_, rfl⟩
      replace H : (if 0 ≤ (ji13) then (if (ji13) < (y106.length : Int) then (some (wrap64 ((rd y106 (ji13)) + t110))) else (none)) else (none)) = some r := by first | (rw [hji13] at H; exact H) | (simp only [hji13] at H ⊢; exact H)
      (try rw [hji13] at A4)
      (try rw [hji13] at A6)
      by_cases c14 : 0 ≤ (ji13)
      ·rw [if_pos c14] at H
       have c14b0 : decide (0 ≤ (ji13)) = true := decide_eq_true c14
       clear c14
       by_cases c15 : (ji13) < (y106.length : Int)
       ·rw [if_pos c15] at H
        have c15b0 : decide ((ji13) < (y106.length : Int)) = true := decide_eq_true c15
        clear c15
        obtain rfl := Option.some.inj H
        go_enter Try.func76, Try.ntmps76
        try go_wp2_with (first | ((with_reducible refine gate_dst (N := 5) rfl ?_); refine box_event ?hg (N := 5) ?hd (cs := #[.int .i8 a2_0, .int .i8 a2_1, .int .i8 a2_2, .int .i8 a2_3, .int .i8 a2_4, .int .i8 a2_5]) (t := 44) ?hr ?_; (case hd => rfl); (case hg => rfl); (case hr => first | (go_simp; done) | (go_simp; rfl)); intro gb105 hg w16 hbox hb; have BK105 := Aside0.mk (hbox); have GW105 := Aside0.mk (sqS HB.out hg); replace HB := Aside0.mk (sqH HB.out hb); have GE105 := GW105; have NB103_105 := Aside0.mk (sqN BK103.out hg); replace BK103 := Aside0.mk (sqB BK103.out hb); have NB105_103 := Aside0.mk (Ne.symm NB103_105.out); have NB104_105 := Aside0.mk (sqN BK104.out hg); replace BK104 := Aside0.mk (sqB BK104.out hb); have NB105_104 := Aside0.mk (Ne.symm NB104_105.out); clear hb hbox hg) | ((with_reducible refine gate_dst (N := 9) rfl ?_); refine Kd.R_lit (Kd.int .i64) _ 2 ?hg (N := 9) ?hd (xs := ([2, 4, 6, 1] : List Int)) (inner := [.int .i64 2, .int .i64 4, .int .i64 6, .int .i64 1]) (ok := fun _ => True) (okp := fun _ => True) ?hr ?hp (fun _ hk => hk) trivial (Below.refl _ _) (Nat.le_refl _) (by simp) ?_; (case hd => rfl); (case hg => rfl); (case hr => first | (go_simp; done) | (go_simp; rfl)); (case hp => exact (Reps.one (show Kd.M (Kd.int .i64) _ _ _ 2 [.int .i64 2] from rfl) (Reps.one (show Kd.M (Kd.int .i64) _ _ _ 4 [.int .i64 4] from rfl) (Reps.one (show Kd.M (Kd.int .i64) _ _ _ 6 [.int .i64 6] from rfl) (Reps.one (show Kd.M (Kd.int .i64) _ _ _ 1 [.int .i64 1] from rfl) (Reps.none _ _)))))); intro v107 w17 ho18 hb hg_ hnew_; clear hg_ hnew_; (first | rw [← Ny106.out] at ho18 | (simp only [Int.reduceToNat] at ho18; rw [← Ny106.out] at ho18)); have HO108 := Aside0.mk (Kd.R_lower ho18 (sqW HB.out)); replace BK103 := Aside0.mk (sqB BK103.out hb); replace BK104 := Aside0.mk (sqB BK104.out hb); replace BK105 := Aside0.mk (sqB BK105.out hb); replace HB := Aside0.mk (sqH HB.out hb); clear hb ho18))
        replace HO108 := Aside0.mk (Kd.R_drew HO108.out)
        replace BK103 := Aside0.mk (blk_drew BK103.out)
        replace BK104 := Aside0.mk (blk_drew BK104.out)
        replace BK105 := Aside0.mk (blk_drew BK105.out)
        replace HB := Aside0.mk (below_drew1 HB.out)
        refine start_ (n := 10) (S := fun w' => w'.cell? ⟨gb105, 0, none⟩ = some (.int .i8 a2_0) ∧ w'.cell? ⟨gb105, 1, none⟩ = some (.int .i8 a2_1) ∧ w'.cell? ⟨gb105, 2, none⟩ = some (.int .i8 a2_2) ∧ w'.cell? ⟨gb105, 3, none⟩ = some (.int .i8 a2_3) ∧ w'.cell? ⟨gb105, 4, none⟩ = some (.int .i8 a2_4) ∧ w'.cell? ⟨gb105, 5, none⟩ = some (.int .i8 a2_5)) (ds := []) #[false, false, false, false, false, false, false, false, false, false] (by kernel_rfl) rfl rfl ⟨(blk_cell BK105.out 0).trans rfl, (blk_cell BK105.out 1).trans rfl, (blk_cell BK105.out 2).trans rfl, (blk_cell BK105.out 3).trans rfl, (blk_cell BK105.out 4).trans rfl, (blk_cell BK105.out 5).trans rfl⟩ (fun hHeld => ?_); refine with_tabW spec_l07Hold.tab2 spec_l07Hold.bits2 (fun HT_ HW_ => ?_)
        generalize w17.drew = w19 at HO108 BK103 BK104 BK105 HB hHeld ⊢
        refine pure_ (i := 0) (N := some 10) (v := ?_) (a' := ?_) #[true, false, false, false, false, false, false, false, false, false] rfl rfl (any_of HT_.out (by kernel_rfl)) (fun _ _ _ h => h) (Or.inl ⟨by rfl, ?_⟩) ?_ ?_
        rotate_left
        ·intro w'
         go_simp
         with_reducible rfl
        rotate_left
        ·simp only [Act.put, List.setIfInBounds_toArray, List.set_cons_zero, List.set_cons_succ, i64_w, i32_w]
         rfl
        refine pure_ (i := 3) (N := some 13) (v := ?_) (a' := ?_) #[true, false, false, true, false, false, false, false, false, false] rfl rfl (any_of HT_.out (by kernel_rfl)) (fun _ _ _ h => h) (Or.inl ⟨by rfl, ?_⟩) ?_ ?_
        rotate_left
        ·intro w'
         go_simp
         with_reducible rfl
        rotate_left
        ·simp only [Act.put, List.setIfInBounds_toArray, List.set_cons_zero, List.set_cons_succ, i64_w, i32_w]
         rfl
        refine pure_ (i := 4) (N := some 14) (v := ?_) (a' := ?_) #[true, false, false, true, true, false, false, false, false, false] rfl rfl (any_of HT_.out (by kernel_rfl)) (fun _ _ _ h => h) (Or.inl ⟨by rfl, ?_⟩) ?_ ?_
        rotate_left
        ·intro w'
         go_simp
         with_reducible rfl
        rotate_left
        ·simp only [Act.put, List.setIfInBounds_toArray, List.set_cons_zero, List.set_cons_succ, i64_w, i32_w]
         rfl
        refine take_ (i := 1) (N := some 11) (v := ?_) (a' := ?_) #[true, true, false, true, true, false, false, false, false, false] rfl rfl (take_ofW HT_.out HW_.out (by kernel_rfl)) (fun _ _ _ h => h) (Or.inl ⟨by rfl, ?_⟩) hHeld ?_ ?_
        rotate_left
        ·rintro w' ⟨s0, s1, s2, s3, s4, s5⟩
         go_simp
         with_reducible rfl
        rotate_left
        ·simp only [Act.put, List.setIfInBounds_toArray, List.set_cons_zero, List.set_cons_succ, i64_w, i32_w]
         rfl
        refine pure_ (i := 2) (N := some 12) (v := ?_) (a' := ?_) #[true, true, true, true, true, false, false, false, false, false] rfl rfl (any_of HT_.out (by kernel_rfl)) (fun _ _ _ h => h) (Or.inl ⟨by rfl, ?_⟩) ?_ ?_
        rotate_left
        ·intro w'
         go_simp
         with_reducible rfl
        rotate_left
        ·simp only [Act.put, List.setIfInBounds_toArray, List.set_cons_zero, List.set_cons_succ, i64_w, i32_w]
         rfl
        refine take_ (i := 5) (N := some 15) (v := ?_) (a' := ?_) #[true, true, true, true, true, true, false, false, false, false] rfl rfl (take_ofW HT_.out HW_.out (by kernel_rfl)) (fun _ _ _ h => h) (Or.inl ⟨by rfl, ?_⟩) hHeld ?_ ?_
        rotate_left
        ·rintro w' ⟨s0, s1, s2, s3, s4, s5⟩
         go_simp
         with_reducible rfl
        rotate_left
        ·simp only [Act.put, List.setIfInBounds_toArray, List.set_cons_zero, List.set_cons_succ, i64_w, i32_w]
         rfl
        refine one_ (i := 6) (N := some 16) #[true, true, true, true, true, true, true, false, false, false] rfl rfl (one_of HT_.out (by kernel_rfl)) (by decide) (fun K hK => ?_)
        refine goes_ Try.func73 (by kernel_rfl) rfl #[.pointer (some ⟨gp0, 0, none⟩), .agg #[.int .i8 a2_0, .int .i8 a2_1]] (by rfl) rfl rfl (by (try simp only [List.map_toArray, List.map_cons, List.map_nil]); first | done | rfl | (simp only [List.length_drop, List.length_take]; rfl)) ?_
        with_reducible refine (spec_l01Depth.calls gp0 a0 a2_0 a2_1 t109 _ ?side1 A4.out).mono ?_
        (case side1 => (with_reducible repeat (first | refine blk_drewN ?_ _ | refine blk_drew ?_ | refine blk_alloc ?_ _)); exact BK103.out)
        rintro e w20 ⟨rfl, hb⟩
        refine ⟨_, rfl, ?_⟩
        replace HO108 := Aside0.mk (sqR HO108.out hb)
        replace BK103 := Aside0.mk (sqB BK103.out hb)
        replace BK104 := Aside0.mk (sqB BK104.out hb)
        replace BK105 := Aside0.mk (sqB BK105.out hb)
        replace HB := Aside0.mk (sqH HB.out hb)
        (try clear hb)
        (try clear hb2)
        (try clear hk)
        (try clear hi)
        refine hK.out _ _ ⟨(blk_cell BK105.out 0).trans rfl, (blk_cell BK105.out 1).trans rfl, (blk_cell BK105.out 2).trans rfl, (blk_cell BK105.out 3).trans rfl, (blk_cell BK105.out 4).trans rfl, (blk_cell BK105.out 5).trans rfl⟩ (fun hHeld => ?_)
        clear hK K
        refine norm_ (a' := ?_) ?_ ?_
        rotate_left
        ·show Act.put _ (some 16) _ = _
         simp only [Act.put, List.setIfInBounds_toArray, List.set_cons_zero, List.set_cons_succ, i64_w, i32_w]
         rfl
        refine pure_ (i := 7) (N := some 17) (v := ?_) (a' := ?_) #[true, true, true, true, true, true, true, true, false, false] rfl rfl (any_of HT_.out (by kernel_rfl)) (fun _ _ _ h => h) (Or.inl ⟨by rfl, ?_⟩) ?_ ?_
        rotate_left
        ·intro w'
         go_simp
         with_reducible rfl
        rotate_left
        ·simp only [Act.put, List.setIfInBounds_toArray, List.set_cons_zero, List.set_cons_succ, i64_w, i32_w]
         rfl
        refine one_ (i := 8) (N := some 18) #[true, true, true, true, true, true, true, true, true, false] rfl rfl (one_of HT_.out (by kernel_rfl)) (by decide) (fun K hK => ?_)
        refine goes_ Try.func86 (by kernel_rfl) rfl #[.int .i64 6, .int .i64 (wrap64 (Int.tdiv (wrap64 (a2_2)) t109))] (by rfl) rfl rfl (by (try simp only [List.map_toArray, List.map_cons, List.map_nil]); first | done | rfl | (simp only [List.length_drop, List.length_take]; rfl)) ?_
        with_reducible refine (spec_l00Min.calls 6 (wrap64 (Int.tdiv (wrap64 (a2_2)) t109)) t110 _ A6.out).mono ?_
        rintro e w' ⟨rfl, ⟨nd, rfl⟩⟩
        refine ⟨_, rfl, ?_⟩
        refine hK.out _ _ ⟨(blk_cell BK105.out 0).trans rfl, (blk_cell BK105.out 1).trans rfl, (blk_cell BK105.out 2).trans rfl, (blk_cell BK105.out 3).trans rfl, (blk_cell BK105.out 4).trans rfl, (blk_cell BK105.out 5).trans rfl⟩ (fun hHeld => ?_)
        clear hK K
        refine norm_ (a' := ?_) ?_ ?_
        rotate_left
        ·show Act.put _ (some 18) _ = _
         simp only [Act.put, List.setIfInBounds_toArray, List.set_cons_zero, List.set_cons_succ, i64_w, i32_w]
         rfl
        refine pure_ (i := 9) (N := some 8) (v := ?_) (a' := ?_) #[true, true, true, true, true, true, true, true, true, true] rfl rfl (any_of HT_.out (by kernel_rfl)) (fun _ _ _ h => h) (Or.inl ⟨by rfl, ?_⟩) ?_ ?_
        rotate_left
        ·intro w'
         go_simp
         with_reducible rfl
        rotate_left
        ·simp only [Act.put, List.setIfInBounds_toArray, List.set_cons_zero, List.set_cons_succ, i64_w, i32_w]
         rfl
        refine done_ (done_of HT_.out (by kernel_rfl)) ?_
        try go_wp2
        (try (rw [drewN_self w20]; generalize hq_ : World.drewN w20 _ = w20; have n0_ : Aside0 (Kd.R (Kd.int .i64) 2 w20 w.heap.size (fun _ => True) v107 y106) := ⟨by rw [← hq_]; exact (by (with_reducible repeat (first | apply Kd.R_alloc | apply Kd.R_drewN | apply Kd.R_drew)); exact HO108.out)⟩; have n1_ : Aside0 (w20.heap[gp0]? = some (.cells (a0).A 38 (0, 0))) := ⟨by rw [← hq_]; exact (sqO BK103.out)⟩; have n2_ : Aside0 (w20.heap[gp1]? = some (.cells (a1).A 40 (0, 0))) := ⟨by rw [← hq_]; exact (sqO BK104.out)⟩; have n3_ : Aside0 (w20.heap[gb105]? = some (.cells #[.int .i8 a2_0, .int .i8 a2_1, .int .i8 a2_2, .int .i8 a2_3, .int .i8 a2_4, .int .i8 a2_5] 44 (0, 0))) := ⟨by rw [← hq_]; exact (sqO BK105.out)⟩; have n4_ : Aside0 (Below w.heap.size w w20) := ⟨by rw [← hq_]; exact (sqI HB.out)⟩; clear HO108 BK103 BK104 BK105 HB hq_; have HO108 := n0_; have BK103 := n1_; have BK104 := n2_; have BK105 := n3_; have HB := n4_; clear n0_ n1_ n2_ n3_ n4_))
        replace HO108 := Aside0.mk (Kd.R_drew HO108.out)
        replace BK103 := Aside0.mk (blk_drew BK103.out)
        replace BK104 := Aside0.mk (blk_drew BK104.out)
        replace BK105 := Aside0.mk (blk_drew BK105.out)
        replace HB := Aside0.mk (below_drew1 HB.out)
        have p9 : 0 ≤ (a2_1 : Int) := of_decide_eq_true (by first | (with_reducible assumption) | assumption)
        have q9 : (a2_1 : Int) < (16 : Int) := of_decide_eq_true (by first | (with_reducible assumption) | assumption)
        replace p9 := eq_true p9
        replace q9 := eq_true q9
        have p12 : 0 ≤ (a2_0 : Int) := of_decide_eq_true (by first | (with_reducible assumption) | assumption)
        have q12 : (a2_0 : Int) < (16 : Int) := of_decide_eq_true (by first | (with_reducible assumption) | assumption)
        replace p12 := eq_true p12
        replace q12 := eq_true q12
        obtain ⟨Ao22, co22, eo22⟩ := Kd.R_slice HO108.out
        (first | subst eo22 | (injection eo22 with f1_ f2_ f3_; have f4_ := f1_.symm; have f5_ := f3_.symm; clear f1_ f2_ f3_; subst f4_; subst f5_))
        have p111 : 0 ≤ ((ji13) : Int) := of_decide_eq_true (by first | (with_reducible assumption) | assumption)
        have q111 : (ji13) < (y106.length : Int) := of_decide_eq_true (by first | (with_reducible assumption) | assumption)
        obtain ⟨ad111, e111, hx111_0⟩ := Kd.at_int (Kd.R_reads' HO108.out).2.2 (ji13) p111 q111
        cases e111
        replace p111 := eq_true p111
        replace q111 := eq_true q111
        refine start_ (n := 17) (S := fun w' => w'.cell? ⟨gb105, 0, none⟩ = some (.int .i8 a2_0) ∧ w'.cell? ⟨gb105, 1, none⟩ = some (.int .i8 a2_1) ∧ w'.cell? ⟨gb105, 2, none⟩ = some (.int .i8 a2_2) ∧ w'.cell? ⟨gb105, 3, none⟩ = some (.int .i8 a2_3) ∧ w'.cell? ⟨gb105, 4, none⟩ = some (.int .i8 a2_4) ∧ w'.cell? ⟨gb105, 5, none⟩ = some (.int .i8 a2_5) ∧ w'.cell? ⟨gp1, a2_1.toNat * 16 + a2_0.toNat, none⟩ = some (.int .u8 (a1.z (a2_1.toNat * 16 + a2_0.toNat))) ∧ w'.cell? (ad111.add ((ji13)).toNat) = some (.int .i64 (rd y106 (ji13)))) (ds := []) #[false, false, false, false, false, false, false, false, false, false, false, false, false, false, false, false, false] (by kernel_rfl) rfl rfl ⟨(blk_cell BK105.out 0).trans rfl, (blk_cell BK105.out 1).trans rfl, (blk_cell BK105.out 2).trans rfl, (blk_cell BK105.out 3).trans rfl, (blk_cell BK105.out 4).trans rfl, (blk_cell BK105.out 5).trans rfl, AR.blk_cell BK104.out (Flat.at_ a1 (by first | decide | (have hb0_ : 0 ≤ (a2_1 : Int) := (by first | omega | exact of_decide_eq_true (by first | (with_reducible assumption) | assumption)); have hc0_ : (a2_1 : Int) < 16 := (by first | omega | exact of_decide_eq_true (by first | (with_reducible assumption) | assumption)); have hb1_ : 0 ≤ (a2_0 : Int) := (by first | omega | exact of_decide_eq_true (by first | (with_reducible assumption) | assumption)); have hc1_ : (a2_0 : Int) < 16 := (by first | omega | exact of_decide_eq_true (by first | (with_reducible assumption) | assumption)); omega))), hx111_0⟩ (fun hHeld => ?_); refine with_tabW spec_l07Hold.tab3 spec_l07Hold.bits3 (fun HT_ HW_ => ?_)
        generalize w20.drew = w21 at HO108 BK103 BK104 BK105 HB hx111_0 hHeld ⊢
        refine pure_ (i := 0) (N := some 19) (v := ?_) (a' := ?_) #[true, false, false, false, false, false, false, false, false, false, false, false, false, false, false, false, false] rfl rfl (any_of HT_.out (by kernel_rfl)) (fun _ _ _ h => h) (Or.inl ⟨by rfl, ?_⟩) ?_ ?_
        rotate_left
        ·intro w'
         go_simp
         with_reducible rfl
        rotate_left
        ·simp only [Act.put, List.setIfInBounds_toArray, List.set_cons_zero, List.set_cons_succ, i64_w, i32_w]
         rfl
        refine pure_ (i := 1) (N := some 20) (v := ?_) (a' := ?_) #[true, true, false, false, false, false, false, false, false, false, false, false, false, false, false, false, false] rfl rfl (any_of HT_.out (by kernel_rfl)) (fun _ _ _ h => h) (Or.inl ⟨by rfl, ?_⟩) ?_ ?_
        rotate_left
        ·intro w'
         go_simp
         with_reducible rfl
        rotate_left
        ·simp only [Act.put, List.setIfInBounds_toArray, List.set_cons_zero, List.set_cons_succ, i64_w, i32_w]
         rfl
        refine pure_ (i := 2) (N := some 21) (v := ?_) (a' := ?_) #[true, true, true, false, false, false, false, false, false, false, false, false, false, false, false, false, false] rfl rfl (any_of HT_.out (by kernel_rfl)) (fun _ _ _ h => h) (Or.inl ⟨by rfl, ?_⟩) ?_ ?_
        rotate_left
        ·intro w'
         go_simp
         with_reducible rfl
        rotate_left
        ·simp only [Act.put, List.setIfInBounds_toArray, List.set_cons_zero, List.set_cons_succ, i64_w, i32_w]
         rfl
        refine pure_ (i := 3) (N := some 22) (v := ?_) (a' := ?_) #[true, true, true, true, false, false, false, false, false, false, false, false, false, false, false, false, false] rfl rfl (any_of HT_.out (by kernel_rfl)) (fun _ _ _ h => h) (Or.inl ⟨by rfl, ?_⟩) ?_ ?_
        rotate_left
        ·intro w'
         go_simp
         with_reducible rfl
        rotate_left
        ·simp only [Act.put, List.setIfInBounds_toArray, List.set_cons_zero, List.set_cons_succ, i64_w, i32_w]
         rfl
        refine pure_ (i := 5) (N := some 24) (v := ?_) (a' := ?_) #[true, true, true, true, false, true, false, false, false, false, false, false, false, false, false, false, false] rfl rfl (any_of HT_.out (by kernel_rfl)) (fun _ _ _ h => h) (Or.inl ⟨by rfl, ?_⟩) ?_ ?_
        rotate_left
        ·intro w'
         go_simp
         with_reducible rfl
        rotate_left
        ·simp only [Act.put, List.setIfInBounds_toArray, List.set_cons_zero, List.set_cons_succ, i64_w, i32_w]
         rfl
        refine pure_ (i := 6) (N := some 25) (v := ?_) (a' := ?_) #[true, true, true, true, false, true, true, false, false, false, false, false, false, false, false, false, false] rfl rfl (any_of HT_.out (by kernel_rfl)) (fun _ _ _ h => h) (Or.inl ⟨by rfl, ?_⟩) ?_ ?_
        rotate_left
        ·intro w'
         go_simp
         with_reducible rfl
        rotate_left
        ·simp only [Act.put, List.setIfInBounds_toArray, List.set_cons_zero, List.set_cons_succ, i64_w, i32_w]
         rfl
        refine pure_ (i := 8) (N := some 27) (v := ?_) (a' := ?_) #[true, true, true, true, false, true, true, false, true, false, false, false, false, false, false, false, false] rfl rfl (any_of HT_.out (by kernel_rfl)) (fun _ _ _ h => h) (Or.inl ⟨by rfl, ?_⟩) ?_ ?_
        rotate_left
        ·intro w'
         go_simp
         with_reducible rfl
        rotate_left
        ·simp only [Act.put, List.setIfInBounds_toArray, List.set_cons_zero, List.set_cons_succ, i64_w, i32_w]
         rfl
        refine pure_ (i := 14) (N := some 33) (v := ?_) (a' := ?_) #[true, true, true, true, false, true, true, false, true, false, false, false, false, false, true, false, false] rfl rfl (any_of HT_.out (by kernel_rfl)) (fun _ _ _ h => h) (Or.inl ⟨by rfl, ?_⟩) ?_ ?_
        rotate_left
        ·intro w'
         go_simp
         with_reducible rfl
        rotate_left
        ·simp only [Act.put, List.setIfInBounds_toArray, List.set_cons_zero, List.set_cons_succ, i64_w, i32_w]
         rfl
        refine take_ (i := 4) (N := some 23) (v := ?_) (a' := ?_) #[true, true, true, true, true, true, true, false, true, false, false, false, false, false, true, false, false] rfl rfl (take_ofW HT_.out HW_.out (by kernel_rfl)) (fun _ _ _ h => h) (Or.inl ⟨by rfl, ?_⟩) hHeld ?_ ?_
        rotate_left
        ·rintro w' ⟨s0, s1, s2, s3, s4, s5, s6, s7⟩
         go_simp
         with_reducible rfl
        rotate_left
        ·simp only [Act.put, List.setIfInBounds_toArray, List.set_cons_zero, List.set_cons_succ, i64_w, i32_w]
         rfl
        refine pure_ (i := 9) (N := some 28) (v := ?_) (a' := ?_) #[true, true, true, true, true, true, true, false, true, true, false, false, false, false, true, false, false] rfl rfl (any_of HT_.out (by kernel_rfl)) (fun _ _ _ h => h) (Or.inl ⟨by rfl, ?_⟩) ?_ ?_
        rotate_left
        ·intro w'
         go_simp
         with_reducible rfl
        rotate_left
        ·simp only [Act.put, List.setIfInBounds_toArray, List.set_cons_zero, List.set_cons_succ, i64_w, i32_w]
         rfl
        refine take_ (i := 7) (N := some 26) (v := ?_) (a' := ?_) #[true, true, true, true, true, true, true, true, true, true, false, false, false, false, true, false, false] rfl rfl (take_ofW HT_.out HW_.out (by kernel_rfl)) (fun _ _ _ h => h) (Or.inl ⟨by rfl, ?_⟩) hHeld ?_ ?_
        rotate_left
        ·rintro w' ⟨s0, s1, s2, s3, s4, s5, s6, s7⟩
         go_simp
         with_reducible rfl
        rotate_left
        ·simp only [Act.put, List.setIfInBounds_toArray, List.set_cons_zero, List.set_cons_succ, i64_w, i32_w]
         rfl
        refine pure_ (i := 10) (N := some 29) (v := ?_) (a' := ?_) #[true, true, true, true, true, true, true, true, true, true, true, false, false, false, true, false, false] rfl rfl (any_of HT_.out (by kernel_rfl)) (fun _ _ _ h => h) (Or.inl ⟨by rfl, ?_⟩) ?_ ?_
        rotate_left
        ·intro w'
         go_simp
         with_reducible rfl
        rotate_left
        ·simp only [Act.put, List.setIfInBounds_toArray, List.set_cons_zero, List.set_cons_succ, i64_w, i32_w]
         rfl
        refine take_ (i := 11) (N := some 30) (v := ?_) (a' := ?_) #[true, true, true, true, true, true, true, true, true, true, true, true, false, false, true, false, false] rfl rfl (take_ofW HT_.out HW_.out (by kernel_rfl)) (fun _ _ _ h => h) (Or.inl ⟨by rfl, ?_⟩) hHeld ?_ ?_
        rotate_left
        ·rintro w' ⟨s0, s1, s2, s3, s4, s5, s6, s7⟩
         go_simp
         with_reducible rfl
        rotate_left
        ·simp only [Act.put, List.setIfInBounds_toArray, List.set_cons_zero, List.set_cons_succ, i64_w, i32_w]
         rfl
        refine pure_ (i := 12) (N := some 31) (v := ?_) (a' := ?_) #[true, true, true, true, true, true, true, true, true, true, true, true, true, false, true, false, false] rfl rfl (any_of HT_.out (by kernel_rfl)) (fun _ _ _ h => h) (Or.inl ⟨by rfl, ?_⟩) ?_ ?_
        rotate_left
        ·intro w'
         go_simp
         with_reducible rfl
        rotate_left
        ·simp only [Act.put, List.setIfInBounds_toArray, List.set_cons_zero, List.set_cons_succ, i64_w, i32_w]
         rfl
        refine take_ (i := 13) (N := some 32) (v := ?_) (a' := ?_) #[true, true, true, true, true, true, true, true, true, true, true, true, true, true, true, false, false] rfl rfl (take_ofW HT_.out HW_.out (by kernel_rfl)) (fun _ _ _ h => h) (Or.inl ⟨by rfl, ?_⟩) hHeld ?_ ?_
        rotate_left
        ·rintro w' ⟨s0, s1, s2, s3, s4, s5, s6, s7⟩
         go_simp
         with_reducible rfl
        rotate_left
        ·simp only [Act.put, List.setIfInBounds_toArray, List.set_cons_zero, List.set_cons_succ, i64_w, i32_w]
         rfl
        refine pure_ (i := 15) (N := some 34) (v := ?_) (a' := ?_) #[true, true, true, true, true, true, true, true, true, true, true, true, true, true, true, true, false] rfl rfl (any_of HT_.out (by kernel_rfl)) (fun _ _ _ h => h) (Or.inl ⟨by rfl, ?_⟩) ?_ ?_
        rotate_left
        ·intro w'
         go_simp
         with_reducible rfl
        rotate_left
        ·simp only [Act.put, List.setIfInBounds_toArray, List.set_cons_zero, List.set_cons_succ, i64_w, i32_w]
         rfl
        refine pure_ (i := 16) (N := some 6) (v := ?_) (a' := ?_) #[true, true, true, true, true, true, true, true, true, true, true, true, true, true, true, true, true] rfl rfl (any_of HT_.out (by kernel_rfl)) (fun _ _ _ h => h) (Or.inl ⟨by rfl, ?_⟩) ?_ ?_
        rotate_left
        ·intro w'
         go_simp
         with_reducible rfl
        rotate_left
        ·simp only [Act.put, List.setIfInBounds_toArray, List.set_cons_zero, List.set_cons_succ, i64_w, i32_w]
         rfl
        refine done_ (done_of HT_.out (by kernel_rfl)) ?_
        try go_wp2
        go_ret
        exact ⟨by first | rfl | (simp [errW_none, errW_some] <;> rfl) | (simp only [← hji13]; first | rfl | (simp [errW_none, errW_some] <;> rfl)) | (simp [*, errW_none, errW_some] <;> rfl), by repeat (first | (with_reducible first | exact HB.out | apply below_alloc | apply pw_below_drewN | apply below_drew1 | refine below_set ?_ GE103.out | refine below_set ?_ GE104.out | refine below_set ?_ GE105.out) | exact HB.out)⟩
       ·rw [if_neg c15] at H
        exact absurd H (by simp)
      ·rw [if_neg c14] at H
       exact absurd H (by simp)
     ·rw [if_neg c11] at H
      exact absurd H (by simp)
    ·rw [if_neg c10] at H
     exact absurd H (by simp)
   ·rw [if_neg c8] at H
    exact absurd H (by simp)
  ·rw [if_neg c7] at H
   exact absurd H (by simp)
end Go.Proofs.Ytmhmfhdmeedcfaa.G
end
section
namespace Go.Proofs.Ytmhmfhdmeedcfaa.G
open Go.RowKit Go.Proofs.YtmhmfhdmeedcfaaW.PrintWords Go.Proofs.YtmhmfhdmeedcfaaW.PrintLast Go.Proofs.YtmhmfhdmeedcfaaW.PrintMore
attribute [local go_sem] max2_int min2_int max_two min_two max_three min_three max_four min_four   -- for this text's walks alone
set_option linter.unusedVariables false
set_option linter.unusedSimpArgs false
def spec_l07Drags.f (a0 : O38) (a1 : O40) (a2_0 : Int) (a2_1 : Int) (a2_2 : Int) (a2_3 : Int) (a2_4 : Int) (a2_5 : Int) (a3_0 : Int) (a3_1 : Int) : Option (Bool) := (spec_l07Hold.f a0 a1 a2_0 a2_1 a2_2 a2_3 a2_4 a2_5).bind fun t116 => (some (decide ((wrap64 (a3_0)) > t116)))
def spec_l07Drags.T1 : Bool × List (List Nat × List Nat) := (true, [([], []), ([0], [0]), ([1], [1]), ([], []), ([], []), ([], []), ([3, 4, 5], [3, 4, 5]), ([2, 6], [2, 6]), ([7, 6, 0, 1, 2, 3, 4, 5, 6, 7], [7])])
def spec_l07Drags.B1 : List Nat := [0, 1, 3, 0, 0, 0, 56, 127, 255]
theorem spec_l07Drags.tab1 : rtab .any (opsOf Try.f66 1) = spec_l07Drags.T1 := by kernel_rfl
theorem spec_l07Drags.bits1 : waitsOk spec_l07Drags.T1.2 spec_l07Drags.B1 = true := by kernel_rfl
set_option maxHeartbeats 8000000 in
set_option maxRecDepth 100000 in
theorem spec_l07Drags.calls (gp0 : Nat) (a0 : O38) (gp1 : Nat) (a1 : O40) (a2_0 : Int) (a2_1 : Int) (a2_2 : Int) (a2_3 : Int) (a2_4 : Int) (a2_5 : Int) (a3_0 : Int) (a3_1 : Int) (r : Bool) (w : World) (hp0 : w.heap[gp0]? = some (.cells (a0).A 38 (0, 0))) (hp1 : w.heap[gp1]? = some (.cells (a1).A 40 (0, 0))) (h : spec_l07Drags.f a0 a1 a2_0 a2_1 a2_2 a2_3 a2_4 a2_5 a3_0 a3_1 = some r) :
  Calls Try.prog 66 #[.pointer (some ⟨gp0, 0, none⟩), .pointer (some ⟨gp1, 0, none⟩), .agg #[.int .i8 a2_0, .int .i8 a2_1, .int .i8 a2_2, .int .i8 a2_3, .int .i8 a2_4, .int .i8 a2_5], .agg #[.int .i8 a3_0, .int .i8 a3_1]] w fun e w' => e = .returned (.bool r) ∧ Below w.heap.size w w' := by
 have hu44 := Try.underlying44
 have hu78 := Try.underlying78
 have BK112 := Aside0.mk hp0
 clear hp0
 have BK113 := Aside0.mk hp1
 clear hp1
 have HB := Aside0.mk (Below.refl w.heap.size w)
 have H : ((spec_l07Hold.f a0 a1 a2_0 a2_1 a2_2 a2_3 a2_4 a2_5).bind fun t116 => (some (decide ((wrap64 (a3_0)) > t116)))) = some r := h
 clear h
 replace H := Option.bind_eq_some_iff.mp H
 obtain ⟨t116, A50, H⟩ := H
 replace H : (some (decide ((wrap64 (a3_0)) > t116))) = some r := H
 have A5 := Aside0.mk A50
 clear A50
 obtain rfl := Option.some.inj H
 go_enter Try.func66, Try.ntmps66
 try go_wp2_with (first | ((with_reducible refine gate_dst (N := 6) rfl ?_); refine box_event ?hg (N := 6) ?hd (cs := #[.int .i8 a2_0, .int .i8 a2_1, .int .i8 a2_2, .int .i8 a2_3, .int .i8 a2_4, .int .i8 a2_5]) (t := 44) ?hr ?_; (case hd => rfl); (case hg => rfl); (case hr => first | (go_simp; done) | (go_simp; rfl)); intro gb114 hg w6 hbox hb; have BK114 := Aside0.mk (hbox); have GW114 := Aside0.mk (sqS HB.out hg); replace HB := Aside0.mk (sqH HB.out hb); have GE114 := GW114; have NB112_114 := Aside0.mk (sqN BK112.out hg); replace BK112 := Aside0.mk (sqB BK112.out hb); have NB114_112 := Aside0.mk (Ne.symm NB112_114.out); have NB113_114 := Aside0.mk (sqN BK113.out hg); replace BK113 := Aside0.mk (sqB BK113.out hb); have NB114_113 := Aside0.mk (Ne.symm NB113_114.out); clear hb hbox hg) | ((with_reducible refine gate_dst (N := 7) rfl ?_); refine box_event ?hg (N := 7) ?hd (cs := #[.int .i8 a3_0, .int .i8 a3_1]) (t := 78) ?hr ?_; (case hd => rfl); (case hg => rfl); (case hr => first | (go_simp; done) | (go_simp; rfl)); intro gb115 hg w7 hbox hb; have BK115 := Aside0.mk (hbox); have GW115 := Aside0.mk (sqS HB.out hg); replace HB := Aside0.mk (sqH HB.out hb); have GE115 := GW115; have NB112_115 := Aside0.mk (sqN BK112.out hg); replace BK112 := Aside0.mk (sqB BK112.out hb); have NB115_112 := Aside0.mk (Ne.symm NB112_115.out); have NB113_115 := Aside0.mk (sqN BK113.out hg); replace BK113 := Aside0.mk (sqB BK113.out hb); have NB115_113 := Aside0.mk (Ne.symm NB113_115.out); have NB114_115 := Aside0.mk (sqN BK114.out hg); replace BK114 := Aside0.mk (sqB BK114.out hb); have NB115_114 := Aside0.mk (Ne.symm NB114_115.out); clear hb hbox hg))
 replace BK112 := Aside0.mk (blk_drew BK112.out)
 replace BK113 := Aside0.mk (blk_drew BK113.out)
 replace BK114 := Aside0.mk (blk_drew BK114.out)
 replace BK115 := Aside0.mk (blk_drew BK115.out)
 replace HB := Aside0.mk (below_drew1 HB.out)
 refine start_ (n := 9) (S := fun w' => w'.cell? ⟨gb115, 0, none⟩ = some (.int .i8 a3_0) ∧ w'.cell? ⟨gb115, 1, none⟩ = some (.int .i8 a3_1) ∧ w'.cell? ⟨gb114, 0, none⟩ = some (.int .i8 a2_0) ∧ w'.cell? ⟨gb114, 1, none⟩ = some (.int .i8 a2_1) ∧ w'.cell? ⟨gb114, 2, none⟩ = some (.int .i8 a2_2) ∧ w'.cell? ⟨gb114, 3, none⟩ = some (.int .i8 a2_3) ∧ w'.cell? ⟨gb114, 4, none⟩ = some (.int .i8 a2_4) ∧ w'.cell? ⟨gb114, 5, none⟩ = some (.int .i8 a2_5)) (ds := []) #[false, false, false, false, false, false, false, false, false] (by kernel_rfl) rfl rfl ⟨(blk_cell BK115.out 0).trans rfl, (blk_cell BK115.out 1).trans rfl, (blk_cell BK114.out 0).trans rfl, (blk_cell BK114.out 1).trans rfl, (blk_cell BK114.out 2).trans rfl, (blk_cell BK114.out 3).trans rfl, (blk_cell BK114.out 4).trans rfl, (blk_cell BK114.out 5).trans rfl⟩ (fun hHeld => ?_); refine with_tabW spec_l07Drags.tab1 spec_l07Drags.bits1 (fun HT_ HW_ => ?_)
 generalize w7.drew = w8 at BK112 BK113 BK114 BK115 HB hHeld ⊢
 refine pure_ (i := 0) (N := some 9) (v := ?_) (a' := ?_) #[true, false, false, false, false, false, false, false, false] rfl rfl (any_of HT_.out (by kernel_rfl)) (fun _ _ _ h => h) (Or.inl ⟨by rfl, ?_⟩) ?_ ?_
 rotate_left
 ·intro w'
  go_simp
  with_reducible rfl
 rotate_left
 ·simp only [Act.put, List.setIfInBounds_toArray, List.set_cons_zero, List.set_cons_succ, i64_w, i32_w]
  rfl
 refine pure_ (i := 3) (N := some 12) (v := ?_) (a' := ?_) #[true, false, false, true, false, false, false, false, false] rfl rfl (any_of HT_.out (by kernel_rfl)) (fun _ _ _ h => h) (Or.inl ⟨by rfl, ?_⟩) ?_ ?_
 rotate_left
 ·intro w'
  go_simp
  with_reducible rfl
 rotate_left
 ·simp only [Act.put, List.setIfInBounds_toArray, List.set_cons_zero, List.set_cons_succ, i64_w, i32_w]
  rfl
 refine pure_ (i := 4) (N := some 13) (v := ?_) (a' := ?_) #[true, false, false, true, true, false, false, false, false] rfl rfl (any_of HT_.out (by kernel_rfl)) (fun _ _ _ h => h) (Or.inl ⟨by rfl, ?_⟩) ?_ ?_
 rotate_left
 ·intro w'
  go_simp
  with_reducible rfl
 rotate_left
 ·simp only [Act.put, List.setIfInBounds_toArray, List.set_cons_zero, List.set_cons_succ, i64_w, i32_w]
  rfl
 refine take_ (i := 1) (N := some 10) (v := ?_) (a' := ?_) #[true, true, false, true, true, false, false, false, false] rfl rfl (take_ofW HT_.out HW_.out (by kernel_rfl)) (fun _ _ _ h => h) (Or.inl ⟨by rfl, ?_⟩) hHeld ?_ ?_
 rotate_left
 ·rintro w' ⟨s0, s1, s2, s3, s4, s5, s6, s7⟩
  go_simp
  with_reducible rfl
 rotate_left
 ·simp only [Act.put, List.setIfInBounds_toArray, List.set_cons_zero, List.set_cons_succ, i64_w, i32_w]
  rfl
 refine pure_ (i := 2) (N := some 11) (v := ?_) (a' := ?_) #[true, true, true, true, true, false, false, false, false] rfl rfl (any_of HT_.out (by kernel_rfl)) (fun _ _ _ h => h) (Or.inl ⟨by rfl, ?_⟩) ?_ ?_
 rotate_left
 ·intro w'
  go_simp
  with_reducible rfl
 rotate_left
 ·simp only [Act.put, List.setIfInBounds_toArray, List.set_cons_zero, List.set_cons_succ, i64_w, i32_w]
  rfl
 refine take_ (i := 5) (N := some 14) (v := ?_) (a' := ?_) #[true, true, true, true, true, true, false, false, false] rfl rfl (take_ofW HT_.out HW_.out (by kernel_rfl)) (fun _ _ _ h => h) (Or.inl ⟨by rfl, ?_⟩) hHeld ?_ ?_
 rotate_left
 ·rintro w' ⟨s0, s1, s2, s3, s4, s5, s6, s7⟩
  go_simp
  with_reducible rfl
 rotate_left
 ·simp only [Act.put, List.setIfInBounds_toArray, List.set_cons_zero, List.set_cons_succ, i64_w, i32_w]
  rfl
 refine one_ (i := 6) (N := some 15) #[true, true, true, true, true, true, true, false, false] rfl rfl (one_of HT_.out (by kernel_rfl)) (by decide) (fun K hK => ?_)
 refine goes_ Try.func76 (by kernel_rfl) rfl #[.pointer (some ⟨gp0, 0, none⟩), .pointer (some ⟨gp1, 0, none⟩), .agg #[.int .i8 a2_0, .int .i8 a2_1, .int .i8 a2_2, .int .i8 a2_3, .int .i8 a2_4, .int .i8 a2_5]] (by rfl) rfl rfl (by (try simp only [List.map_toArray, List.map_cons, List.map_nil]); first | done | rfl | (simp only [List.length_drop, List.length_take]; rfl)) ?_
 with_reducible refine (spec_l07Hold.calls gp0 a0 gp1 a1 a2_0 a2_1 a2_2 a2_3 a2_4 a2_5 t116 _ ?side1 ?side2 A5.out).mono ?_
 (case side1 => (with_reducible repeat (first | refine blk_drewN ?_ _ | refine blk_drew ?_ | refine blk_alloc ?_ _)); exact BK112.out)
 (case side2 => (with_reducible repeat (first | refine blk_drewN ?_ _ | refine blk_drew ?_ | refine blk_alloc ?_ _)); exact BK113.out)
 rintro e w9 ⟨rfl, hb⟩
 refine ⟨_, rfl, ?_⟩
 replace BK112 := Aside0.mk (sqB BK112.out hb)
 replace BK113 := Aside0.mk (sqB BK113.out hb)
 replace BK114 := Aside0.mk (sqB BK114.out hb)
 replace BK115 := Aside0.mk (sqB BK115.out hb)
 replace HB := Aside0.mk (sqH HB.out hb)
 (try clear hb)
 (try clear hb2)
 (try clear hk)
 (try clear hi)
 refine hK.out _ _ ⟨(blk_cell BK115.out 0).trans rfl, (blk_cell BK115.out 1).trans rfl, (blk_cell BK114.out 0).trans rfl, (blk_cell BK114.out 1).trans rfl, (blk_cell BK114.out 2).trans rfl, (blk_cell BK114.out 3).trans rfl, (blk_cell BK114.out 4).trans rfl, (blk_cell BK114.out 5).trans rfl⟩ (fun hHeld => ?_)
 clear hK K
 refine norm_ (a' := ?_) ?_ ?_
 rotate_left
 ·show Act.put _ (some 15) _ = _
  simp only [Act.put, List.setIfInBounds_toArray, List.set_cons_zero, List.set_cons_succ, i64_w, i32_w]
  rfl
 refine pure_ (i := 7) (N := some 16) (v := ?_) (a' := ?_) #[true, true, true, true, true, true, true, true, false] rfl rfl (any_of HT_.out (by kernel_rfl)) (fun _ _ _ h => h) (Or.inl ⟨by rfl, ?_⟩) ?_ ?_
 rotate_left
 ·intro w'
  go_simp
  with_reducible rfl
 rotate_left
 ·simp only [Act.put, List.setIfInBounds_toArray, List.set_cons_zero, List.set_cons_succ, i64_w, i32_w]
  rfl
 refine pure_ (i := 8) (N := some 8) (v := ?_) (a' := ?_) #[true, true, true, true, true, true, true, true, true] rfl rfl (any_of HT_.out (by kernel_rfl)) (fun _ _ _ h => h) (Or.inl ⟨by rfl, ?_⟩) ?_ ?_
 rotate_left
 ·intro w'
  go_simp
  with_reducible rfl
 rotate_left
 ·simp only [Act.put, List.setIfInBounds_toArray, List.set_cons_zero, List.set_cons_succ, i64_w, i32_w]
  rfl
 refine done_ (done_of HT_.out (by kernel_rfl)) ?_
 try go_wp2
 go_ret
 exact ⟨by first | rfl | (simp [errW_none, errW_some] <;> rfl) | (simp [*, errW_none, errW_some] <;> rfl), by repeat (first | (with_reducible first | exact HB.out | apply below_alloc | apply pw_below_drewN | apply below_drew1 | refine below_set ?_ GE112.out | refine below_set ?_ GE113.out | refine below_set ?_ GE114.out | refine below_set ?_ GE115.out) | exact HB.out)⟩
end Go.Proofs.Ytmhmfhdmeedcfaa.G
end
section
namespace Go.Proofs.Ytmhmfhdmeedcfaa.G
open Go.RowKit Go.Proofs.YtmhmfhdmeedcfaaW.PrintWords Go.Proofs.YtmhmfhdmeedcfaaW.PrintLast Go.Proofs.YtmhmfhdmeedcfaaW.PrintMore
attribute [local go_sem] max2_int min2_int max_two min_two max_three min_three max_four min_four   -- for this text's walks alone
set_option linter.unusedVariables false
set_option linter.unusedSimpArgs false
mutual
def spec_l07Side.j0 : Nat → Int → Bool → Int → Int → Option (Int × Int)
 | 0, _, _, _, _ => none
 | k + 1, x1, x14, x122000, x122001 => if x14 = true then (spec_l07Side.j1 k x1 x122000 (IntKind.i8.wrap (x122001 - 1))) else (spec_l07Side.j1 k x1 x122000 x122001)
def spec_l07Side.j1 : Nat → Int → Int → Int → Option (Int × Int)
 | 0, _, _, _ => none
 | k + 1, x1, x122000, x122001 => if x1 ≥ 3 then (spec_l07Side.j2 k x1 (decide (x1 ≤ 5)) x122000 x122001) else (spec_l07Side.j2 k x1 false x122000 x122001)
def spec_l07Side.j2 : Nat → Int → Bool → Int → Int → Option (Int × Int)
 | 0, _, _, _, _ => none
 | k + 1, x1, x24, x122000, x122001 => if x24 = true then (spec_l07Side.j3 k x1 x122000 (IntKind.i8.wrap (x122001 + 1))) else (spec_l07Side.j3 k x1 x122000 x122001)
def spec_l07Side.j3 : Nat → Int → Int → Int → Option (Int × Int)
 | 0, _, _, _ => none
 | k + 1, x1, x122000, x122001 => if x1 ≥ 1 then (spec_l07Side.j4 k x1 (decide (x1 ≤ 3)) x122000 x122001) else (spec_l07Side.j4 k x1 false x122000 x122001)
def spec_l07Side.j4 : Nat → Int → Bool → Int → Int → Option (Int × Int)
 | 0, _, _, _, _ => none
 | k + 1, x1, x34, x122000, x122001 => if x34 = true then (if x1 ≥ 5 then (some (IntKind.i8.wrap ((IntKind.i8.wrap (x122000 + 1)) - 1), x122001)) else (some (IntKind.i8.wrap (x122000 + 1), x122001))) else (if x1 ≥ 5 then (some (IntKind.i8.wrap (x122000 - 1), x122001)) else (some (x122000, x122001)))
end
def spec_l07Side.f (k : Nat) (a0_0 : Int) (a0_1 : Int) (a1 : Int) : Option (Int × Int) := if a1 = 7 then (spec_l07Side.j0 k a1 true a0_0 a0_1) else (if a1 = 0 then (spec_l07Side.j0 k a1 true a0_0 a0_1) else (spec_l07Side.j0 k a1 (a1 == 1) a0_0 a0_1))
set_option maxHeartbeats 8000000 in
set_option maxRecDepth 100000 in
theorem spec_l07Side.calls (k : Nat) (a0_0 : Int) (a0_1 : Int) (a1 : Int) (r1 : Int) (r2 : Int) (w : World) (h : spec_l07Side.f k a0_0 a0_1 a1 = some (r1, r2)) :
  Calls Try.prog 77 #[.agg #[.int .i8 a0_0, .int .i8 a0_1], .int .i8 a1] w fun e w' => e = .returned (.agg #[.int .i8 r1, .int .i8 r2]) ∧ Below w.heap.size w w' := by
 have hu42 := Try.underlying42
 have HB := Aside0.mk (Below.refl w.heap.size w)
 have H : (if a1 = 7 then (spec_l07Side.j0 k a1 true a0_0 a0_1) else (if a1 = 0 then (spec_l07Side.j0 k a1 true a0_0 a0_1) else (spec_l07Side.j0 k a1 (a1 == 1) a0_0 a0_1))) = some (r1, r2) := h
 clear h
 have HC3 := Aside0.mk H
 clear H
 go_enter Try.func77, Try.ntmps77
 go_upto_region 1 with (first | ((with_reducible refine gate_dst (N := 2) rfl ?_); refine box_event ?hg (N := 2) ?hd (cs := #[.int .i8 a0_0, .int .i8 a0_1]) (t := 42) ?hr ?_; (case hd => rfl); (case hg => rfl); (case hr => first | (go_simp; done) | (go_simp; rfl)); intro gb121 hg w4 hbox hb; have BK121 := Aside0.mk (hbox); have GW121 := Aside0.mk (sqS HB.out hg); replace HB := Aside0.mk (sqH HB.out hb); have GE121 := GW121; clear hb hbox hg) | ((with_reducible refine gate_dst (N := 4) rfl ?_); refine box_event ?hg (N := 4) ?hd (cs := #[.int .i8 0, .int .i8 0]) (t := 42) ?hr ?_; (case hd => rfl); (case hg => rfl); (case hr => first | (go_simp; done) | (go_simp; rfl)); intro gb122 hg w5 hbox hb; have BK122 := Aside0.mk (hbox); have GW122 := Aside0.mk (sqS HB.out hg); replace HB := Aside0.mk (sqH HB.out hb); have GE122 := GW122; have NB121_122 := Aside0.mk (sqN BK121.out hg); replace BK121 := Aside0.mk (sqB BK121.out hb); have NB122_121 := Aside0.mk (Ne.symm NB121_122.out); clear hb hbox hg))
 (try simp only [Act.put, List.setIfInBounds_toArray, List.set_cons_zero, List.set_cons_succ])
 go_cut [14] (fun v14 wc => ∃ (kq : Nat) (x14_2 : Bool), v14 = .bool x14_2 ∧ Aside0 (spec_l07Side.j0 kq a1 x14_2 a0_0 a0_1 = some (r1, r2)) ∧ Aside0 (kq ≤ k) ∧ Aside0 (wc.heap[gb121]? = some (.cells #[.int .i8 a0_0, .int .i8 a0_1] 42 (0, 0))) ∧ Aside0 (wc.heap[gb122]? = some (.cells #[.int .i8 0, .int .i8 0] 42 (0, 0))) ∧ Aside0 (Below w.heap.size w wc))
 case first =>
  have H := HC3.out
  clear HC3
  by_cases c6 : a1 = 7
  ·rw [if_pos c6] at H
   have c6b0 : (a1 == 7) = true := beq_iff_eq.mpr c6
   have c6b1 : (a1 != 7) = false := bne_eq_false_iff_eq.mpr c6
   clear c6
   (first | rw [c6b0] | (simp only [i64_w, i32_w]; rw [c6b0]) | skip)
   have H' := Aside0.mk H
   clear H
   go_wp2
   go_meet
   case rel => exact ⟨_, (true), (by first | rfl | (simp; done) | (simp [*]; done)), H', ⟨by first | omega | exact Nat.le_refl _⟩, ⟨by (with_reducible repeat (first | refine blk_drewN ?_ _ | refine blk_drew ?_ | refine blk_alloc ?_ _)); exact BK121.out⟩, ⟨by (with_reducible repeat (first | refine blk_drewN ?_ _ | refine blk_drew ?_ | refine blk_alloc ?_ _)); exact BK122.out⟩, ⟨by repeat (first | (with_reducible first | exact HB.out | apply below_alloc | apply pw_below_drewN | apply below_drew1 | refine below_set ?_ GE121.out | refine below_set ?_ GE122.out) | exact HB.out)⟩⟩
  ·rw [if_neg c6] at H
   have c6b0 : (a1 == 7) = false := beq_eq_false_iff_ne.mpr c6
   have c6b1 : (a1 != 7) = true := bne_iff_ne.mpr c6
   (first | rw [c6b0] | (simp only [i64_w, i32_w]; rw [c6b0]) | skip)
   by_cases c7 : a1 = 0
   ·rw [if_pos c7] at H
    have c7b0 : (a1 == 0) = true := beq_iff_eq.mpr c7
    have c7b1 : (a1 != 0) = false := bne_eq_false_iff_eq.mpr c7
    clear c7
    have H' := Aside0.mk H
    clear H
    go_wp2
    go_meet
    case rel => exact ⟨_, (true), (by first | rfl | (simp; done) | (simp [*]; done)), H', ⟨by first | omega | exact Nat.le_refl _⟩, ⟨by (with_reducible repeat (first | refine blk_drewN ?_ _ | refine blk_drew ?_ | refine blk_alloc ?_ _)); exact BK121.out⟩, ⟨by (with_reducible repeat (first | refine blk_drewN ?_ _ | refine blk_drew ?_ | refine blk_alloc ?_ _)); exact BK122.out⟩, ⟨by repeat (first | (with_reducible first | exact HB.out | apply below_alloc | apply pw_below_drewN | apply below_drew1 | refine below_set ?_ GE121.out | refine below_set ?_ GE122.out) | exact HB.out)⟩⟩
   ·rw [if_neg c7] at H
    have c7b0 : (a1 == 0) = false := beq_eq_false_iff_ne.mpr c7
    have c7b1 : (a1 != 0) = true := bne_iff_ne.mpr c7
    have H' := Aside0.mk H
    clear H
    go_wp2
    go_meet
    case rel => exact ⟨_, ((a1 == 1)), (by first | rfl | (simp; done) | (simp [*]; done)), H', ⟨by first | omega | exact Nat.le_refl _⟩, ⟨by (with_reducible repeat (first | refine blk_drewN ?_ _ | refine blk_drew ?_ | refine blk_alloc ?_ _)); exact BK121.out⟩, ⟨by (with_reducible repeat (first | refine blk_drewN ?_ _ | refine blk_drew ?_ | refine blk_alloc ?_ _)); exact BK122.out⟩, ⟨by repeat (first | (with_reducible first | exact HB.out | apply below_alloc | apply pw_below_drewN | apply below_drew1 | refine below_set ?_ GE121.out | refine below_set ?_ GE122.out) | exact HB.out)⟩⟩
 case rest =>
  clear HC3
  try clear p2
  try clear c6
  try clear c6b0
  try clear c6b1
  try clear c7
  try clear c7b0
  try clear c7b1
  obtain ⟨kq, x14_2, rfl, HA, HJ2, BK121, BK122, HB⟩ := hcut
  cases kq with
  | zero => exact absurd HA.out (by simp [spec_l07Side.j0])
  | succ kj2 =>
   have H := HA.out
   clear HA
   simp only [spec_l07Side.j0] at H
   have HC8 := Aside0.mk H
   clear H
   go_upto_if 14 with (fail)
   go_cut [] (fun wc => ∃ (kq : Nat) (x122001_7 : Int), Aside0 (spec_l07Side.j1 kq a1 a0_0 x122001_7 = some (r1, r2)) ∧ Aside0 (kq ≤ kj2) ∧ Aside0 (wc.heap[gb121]? = some (.cells #[.int .i8 a0_0, .int .i8 x122001_7] 42 (0, 0))) ∧ Aside0 (wc.heap[gb122]? = some (.cells #[.int .i8 0, .int .i8 0] 42 (0, 0))) ∧ Aside0 (Below w.heap.size w wc))
   case first =>
    have H := HC8.out
    clear HC8
    by_cases c9 : x14_2 = true
    ·subst c9
     have H1 : (spec_l07Side.j1 kj2 a1 a0_0 (IntKind.i8.wrap (a0_1 - 1))) = some (r1, r2) := by rw [if_pos rfl] at H; exact H
     clear H
     have H := H1
     clear H1
     have H' := Aside0.mk H
     clear H
     have hnb10 := NB121_122.out
     have hnc10 := NB122_121.out
     have hcz11_0 : wc.cell? ⟨gb121, 0, none⟩ = some (.int .i8 a0_0) := (blk_cell BK121.out 0).trans rfl
     have hcz11_1 : wc.cell? ⟨gb121, 1, none⟩ = some (.int .i8 a0_1) := (blk_cell BK121.out 1).trans rfl
     have hfz11_0 := blk_frozen BK121.out 0
     have hfz11_1 := blk_frozen BK121.out 1
     go_wp2
     go_meet
     case rel => exact ⟨_, (IntKind.i8.wrap (a0_1 - 1)), H', ⟨by have := HJ2.out; first | omega | exact Nat.le_refl _⟩, ⟨by (with_reducible repeat (first | refine blk_drewN ?_ _ | refine blk_drew ?_ | refine blk_alloc ?_ _)); refine blk_put (cs := #[.int .i8 a0_0, .int .i8 a0_1]) ?_ 1 _ rfl; (with_reducible repeat (first | refine blk_drewN ?_ _ | refine blk_drew ?_ | refine blk_alloc ?_ _)); exact BK121.out⟩, ⟨by (with_reducible repeat (first | refine blk_drewN ?_ _ | refine blk_drew ?_ | refine blk_alloc ?_ _)); refine blk_far ?_ NB122_121.out _; (with_reducible repeat (first | refine blk_drewN ?_ _ | refine blk_drew ?_ | refine blk_alloc ?_ _)); exact BK122.out⟩, ⟨by repeat (first | (with_reducible first | exact HB.out | apply below_alloc | apply pw_below_drewN | apply below_drew1 | refine below_set ?_ GE121.out | refine below_set ?_ GE122.out) | exact HB.out)⟩⟩
    ·replace c9 := Bool.eq_false_iff.mpr c9
     subst c9
     have H1 : (spec_l07Side.j1 kj2 a1 a0_0 a0_1) = some (r1, r2) := by rw [if_neg (show ¬ (false = true) by decide)] at H; exact H
     clear H
     have H := H1
     clear H1
     have H' := Aside0.mk H
     clear H
     go_wp2
     go_meet
     case rel => exact ⟨_, (a0_1), H', ⟨by have := HJ2.out; first | omega | exact Nat.le_refl _⟩, ⟨by (with_reducible repeat (first | refine blk_drewN ?_ _ | refine blk_drew ?_ | refine blk_alloc ?_ _)); exact BK121.out⟩, ⟨by (with_reducible repeat (first | refine blk_drewN ?_ _ | refine blk_drew ?_ | refine blk_alloc ?_ _)); exact BK122.out⟩, ⟨by repeat (first | (with_reducible first | exact HB.out | apply below_alloc | apply pw_below_drewN | apply below_drew1 | refine below_set ?_ GE121.out | refine below_set ?_ GE122.out) | exact HB.out)⟩⟩
   case rest =>
    clear HC8
    try clear c1
    try clear p2
    try clear c6
    try clear c6b0
    try clear c6b1
    try clear c7
    try clear c7b0
    try clear c7b1
    try clear c9
    try clear c10
    try clear hcz11_0
    try clear hcz11_1
    try clear hfz11_0
    try clear hfz11_1
    try clear p2
    obtain ⟨kq, x122001_7, HA, HJ7, BK121, BK122, HB⟩ := hcut
    cases kq with
    | zero => exact absurd HA.out (by simp [spec_l07Side.j1])
    | succ kj7 =>
     have H := HA.out
     clear HA
     simp only [spec_l07Side.j1] at H
     have HC12 := Aside0.mk H
     clear H
     go_upto_region 3 with (fail)
     go_cut [24] (fun v24 wc => ∃ (kq : Nat) (x24_11 : Bool), v24 = .bool x24_11 ∧ Aside0 (spec_l07Side.j2 kq a1 x24_11 a0_0 x122001_7 = some (r1, r2)) ∧ Aside0 (kq ≤ kj7) ∧ Aside0 (wc.heap[gb121]? = some (.cells #[.int .i8 a0_0, .int .i8 x122001_7] 42 (0, 0))) ∧ Aside0 (wc.heap[gb122]? = some (.cells #[.int .i8 0, .int .i8 0] 42 (0, 0))) ∧ Aside0 (Below w.heap.size w wc))
     case first =>
      have H := HC12.out
      clear HC12
      by_cases c13 : a1 ≥ 3
      ·rw [if_pos c13] at H
       have c13b0 : decide (3 ≤ a1) = true := decide_eq_true c13
       clear c13
       (first | rw [c13b0] | (simp only [i64_w, i32_w]; rw [c13b0]) | skip)
       have H' := Aside0.mk H
       clear H
       go_wp2
       go_meet
       case rel => exact ⟨_, (decide (a1 ≤ 5)), (by first | rfl | (simp; done) | (simp [*]; done)), H', ⟨by have := HJ2.out; have := HJ7.out; first | omega | exact Nat.le_refl _⟩, ⟨by (with_reducible repeat (first | refine blk_drewN ?_ _ | refine blk_drew ?_ | refine blk_alloc ?_ _)); exact BK121.out⟩, ⟨by (with_reducible repeat (first | refine blk_drewN ?_ _ | refine blk_drew ?_ | refine blk_alloc ?_ _)); exact BK122.out⟩, ⟨by repeat (first | (with_reducible first | exact HB.out | apply below_alloc | apply pw_below_drewN | apply below_drew1 | refine below_set ?_ GE121.out | refine below_set ?_ GE122.out) | exact HB.out)⟩⟩
      ·rw [if_neg c13] at H
       have c13b0 : decide (3 ≤ a1) = false := decide_eq_false c13
       clear c13
       (first | rw [c13b0] | (simp only [i64_w, i32_w]; rw [c13b0]) | skip)
       have H' := Aside0.mk H
       clear H
       go_wp2
       go_meet
       case rel => exact ⟨_, (false), (by first | rfl | (simp; done) | (simp [*]; done)), H', ⟨by have := HJ2.out; have := HJ7.out; first | omega | exact Nat.le_refl _⟩, ⟨by (with_reducible repeat (first | refine blk_drewN ?_ _ | refine blk_drew ?_ | refine blk_alloc ?_ _)); exact BK121.out⟩, ⟨by (with_reducible repeat (first | refine blk_drewN ?_ _ | refine blk_drew ?_ | refine blk_alloc ?_ _)); exact BK122.out⟩, ⟨by repeat (first | (with_reducible first | exact HB.out | apply below_alloc | apply pw_below_drewN | apply below_drew1 | refine below_set ?_ GE121.out | refine below_set ?_ GE122.out) | exact HB.out)⟩⟩
     case rest =>
      clear HC12
      try clear c1
      try clear p2
      try clear c6
      try clear c6b0
      try clear c6b1
      try clear c7
      try clear c7b0
      try clear c7b1
      try clear c9
      try clear c10
      try clear c13
      try clear c13b0
      try clear hcz11_0
      try clear hcz11_1
      try clear hfz11_0
      try clear hfz11_1
      try clear p2
      obtain ⟨kq, x24_11, rfl, HA, HJ11, BK121, BK122, HB⟩ := hcut
      cases kq with
      | zero => exact absurd HA.out (by simp [spec_l07Side.j2])
      | succ kj11 =>
       have H := HA.out
       clear HA
       simp only [spec_l07Side.j2] at H
       have HC14 := Aside0.mk H
       clear H
       go_upto_if 24 with (fail)
       go_cut [] (fun wc => ∃ (kq : Nat) (x122001_13 : Int), Aside0 (spec_l07Side.j3 kq a1 a0_0 x122001_13 = some (r1, r2)) ∧ Aside0 (kq ≤ kj11) ∧ Aside0 (wc.heap[gb121]? = some (.cells #[.int .i8 a0_0, .int .i8 x122001_13] 42 (0, 0))) ∧ Aside0 (wc.heap[gb122]? = some (.cells #[.int .i8 0, .int .i8 0] 42 (0, 0))) ∧ Aside0 (Below w.heap.size w wc))
       case first =>
        have H := HC14.out
        clear HC14
        by_cases c15 : x24_11 = true
        ·subst c15
         have H1 : (spec_l07Side.j3 kj11 a1 a0_0 (IntKind.i8.wrap (x122001_7 + 1))) = some (r1, r2) := by rw [if_pos rfl] at H; exact H
         clear H
         have H := H1
         clear H1
         have H' := Aside0.mk H
         clear H
         have hnb16 := NB121_122.out
         have hnc16 := NB122_121.out
         have hcz17_0 : wc.cell? ⟨gb121, 0, none⟩ = some (.int .i8 a0_0) := (blk_cell BK121.out 0).trans rfl
         have hcz17_1 : wc.cell? ⟨gb121, 1, none⟩ = some (.int .i8 x122001_7) := (blk_cell BK121.out 1).trans rfl
         have hfz17_0 := blk_frozen BK121.out 0
         have hfz17_1 := blk_frozen BK121.out 1
         go_wp2
         go_meet
         case rel => exact ⟨_, (IntKind.i8.wrap (x122001_7 + 1)), H', ⟨by have := HJ2.out; have := HJ7.out; have := HJ11.out; first | omega | exact Nat.le_refl _⟩, ⟨by (with_reducible repeat (first | refine blk_drewN ?_ _ | refine blk_drew ?_ | refine blk_alloc ?_ _)); refine blk_put (cs := #[.int .i8 a0_0, .int .i8 x122001_7]) ?_ 1 _ rfl; (with_reducible repeat (first | refine blk_drewN ?_ _ | refine blk_drew ?_ | refine blk_alloc ?_ _)); exact BK121.out⟩, ⟨by (with_reducible repeat (first | refine blk_drewN ?_ _ | refine blk_drew ?_ | refine blk_alloc ?_ _)); refine blk_far ?_ NB122_121.out _; (with_reducible repeat (first | refine blk_drewN ?_ _ | refine blk_drew ?_ | refine blk_alloc ?_ _)); exact BK122.out⟩, ⟨by repeat (first | (with_reducible first | exact HB.out | apply below_alloc | apply pw_below_drewN | apply below_drew1 | refine below_set ?_ GE121.out | refine below_set ?_ GE122.out) | exact HB.out)⟩⟩
        ·replace c15 := Bool.eq_false_iff.mpr c15
         subst c15
         have H1 : (spec_l07Side.j3 kj11 a1 a0_0 x122001_7) = some (r1, r2) := by rw [if_neg (show ¬ (false = true) by decide)] at H; exact H
         clear H
         have H := H1
         clear H1
         have H' := Aside0.mk H
         clear H
         go_wp2
         go_meet
         case rel => exact ⟨_, (x122001_7), H', ⟨by have := HJ2.out; have := HJ7.out; have := HJ11.out; first | omega | exact Nat.le_refl _⟩, ⟨by (with_reducible repeat (first | refine blk_drewN ?_ _ | refine blk_drew ?_ | refine blk_alloc ?_ _)); exact BK121.out⟩, ⟨by (with_reducible repeat (first | refine blk_drewN ?_ _ | refine blk_drew ?_ | refine blk_alloc ?_ _)); exact BK122.out⟩, ⟨by repeat (first | (with_reducible first | exact HB.out | apply below_alloc | apply pw_below_drewN | apply below_drew1 | refine below_set ?_ GE121.out | refine below_set ?_ GE122.out) | exact HB.out)⟩⟩
       case rest =>
        clear HC14
        try clear c1
        try clear p2
        try clear c6
        try clear c6b0
        try clear c6b1
        try clear c7
        try clear c7b0
        try clear c7b1
        try clear c9
        try clear c10
        try clear c13
        try clear c13b0
        try clear c15
        try clear c16
        try clear hcz11_0
        try clear hcz11_1
        try clear hcz17_0
        try clear hcz17_1
        try clear hfz11_0
        try clear hfz11_1
        try clear hfz17_0
        try clear hfz17_1
        try clear p2
        obtain ⟨kq, x122001_13, HA, HJ13, BK121, BK122, HB⟩ := hcut
        cases kq with
        | zero => exact absurd HA.out (by simp [spec_l07Side.j3])
        | succ kj13 =>
         have H := HA.out
         clear HA
         simp only [spec_l07Side.j3] at H
         have HC18 := Aside0.mk H
         clear H
         go_upto_region 5 with (fail)
         go_cut [34] (fun v34 wc => ∃ (kq : Nat) (x34_17 : Bool), v34 = .bool x34_17 ∧ Aside0 (spec_l07Side.j4 kq a1 x34_17 a0_0 x122001_13 = some (r1, r2)) ∧ Aside0 (kq ≤ kj13) ∧ Aside0 (wc.heap[gb121]? = some (.cells #[.int .i8 a0_0, .int .i8 x122001_13] 42 (0, 0))) ∧ Aside0 (wc.heap[gb122]? = some (.cells #[.int .i8 0, .int .i8 0] 42 (0, 0))) ∧ Aside0 (Below w.heap.size w wc))
         case first =>
          have H := HC18.out
          clear HC18
          by_cases c19 : a1 ≥ 1
          ·rw [if_pos c19] at H
           have c19b0 : decide (1 ≤ a1) = true := decide_eq_true c19
           clear c19
           (first | rw [c19b0] | (simp only [i64_w, i32_w]; rw [c19b0]) | skip)
           have H' := Aside0.mk H
           clear H
           go_wp2
           go_meet
           case rel => exact ⟨_, (decide (a1 ≤ 3)), (by first | rfl | (simp; done) | (simp [*]; done)), H', ⟨by have := HJ2.out; have := HJ7.out; have := HJ11.out; have := HJ13.out; first | omega | exact Nat.le_refl _⟩, ⟨by (with_reducible repeat (first | refine blk_drewN ?_ _ | refine blk_drew ?_ | refine blk_alloc ?_ _)); exact BK121.out⟩, ⟨by (with_reducible repeat (first | refine blk_drewN ?_ _ | refine blk_drew ?_ | refine blk_alloc ?_ _)); exact BK122.out⟩, ⟨by repeat (first | (with_reducible first | exact HB.out | apply below_alloc | apply pw_below_drewN | apply below_drew1 | refine below_set ?_ GE121.out | refine below_set ?_ GE122.out) | exact HB.out)⟩⟩
          ·rw [if_neg c19] at H
           have c19b0 : decide (1 ≤ a1) = false := decide_eq_false c19
           clear c19
           (first | rw [c19b0] | (simp only [i64_w, i32_w]; rw [c19b0]) | skip)
           have H' := Aside0.mk H
           clear H
           go_wp2
           go_meet
           case rel => exact ⟨_, (false), (by first | rfl | (simp; done) | (simp [*]; done)), H', ⟨by have := HJ2.out; have := HJ7.out; have := HJ11.out; have := HJ13.out; first | omega | exact Nat.le_refl _⟩, ⟨by (with_reducible repeat (first | refine blk_drewN ?_ _ | refine blk_drew ?_ | refine blk_alloc ?_ _)); exact BK121.out⟩, ⟨by (with_reducible repeat (first | refine blk_drewN ?_ _ | refine blk_drew ?_ | refine blk_alloc ?_ _)); exact BK122.out⟩, ⟨by repeat (first | (with_reducible first | exact HB.out | apply below_alloc | apply pw_below_drewN | apply below_drew1 | refine below_set ?_ GE121.out | refine below_set ?_ GE122.out) | exact HB.out)⟩⟩
         case rest =>
          clear HC18
          try clear c1
          try clear p2
          try clear c6
          try clear c6b0
          try clear c6b1
          try clear c7
          try clear c7b0
          try clear c7b1
          try clear c9
          try clear c10
          try clear c13
          try clear c13b0
          try clear c15
          try clear c16
          try clear c19
          try clear c19b0
          try clear hcz11_0
          try clear hcz11_1
          try clear hcz17_0
          try clear hcz17_1
          try clear hfz11_0
          try clear hfz11_1
          try clear hfz17_0
          try clear hfz17_1
          try clear p2
          obtain ⟨kq, x34_17, rfl, HA, HJ17, BK121, BK122, HB⟩ := hcut
          cases kq with
          | zero => exact absurd HA.out (by simp [spec_l07Side.j4])
          | succ kj17 =>
           have H := HA.out
           clear HA
           simp only [spec_l07Side.j4] at H
           by_cases c20 : x34_17 = true
           ·subst c20
            have H1 : (if a1 ≥ 5 then (some (IntKind.i8.wrap ((IntKind.i8.wrap (a0_0 + 1)) - 1), x122001_13)) else (some (IntKind.i8.wrap (a0_0 + 1), x122001_13))) = some (r1, r2) := by rw [if_pos rfl] at H; exact H
            clear H
            have H := H1
            clear H1
            by_cases c21 : a1 ≥ 5
            ·rw [if_pos c21] at H
             have c21b0 : decide (5 ≤ a1) = true := decide_eq_true c21
             clear c21
             simp only [Option.some.injEq, Prod.mk.injEq] at H
             obtain ⟨rfl, rfl⟩ := H
             have hnb22 := NB121_122.out
             have hnc22 := NB122_121.out
             have hcz23_0 : wc.cell? ⟨gb121, 0, none⟩ = some (.int .i8 a0_0) := (blk_cell BK121.out 0).trans rfl
             have hcz23_1 : wc.cell? ⟨gb121, 1, none⟩ = some (.int .i8 x122001_13) := (blk_cell BK121.out 1).trans rfl
             have hfz23_0 := blk_frozen BK121.out 0
             have hfz23_1 := blk_frozen BK121.out 1
             have hcz24_0 : wc.cell? ⟨gb122, 0, none⟩ = some (.int .i8 0) := (blk_cell BK122.out 0).trans rfl
             have hcz24_1 : wc.cell? ⟨gb122, 1, none⟩ = some (.int .i8 0) := (blk_cell BK122.out 1).trans rfl
             have hfz24_0 := blk_frozen BK122.out 0
             have hfz24_1 := blk_frozen BK122.out 1
             go_wp2
             refine bodyPost_ret (results_cell_row rfl _ _ gb122 42 #[.int .i8 (IntKind.i8.wrap ((IntKind.i8.wrap (a0_0 + 1)) - 1)), .int .i8 x122001_13] (0, 0) _ rfl (by (with_reducible repeat (first | refine blk_drewN ?_ _ | refine blk_drew ?_ | refine blk_alloc ?_ _)); refine blk_put (cs := #[.int .i8 (IntKind.i8.wrap ((IntKind.i8.wrap (a0_0 + 1)) - 1)), .int .i8 0]) ?_ 1 _ rfl; (with_reducible repeat (first | refine blk_drewN ?_ _ | refine blk_drew ?_ | refine blk_alloc ?_ _)); refine blk_put (cs := #[.int .i8 0, .int .i8 0]) ?_ 0 _ rfl; (with_reducible repeat (first | refine blk_drewN ?_ _ | refine blk_drew ?_ | refine blk_alloc ?_ _)); refine blk_far ?_ NB122_121.out _; (with_reducible repeat (first | refine blk_drewN ?_ _ | refine blk_drew ?_ | refine blk_alloc ?_ _)); refine blk_far ?_ NB122_121.out _; (with_reducible repeat (first | refine blk_drewN ?_ _ | refine blk_drew ?_ | refine blk_alloc ?_ _)); exact BK122.out) Try.underlying42 rfl (by kernel_rfl)) rfl ?_
             exact ⟨by first | rfl | (simp [errW_none, errW_some] <;> rfl) | (simp [*, errW_none, errW_some] <;> rfl), by repeat (first | (with_reducible first | exact HB.out | apply below_alloc | apply pw_below_drewN | apply below_drew1 | refine below_set ?_ GE121.out | refine below_set ?_ GE122.out) | exact HB.out)⟩
            ·rw [if_neg c21] at H
             have c21b0 : decide (5 ≤ a1) = false := decide_eq_false c21
             clear c21
             simp only [Option.some.injEq, Prod.mk.injEq] at H
             obtain ⟨rfl, rfl⟩ := H
             have hnb25 := NB121_122.out
             have hnc25 := NB122_121.out
             have hcz26_0 : wc.cell? ⟨gb121, 0, none⟩ = some (.int .i8 a0_0) := (blk_cell BK121.out 0).trans rfl
             have hcz26_1 : wc.cell? ⟨gb121, 1, none⟩ = some (.int .i8 x122001_13) := (blk_cell BK121.out 1).trans rfl
             have hfz26_0 := blk_frozen BK121.out 0
             have hfz26_1 := blk_frozen BK121.out 1
             have hcz27_0 : wc.cell? ⟨gb122, 0, none⟩ = some (.int .i8 0) := (blk_cell BK122.out 0).trans rfl
             have hcz27_1 : wc.cell? ⟨gb122, 1, none⟩ = some (.int .i8 0) := (blk_cell BK122.out 1).trans rfl
             have hfz27_0 := blk_frozen BK122.out 0
             have hfz27_1 := blk_frozen BK122.out 1
             go_wp2
             refine bodyPost_ret (results_cell_row rfl _ _ gb122 42 #[.int .i8 (IntKind.i8.wrap (a0_0 + 1)), .int .i8 x122001_13] (0, 0) _ rfl (by (with_reducible repeat (first | refine blk_drewN ?_ _ | refine blk_drew ?_ | refine blk_alloc ?_ _)); refine blk_put (cs := #[.int .i8 (IntKind.i8.wrap (a0_0 + 1)), .int .i8 0]) ?_ 1 _ rfl; (with_reducible repeat (first | refine blk_drewN ?_ _ | refine blk_drew ?_ | refine blk_alloc ?_ _)); refine blk_put (cs := #[.int .i8 0, .int .i8 0]) ?_ 0 _ rfl; (with_reducible repeat (first | refine blk_drewN ?_ _ | refine blk_drew ?_ | refine blk_alloc ?_ _)); refine blk_far ?_ NB122_121.out _; (with_reducible repeat (first | refine blk_drewN ?_ _ | refine blk_drew ?_ | refine blk_alloc ?_ _)); exact BK122.out) Try.underlying42 rfl (by kernel_rfl)) rfl ?_
             exact ⟨by first | rfl | (simp [errW_none, errW_some] <;> rfl) | (simp [*, errW_none, errW_some] <;> rfl), by repeat (first | (with_reducible first | exact HB.out | apply below_alloc | apply pw_below_drewN | apply below_drew1 | refine below_set ?_ GE121.out | refine below_set ?_ GE122.out) | exact HB.out)⟩
           ·replace c20 := Bool.eq_false_iff.mpr c20
            subst c20
            have H1 : (if a1 ≥ 5 then (some (IntKind.i8.wrap (a0_0 - 1), x122001_13)) else (some (a0_0, x122001_13))) = some (r1, r2) := by rw [if_neg (show ¬ (false = true) by decide)] at H; exact H
            clear H
            have H := H1
            clear H1
            by_cases c28 : a1 ≥ 5
            ·rw [if_pos c28] at H
             have c28b0 : decide (5 ≤ a1) = true := decide_eq_true c28
             clear c28
             simp only [Option.some.injEq, Prod.mk.injEq] at H
             obtain ⟨rfl, rfl⟩ := H
             have hnb29 := NB121_122.out
             have hnc29 := NB122_121.out
             have hcz30_0 : wc.cell? ⟨gb121, 0, none⟩ = some (.int .i8 a0_0) := (blk_cell BK121.out 0).trans rfl
             have hcz30_1 : wc.cell? ⟨gb121, 1, none⟩ = some (.int .i8 x122001_13) := (blk_cell BK121.out 1).trans rfl
             have hfz30_0 := blk_frozen BK121.out 0
             have hfz30_1 := blk_frozen BK121.out 1
             have hcz31_0 : wc.cell? ⟨gb122, 0, none⟩ = some (.int .i8 0) := (blk_cell BK122.out 0).trans rfl
             have hcz31_1 : wc.cell? ⟨gb122, 1, none⟩ = some (.int .i8 0) := (blk_cell BK122.out 1).trans rfl
             have hfz31_0 := blk_frozen BK122.out 0
             have hfz31_1 := blk_frozen BK122.out 1
             go_wp2
             refine bodyPost_ret (results_cell_row rfl _ _ gb122 42 #[.int .i8 (IntKind.i8.wrap (a0_0 - 1)), .int .i8 x122001_13] (0, 0) _ rfl (by (with_reducible repeat (first | refine blk_drewN ?_ _ | refine blk_drew ?_ | refine blk_alloc ?_ _)); refine blk_put (cs := #[.int .i8 (IntKind.i8.wrap (a0_0 - 1)), .int .i8 0]) ?_ 1 _ rfl; (with_reducible repeat (first | refine blk_drewN ?_ _ | refine blk_drew ?_ | refine blk_alloc ?_ _)); refine blk_put (cs := #[.int .i8 0, .int .i8 0]) ?_ 0 _ rfl; (with_reducible repeat (first | refine blk_drewN ?_ _ | refine blk_drew ?_ | refine blk_alloc ?_ _)); refine blk_far ?_ NB122_121.out _; (with_reducible repeat (first | refine blk_drewN ?_ _ | refine blk_drew ?_ | refine blk_alloc ?_ _)); exact BK122.out) Try.underlying42 rfl (by kernel_rfl)) rfl ?_
             exact ⟨by first | rfl | (simp [errW_none, errW_some] <;> rfl) | (simp [*, errW_none, errW_some] <;> rfl), by repeat (first | (with_reducible first | exact HB.out | apply below_alloc | apply pw_below_drewN | apply below_drew1 | refine below_set ?_ GE121.out | refine below_set ?_ GE122.out) | exact HB.out)⟩
            ·rw [if_neg c28] at H
             have c28b0 : decide (5 ≤ a1) = false := decide_eq_false c28
             clear c28
             simp only [Option.some.injEq, Prod.mk.injEq] at H
             obtain ⟨rfl, rfl⟩ := H
             have hnb32 := NB121_122.out
             have hnc32 := NB122_121.out
             have hcz33_0 : wc.cell? ⟨gb121, 0, none⟩ = some (.int .i8 a0_0) := (blk_cell BK121.out 0).trans rfl
             have hcz33_1 : wc.cell? ⟨gb121, 1, none⟩ = some (.int .i8 x122001_13) := (blk_cell BK121.out 1).trans rfl
             have hfz33_0 := blk_frozen BK121.out 0
             have hfz33_1 := blk_frozen BK121.out 1
             have hcz34_0 : wc.cell? ⟨gb122, 0, none⟩ = some (.int .i8 0) := (blk_cell BK122.out 0).trans rfl
             have hcz34_1 : wc.cell? ⟨gb122, 1, none⟩ = some (.int .i8 0) := (blk_cell BK122.out 1).trans rfl
             have hfz34_0 := blk_frozen BK122.out 0
             have hfz34_1 := blk_frozen BK122.out 1
             go_wp2
             refine bodyPost_ret (results_cell_row rfl _ _ gb122 42 #[.int .i8 a0_0, .int .i8 x122001_13] (0, 0) _ rfl (by (with_reducible repeat (first | refine blk_drewN ?_ _ | refine blk_drew ?_ | refine blk_alloc ?_ _)); refine blk_put (cs := #[.int .i8 a0_0, .int .i8 0]) ?_ 1 _ rfl; (with_reducible repeat (first | refine blk_drewN ?_ _ | refine blk_drew ?_ | refine blk_alloc ?_ _)); refine blk_put (cs := #[.int .i8 0, .int .i8 0]) ?_ 0 _ rfl; (with_reducible repeat (first | refine blk_drewN ?_ _ | refine blk_drew ?_ | refine blk_alloc ?_ _)); exact BK122.out) Try.underlying42 rfl (by kernel_rfl)) rfl ?_
             exact ⟨by first | rfl | (simp [errW_none, errW_some] <;> rfl) | (simp [*, errW_none, errW_some] <;> rfl), by repeat (first | (with_reducible first | exact HB.out | apply below_alloc | apply pw_below_drewN | apply below_drew1 | refine below_set ?_ GE121.out | refine below_set ?_ GE122.out) | exact HB.out)⟩
end Go.Proofs.Ytmhmfhdmeedcfaa.G
end
