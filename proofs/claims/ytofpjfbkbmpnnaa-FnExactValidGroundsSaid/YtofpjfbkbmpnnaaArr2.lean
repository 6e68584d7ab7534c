/- Laws of the walk for rows of cells: a part stored or loaded, a variable made, an element of an array value. -/
import Derived.Test.YtofpjfbkbmpnnaaArr
import Derived.Test.YtofpjfbkbmpnnaaGTypes
import Derived.Laws.CopyOwn
import Derived.Laws.CopyRow
namespace Go.Proofs.Ytofpjfbkbmpnnaa.AR
open Go.RowKit Go.Proofs.YtofpjfbkbmpnnaaW.PrintWords
variable {P : Program} {ops : Array Oper} {rest : List Oper} {o : Oper} {a : Act} {Q : Exit → Act → World → Prop}
theorem run_store_row (w : World) (ty t2 : TypeId) (g n : Nat) (vs old : Array Value) (hg : w.heap[g]? = some (.cells old t2 (0, 0))) (hn : n + vs.size ≤ old.size) (h1 : vs.all (·.oneCell') = true) (hi : (P.info? ty).map (·.size) = some vs.size) :
    (storeVar ty ⟨g, n, none⟩ (.agg vs)).run P w = .ok () (w.setRow g (old.toList.take n ++ vs.toList ++ old.toList.drop (n + vs.size)).toArray) := by
  have hst := run_storeCells_at (P := P) g n t2 vs.toList 0 old w hg (by simpa using hn) (by
    intro v hv
    exact (Array.all_eq_true_iff_forall_mem.1 h1) v (by simpa using hv))
  cases hq : P.info? ty with
  | none => simp [hq] at hi
  | some i =>
    have hs : i.size = vs.size := by simpa [hq] using hi
    simp only [Nat.add_zero, Array.length_toList] at hst
    simp [storeVar, Sem.run_bind, sizeOf, typeInfo, hq, hs, Value.cells, hst]
theorem exec_store_row {w : World} {ty t2 : TypeId} {p v : Operand} {g n : Nat} {vs old : Array Value} (ho : o.op = .store ty p v) (hp : a.eval p = .pointer (some ⟨g, n, none⟩)) (hv : a.eval v = .agg vs)
    (hg : w.heap[g]? = some (.cells old t2 (0, 0))) (hn : n + vs.size ≤ old.size) (h1 : vs.all (·.oneCell') = true) (hi : (P.info? ty).map (·.size) = some vs.size) :
    (execOp a.eval o).run P w = .ok .skip (w.setRow g (old.toList.take n ++ vs.toList ++ old.toList.drop (n + vs.size)).toArray) := by
  unfold execOp
  simp only [ho, hp, hv, Instr.storeAt, Instr.sureAddr, Sem.run_bind, Sem.run_pure, Result.andThen_ok, run_store_row w ty t2 g n vs old hg hn h1 hi]
theorem exec_alloc {w : World} {ty : TypeId} {cs : Array Value} (ho : o.op = .alloc ty) (hz : (zeroValue ty).run P w = .ok (.agg cs) w) :
    (execOp a.eval o).run P w = .ok (.value (.pointer (some ⟨w.heap.size, 0, none⟩))) (w.alloc (.cells cs ty (0, 0))) := by
  unfold execOp
  simp only [ho, Instr.alloc, Sem.run_bind, hz, Result.andThen_ok]
  rfl
theorem exec_load_sub {w : World} {ty t2 : TypeId} {x : Operand} {g n : Nat} {cs old : Array Value} {d : TypeDesc} (ho : o.op = .load ty x) (hx : a.eval x = .pointer (some ⟨g, n, none⟩))
    (hg : w.heap[g]? = some (.cells old t2 (0, 0))) (hc : ∀ j v, cs[j]? = some v → old[n + j]? = some v) (hu : P.underlying ty = some d) (hd : (match d with | .struct _ | .array _ _ => true | _ => false) = true) (hi : (P.info? ty).map (·.size) = some cs.size) :
    (execOp a.eval o).run P w = .ok (.value (.agg cs)) w := by
  unfold execOp
  simp only [ho, hx, Instr.loadAt, Instr.sureAddr, Sem.run_bind, Sem.run_pure, Result.andThen_ok, run_load_sub w g n ty cs d (fun j v hv => (cell_of_row w g (n + j) old t2 (0, 0) hg).trans (hc j v hv)) hu hd hi]
theorem exec_index_row {w : World} {T e : TypeId} {x i : Operand} {cs : Array Value} {k : Int} {len sz : Nat} {d : TypeDesc} (ho : o.op = .index T x i) (hx : a.eval x = .agg cs) (hk : a.eval i = .int .i64 k) (h0 : 0 ≤ k) (h1 : k < len)
    (hu : P.underlying T = some (.array len e)) (he : P.underlying e = some d) (hd : (match d with | .struct _ | .array _ _ => true | _ => false) = true) (hi : (P.info? e).map (·.size) = some sz) :
    (execOp a.eval o).run P w = .ok (.value (.agg (cs.extract (k.toNat * sz) (k.toNat * sz + sz)))) w := by
  have hagg : (isAgg e).run P w = .ok true w := by
    unfold isAgg
    rw [Sem.run_bind, run_underlying he w]
    cases d <;> simp_all
  cases hq : P.info? e with
  | none => simp [hq] at hi
  | some i =>
    have hs : i.size = sz := by simpa [hq] using hi
    unfold execOp
    simp [ho, hx, hk, Instr.index, asIntOf, Sem.run_bind, run_underlying hu w, h0, h1, part, hagg, sizeOf, typeInfo, hq, hs]
theorem exec_index_cell {w : World} {T e : TypeId} {x i : Operand} {cs : Array Value} {k : Int} {len : Nat} {v : Value} (ho : o.op = .index T x i) (hx : a.eval x = .agg cs) (hk : a.eval i = .int .i64 k) (h0 : 0 ≤ k) (h1 : k < len)
    (hu : P.underlying T = some (.array len e)) (hag : ∀ w, (isAgg e).run P w = .ok false w) (hi : (P.info? e).map (·.size) = some 1) (hv : cs[k.toNat]? = some v) :
    (execOp a.eval o).run P w = .ok (.value v) w := by
  cases hq : P.info? e with
  | none => simp [hq] at hi
  | some i =>
    have hs : i.size = 1 := by simpa [hq] using hi
    unfold execOp
    simp [ho, hx, hk, Instr.index, asIntOf, Sem.run_bind, run_underlying hu w, h0, h1, part, hag w, sizeOf, typeInfo, hq, hs, hv]
end Go.Proofs.Ytofpjfbkbmpnnaa.AR
namespace Go.Proofs.Ytofpjfbkbmpnnaa.G
open Go.RowKit Go.Proofs.YtofpjfbkbmpnnaaW.PrintWords AR
def Flat.sub {C : Nat} {k : IntKind} (o : Flat C k) (off n : Nat) : Array Value := ((List.range n).map fun j => Value.int k (o.z (off + j))).toArray
theorem Flat.sub_size {C : Nat} {k : IntKind} (o : Flat C k) (off n : Nat) : (o.sub off n).size = n := by simp [Flat.sub]
theorem Flat.sub_at {C : Nat} {k : IntKind} (o : Flat C k) (off n : Nat) {j : Nat} (h : j < n) : (o.sub off n)[j]? = some (.int k (o.z (off + j))) := by simp [Flat.sub, h]
theorem Flat.sub_one {C : Nat} {k : IntKind} (o : Flat C k) (off n : Nat) : (o.sub off n).all (·.oneCell') = true := by
  rw [Array.all_eq_true_iff_forall_mem]
  intro v hv
  simp only [Flat.sub, List.mem_toArray, List.mem_map] at hv
  obtain ⟨j, _, rfl⟩ := hv
  rfl
theorem Flat.sub_whole {C : Nat} {k : IntKind} (o : Flat C k) : o.sub 0 C = o.A := by simp [Flat.sub, Flat.A]
theorem Flat.sub_part {C : Nat} {k : IntKind} (o : Flat C k) {off n j m : Nat} (h : j + m ≤ n) : (o.sub off n).extract j (j + m) = o.sub (off + j) m := by
  apply Array.ext_getElem?
  intro i
  by_cases hi : i < m
  · rw [Flat.sub_at o _ _ hi, Array.getElem?_extract, if_pos (by rw [Flat.sub_size]; omega), Flat.sub_at o _ _ (by omega)]
    congr 3; omega
  · rw [Array.getElem?_eq_none (by simp [Flat.sub_size]; omega), Array.getElem?_eq_none (by rw [Flat.sub_size]; omega)]
theorem Flat.sub_in {C : Nat} {k : IntKind} (o : Flat C k) {off n : Nat} (h : off + n ≤ C) (j : Nat) (v : Value) (hv : (o.sub off n)[j]? = some v) : o.A[off + j]? = some v := by
  have hj : j < n := by have := (Array.getElem?_eq_some_iff.1 hv).1; rwa [Flat.sub_size] at this
  rw [Flat.at_ o (by omega), ← hv, Flat.sub_at o _ _ hj]
end Go.Proofs.Ytofpjfbkbmpnnaa.G
