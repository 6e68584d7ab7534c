/- Copies of rows of cells, part by part; a result that lies in memory. -/
import Derived.Test.YtofpjfbkbmpnnaaArr2
namespace Go.Proofs.Ytofpjfbkbmpnnaa.AR
open Go.RowKit Go.Proofs.YtofpjfbkbmpnnaaW.PrintWords
variable {P : Program} {ops : Array Oper} {rest : List Oper} {o : Oper} {a : Act} {Q : Exit → Act → World → Prop}
theorem exec_store_cell {w : World} {ty t2 : TypeId} {p v : Operand} {g n : Nat} {k : IntKind} {z : Int} {old : Array Value} (ho : o.op = .store ty p v) (hp : a.eval p = .pointer (some ⟨g, n, none⟩)) (hv : a.eval v = .int k z)
    (hg : w.heap[g]? = some (.cells old t2 (0, 0))) (hn : n + 1 ≤ old.size) (hi : (P.info? ty).map (·.size) = some 1) :
    (execOp a.eval o).run P w = .ok .skip (w.setRow g (old.toList.take n ++ [Value.int k z] ++ old.toList.drop (n + 1)).toArray) := by
  have hst := run_storeCells_at (P := P) g n t2 [.int k z] 0 old w hg (by simpa using hn) (by intro v hv; simp at hv; subst hv; rfl)
  cases hq : P.info? ty with
  | none => simp [hq] at hi
  | some i =>
    have hs : i.size = 1 := by simpa [hq] using hi
    simp only [Nat.add_zero, List.length_cons, List.length_nil, Nat.zero_add] at hst
    unfold execOp
    simp [ho, hp, hv, Instr.storeAt, Instr.sureAddr, storeVar, Sem.run_bind, sizeOf, typeInfo, hq, hs, Value.cells, hst]
theorem results_cell {fn : Func} {p : Tmp} {ty : TypeId} (h : fn.results = #[.cell p ty]) {tmps : Array Value} {w : World} {g : Nat} {cs : Array Value} (hp : tmps.getD p undef = .pointer (some ⟨g, 0, none⟩))
    (hl : (loadVar ty ⟨g, 0, none⟩).run P w = .ok (.agg cs) w) : (results fn tmps).run P w = .ok (.agg cs) w := by
  have e : (results fn tmps).run P w = ((asAddr (tmps.getD p undef)).run P w).andThen fun a w₁ => (loadVar ty a).run P w₁ := by
    simp only [results, h]
    simp [Sem.run_bind, Result.andThen]
  rw [e, hp]
  exact hl
def CopyTo (cur : Array Value) (N i : Nat) (src : Array Value) : Prop := cur.size = N ∧ ∀ j, j < i → cur[j]? = src[j]?
theorem CopyTo.zero {cur : Array Value} {N : Nat} {src : Array Value} (h : cur.size = N) : CopyTo cur N 0 src := ⟨h, fun j hj => absurd hj (by omega)⟩
theorem CopyTo.step {cur src : Array Value} {N i m : Nat} {vs : List Value} (h : CopyTo cur N i src) (hm : vs.length = m) (hi : i + m ≤ N) (hv : ∀ j, j < m → vs[j]? = src[i + j]?) :
    CopyTo (cur.toList.take i ++ vs ++ cur.toList.drop (i + m)).toArray N (i + m) src := by
  obtain ⟨h1, h2⟩ := h
  have hl : cur.toList.length = N := by simpa using h1
  refine ⟨by simp [hm]; omega, fun j hj => ?_⟩
  simp only [List.getElem?_toArray]
  by_cases hji : j < i
  · rw [List.append_assoc, List.getElem?_append_left (by simp; omega), List.getElem?_take_of_lt hji, ← h2 j hji]; simp
  · rw [List.getElem?_append_left (by simp; omega), List.getElem?_append_right (by simp; omega), show (cur.toList.take i).length = i by simp; omega, hv (j - i) (by omega)]
    congr 1; omega
theorem CopyTo.set {cur src : Array Value} {N i : Nat} {v : Value} (h : CopyTo cur N i src) (hv : src[i]? = some v) (hi : i < N) : CopyTo (cur.setIfInBounds i v) N (i + 1) src := by
  obtain ⟨h1, h2⟩ := h
  refine ⟨by simpa using h1, fun j hj => ?_⟩
  by_cases e : j = i
  · subst e; rw [hv, Array.getElem?_setIfInBounds_self_of_lt (by omega)]
  · rw [Array.getElem?_setIfInBounds_ne (Ne.symm e)]; exact h2 j (by omega)
theorem CopyTo.done {cur src : Array Value} {N : Nat} (h : CopyTo cur N N src) (hs : src.size = N) : cur = src := by
  apply Array.ext_getElem?
  intro j
  by_cases hj : j < N
  · exact h.2 j hj
  · rw [Array.getElem?_eq_none (by have := h.1; omega), Array.getElem?_eq_none (by omega)]
end Go.Proofs.Ytofpjfbkbmpnnaa.AR
