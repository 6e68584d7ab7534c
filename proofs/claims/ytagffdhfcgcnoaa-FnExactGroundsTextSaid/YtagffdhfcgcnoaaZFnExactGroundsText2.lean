/- A part of the proof of: FnExactGroundsText returns true, whatever the input, and leaves its arguments as they were. -/
import Derived.Deep.Slices
import Derived.ChangeSame
import Derived.ChangeArms
import Derived.OpenShut
import Derived.WalkKit
import Derived.ProofKit
import Derived.Below
import Derived.Deep.Draws
import Derived.Deep.AppendLies
import Derived.Maps.AppendAt
import Derived.OwnWalk
import Derived.Laws.BytesArg
import Derived.Laws.MakeOwn
import Derived.Laws.OwnMore
import Derived.Deep.OwnRows
import Derived.Tactics
import Derived.Lib.ConvBytes
import Derived.Laws.Slices
import Derived.KernelRfl
import Derived.RowKit3
import Derived.Deep.LoopGhost
import Derived.Deep.QuietTactic
import Derived.BigQuiet
import Derived.WideLaws
import Derived.Deep.DeepCutAuto
import Derived.Deep.CutBlock
import Derived.Deep.RegionHeld3
import Derived.Laws.Rows
import Derived.Lib.AppendStr
import Derived.ArgAppend
import Derived.Laws.IdiomCopy
import Derived.RowKit
import Derived.Laws.Tables
import Derived.Test.YtagffdhfcgcnoaaProg
import Derived.OrdersHeld
import Derived.Laws.BitsLemmas
import Derived.Laws.StructEq
import Derived.Lib.Hide
import Derived.Laws.CopyOwn
import Derived.Laws.CopyRow
import Derived.Test.YtagffdhfcgcnoaaZFnExactGroundsText1
section
namespace Go.Proofs.Ytagffdhfcgcnoaa.RL
open Go.ChangeShapes Go.WideShapes Go.Deep Go.Proofs.YtagffdhfcgcnoaaW.PrintWords
set_option linter.unusedVariables false
def leafAt (P : Program) : Nat → TypeId → Nat → Option IntKind
  | 0, _, _ => none
  | n + 1, t, j => match P.underlying t with
    | some (.int k) => if j = 0 then some k else none
    | some (.struct fs) => ((List.range fs.size).find? fun i => match fs[i]? with
        | some f => decide (f.offset ≤ j ∧ j < f.offset + P.cellsOf f.type)
        | none => false).bind fun i => (fs[i]?).bind fun f => leafAt P n f.type (j - f.offset)
    | some (.array m e) => if j < m * P.cellsOf e then leafAt P n e (j % P.cellsOf e) else none
    | _ => none
section
variable {H : Type} {enc : TypeId × Value → H} {P : Program} {w : World} {base : Nat} {spare : Nat → Bool} {held : Bool}
theorem seg_at {cs : List Value} {o s j : Nat} {u : Value} (h0 : o ≤ j) (h1 : j < o + s) (h : ((cs.drop o).take s)[j - o]? = some u) : cs[j]? = some u := by
  rw [List.getElem?_take, if_pos (by omega), List.getElem?_drop] at h
  rw [← h]
  congr 1
  omega
theorem leaf_trod (n : Nat) : ∀ (t : TypeId) (j : Nat) (k : IntKind) (fuel : Nat) (cs : List Value) (x : DataW H × List MemPlace), leafAt P n t j = some k → DataW.trod enc P w base spare held fuel t cs = some x →
    ∃ z, cs[j]? = some (.int k z) ∧ (Lit.int k z).wf = true := by
  induction n with
  | zero => intro t j k fuel cs x h; simp [leafAt] at h
  | succ n ih =>
    intro t j k fuel cs x h ht
    unfold leafAt at h
    split at h
    · rename_i k' hu
      split at h
      · rename_i hj
        subst hj
        injection h with h
        subst h
        obtain ⟨z, rfl, _, hw⟩ := DataW.trod_int hu ht
        exact ⟨z, rfl, hw⟩
      · cases h
    · rename_i fs hu
      rw [Option.bind_eq_some_iff] at h
      obtain ⟨i, hi, h⟩ := h
      rw [Option.bind_eq_some_iff] at h
      obtain ⟨f, hf, h⟩ := h
      have hp := List.find?_some hi
      rw [hf] at hp
      have hp' : f.offset ≤ j ∧ j < f.offset + P.cellsOf f.type := of_decide_eq_true hp
      obtain ⟨xs, m, rfl, rfl, hlen, hxl, hat⟩ := DataW.trod_struct hu ht
      have h1 := hat i f hf
      have hil : i < xs.length := by rw [hxl]; exact (Array.getElem?_eq_some_iff.1 hf).1
      rw [List.getElem?_eq_getElem hil] at h1
      obtain ⟨z, hz, hw⟩ := ih f.type (j - f.offset) k m _ _ h h1
      exact ⟨z, seg_at hp'.1 hp'.2 hz, hw⟩
    · rename_i m e hu
      split at h
      · rename_i hj
        have hC : 0 < P.cellsOf e := by
          rcases Nat.eq_zero_or_pos (P.cellsOf e) with h0 | h0
          · rw [h0] at hj; omega
          · exact h0
        obtain ⟨xs, m', rfl, rfl, hlen, hxl, hat⟩ := DataW.trod_array hu ht
        have hi : j / P.cellsOf e < m := by rw [Nat.div_lt_iff_lt_mul hC]; exact hj
        have h1 := hat (j / P.cellsOf e) hi
        rw [List.getElem?_eq_getElem (by omega)] at h1
        obtain ⟨z, hz, hw⟩ := ih e (j % P.cellsOf e) k m' _ _ h h1
        have hd := Nat.div_add_mod j (P.cellsOf e)
        have hm := Nat.mod_lt j hC
        rw [Nat.mul_comm] at hd
        refine ⟨z, seg_at (o := j / P.cellsOf e * P.cellsOf e) (s := P.cellsOf e) (by omega) (by omega) ?_, hw⟩
        rw [← hz]
        congr 1
        omega
      · cases h
    · cases h
theorem okWide_arr {r : Reach} {b0 n : Nat} {t e : TypeId} {v : Value} (ht : P.underlying t = some (.array n e)) (h : Value.okWide P w r b0 t v) : ∃ cs, v = .agg cs ∧ cs.size = P.cellsOf t := by
  simp only [Value.okWide, ht] at h
  obtain ⟨cs, h1, h2, _⟩ := h
  exact ⟨cs, h1, h2⟩
def leaves (P : Program) (t : TypeId) (C : Nat) : List (Option IntKind) := (List.range C).map (leafAt P 6 t)
theorem leaves_at {t : TypeId} {C : Nat} {ks : List IntKind} (h : leaves P t C = ks.map some) {j : Nat} (hj : j < C) : leafAt P 6 t j = some (ks.getD j .i64) := by
  have hl : ks.length = C := by have := congrArg List.length h; simpa [leaves] using this.symm
  have h1 := congrArg (fun l => l[j]?) h
  simp only [leaves, List.getElem?_map] at h1
  rw [List.getElem?_eq_getElem (by simpa using hj), List.getElem?_eq_getElem (by omega)] at h1
  simp only [List.getElem_range, Option.map_some, Option.some.injEq] at h1
  rw [h1, List.getD_eq_getElem?_getD, List.getElem?_eq_getElem (by omega)]
  rfl
def cellsL (ks : List IntKind) (C : Nat) (z : Nat → Int) : List Value := (List.range C).map fun j => Value.int (ks.getD j .i64) (z j)
theorem flat_value {t : TypeId} {v : Value} {d : DataW H} {p : List MemPlace} (C : Nat) (ks : List IntKind) (hC : P.cellsOf t = C) (hk : leaves P t C = ks.map some) (hv : ∃ cs, v = .agg cs ∧ cs.size = P.cellsOf t)
    (h : DataW.Trod enc P w base spare held t v d p) : ∃ z : Nat → Int, v = .agg (cellsL ks C z).toArray ∧ ∀ j, j < C → (Lit.int (ks.getD j .i64) (z j)).wf = true := by
  obtain ⟨cs, rfl, hs⟩ := hv
  obtain ⟨fuel, hf⟩ := h
  have ha : ∀ j, ∃ z : Int, j < C → (Value.agg cs).cells.toList[j]? = some (.int (ks.getD j .i64) z) ∧ (Lit.int (ks.getD j .i64) z).wf = true := by
    intro j
    by_cases hj : j < C
    · obtain ⟨z, h1, h2⟩ := leaf_trod 6 t j _ fuel _ _ (leaves_at hk hj) hf
      exact ⟨z, fun _ => ⟨h1, h2⟩⟩
    · exact ⟨0, fun h => absurd h hj⟩
  obtain ⟨z, hz⟩ : ∃ z : Nat → Int, ∀ j, j < C → (Value.agg cs).cells.toList[j]? = some (.int (ks.getD j .i64) (z j)) ∧ (Lit.int (ks.getD j .i64) (z j)).wf = true := ⟨fun j => (ha j).choose, fun j => (ha j).choose_spec⟩
  clear ha
  refine ⟨z, ?_, fun j hj => (hz j hj).2⟩
  congr 1
  apply Array.ext'
  apply List.ext_getElem?
  intro j
  rw [List.toList_toArray]
  by_cases hj : j < C
  · have := (hz j hj).1
    simp only [Value.cells] at this
    rw [this, cellsL, List.getElem?_map, List.getElem?_eq_getElem (by simpa using hj)]
    simp
  · rw [List.getElem?_eq_none (by rw [Array.length_toList, hs, hC]; omega), List.getElem?_eq_none (by simp [cellsL]; omega)]
end
end Go.Proofs.Ytagffdhfcgcnoaa.RL
end
section
namespace Go.Proofs.Ytagffdhfcgcnoaa.AR
open Go.RowKit Go.Proofs.YtagffdhfcgcnoaaW.PrintWords
variable {P : Program} {ops : Array Oper} {rest : List Oper} {o : Oper} {a : Act} {Q : Exit → Act → World → Prop}
theorem at_plain (g n j : Nat) : (⟨g, n, none⟩ : Addr).add j = ⟨g, n + j, none⟩ := by
  unfold Addr.add
  split
  · rename_i h; subst h; rfl
  · rfl
theorem run_load_sub (w : World) (g n : Nat) (ty : TypeId) (cs : Array Value) (d : TypeDesc) (hc : ∀ j v, cs[j]? = some v → w.cell? ⟨g, n + j, none⟩ = some v)
    (hu : P.underlying ty = some d) (hd : (match d with | .struct _ | .array _ _ => true | _ => false) = true) (hi : (P.info? ty).map (·.size) = some cs.size) :
    (loadVar ty ⟨g, n, none⟩).run P w = .ok (.agg cs) w := by
  have hl : (loadCells ⟨g, n, none⟩ cs.toList.length).run P w = .ok cs.toList.toArray w :=
    run_loadCells_list (P := P) w ⟨g, n, none⟩ cs.toList (fun j v hv => by
      rw [at_plain]
      exact hc j v (by simpa using hv))
  cases hq : P.info? ty with
  | none => simp [hq] at hi
  | some i =>
    have hs : i.size = cs.size := by simpa [hq] using hi
    have hagg : (isAgg ty).run P w = .ok true w := by
      unfold isAgg
      rw [Sem.run_bind, run_underlying hu w]
      cases d <;> simp_all
    simp only [Array.length_toList, Array.toArray_toList] at hl
    simp [loadVar, Sem.run_bind, hagg, sizeOf, typeInfo, hq, hs, hl]
theorem wpList_box_row {w : World} (hgd : o.guard = none) (ty : TypeId) (x : Operand) (ho : o.op = .box ty x) (cs : Array Value) (hx : a.eval x = .agg cs)
    (h : wpList P ops Q rest (a.put o.dst (.pointer (some ⟨w.heap.size, 0, none⟩))) (w.alloc (.cells cs ty))) : wpList P ops Q (o :: rest) a w :=
  wpList_plain hgd fun _ hK => by
    have hr : (execOp a.eval o).run P w = .ok (.value (.pointer (some ⟨w.heap.size, 0, none⟩))) (w.alloc (.cells cs ty)) := by
      unfold execOp
      simp only [ho, hx]
      rfl
    unfold Oper.wp
    rw [hr]
    exact hK _ _ h
theorem gate_load {w : World} {t : TypeId} {x : Operand} (_ho : o.op = .load t x) (h : wpList P ops Q (o :: rest) a w) : wpList P ops Q (o :: rest) a w := h
theorem gate_box {w : World} {t : TypeId} {x : Operand} (_ho : o.op = .box t x) (h : wpList P ops Q (o :: rest) a w) : wpList P ops Q (o :: rest) a w := h
theorem wpList_load_blk {w : World} (hgd : o.guard = none) (ty : TypeId) (x : Operand) (ho : o.op = .load ty x) (g : Nat) (hx : a.eval x = .pointer (some ⟨g, 0, none⟩)) (cs : Array Value) (d : TypeDesc)
    (hg : w.heap[g]? = some (.cells cs ty (0, 0))) (hu : P.underlying ty = some d) (hd : (match d with | .struct _ | .array _ _ => true | _ => false) = true) (hi : (P.info? ty).map (·.size) = some cs.size)
    (h : wpList P ops Q rest (a.put o.dst (.agg cs)) w) : wpList P ops Q (o :: rest) a w :=
  wpList_load_row hgd ty x ho g hx ty cs (0, 0) d hg hu hd hi h
theorem wpList_box_ev {w : World} (hgd : o.guard = none) (ty : TypeId) (x : Operand) (ho : o.op = .box ty x) (cs : Array Value) (hx : a.eval x = .agg cs)
    (h : ∀ (g : Nat) (w1 : World), g = w.heap.size → w1.heap[g]? = some (.cells cs ty (0, 0)) → Below w.heap.size w w1 → wpList P ops Q rest (a.put o.dst (.pointer (some ⟨g, 0, none⟩))) w1) : wpList P ops Q (o :: rest) a w :=
  wpList_box_row hgd ty x ho cs hx (h _ _ rfl (heap_alloc_new w _) ((Below.refl _ _).alloc (Nat.le_refl _) _))
theorem blkB {w w1 : World} {g : Nat} {cs : Array Value} {t : TypeId} (h : w.heap[g]? = some (.cells cs t (0, 0))) (hb : Below w.heap.size w w1) : w1.heap[g]? = some (.cells cs t (0, 0)) :=
  (hb.block g (Array.getElem?_eq_some_iff.1 h).1).trans h
theorem blk_cell {w : World} {g j : Nat} {cs : Array Value} {t : TypeId} {v : Value} (h : w.heap[g]? = some (.cells cs t (0, 0))) (hv : cs[j]? = some v) : w.cell? ⟨g, j, none⟩ = some v :=
  (cell_of_row w g j cs t (0, 0) h).trans hv
theorem below_join {w0 w w1 : World} (h : Below w0.heap.size w0 w) (h' : Below w.heap.size w w1) : Below w0.heap.size w0 w1 := below_then h h.size h'
theorem run_load_blk (w : World) (g : Nat) (ty : TypeId) (cs : Array Value) (d : TypeDesc) (hg : w.heap[g]? = some (.cells cs ty (0, 0)))
    (hu : P.underlying ty = some d) (hd : (match d with | .struct _ | .array _ _ => true | _ => false) = true) (hi : (P.info? ty).map (·.size) = some cs.size) :
    (loadVar ty ⟨g, 0, none⟩).run P w = .ok (.agg cs) w :=
  run_load_sub w g 0 ty cs d (fun j v hv => by rw [Nat.zero_add]; exact (cell_of_row w g j cs ty (0, 0) hg).trans hv) hu hd hi
theorem exec_load_blk {w : World} {ty : TypeId} {x : Operand} {g : Nat} {cs : Array Value} {d : TypeDesc} (ho : o.op = .load ty x) (hx : a.eval x = .pointer (some ⟨g, 0, none⟩))
    (hg : w.heap[g]? = some (.cells cs ty (0, 0))) (hu : P.underlying ty = some d) (hd : (match d with | .struct _ | .array _ _ => true | _ => false) = true) (hi : (P.info? ty).map (·.size) = some cs.size) :
    (execOp a.eval o).run P w = .ok (.value (.agg cs)) w := by
  unfold execOp
  simp only [ho, hx, Instr.loadAt, Instr.sureAddr, Sem.run_bind, Sem.run_pure, Result.andThen_ok, run_load_blk w g ty cs d hg hu hd hi]
theorem run_box_row {w : World} {ty : TypeId} {x : Operand} {cs : Array Value} (ho : o.op = .box ty x) (hx : a.eval x = .agg cs) :
    (execOp a.eval o).run P w = .ok (.value (.pointer (some ⟨w.heap.size, 0, none⟩))) (w.alloc (.cells cs ty (0, 0))) := by
  unfold execOp
  simp only [ho, hx]
  rfl
end Go.Proofs.Ytagffdhfcgcnoaa.AR
end
section
namespace Go.Proofs.Ytagffdhfcgcnoaa.G
open Go.RowKit Go.Proofs.YtagffdhfcgcnoaaW.PrintWords
structure Flat (C : Nat) (k : IntKind) where
  z : Nat → Int
  ok : ∀ j, j < C → (Lit.int k (z j)).wf = true
def Flat.A {C : Nat} {k : IntKind} (o : Flat C k) : Array Value := ((List.range C).map fun j => Value.int k (o.z j)).toArray
theorem Flat.size {C : Nat} {k : IntKind} (o : Flat C k) : o.A.size = C := by simp [Flat.A]
theorem Flat.at_ {C : Nat} {k : IntKind} (o : Flat C k) {j : Nat} (h : j < C) : o.A[j]? = some (.int k (o.z j)) := by simp [Flat.A, h]
theorem Flat.one {C : Nat} {k : IntKind} (o : Flat C k) : o.A.all (·.oneCell') = true := by
  rw [Array.all_eq_true_iff_forall_mem]
  intro v hv
  simp only [Flat.A, List.mem_toArray, List.mem_map] at hv
  obtain ⟨j, _, rfl⟩ := hv
  rfl
theorem Flat.open_ {C : Nat} {k : IntKind} (z : Nat → Int) (h : ∀ j, j < C → (Lit.int ((List.replicate C k).getD j .i64) (z j)).wf = true) : ∃ o : Flat C k, o.A = (RL.cellsL (List.replicate C k) C z).toArray := by
  have hg : ∀ j, j < C → (List.replicate C k).getD j .i64 = k := fun j hj => by simp [hj]
  refine ⟨⟨z, fun j hj => by rw [← hg j hj]; exact h j hj⟩, ?_⟩
  unfold Flat.A RL.cellsL
  congr 1
  apply List.map_congr_left
  intro j hj
  rw [hg j (by simpa using hj)]
abbrev O26 := Flat 258 .i8
abbrev O30 := Flat 258 .i8
abbrev O28 := Flat 256 .u8
abbrev O32 := Flat 256 .u8
abbrev VO26 (o : O26) : Value := .agg o.A
abbrev VO30 (o : O30) : Value := .agg o.A
abbrev VO28 (o : O28) : Value := .agg o.A
abbrev VO32 (o : O32) : Value := .agg o.A
abbrev KSO26 : List IntKind := List.replicate 258 .i8
abbrev KSO28 : List IntKind := List.replicate 256 .u8
theorem openO26 (z : Nat → Int) (h : ∀ j, j < 258 → (Lit.int (KSO26.getD j .i64) (z j)).wf = true) : ∃ o : O26, VO26 o = .agg (RL.cellsL KSO26 258 z).toArray := by
  obtain ⟨o, h⟩ := Flat.open_ z h; exact ⟨o, by rw [← h]⟩
theorem openO28 (z : Nat → Int) (h : ∀ j, j < 256 → (Lit.int (KSO28.getD j .i64) (z j)).wf = true) : ∃ o : O28, VO28 o = .agg (RL.cellsL KSO28 256 z).toArray := by
  obtain ⟨o, h⟩ := Flat.open_ z h; exact ⟨o, by rw [← h]⟩
theorem szO26 (b : Flat 258 .i8) : (Try.prog.info? 26).map (·.size) = some b.A.size := by
  rw [Flat.size]; kernel_rfl
theorem szO30 (b : Flat 258 .i8) : (Try.prog.info? 30).map (·.size) = some b.A.size := by
  rw [Flat.size]; kernel_rfl
theorem szO28 (b : Flat 256 .u8) : (Try.prog.info? 28).map (·.size) = some b.A.size := by
  rw [Flat.size]; kernel_rfl
theorem szO32 (b : Flat 256 .u8) : (Try.prog.info? 32).map (·.size) = some b.A.size := by
  rw [Flat.size]; kernel_rfl
end Go.Proofs.Ytagffdhfcgcnoaa.G
end
section
namespace Go.Proofs.Ytagffdhfcgcnoaa.G
open Go.RowKit Go.Proofs.YtagffdhfcgcnoaaW.PrintWords Go.Proofs.YtagffdhfcgcnoaaW.PrintLast Go.Proofs.YtagffdhfcgcnoaaW.PrintMore
attribute [local go_sem] max2_int min2_int max_two min_two max_three min_three max_four min_four   -- for this text's walks alone
set_option linter.unusedVariables false
set_option linter.unusedSimpArgs false
def errW : Option Int → Value
  | none => .nilIface
  | some c => .iface 0 (.int .i64 c)
theorem errW_none : errW none = .nilIface := rfl
theorem errW_some (c : Int) : errW (some c) = .iface 0 (.int .i64 c) := rfl
end Go.Proofs.Ytagffdhfcgcnoaa.G
end
section
namespace Go.Proofs.Ytagffdhfcgcnoaa.G
open Go.RowKit Go.Proofs.YtagffdhfcgcnoaaW.PrintWords Go.Proofs.YtagffdhfcgcnoaaW.PrintLast Go.Proofs.YtagffdhfcgcnoaaW.PrintMore
attribute [local go_sem] max2_int min2_int max_two min_two max_three min_three max_four min_four   -- for this text's walks alone
set_option linter.unusedVariables false
set_option linter.unusedSimpArgs false
mutual
def spec_l07Letters.l0 : Nat → ByteArray → ByteArray → Int → O30 → O32 → Option (ByteArray)
  | 0, _, _, _, _, _ => none
  | k + 1, x5, x6, x7, x102000, x103000 => if x7 < (x102000.z 1) then (spec_l07Letters.l1 k x5 x6 x7 0 x102000 x103000) else (some x6)
def spec_l07Letters.l1 : Nat → ByteArray → ByteArray → Int → Int → O30 → O32 → Option (ByteArray)
  | 0, _, _, _, _, _, _ => none
  | k + 1, x5, x6, x7, x8, x102000, x103000 => if x8 < (x102000.z 0) then (if 0 ≤ x7 then (if x7 < 16 then (if 0 ≤ x8 then (if x8 < 16 then (if 0 ≤ (wrap64 (x103000.z (x7.toNat * 16 + x8.toNat))) then (if (wrap64 (x103000.z (x7.toNat * 16 + x8.toNat))) ≤ (wrap64 ((wrap64 (x103000.z (x7.toNat * 16 + x8.toNat))) + 1)) then (if (wrap64 ((wrap64 (x103000.z (x7.toNat * 16 + x8.toNat))) + 1)) ≤ (x5.size : Int) then (if x6.size + (x5.extract ((wrap64 (x103000.z (x7.toNat * 16 + x8.toNat))) : Int).toNat ((wrap64 ((wrap64 (x103000.z (x7.toNat * 16 + x8.toNat))) + 1)) : Int).toNat).size ≤ 9223372036854775807 then (spec_l07Letters.l1 k x5 (x6 ++ (x5.extract ((wrap64 (x103000.z (x7.toNat * 16 + x8.toNat))) : Int).toNat ((wrap64 ((wrap64 (x103000.z (x7.toNat * 16 + x8.toNat))) + 1)) : Int).toNat)) x7 (IntKind.i8.wrap (x8 + 1)) x102000 x103000) else (none)) else (none)) else (none)) else (none)) else (none)) else (none)) else (none)) else (none)) else (if x6.size + 1 ≤ 9223372036854775807 then (spec_l07Letters.l0 k x5 (x6 ++ (⟨#[10]⟩ : ByteArray)) (IntKind.i8.wrap (x7 + 1)) x102000 x103000) else (none))
end
def spec_l07Letters.f (k : Nat) (a0 : O30) (a1 : O32) : Option (ByteArray) := spec_l07Letters.l0 k (⟨#[109, 115, 99, 114]⟩ : ByteArray) (⟨#[]⟩ : ByteArray) 0 a0 a1
theorem spec_l07Letters.mono_l : ∀ k, (∀ y0 y1 y2 y3 y4, LeO (spec_l07Letters.l0 k y0 y1 y2 y3 y4) (spec_l07Letters.l0 (k + 1) y0 y1 y2 y3 y4)) ∧ (∀ y0 y1 y2 y3 y4 y5, LeO (spec_l07Letters.l1 k y0 y1 y2 y3 y4 y5) (spec_l07Letters.l1 (k + 1) y0 y1 y2 y3 y4 y5))
  | 0 => ⟨fun _ _ _ _ _ r h => by simp [spec_l07Letters.l0] at h, fun _ _ _ _ _ _ r h => by simp [spec_l07Letters.l1] at h⟩
  | k + 1 => by
    obtain ⟨ih0, ih1⟩ := spec_l07Letters.mono_l k
    refine ⟨?_, ?_⟩
    · intro y0 y1 y2 y3 y4
      unfold spec_l07Letters.l0
      repeat' first
      | (with_reducible exact ih0 _ _ _ _ _)
      | (with_reducible exact ih1 _ _ _ _ _ _)
      | (with_reducible exact LeO.refl _)
      | (with_reducible exact LeO.none _)
      | (with_reducible refine LeO.ite ?_ ?_)
      | (with_reducible refine LeO.bind ?_ (fun _ => ?_))
      | exact ih0 _ _ _ _ _
      | exact ih1 _ _ _ _ _ _
      | exact LeO.none _
      | refine LeO.ite ?_ ?_
      | refine LeO.bind ?_ (fun _ => ?_)
    · intro y0 y1 y2 y3 y4 y5
      unfold spec_l07Letters.l1
      repeat' first
      | (with_reducible exact ih0 _ _ _ _ _)
      | (with_reducible exact ih1 _ _ _ _ _ _)
      | (with_reducible exact LeO.refl _)
      | (with_reducible exact LeO.none _)
      | (with_reducible refine LeO.ite ?_ ?_)
      | (with_reducible refine LeO.bind ?_ (fun _ => ?_))
      | exact ih0 _ _ _ _ _
      | exact ih1 _ _ _ _ _ _
      | exact LeO.none _
      | refine LeO.ite ?_ ?_
      | refine LeO.bind ?_ (fun _ => ?_)
theorem spec_l07Letters.mono : ∀ a0 a1 k, LeO (spec_l07Letters.f k a0 a1) (spec_l07Letters.f (k + 1) a0 a1) := by
  intro a0 a1 k
  obtain ⟨ih0, ih1⟩ := spec_l07Letters.mono_l k
  unfold spec_l07Letters.f
  repeat' first
      | (with_reducible exact ih0 _ _ _ _ _)
      | (with_reducible exact ih1 _ _ _ _ _ _)
      | (with_reducible exact LeO.refl _)
      | (with_reducible exact LeO.none _)
      | (with_reducible refine LeO.ite ?_ ?_)
      | (with_reducible refine LeO.bind ?_ (fun _ => ?_))
      | exact ih0 _ _ _ _ _
      | exact ih1 _ _ _ _ _ _
      | exact LeO.none _
      | refine LeO.ite ?_ ?_
      | refine LeO.bind ?_ (fun _ => ?_)
set_option maxHeartbeats 8000000 in
set_option maxRecDepth 100000 in
theorem spec_l07Letters.calls (k : Nat) (gp0 : Nat) (a0 : O30) (gp1 : Nat) (a1 : O32) (r : ByteArray) (w : World) (hp0 : w.heap[gp0]? = some (.cells (a0).A 30 (0, 0))) (hp1 : w.heap[gp1]? = some (.cells (a1).A 32 (0, 0))) (h : spec_l07Letters.f k a0 a1 = some r) :
    Calls Try.prog 9 #[.pointer (some ⟨gp0, 0, none⟩), .pointer (some ⟨gp1, 0, none⟩)] w fun e w' => e = .returned (.string r) ∧ Below w.heap.size w w' := by
  have BK101 := Aside0.mk hp0
  clear hp0
  have BK102 := Aside0.mk hp1
  clear hp1
  have HB := Aside0.mk (Below.refl w.heap.size w)
  have H : (spec_l07Letters.l0 k (⟨#[109, 115, 99, 114]⟩ : ByteArray) (⟨#[]⟩ : ByteArray) 0 a0 a1) = some r := h
  clear h
  have H' := Aside0.mk H
  clear H
  go_enter Try.func9, Try.ntmps9
  go_wp2
  go_loopg [6, 7] k (fun kq v6 v7 w' => ∃ (x6_1 : ByteArray) (x7_1 : Int), v6 = .string x6_1 ∧ v7 = .int .i8 x7_1 ∧ Aside0 (spec_l07Letters.l0 kq (⟨#[109, 115, 99, 114]⟩ : ByteArray) x6_1 x7_1 a0 a1 = some r) ∧ Aside0 (kq ≤ k) ∧ Aside0 (w'.heap[gp0]? = some (.cells (a0).A 30 (0, 0))) ∧ Aside0 (w'.heap[gp1]? = some (.cells (a1).A 32 (0, 0))) ∧ Aside0 (Below w.heap.size w w'))
  case atStart => exact ⟨((⟨#[]⟩ : ByteArray)), (0), (by first | rfl | (simp; done) | (simp [*]; done)), (by first | rfl | (simp; done) | (simp [*]; done)), H', ⟨Nat.le_refl _⟩, ⟨by (with_reducible repeat (first | refine blk_drewN ?_ _ | refine blk_drew ?_ | refine blk_alloc ?_ _)); exact BK101.out⟩, ⟨by (with_reducible repeat (first | refine blk_drewN ?_ _ | refine blk_drew ?_ | refine blk_alloc ?_ _)); exact BK102.out⟩, ⟨by repeat (first | (with_reducible first | exact HB.out | apply below_alloc | apply pw_below_drewN | apply below_drew1 | refine below_set ?_ GE101.out | refine below_set ?_ GE102.out) | exact HB.out)⟩⟩
  case round =>
    clear H'
    try clear p1
    try clear p2
    obtain ⟨x6_1, x7_1, rfl, rfl, HA, HK1, BK101, BK102, HB⟩ := hrel
    cases gk with
    | zero => exact absurd HA.out (by simp [spec_l07Letters.l0])
    | succ k1 =>
      have H := HA.out
      clear HA
      simp only [spec_l07Letters.l0] at H
      by_cases c3 : x7_1 < (a0.z 1)
      · rw [if_pos c3] at H
        have c3b0 : decide (x7_1 < (a0.z 1)) = true := decide_eq_true c3
        clear c3
        have H' := Aside0.mk H
        clear H
        have hco101_0 : wr.cell? ⟨gp0, 0, none⟩ = some (.int .i8 (a0.z 0)) := AR.blk_cell BK101.out (Flat.at_ a0 (by decide))
        have hco101_1 : wr.cell? ⟨gp0, 1, none⟩ = some (.int .i8 (a0.z 1)) := AR.blk_cell BK101.out (Flat.at_ a0 (by decide))
        go_wp2
        go_loopg [6, 8] k1 (fun kq v6 v8 w' => ∃ (x6_2 : ByteArray) (x8_2 : Int), v6 = .string x6_2 ∧ v8 = .int .i8 x8_2 ∧ Aside0 (spec_l07Letters.l1 kq (⟨#[109, 115, 99, 114]⟩ : ByteArray) x6_2 x7_1 x8_2 a0 a1 = some r) ∧ Aside0 (kq ≤ k1) ∧ Aside0 (w'.heap[gp0]? = some (.cells (a0).A 30 (0, 0))) ∧ Aside0 (w'.heap[gp1]? = some (.cells (a1).A 32 (0, 0))) ∧ Aside0 (Below w.heap.size w w'))
        case atStart => exact ⟨(x6_1), (0), (by first | rfl | (simp; done) | (simp [*]; done)), (by first | rfl | (simp; done) | (simp [*]; done)), H', ⟨Nat.le_refl _⟩, ⟨by (with_reducible repeat (first | refine blk_drewN ?_ _ | refine blk_drew ?_ | refine blk_alloc ?_ _)); exact BK101.out⟩, ⟨by (with_reducible repeat (first | refine blk_drewN ?_ _ | refine blk_drew ?_ | refine blk_alloc ?_ _)); exact BK102.out⟩, ⟨by repeat (first | (with_reducible first | exact HB.out | apply below_alloc | apply pw_below_drewN | apply below_drew1 | refine below_set ?_ GE101.out | refine below_set ?_ GE102.out) | exact HB.out)⟩⟩
        case round =>
          clear H'
          try clear p1
          try clear p2
          try clear c3
          try clear c3b0
          try clear p1
          try clear p2
          obtain ⟨x6_2, x8_2, rfl, rfl, HA, HK2, BK101, BK102, HB⟩ := hrel
          cases gk with
          | zero => exact absurd HA.out (by simp [spec_l07Letters.l1])
          | succ k2 =>
            have H := HA.out
            clear HA
            simp only [spec_l07Letters.l1] at H
            by_cases c4 : x8_2 < (a0.z 0)
            · rw [if_pos c4] at H
              have c4b0 : decide (x8_2 < (a0.z 0)) = true := decide_eq_true c4
              clear c4
              by_cases c5 : 0 ≤ x7_1
              · rw [if_pos c5] at H
                have c5b0 : decide (0 ≤ x7_1) = true := decide_eq_true c5
                clear c5
                by_cases c6 : x7_1 < 16
                · rw [if_pos c6] at H
                  have c6b0 : decide (x7_1 < 16) = true := decide_eq_true c6
                  clear c6
                  by_cases c8 : 0 ≤ x8_2
                  · rw [if_pos c8] at H
                    have c8b0 : decide (0 ≤ x8_2) = true := decide_eq_true c8
                    clear c8
                    by_cases c9 : x8_2 < 16
                    · rw [if_pos c9] at H
                      have c9b0 : decide (x8_2 < 16) = true := decide_eq_true c9
                      clear c9
                      obtain ⟨ji11, hji11⟩ : ∃ j_ : Int, (wrap64 (a1.z (x7_1.toNat * 16 + x8_2.toNat))) = j_ := ⟨_, rfl⟩
                      replace H : (if 0 ≤ (ji11) then (if (ji11) ≤ (wrap64 ((ji11) + 1)) then (if (wrap64 ((ji11) + 1)) ≤ ((⟨#[109, 115, 99, 114]⟩ : ByteArray).size : Int) then (if x6_2.size + ((⟨#[109, 115, 99, 114]⟩ : ByteArray).extract ((ji11) : Int).toNat ((wrap64 ((ji11) + 1)) : Int).toNat).size ≤ 9223372036854775807 then (spec_l07Letters.l1 k2 (⟨#[109, 115, 99, 114]⟩ : ByteArray) (x6_2 ++ ((⟨#[109, 115, 99, 114]⟩ : ByteArray).extract ((ji11) : Int).toNat ((wrap64 ((ji11) + 1)) : Int).toNat)) x7_1 (IntKind.i8.wrap (x8_2 + 1)) a0 a1) else (none)) else (none)) else (none)) else (none)) = some r := by first | (rw [hji11] at H; exact H) | (simp only [hji11] at H ⊢; exact H)
                      have hji11w : (IntKind.i64.wrap (a1.z (x7_1.toNat * 16 + x8_2.toNat))) = ji11 := (i64_w _).trans hji11
                      by_cases c12 : 0 ≤ (ji11)
                      · rw [if_pos c12] at H
                        have c12b0 := eq_true c12
                        have c12b1 : decide (0 ≤ (ji11)) = true := decide_eq_true c12
                        clear c12
                        by_cases c13 : (ji11) ≤ (wrap64 ((ji11) + 1))
                        · rw [if_pos c13] at H
                          have c13b0 := eq_true c13
                          have c13b1 : decide ((ji11) ≤ (wrap64 ((ji11) + 1))) = true := decide_eq_true c13
                          by_cases c14 : (wrap64 ((ji11) + 1)) ≤ ((⟨#[109, 115, 99, 114]⟩ : ByteArray).size : Int)
                          · rw [if_pos c14] at H
                            have c14b0 := eq_true c14
                            have c14b9 : ((wrap64 ((ji11) + 1)) ≤ 4) = True := eq_true c14
                            have c14b1 : decide ((wrap64 ((ji11) + 1)) ≤ ((⟨#[109, 115, 99, 114]⟩ : ByteArray).size : Int)) = true := decide_eq_true c14
                            by_cases c15 : x6_2.size + ((⟨#[109, 115, 99, 114]⟩ : ByteArray).extract ((ji11) : Int).toNat ((wrap64 ((ji11) + 1)) : Int).toNat).size ≤ 9223372036854775807
                            · rw [if_pos c15] at H
                              have c15b0 := eq_true c15
                              have c15b1 : decide (x6_2.size + ((⟨#[109, 115, 99, 114]⟩ : ByteArray).extract ((ji11) : Int).toNat ((wrap64 ((ji11) + 1)) : Int).toNat).size ≤ 9223372036854775807) = true := decide_eq_true c15
                              try have c15b2 : (9223372036854775807 < x6_2.size + ((⟨#[109, 115, 99, 114]⟩ : ByteArray).extract ((ji11) : Int).toNat ((wrap64 ((ji11) + 1)) : Int).toNat).size) = False := eq_false (Nat.not_lt.2 c15)
                              have H' := Aside0.mk H
                              clear H
                              have hco101_0 : wr.cell? ⟨gp0, 0, none⟩ = some (.int .i8 (a0.z 0)) := AR.blk_cell BK101.out (Flat.at_ a0 (by decide))
                              have hco101_1 : wr.cell? ⟨gp0, 1, none⟩ = some (.int .i8 (a0.z 1)) := AR.blk_cell BK101.out (Flat.at_ a0 (by decide))
                              have p7 : 0 ≤ (x7_1 : Int) := of_decide_eq_true (by first | (with_reducible assumption) | assumption)
                              have q7 : (x7_1 : Int) < (16 : Int) := of_decide_eq_true (by first | (with_reducible assumption) | assumption)
                              replace p7 := eq_true p7
                              replace q7 := eq_true q7
                              have p10 : 0 ≤ (x8_2 : Int) := of_decide_eq_true (by first | (with_reducible assumption) | assumption)
                              have q10 : (x8_2 : Int) < (16 : Int) := of_decide_eq_true (by first | (with_reducible assumption) | assumption)
                              replace p10 := eq_true p10
                              replace q10 := eq_true q10
                              have hco102_v103 : wr.cell? ⟨gp1, x7_1.toNat * 16 + x8_2.toNat, none⟩ = some (.int .u8 (a1.z (x7_1.toNat * 16 + x8_2.toNat))) := AR.blk_cell BK102.out (Flat.at_ a1 (by first | decide | (have hb0_ : 0 ≤ (x7_1 : Int) := (by first | omega | exact of_decide_eq_true (by first | (with_reducible assumption) | assumption)); have hc0_ : (x7_1 : Int) < 16 := (by first | omega | exact of_decide_eq_true (by first | (with_reducible assumption) | assumption)); have hb1_ : 0 ≤ (x8_2 : Int) := (by first | omega | exact of_decide_eq_true (by first | (with_reducible assumption) | assumption)); have hc1_ : (x8_2 : Int) < 16 := (by first | omega | exact of_decide_eq_true (by first | (with_reducible assumption) | assumption)); omega)))
                              go_wp2
                              go_roundg k2
                              case measure => have := HK1.out; have := HK2.out; omega
                              case rel => exact ⟨(x6_2 ++ ((⟨#[109, 115, 99, 114]⟩ : ByteArray).extract ((ji11) : Int).toNat ((wrap64 ((ji11) + 1)) : Int).toNat)), (IntKind.i8.wrap (x8_2 + 1)), (by first | rfl | (simp; done) | (simp only [← hji11] <;> (first | rfl | simp)) | (simp [*]; done)), (by first | rfl | (simp; done) | (simp [*]; done)), H', ⟨by have := HK1.out; have := HK2.out; omega⟩, ⟨by (with_reducible repeat (first | refine blk_drewN ?_ _ | refine blk_drew ?_ | refine blk_alloc ?_ _)); exact BK101.out⟩, ⟨by (with_reducible repeat (first | refine blk_drewN ?_ _ | refine blk_drew ?_ | refine blk_alloc ?_ _)); exact BK102.out⟩, ⟨by repeat (first | (with_reducible first | exact HB.out | apply below_alloc | apply pw_below_drewN | apply below_drew1 | refine below_set ?_ GE101.out | refine below_set ?_ GE102.out) | exact HB.out)⟩⟩
                            · rw [if_neg c15] at H
                              exact absurd H (by simp)
                          · rw [if_neg c14] at H
                            exact absurd H (by simp)
                        · rw [if_neg c13] at H
                          exact absurd H (by simp)
                      · rw [if_neg c12] at H
                        exact absurd H (by simp)
                    · rw [if_neg c9] at H
                      exact absurd H (by simp)
                  · rw [if_neg c8] at H
                    exact absurd H (by simp)
                · rw [if_neg c6] at H
                  exact absurd H (by simp)
              · rw [if_neg c5] at H
                exact absurd H (by simp)
            · rw [if_neg c4] at H
              have c4b0 : decide (x8_2 < (a0.z 0)) = false := decide_eq_false c4
              clear c4
              by_cases c16 : x6_2.size + 1 ≤ 9223372036854775807
              · rw [if_pos c16] at H
                have c16b0 := eq_true c16
                have c16b1 : decide (x6_2.size + 1 ≤ 9223372036854775807) = true := decide_eq_true c16
                try have c16b2 : (9223372036854775807 < x6_2.size + 1) = False := eq_false (Nat.not_lt.2 c16)
                have H' := Aside0.mk H
                clear H
                have hco101_0 : wr.cell? ⟨gp0, 0, none⟩ = some (.int .i8 (a0.z 0)) := AR.blk_cell BK101.out (Flat.at_ a0 (by decide))
                have hco101_1 : wr.cell? ⟨gp0, 1, none⟩ = some (.int .i8 (a0.z 1)) := AR.blk_cell BK101.out (Flat.at_ a0 (by decide))
                go_wp2
                go_roundg k2
                case measure => have := HK1.out; have := HK2.out; omega
                case rel => exact ⟨(x6_2 ++ (⟨#[10]⟩ : ByteArray)), (IntKind.i8.wrap (x7_1 + 1)), (by first | rfl | (simp; done) | (simp [*]; done)), (by first | rfl | (simp; done) | (simp [*]; done)), H', ⟨by have := HK1.out; have := HK2.out; omega⟩, ⟨by (with_reducible repeat (first | refine blk_drewN ?_ _ | refine blk_drew ?_ | refine blk_alloc ?_ _)); exact BK101.out⟩, ⟨by (with_reducible repeat (first | refine blk_drewN ?_ _ | refine blk_drew ?_ | refine blk_alloc ?_ _)); exact BK102.out⟩, ⟨by repeat (first | (with_reducible first | exact HB.out | apply below_alloc | apply pw_below_drewN | apply below_drew1 | refine below_set ?_ GE101.out | refine below_set ?_ GE102.out) | exact HB.out)⟩⟩
              · rw [if_neg c16] at H
                exact absurd H (by simp)
      · rw [if_neg c3] at H
        have c3b0 : decide (x7_1 < (a0.z 1)) = false := decide_eq_false c3
        clear c3
        obtain rfl := Option.some.inj H
        have hco101_0 : wr.cell? ⟨gp0, 0, none⟩ = some (.int .i8 (a0.z 0)) := AR.blk_cell BK101.out (Flat.at_ a0 (by decide))
        have hco101_1 : wr.cell? ⟨gp0, 1, none⟩ = some (.int .i8 (a0.z 1)) := AR.blk_cell BK101.out (Flat.at_ a0 (by decide))
        go_wp2
        go_ret
        exact ⟨by first | rfl | (simp [errW_none, errW_some] <;> rfl) | (simp [*, errW_none, errW_some] <;> rfl), by repeat (first | (with_reducible first | exact HB.out | apply below_alloc | apply pw_below_drewN | apply below_drew1 | refine below_set ?_ GE101.out | refine below_set ?_ GE102.out) | exact HB.out)⟩
end Go.Proofs.Ytagffdhfcgcnoaa.G
end
section
namespace Go.Proofs.Ytagffdhfcgcnoaa.M
def inB (n lo hi : Int) : Bool := decide (lo ≤ n) && decide (n ≤ hi)
theorem inB_true {n lo hi : Int} (h : inB n lo hi = true) : lo ≤ n ∧ n ≤ hi := by simpa [inB] using h
end Go.Proofs.Ytagffdhfcgcnoaa.M
end
section
namespace Go.Proofs.Ytagffdhfcgcnoaa.G
open Go.RowKit Go.Proofs.YtagffdhfcgcnoaaW.PrintWords Go.Proofs.YtagffdhfcgcnoaaW.PrintLast Go.Proofs.YtagffdhfcgcnoaaW.PrintMore AR M
set_option linter.unusedVariables false
set_option linter.unusedSimpArgs false
def isP (b : Flat 258 .i8) (x y : Int) : Bool := decide (0 ≤ x) && decide (x < b.z 0) && decide (0 ≤ y) && decide (y < b.z 1)
def dep (b : Flat 258 .i8) (x y : Int) : Int := b.z (2 + y.toNat * 16 + x.toNat)
end Go.Proofs.Ytagffdhfcgcnoaa.G
end
section
namespace Go.Proofs.Ytagffdhfcgcnoaa.G
open Go.RowKit Go.Proofs.YtagffdhfcgcnoaaW.PrintWords Go.Proofs.YtagffdhfcgcnoaaW.PrintLast Go.Proofs.YtagffdhfcgcnoaaW.PrintMore AR M
set_option linter.unusedVariables false
set_option linter.unusedSimpArgs false
theorem in_any (n lo hi : Int) (w : World) : Calls Try.prog 17 #[.int .i64 n, .int .i64 lo, .int .i64 hi] w fun e w' => e = .returned (.bool (inB n lo hi)) ∧ w = w' := by
  by_cases h1 : lo ≤ n
  · have h1b : decide (lo ≤ n) = true := decide_eq_true h1
    clear h1
    go_enter Try.func17, Try.ntmps17
    go_wp2
    go_ret
    exact ⟨by simp [inB, h1b], rfl⟩
  · have h1b : decide (lo ≤ n) = false := decide_eq_false h1
    clear h1
    go_enter Try.func17, Try.ntmps17
    go_wp2
    go_ret
    exact ⟨by simp [inB, h1b], rfl⟩
theorem in_q {n lo hi : Int} {b : Bool} (h : inB n lo hi = b) (w : World) (m : Nat) : Calls Try.prog 17 #[.int .i64 n, .int .i64 lo, .int .i64 hi] (w.drewN m) fun e w'' => e = .returned (.bool b) ∧ ∃ m, w'' = w.drewN m := by
  rw [← h]; exact (in_any n lo hi _).mono fun _ _ ⟨he, hw⟩ => ⟨he, m, hw.symm⟩
theorem in_b {n lo hi : Int} {b : Bool} (h : inB n lo hi = b) (w : World) : Calls Try.prog 17 #[.int .i64 n, .int .i64 lo, .int .i64 hi] w fun e w'' => e = .returned (.bool b) ∧ w = w'' := by
  rw [← h]; exact in_any n lo hi _
def BayAt (w : World) (g : Nat) (b : Flat 258 .i8) : Prop := w.heap[g]? = some (.cells b.A 30 (0, 0))
def GroundsAt (w : World) (g : Nat) (d : Flat 256 .u8) : Prop := w.heap[g]? = some (.cells d.A 32 (0, 0))
theorem BayAt.below {w w1 : World} {g : Nat} {b : Flat 258 .i8} (h : BayAt w g b) (hb : Below w.heap.size w w1) : BayAt w1 g b := blkB h hb
theorem GroundsAt.below {w w1 : World} {g : Nat} {d : Flat 256 .u8} (h : GroundsAt w g d) (hb : Below w.heap.size w w1) : GroundsAt w1 g d := blkB h hb
theorem BayAt.cell {w : World} {g : Nat} {b : Flat 258 .i8} (h : BayAt w g b) {j : Nat} (hj : j < 258) : w.cell? ⟨g, j, none⟩ = some (.int .i8 (b.z j)) := blk_cell h (b.at_ hj)
theorem GroundsAt.cell {w : World} {g : Nat} {d : Flat 256 .u8} (h : GroundsAt w g d) {j : Nat} (hj : j < 256) : w.cell? ⟨g, j, none⟩ = some (.int .u8 (d.z j)) := blk_cell h (d.at_ hj)
theorem isP_in (b : Flat 258 .i8) (x y : Int) : isP b x y = (inB x 0 (b.z 0 - 1) && inB y 0 (b.z 1 - 1)) := by
  rw [Bool.eq_iff_iff]; simp [isP, inB]; omega
theorem is_any (g : Nat) (b : Flat 258 .i8) (x y : Int) (w : World) (hB : BayAt w g b) (hx : -128 ≤ x ∧ x ≤ 127) (hy : -128 ≤ y ∧ y ≤ 127) :
    Calls Try.prog 14 #[.pointer (some ⟨g, 0, none⟩), .agg #[.int .i8 x, .int .i8 y]] w fun e w' => e = .returned (.bool (isP b x y)) ∧ Below w.heap.size w w' := by
  obtain ⟨x0, x1⟩ := hx
  obtain ⟨y0, y1⟩ := hy
  obtain ⟨a0, a1⟩ := bounds_i8 (b.ok 0 (by omega))
  obtain ⟨b0, b1⟩ := bounds_i8 (b.ok 1 (by omega))
  have BB := Lib.hid hB
  cases e1 : inB x 0 (b.z 0 - 1) <;> cases e2 : inB y 0 (b.z 1 - 1)
  all_goals
    have HV := Lib.hid (isP_in b x y)
    have HQ1 := Lib.hid (fun W m => in_q e1 W m)
    have HQ2 := Lib.hid (fun W m => in_q e2 W m)
    have E1 := Lib.hid e1; have E2 := Lib.hid e2
    clear e1 e2 hB
    go_enter Try.func14, Try.ntmps14
    go_wp2_with ((with_reducible refine gate_box (t := 45) rfl ?_); refine wpList_box_ev rfl _ _ rfl #[.int .i8 x, .int .i8 y] rfl ?_; intro gp w1 hgp hbp hb1; have t0 := blk_cell (j := 0) hbp rfl; have t1 := blk_cell (j := 1) hbp rfl; have c0 := BayAt.cell (BB.out.below hb1) (j := 0) (by omega); have c1 := BayAt.cell (BB.out.below hb1) (j := 1) (by omega); have HB := Lib.hid hb1; clear hb1 hbp hgp)
    go_quiet ((go_at_call 17; first | (with_reducible exact HQ1.out _ _) | (with_reducible exact HQ2.out _ _)))
    go_wp2
    go_ret
    exact ⟨by rw [HV.out, E1.out, E2.out]; rfl, by first | exact HB.out | exact pw_below_drewN HB.out _⟩
end Go.Proofs.Ytagffdhfcgcnoaa.G
end
section
namespace Go.Proofs.Ytagffdhfcgcnoaa.G
open Go.RowKit Go.Proofs.YtagffdhfcgcnoaaW.PrintWords Go.Proofs.YtagffdhfcgcnoaaW.PrintLast Go.Proofs.YtagffdhfcgcnoaaW.PrintMore AR M
set_option linter.unusedVariables false
set_option linter.unusedSimpArgs false
def okD (b : Flat 258 .i8) (y x : Nat) : Bool := inB (dep b x y) 0 30 && (dep b x y == 0 || isP b x y)
def allB (P : Nat → Nat → Bool) : Bool := (List.range 16).all fun y => (List.range 16).all fun x => P y x
theorem allB_iff {P : Nat → Nat → Bool} : allB P = true ↔ ∀ y, y < 16 → ∀ x, x < 16 → P y x = true := by
  simp only [allB, List.all_eq_true, List.mem_range]
theorem allB_no {P : Nat → Nat → Bool} {y x : Nat} (hy : y < 16) (hx : x < 16) (h : P y x = false) : allB P = false := by
  rw [← Bool.not_eq_true, allB_iff]
  exact fun hh => by rw [hh y hy x hx] at h; exact absurd h (by decide)
def bayB (b : Flat 258 .i8) : Bool := inB (b.z 0) 1 16 && inB (b.z 1) 1 16 && allB (okD b)
theorem bayB_true {b : Flat 258 .i8} (h : bayB b = true) : (1 ≤ b.z 0 ∧ b.z 0 ≤ 16) ∧ (1 ≤ b.z 1 ∧ b.z 1 ≤ 16) ∧ ∀ y, y < 16 → ∀ x, x < 16 → okD b y x = true := by
  unfold bayB at h
  rw [Bool.and_eq_true, Bool.and_eq_true] at h
  exact ⟨inB_true h.1.1, inB_true h.1.2, allB_iff.1 h.2⟩
theorem bayB_ok {b : Flat 258 .i8} (h1 : inB (b.z 0) 1 16 = true) (h2 : inB (b.z 1) 1 16 = true) (h : ∀ y, y < 16 → ∀ x, x < 16 → okD b y x = true) : bayB b = true := by
  unfold bayB
  rw [h1, h2, allB_iff.2 h]; rfl
theorem bayB_no {b : Flat 258 .i8} {y x : Nat} (hy : y < 16) (hx : x < 16) (h : okD b y x = false) : bayB b = false := by
  unfold bayB
  rw [allB_no hy hx h, Bool.and_false]
theorem dep_nat (b : Flat 258 .i8) (y x : Nat) : dep b x y = b.z (2 + y * 16 + x) := by simp [dep]
theorem next_row {y : Nat} {P : Nat → Nat → Bool} (h0 : ∀ j, j < y → ∀ x, x < 16 → P j x = true) (h1 : ∀ j, j < 16 → P y j = true) : ∀ j, j < y + 1 → ∀ x, x < 16 → P j x = true := by
  intro j hj x hx
  by_cases e : j = y
  · subst e; exact h1 x hx
  · exact h0 j (by omega) x hx
theorem next_one {x : Nat} {P : Nat → Bool} (h0 : ∀ j, j < x → P j = true) (h1 : P x = true) : ∀ j, j < x + 1 → P j = true := by
  intro j hj
  by_cases e : j = x
  · subst e; exact h1
  · exact h0 j (by omega)
theorem l01Bay_any (g : Nat) (b : Flat 258 .i8) (w : World) (hB : BayAt w g b) :
    Calls Try.prog 13 #[.pointer (some ⟨g, 0, none⟩)] w fun e w' => e = .returned (.bool (bayB b)) ∧ Below w.heap.size w w' := by
  obtain ⟨a0, a1⟩ := bounds_i8 (b.ok 0 (by omega))
  obtain ⟨b0, b1⟩ := bounds_i8 (b.ok 1 (by omega))
  have c0 := hB.cell (j := 0) (by omega)
  have c1 := hB.cell (j := 1) (by omega)
  have BB := Lib.hid hB
  cases e1 : inB (b.z 0) 1 16
  · have HV := Lib.hid (show bayB b = false by unfold bayB; rw [e1]; rfl)
    have HQ1 := Lib.hid (fun W => in_b e1 W)
    clear e1 hB
    go_enter Try.func13, Try.ntmps13
    go_wp2_with (go_at_call 17; refine (HQ1.out _).mono ?_; rintro e w' ⟨rfl, rfl⟩)
    go_ret
    exact ⟨by rw [HV.out]; rfl, Below.refl _ _⟩
  · cases e2 : inB (b.z 1) 1 16
    · have HV := Lib.hid (show bayB b = false by unfold bayB; rw [e1, e2]; rfl)
      have HQ1 := Lib.hid (fun W => in_b e1 W)
      have HQ2 := Lib.hid (fun W => in_b e2 W)
      clear e1 e2 hB
      go_enter Try.func13, Try.ntmps13
      go_wp2_with (go_at_call 17; (first | (with_reducible refine (HQ1.out _).mono ?_) | (with_reducible refine (HQ2.out _).mono ?_)); rintro e w' ⟨rfl, rfl⟩)
      go_ret
      exact ⟨by rw [HV.out]; rfl, Below.refl _ _⟩
    · have HE := Lib.hid (And.intro e1 e2)
      have HQ1 := Lib.hid (fun W => in_b e1 W)
      have HQ2 := Lib.hid (fun W => in_b e2 W)
      clear e1 e2 hB
      go_enter Try.func13, Try.ntmps13
      go_wp2_with (go_at_call 17; (first | (with_reducible refine (HQ1.out _).mono ?_) | (with_reducible refine (HQ2.out _).mono ?_)); rintro e w' ⟨rfl, rfl⟩)
      clear c0 c1 a0 a1 b0 b1 HQ1 HQ2
      go_loopw [3] (fun i wr => ∃ y : Nat, y ≤ 16 ∧ i = .int .i8 y ∧ Hid (∀ j, j < y → ∀ x, x < 16 → okD b j x = true) ∧ Hid (Below w.heap.size w wr)) (fun i _ => 16 - (intOf i).toNat)
      case atStart => exact ⟨0, Nat.zero_le _, rfl, fun j h => absurd h (by omega), Below.refl _ _⟩
      case round =>
        obtain ⟨y, hy, rfl, HN, HD⟩ := hrel
        by_cases hlt : y < 16
        · have i0 : (y : Int) < 16 := by omega
          have i1 : (0 : Int) ≤ (y : Int) := by omega
          obtain ⟨wo, rfl⟩ : ∃ wo : World, wo = wr := ⟨_, rfl⟩
          go_wp2
          go_loopw [4] (fun i wr => ∃ x : Nat, x ≤ 16 ∧ i = .int .i8 x ∧ Hid (∀ j, j < x → okD b y j = true) ∧ Hid (Below w.heap.size w wr)) (fun i _ => 16 - (intOf i).toNat)
          case atStart => exact ⟨0, Nat.zero_le _, rfl, fun j h => absurd h (by omega), HD.out⟩
          case round =>
            obtain ⟨x, hx, rfl, HN1, HD1⟩ := hrel
            by_cases hlx : x < 16
            · have j0 : (x : Int) < 16 := by omega
              have j1 : (0 : Int) ≤ (x : Int) := by omega
              have BW := Lib.hid (BB.out.below HD1.out)
              have cd := BW.out.cell (j := 2 + y * 16 + x) (by omega)
              obtain ⟨d0, d1⟩ := bounds_i8 (b.ok (2 + y * 16 + x) (by omega))
              have HP := Lib.hid (dep_nat b y x)
              generalize b.z (2 + y * 16 + x) = d at cd d0 d1 HP
              cases e3 : inB d 0 30
              · have HH := Lib.hid (bayB_no hlt hlx (show okD b y x = false by unfold okD; rw [HP.out, e3]; rfl))
                have HQ := Lib.hid (fun W => in_b e3 W)
                clear e3
                go_wp2_with (go_at_call 17; refine (HQ.out _).mono ?_; rintro e w' ⟨rfl, rfl⟩)
                go_ret
                exact ⟨by rw [HH.out]; rfl, HD1.out⟩
              · cases e4 : (d == 0)
                · have e4' : (d != 0) = true := by simp only [bne, e4]; rfl
                  cases e5 : isP b x y
                  · have HH := Lib.hid (bayB_no hlt hlx (show okD b y x = false by unfold okD; rw [HP.out, e3, e4, e5]; rfl))
                    have HQ := Lib.hid (fun W => in_b e3 W)
                    have HI := Lib.hid (e5 ▸ is_any g b x y wr BW.out (by omega) (by omega))
                    clear e3 e5
                    go_wp2_with (first | (go_at_call 17; refine (HQ.out _).mono ?_; rintro e w' ⟨rfl, rfl⟩) | (go_at_call 14; refine HI.out.mono ?_; rintro e w1 ⟨rfl, hb⟩; have HB1 := Lib.hid (below_join HD1.out hb); clear hb))
                    go_ret
                    exact ⟨by rw [HH.out]; rfl, HB1.out⟩
                  · have HH := Lib.hid (show okD b y x = true by unfold okD; rw [HP.out, e3, e4, e5]; rfl)
                    have HQ := Lib.hid (fun W => in_b e3 W)
                    have HI := Lib.hid (e5 ▸ is_any g b x y wr BW.out (by omega) (by omega))
                    clear e3 e5
                    go_wp2_with (first | (go_at_call 17; refine (HQ.out _).mono ?_; rintro e w' ⟨rfl, rfl⟩) | (go_at_call 14; refine HI.out.mono ?_; rintro e w1 ⟨rfl, hb⟩; have HB1 := Lib.hid (below_join HD1.out hb); clear hb))
                    go_roundw
                    case rel => exact ⟨x + 1, by omega, by go_num, next_one HN1.out HH.out, HB1.out⟩
                    case measure => simp [intOf]; omega
                · have e4' : (d != 0) = false := by simp only [bne, e4]; rfl
                  have HH := Lib.hid (show okD b y x = true by unfold okD; rw [HP.out, e3, e4]; rfl)
                  have HQ := Lib.hid (fun W => in_b e3 W)
                  clear e3
                  go_wp2_with (go_at_call 17; refine (HQ.out _).mono ?_; rintro e w' ⟨rfl, rfl⟩)
                  go_roundw
                  case rel => exact ⟨x + 1, by omega, by go_num, next_one HN1.out HH.out, HD1.out⟩
                  case measure => simp [intOf]; omega
            · have HH := Lib.hid (next_row HN.out (fun j hj => HN1.out j (by omega)))
              have j0 : ¬ (x : Int) < 16 := by omega
              go_wp2
              go_roundw
              case rel => exact ⟨y + 1, by omega, by go_num, HH.out, HD1.out⟩
              case measure => simp [intOf]; omega
        · have HH := Lib.hid (bayB_ok HE.out.1 HE.out.2 (fun j hj => HN.out j (by omega)))
          have i0 : ¬ (y : Int) < 16 := by omega
          go_wp2
          go_ret
          exact ⟨by rw [HH.out]; rfl, HD.out⟩
end Go.Proofs.Ytagffdhfcgcnoaa.G
end
section
namespace Go.Proofs.Ytagffdhfcgcnoaa.AR
open Go.RowKit Go.Proofs.YtagffdhfcgcnoaaW.PrintWords
variable {P : Program} {ops : Array Oper} {rest : List Oper} {o : Oper} {a : Act} {Q : Exit → Act → World → Prop}
theorem run_store_row (w : World) (ty t2 : TypeId) (g n : Nat) (vs old : Array Value) (hg : w.heap[g]? = some (.cells old t2 (0, 0))) (hn : n + vs.size ≤ old.size) (h1 : vs.all (·.oneCell') = true) (hi : (P.info? ty).map (·.size) = some vs.size) :
    (storeVar ty ⟨g, n, none⟩ (.agg vs)).run P w = .ok () (w.setRow g (old.toList.take n ++ vs.toList ++ old.toList.drop (n + vs.size)).toArray) := by
  have hst := run_storeCells_at (P := P) g n t2 vs.toList 0 old w hg (by simpa using hn) (by
    intro v hv
    exact (Array.all_eq_true_iff_forall_mem.1 h1) v (by simpa using hv))
  cases hq : P.info? ty with
  | none => simp [hq] at hi
  | some i =>
    have hs : i.size = vs.size := by simpa [hq] using hi
    simp only [Nat.add_zero, Array.length_toList] at hst
    simp [storeVar, Sem.run_bind, sizeOf, typeInfo, hq, hs, Value.cells, hst]
theorem exec_store_row {w : World} {ty t2 : TypeId} {p v : Operand} {g n : Nat} {vs old : Array Value} (ho : o.op = .store ty p v) (hp : a.eval p = .pointer (some ⟨g, n, none⟩)) (hv : a.eval v = .agg vs)
    (hg : w.heap[g]? = some (.cells old t2 (0, 0))) (hn : n + vs.size ≤ old.size) (h1 : vs.all (·.oneCell') = true) (hi : (P.info? ty).map (·.size) = some vs.size) :
    (execOp a.eval o).run P w = .ok .skip (w.setRow g (old.toList.take n ++ vs.toList ++ old.toList.drop (n + vs.size)).toArray) := by
  unfold execOp
  simp only [ho, hp, hv, Instr.storeAt, Instr.sureAddr, Sem.run_bind, Sem.run_pure, Result.andThen_ok, run_store_row w ty t2 g n vs old hg hn h1 hi]
theorem exec_alloc {w : World} {ty : TypeId} {cs : Array Value} (ho : o.op = .alloc ty) (hz : (zeroValue ty).run P w = .ok (.agg cs) w) :
    (execOp a.eval o).run P w = .ok (.value (.pointer (some ⟨w.heap.size, 0, none⟩))) (w.alloc (.cells cs ty (0, 0))) := by
  unfold execOp
  simp only [ho, Instr.alloc, Sem.run_bind, hz, Result.andThen_ok]
  rfl
theorem exec_load_sub {w : World} {ty t2 : TypeId} {x : Operand} {g n : Nat} {cs old : Array Value} {d : TypeDesc} (ho : o.op = .load ty x) (hx : a.eval x = .pointer (some ⟨g, n, none⟩))
    (hg : w.heap[g]? = some (.cells old t2 (0, 0))) (hc : ∀ j v, cs[j]? = some v → old[n + j]? = some v) (hu : P.underlying ty = some d) (hd : (match d with | .struct _ | .array _ _ => true | _ => false) = true) (hi : (P.info? ty).map (·.size) = some cs.size) :
    (execOp a.eval o).run P w = .ok (.value (.agg cs)) w := by
  unfold execOp
  simp only [ho, hx, Instr.loadAt, Instr.sureAddr, Sem.run_bind, Sem.run_pure, Result.andThen_ok, run_load_sub w g n ty cs d (fun j v hv => (cell_of_row w g (n + j) old t2 (0, 0) hg).trans (hc j v hv)) hu hd hi]
theorem exec_index_row {w : World} {T e : TypeId} {x i : Operand} {cs : Array Value} {k : Int} {len sz : Nat} {d : TypeDesc} (ho : o.op = .index T x i) (hx : a.eval x = .agg cs) (hk : a.eval i = .int .i64 k) (h0 : 0 ≤ k) (h1 : k < len)
    (hu : P.underlying T = some (.array len e)) (he : P.underlying e = some d) (hd : (match d with | .struct _ | .array _ _ => true | _ => false) = true) (hi : (P.info? e).map (·.size) = some sz) :
    (execOp a.eval o).run P w = .ok (.value (.agg (cs.extract (k.toNat * sz) (k.toNat * sz + sz)))) w := by
  have hagg : (isAgg e).run P w = .ok true w := by
    unfold isAgg
    rw [Sem.run_bind, run_underlying he w]
    cases d <;> simp_all
  cases hq : P.info? e with
  | none => simp [hq] at hi
  | some i =>
    have hs : i.size = sz := by simpa [hq] using hi
    unfold execOp
    simp [ho, hx, hk, Instr.index, asIntOf, Sem.run_bind, run_underlying hu w, h0, h1, part, hagg, sizeOf, typeInfo, hq, hs]
theorem exec_index_cell {w : World} {T e : TypeId} {x i : Operand} {cs : Array Value} {k : Int} {len : Nat} {v : Value} (ho : o.op = .index T x i) (hx : a.eval x = .agg cs) (hk : a.eval i = .int .i64 k) (h0 : 0 ≤ k) (h1 : k < len)
    (hu : P.underlying T = some (.array len e)) (hag : ∀ w, (isAgg e).run P w = .ok false w) (hi : (P.info? e).map (·.size) = some 1) (hv : cs[k.toNat]? = some v) :
    (execOp a.eval o).run P w = .ok (.value v) w := by
  cases hq : P.info? e with
  | none => simp [hq] at hi
  | some i =>
    have hs : i.size = 1 := by simpa [hq] using hi
    unfold execOp
    simp [ho, hx, hk, Instr.index, asIntOf, Sem.run_bind, run_underlying hu w, h0, h1, part, hag w, sizeOf, typeInfo, hq, hs, hv]
end Go.Proofs.Ytagffdhfcgcnoaa.AR
namespace Go.Proofs.Ytagffdhfcgcnoaa.G
open Go.RowKit Go.Proofs.YtagffdhfcgcnoaaW.PrintWords AR
def Flat.sub {C : Nat} {k : IntKind} (o : Flat C k) (off n : Nat) : Array Value := ((List.range n).map fun j => Value.int k (o.z (off + j))).toArray
theorem Flat.sub_size {C : Nat} {k : IntKind} (o : Flat C k) (off n : Nat) : (o.sub off n).size = n := by simp [Flat.sub]
theorem Flat.sub_at {C : Nat} {k : IntKind} (o : Flat C k) (off n : Nat) {j : Nat} (h : j < n) : (o.sub off n)[j]? = some (.int k (o.z (off + j))) := by simp [Flat.sub, h]
theorem Flat.sub_one {C : Nat} {k : IntKind} (o : Flat C k) (off n : Nat) : (o.sub off n).all (·.oneCell') = true := by
  rw [Array.all_eq_true_iff_forall_mem]
  intro v hv
  simp only [Flat.sub, List.mem_toArray, List.mem_map] at hv
  obtain ⟨j, _, rfl⟩ := hv
  rfl
theorem Flat.sub_whole {C : Nat} {k : IntKind} (o : Flat C k) : o.sub 0 C = o.A := by simp [Flat.sub, Flat.A]
theorem Flat.sub_part {C : Nat} {k : IntKind} (o : Flat C k) {off n j m : Nat} (h : j + m ≤ n) : (o.sub off n).extract j (j + m) = o.sub (off + j) m := by
  apply Array.ext_getElem?
  intro i
  by_cases hi : i < m
  · rw [Flat.sub_at o _ _ hi, Array.getElem?_extract, if_pos (by rw [Flat.sub_size]; omega), Flat.sub_at o _ _ (by omega)]
    congr 3; omega
  · rw [Array.getElem?_eq_none (by simp [Flat.sub_size]; omega), Array.getElem?_eq_none (by rw [Flat.sub_size]; omega)]
theorem Flat.sub_in {C : Nat} {k : IntKind} (o : Flat C k) {off n : Nat} (h : off + n ≤ C) (j : Nat) (v : Value) (hv : (o.sub off n)[j]? = some v) : o.A[off + j]? = some v := by
  have hj : j < n := by have := (Array.getElem?_eq_some_iff.1 hv).1; rwa [Flat.sub_size] at this
  rw [Flat.at_ o (by omega), ← hv, Flat.sub_at o _ _ hj]
end Go.Proofs.Ytagffdhfcgcnoaa.G
end
section
namespace Go.Proofs.Ytagffdhfcgcnoaa.G
open Go.RowKit Go.Proofs.YtagffdhfcgcnoaaW.PrintWords Go.Proofs.YtagffdhfcgcnoaaW.PrintLast Go.Proofs.YtagffdhfcgcnoaaW.PrintMore AR M
set_option linter.unusedVariables false
set_option linter.unusedSimpArgs false
theorem sz24 (b : Flat 258 .i8) : (Try.prog.info? 24).map (·.size) = some (b.sub 2 256).size := by rw [Flat.sub_size]; kernel_rfl
theorem sz23 : (Try.prog.info? 23).map (·.size) = some 16 := by kernel_rfl
theorem szr23 (b : Flat 258 .i8) (n : Nat) : (Try.prog.info? 23).map (·.size) = some (b.sub n 16).size := by rw [Flat.sub_size]; kernel_rfl
theorem sz22 : (Try.prog.info? 22).map (·.size) = some 1 := by kernel_rfl
theorem isP_nat {b : Flat 258 .i8} {x y : Nat} : isP b x y = (decide ((x : Int) < b.z 0) && decide ((y : Int) < b.z 1)) := by
  rw [Bool.eq_iff_iff]; simp [isP]
theorem setRow_whole {w : World} {g : Nat} {old cs : Array Value} {t : TypeId} (hg : w.heap[g]? = some (.cells old t (0, 0))) (hs : old.size = cs.size) : (w.setRow g (old.toList.take 0 ++ cs.toList ++ old.toList.drop (0 + cs.size)).toArray).heap[g]? = some (.cells cs t (0, 0)) := by
  rw [setRow_heap w g old _ t (0, 0) hg, List.drop_of_length_le (by simp; omega)]
  simp
theorem ValidBay_any (b : Flat 258 .i8) (w : World) : Calls Try.prog 16 #[.agg b.A] w fun e w' => e = .returned (.bool (bayB b)) ∧ Below w.heap.size w w' := by
  obtain ⟨a0, a1⟩ := bounds_i8 (b.ok 0 (by omega))
  obtain ⟨b0, b1⟩ := bounds_i8 (b.ok 1 (by omega))
  by_cases hin : inB (b.z 0) 1 16 && inB (b.z 1) 1 16
  · obtain ⟨h1, h2⟩ : inB (b.z 0) 1 16 = true ∧ inB (b.z 1) 1 16 = true := by simpa using hin
    obtain ⟨p0, p1⟩ := inB_true h1
    obtain ⟨q0, q1⟩ := inB_true h2
    have HE := Lib.hid (And.intro h1 h2)
    have r0 : ¬ b.z 0 < 1 := by omega
    have r1 : ¬ 16 < b.z 0 := by omega
    have r2 : ¬ b.z 1 < 1 := by omega
    have r3 : ¬ 16 < b.z 1 := by omega
    clear hin h1 h2
    go_enter Try.func16, Try.ntmps16
    go_wp2_with (first
      | ((with_reducible refine gate_box (t := 30) rfl ?_); refine wpList_box_ev rfl _ _ rfl b.A rfl ?_; intro g w1 hg hb hb1; have HG := Lib.hid hb; have HB0 := Lib.hid hb1; have hge := Lib.hid (show w.heap.size ≤ g by omega); have c0 := BayAt.cell (b := b) hb (j := 0) (by omega); have c1 := BayAt.cell (b := b) hb (j := 1) (by omega); clear hb hb1 hg)
      | ((with_reducible refine gate_dst (N := 26) rfl ?_); refine Kd.event_run rfl (exec_load_sub (cs := b.sub 2 256) rfl rfl HG.out (b.sub_in (by omega)) Try.underlying24 rfl (sz24 b)) ?_))
    clear c0 c1
    go_loopw [27] (fun i wr => ∃ y : Nat, y ≤ 16 ∧ i = .int .i64 y ∧ Hid (∀ j, j < y → ∀ x, x < 16 → okD b j x = true) ∧ Hid (Below w.heap.size w wr) ∧ Hid (BayAt wr g b)) (fun i _ => 16 - (intOf i).toNat)
    case atStart => exact ⟨0, Nat.zero_le _, rfl, fun j h => absurd h (by omega), HB0.out, HG.out⟩
    case round =>
      obtain ⟨y, hy, rfl, HN, HD, HG1⟩ := hrel
      by_cases hlt : y < 16
      · have i0 : (y : Int) < 16 := by omega
        have i1 : (0 : Int) ≤ (y : Int) := by omega
        have HY := Lib.hid hlt
        obtain ⟨wo, rfl⟩ : ∃ wo : World, wo = wr := ⟨_, rfl⟩
        go_wp2_with (first
          | ((with_reducible refine gate_dst (N := 30) rfl ?_); refine Kd.event_run rfl (exec_index_row (k := (y : Int)) (sz := 16) rfl rfl rfl i1 i0 Try.underlying24 Try.underlying23 rfl sz23) ?_; rw [Int.toNat_natCast, b.sub_part (show y * 16 + 16 ≤ 256 by omega)])
          | ((with_reducible refine gate_dst (N := 4) rfl ?_); refine box_event rfl (N := 4) rfl (t := 23) (exec_alloc rfl (Try.zeroValue23 _)) ?_; intro gr hgr wa ha hb; have HA := Lib.hid ha; have HBa := Lib.hid (below_join HD.out hb); have HGa := Lib.hid (BayAt.below (b := b) HG1.out hb); have hne := Lib.hid (show w.heap.size ≤ gr by have := HD.out.size; omega); have hng := Lib.hid (show g ≠ gr by have := (Array.getElem?_eq_some_iff.1 HG1.out).1; omega); clear ha hb hgr)
          | ((with_reducible refine gate_store (t := 23) (p := 4) rfl ?_); refine store_event (t := 23) (p := 4) rfl rfl rfl (exec_store_row (t2 := 23) (vs := b.sub (2 + y * 16) 16) rfl rfl rfl HA.out (by rw [Flat.sub_size]; decide) (b.sub_one _ _) (szr23 b _)) ?_; intro ws hws; have HS := Lib.hid (show ws.heap[gr]? = some (.cells (b.sub (2 + y * 16) 16) 23 (0, 0)) by rw [hws]; exact setRow_whole HA.out (by rw [Flat.sub_size]; rfl)); have HBs := Lib.hid (show Below w.heap.size w ws by rw [hws]; exact below_setRow HBa.out hne.out _); have HGs := Lib.hid (show BayAt ws g b by rw [hws]; exact (setRow_other _ _ _ _ hng.out).trans HGa.out); clear hws)
          | ((with_reducible refine gate_dst (N := 31) rfl ?_); refine Kd.event_run rfl (exec_load_blk rfl rfl HS.out Try.underlying23 rfl (szr23 b _)) ?_))
        go_loopw [32] (fun i wr => ∃ x : Nat, x ≤ 16 ∧ i = .int .i64 x ∧ Hid (∀ j, j < x → okD b y j = true) ∧ Hid (wr = ws)) (fun i _ => 16 - (intOf i).toNat)
        case atStart => exact ⟨0, Nat.zero_le _, rfl, fun j h => absurd h (by omega), rfl⟩
        case round =>
          obtain ⟨x, hx, rfl, HN1, HW⟩ := hrel
          obtain rfl := HW.out
          by_cases hlx : x < 16
          · have j0 : (x : Int) < 16 := by omega
            have j1 : (0 : Int) ≤ (x : Int) := by omega
            have c0 := BayAt.cell HGs.out (j := 0) (by omega)
            have c1 := BayAt.cell HGs.out (j := 1) (by omega)
            have hv := b.sub_at (2 + y * 16) 16 (j := x) (by omega)
            have HP := Lib.hid (dep_nat b y x)
            have HIP := Lib.hid (isP_nat (b := b) (x := x) (y := y))
            generalize b.z (2 + y * 16 + x) = d at hv HP
            by_cases h1 : d < 0
            · have HH := Lib.hid (bayB_no hlt hlx (show okD b y x = false by unfold okD; rw [HP.out, show inB d 0 30 = false by simp [inB]; omega]; rfl))
              go_wp2_with ((with_reducible refine gate_dst (N := 35) rfl ?_); refine Kd.event_run rfl (exec_index_cell (k := (x : Int)) rfl rfl rfl j1 j0 Try.underlying23 Try.isAgg22 sz22 (v := .int .i8 d) (by rw [Int.toNat_natCast]; exact hv)) ?_)
              go_ret
              exact ⟨by rw [HH.out]; rfl, HBs.out⟩
            · by_cases h2 : 30 < d
              · have HH := Lib.hid (bayB_no hlt hlx (show okD b y x = false by unfold okD; rw [HP.out, show inB d 0 30 = false by simp [inB]; omega]; rfl))
                go_wp2_with ((with_reducible refine gate_dst (N := 35) rfl ?_); refine Kd.event_run rfl (exec_index_cell (k := (x : Int)) rfl rfl rfl j1 j0 Try.underlying23 Try.isAgg22 sz22 (v := .int .i8 d) (by rw [Int.toNat_natCast]; exact hv)) ?_)
                go_ret
                exact ⟨by rw [HH.out]; rfl, HBs.out⟩
              · have HI := Lib.hid (show inB d 0 30 = true by simp [inB]; omega)
                cases e4 : (d == 0)
                · have e4' : (d != 0) = true := by simp only [bne, e4]; rfl
                  by_cases h5 : (x : Int) < b.z 0
                  · have h5' : ¬ b.z 0 ≤ (x : Int) := by omega
                    by_cases h6 : (y : Int) < b.z 1
                    · have h6' : ¬ b.z 1 ≤ (y : Int) := by omega
                      have HH := Lib.hid (show okD b y x = true by unfold okD; rw [HP.out, HI.out, e4, HIP.out, decide_eq_true h5, decide_eq_true h6]; rfl)
                      go_wp2_with ((with_reducible refine gate_dst (N := 35) rfl ?_); refine Kd.event_run rfl (exec_index_cell (k := (x : Int)) rfl rfl rfl j1 j0 Try.underlying23 Try.isAgg22 sz22 (v := .int .i8 d) (by rw [Int.toNat_natCast]; exact hv)) ?_)
                      go_roundw
                      case rel => exact ⟨x + 1, by omega, by go_num, next_one HN1.out HH.out, by first | exact trivial | rfl⟩
                      case measure => simp [intOf]; omega
                    · have h6' : b.z 1 ≤ (y : Int) := by omega
                      have HH := Lib.hid (bayB_no hlt hlx (show okD b y x = false by unfold okD; rw [HP.out, HI.out, e4, HIP.out, decide_eq_true h5, decide_eq_false h6]; rfl))
                      go_wp2_with ((with_reducible refine gate_dst (N := 35) rfl ?_); refine Kd.event_run rfl (exec_index_cell (k := (x : Int)) rfl rfl rfl j1 j0 Try.underlying23 Try.isAgg22 sz22 (v := .int .i8 d) (by rw [Int.toNat_natCast]; exact hv)) ?_)
                      go_ret
                      exact ⟨by rw [HH.out]; rfl, HBs.out⟩
                  · have h5' : b.z 0 ≤ (x : Int) := by omega
                    have HH := Lib.hid (bayB_no hlt hlx (show okD b y x = false by unfold okD; rw [HP.out, HI.out, e4, HIP.out, decide_eq_false h5]; rfl))
                    go_wp2_with ((with_reducible refine gate_dst (N := 35) rfl ?_); refine Kd.event_run rfl (exec_index_cell (k := (x : Int)) rfl rfl rfl j1 j0 Try.underlying23 Try.isAgg22 sz22 (v := .int .i8 d) (by rw [Int.toNat_natCast]; exact hv)) ?_)
                    go_ret
                    exact ⟨by rw [HH.out]; rfl, HBs.out⟩
                · have e4' : (d != 0) = false := by simp only [bne, e4]; rfl
                  have HH := Lib.hid (show okD b y x = true by unfold okD; rw [HP.out, HI.out, e4]; rfl)
                  go_wp2_with ((with_reducible refine gate_dst (N := 35) rfl ?_); refine Kd.event_run rfl (exec_index_cell (k := (x : Int)) rfl rfl rfl j1 j0 Try.underlying23 Try.isAgg22 sz22 (v := .int .i8 d) (by rw [Int.toNat_natCast]; exact hv)) ?_)
                  go_roundw
                  case rel => exact ⟨x + 1, by omega, by go_num, next_one HN1.out HH.out, by first | exact trivial | rfl⟩
                  case measure => simp [intOf]; omega
          · have HH := Lib.hid (next_row HN.out (fun j hj => HN1.out j (by omega)))
            have j0 : ¬ (x : Int) < 16 := by omega
            go_wp2
            go_roundw
            case rel => exact ⟨y + 1, by omega, by go_num, HH.out, HBs.out, HGs.out⟩
            case measure => simp [intOf]; omega
      · have HH := Lib.hid (bayB_ok HE.out.1 HE.out.2 (fun j hj => HN.out j (by omega)))
        have i0 : ¬ (y : Int) < 16 := by omega
        go_wp2
        go_ret
        exact ⟨by rw [HH.out]; rfl, HD.out⟩
  · have HV := Lib.hid (show bayB b = false by unfold bayB; rw [Bool.eq_false_iff.2 hin]; rfl)
    have hor : b.z 0 < 1 ∨ 16 < b.z 0 ∨ b.z 1 < 1 ∨ 16 < b.z 1 := by simp [inB] at hin; omega
    clear hin
    by_cases r0 : b.z 0 < 1
    · go_enter Try.func16, Try.ntmps16
      go_wp2_with ((with_reducible refine gate_box (t := 30) rfl ?_); refine wpList_box_ev rfl _ _ rfl b.A rfl ?_; intro g w1 hg hb hb1; have HB0 := Lib.hid hb1; have c0 := BayAt.cell (b := b) hb (j := 0) (by omega); have c1 := BayAt.cell (b := b) hb (j := 1) (by omega); clear hb hb1 hg)
      go_ret
      exact ⟨by rw [HV.out]; rfl, HB0.out⟩
    · by_cases r1 : 16 < b.z 0
      · go_enter Try.func16, Try.ntmps16
        go_wp2_with ((with_reducible refine gate_box (t := 30) rfl ?_); refine wpList_box_ev rfl _ _ rfl b.A rfl ?_; intro g w1 hg hb hb1; have HB0 := Lib.hid hb1; have c0 := BayAt.cell (b := b) hb (j := 0) (by omega); have c1 := BayAt.cell (b := b) hb (j := 1) (by omega); clear hb hb1 hg)
        go_ret
        exact ⟨by rw [HV.out]; rfl, HB0.out⟩
      · by_cases r2 : b.z 1 < 1
        · go_enter Try.func16, Try.ntmps16
          go_wp2_with ((with_reducible refine gate_box (t := 30) rfl ?_); refine wpList_box_ev rfl _ _ rfl b.A rfl ?_; intro g w1 hg hb hb1; have HB0 := Lib.hid hb1; have c0 := BayAt.cell (b := b) hb (j := 0) (by omega); have c1 := BayAt.cell (b := b) hb (j := 1) (by omega); clear hb hb1 hg)
          go_ret
          exact ⟨by rw [HV.out]; rfl, HB0.out⟩
        · have r3 : 16 < b.z 1 := by omega
          go_enter Try.func16, Try.ntmps16
          go_wp2_with ((with_reducible refine gate_box (t := 30) rfl ?_); refine wpList_box_ev rfl _ _ rfl b.A rfl ?_; intro g w1 hg hb hb1; have HB0 := Lib.hid hb1; have c0 := BayAt.cell (b := b) hb (j := 0) (by omega); have c1 := BayAt.cell (b := b) hb (j := 1) (by omega); clear hb hb1 hg)
          go_ret
          exact ⟨by rw [HV.out]; rfl, HB0.out⟩
end Go.Proofs.Ytagffdhfcgcnoaa.G
end
section
namespace Go.Proofs.Ytagffdhfcgcnoaa.G
open Go.RowKit Go.Proofs.YtagffdhfcgcnoaaW.PrintWords Go.Proofs.YtagffdhfcgcnoaaW.PrintLast Go.Proofs.YtagffdhfcgcnoaaW.PrintMore AR M
set_option linter.unusedVariables false
set_option linter.unusedSimpArgs false
def okG (b : Flat 258 .i8) (d : Flat 256 .u8) (y x : Nat) : Bool := decide (d.z (y * 16 + x) ≤ 3) && (d.z (y * 16 + x) == 0 || isP b x y)
def groundsB (b : Flat 258 .i8) (d : Flat 256 .u8) : Bool := bayB b && allB (okG b d)
theorem groundsB_true {b : Flat 258 .i8} {d : Flat 256 .u8} (h : groundsB b d = true) : bayB b = true ∧ ∀ y, y < 16 → ∀ x, x < 16 → okG b d y x = true := by
  unfold groundsB at h
  rw [Bool.and_eq_true] at h
  exact ⟨h.1, allB_iff.1 h.2⟩
theorem groundsB_ok {b : Flat 258 .i8} {d : Flat 256 .u8} (h1 : bayB b = true) (h : ∀ y, y < 16 → ∀ x, x < 16 → okG b d y x = true) : groundsB b d = true := by
  unfold groundsB
  rw [h1, allB_iff.2 h]; rfl
theorem groundsB_no {b : Flat 258 .i8} {d : Flat 256 .u8} {y x : Nat} (hy : y < 16) (hx : x < 16) (h : okG b d y x = false) : groundsB b d = false := by
  unfold groundsB
  rw [allB_no hy hx h, Bool.and_false]
theorem l07Grounds_any (g g1 : Nat) (b : Flat 258 .i8) (d : Flat 256 .u8) (w : World) (hB : BayAt w g b) (hG : GroundsAt w g1 d) :
    Calls Try.prog 8 #[.pointer (some ⟨g, 0, none⟩), .pointer (some ⟨g1, 0, none⟩)] w fun e w' => e = .returned (.bool (groundsB b d)) ∧ Below w.heap.size w w' := by
  have BB := Lib.hid hB
  have GG := Lib.hid hG
  cases e1 : bayB b
  · have HV := Lib.hid (show groundsB b d = false by unfold groundsB; rw [e1]; rfl)
    have HQ1 := Lib.hid (e1 ▸ l01Bay_any g b w hB)
    clear e1 hB hG
    go_enter Try.func8, Try.ntmps8
    go_wp2_with (go_at_call 13; refine (HQ1.out).mono ?_; rintro e w1 ⟨rfl, hb⟩; have HB1 := Lib.hid hb; clear hb)
    go_ret
    exact ⟨by rw [HV.out]; rfl, HB1.out⟩
  · have HE := Lib.hid e1
    have HQ1 := Lib.hid (e1 ▸ l01Bay_any g b w hB)
    clear e1 hB hG
    go_enter Try.func8, Try.ntmps8
    go_wp2_with (go_at_call 13; refine (HQ1.out).mono ?_; rintro e w1 ⟨rfl, hb⟩; have HB1 := Lib.hid hb; clear hb)
    clear HQ1
    go_loopw [5] (fun i wr => ∃ y : Nat, y ≤ 16 ∧ i = .int .i8 y ∧ Hid (∀ j, j < y → ∀ x, x < 16 → okG b d j x = true) ∧ Hid (Below w.heap.size w wr)) (fun i _ => 16 - (intOf i).toNat)
    case atStart => exact ⟨0, Nat.zero_le _, rfl, fun j h => absurd h (by omega), HB1.out⟩
    case round =>
      obtain ⟨y, hy, rfl, HN, HD⟩ := hrel
      by_cases hlt : y < 16
      · have i0 : (y : Int) < 16 := by omega
        have i1 : (0 : Int) ≤ (y : Int) := by omega
        obtain ⟨wo, rfl⟩ : ∃ wo : World, wo = wr := ⟨_, rfl⟩
        go_wp2
        go_loopw [6] (fun i wr => ∃ x : Nat, x ≤ 16 ∧ i = .int .i8 x ∧ Hid (∀ j, j < x → okG b d y j = true) ∧ Hid (Below w.heap.size w wr)) (fun i _ => 16 - (intOf i).toNat)
        case atStart => exact ⟨0, Nat.zero_le _, rfl, fun j h => absurd h (by omega), HD.out⟩
        case round =>
          obtain ⟨x, hx, rfl, HN1, HD1⟩ := hrel
          by_cases hlx : x < 16
          · have j0 : (x : Int) < 16 := by omega
            have j1 : (0 : Int) ≤ (x : Int) := by omega
            have BW := Lib.hid (BB.out.below HD1.out)
            have cd := (GG.out.below HD1.out).cell (j := y * 16 + x) (by omega)
            have HP := Lib.hid (show okG b d y x = (decide (d.z (y * 16 + x) ≤ 3) && (d.z (y * 16 + x) == 0 || isP b x y)) from rfl)
            generalize d.z (y * 16 + x) = k at cd HP
            by_cases hk : 3 < k
            · have HH := Lib.hid (groundsB_no hlt hlx (show okG b d y x = false by rw [HP.out, decide_eq_false (show ¬ k ≤ 3 by omega)]; rfl))
              go_wp2
              go_ret
              exact ⟨by rw [HH.out]; rfl, HD1.out⟩
            · have hk3 : decide (k ≤ 3) = true := decide_eq_true (by omega)
              cases e4 : (k == 0)
              · have e4' : (k != 0) = true := by simp only [bne, e4]; rfl
                cases e5 : isP b x y
                · have HH := Lib.hid (groundsB_no hlt hlx (show okG b d y x = false by rw [HP.out, hk3, e4, e5]; rfl))
                  have HI := Lib.hid (e5 ▸ is_any g b x y wr BW.out (by omega) (by omega))
                  clear e5 hk3
                  go_wp2_with (go_at_call 14; refine HI.out.mono ?_; rintro e w1 ⟨rfl, hb⟩; have HB1 := Lib.hid (below_join HD1.out hb); clear hb)
                  go_ret
                  exact ⟨by rw [HH.out]; rfl, HB1.out⟩
                · have HH := Lib.hid (show okG b d y x = true by rw [HP.out, hk3, e4, e5]; rfl)
                  have HI := Lib.hid (e5 ▸ is_any g b x y wr BW.out (by omega) (by omega))
                  clear e5 hk3
                  go_wp2_with (go_at_call 14; refine HI.out.mono ?_; rintro e w1 ⟨rfl, hb⟩; have HB1 := Lib.hid (below_join HD1.out hb); clear hb)
                  go_roundw
                  case rel => exact ⟨x + 1, by omega, by go_num, next_one HN1.out HH.out, HB1.out⟩
                  case measure => simp [intOf]; omega
              · have e4' : (k != 0) = false := by simp only [bne, e4]; rfl
                have HH := Lib.hid (show okG b d y x = true by rw [HP.out, hk3, e4]; rfl)
                clear hk3
                go_wp2
                go_roundw
                case rel => exact ⟨x + 1, by omega, by go_num, next_one HN1.out HH.out, HD1.out⟩
                case measure => simp [intOf]; omega
          · have HH := Lib.hid (next_row HN.out (fun j hj => HN1.out j (by omega)))
            have j0 : ¬ (x : Int) < 16 := by omega
            go_wp2
            go_roundw
            case rel => exact ⟨y + 1, by omega, by go_num, HH.out, HD1.out⟩
            case measure => simp [intOf]; omega
      · have HH := Lib.hid (groundsB_ok HE.out (fun j hj => HN.out j (by omega)))
        have i0 : ¬ (y : Int) < 16 := by omega
        go_wp2
        go_ret
        exact ⟨by rw [HH.out]; rfl, HD.out⟩
end Go.Proofs.Ytagffdhfcgcnoaa.G
end
section
namespace Go.Proofs.Ytagffdhfcgcnoaa.G
open Go.RowKit Go.Proofs.YtagffdhfcgcnoaaW.PrintWords Go.Proofs.YtagffdhfcgcnoaaW.PrintLast Go.Proofs.YtagffdhfcgcnoaaW.PrintMore AR M
set_option linter.unusedVariables false
set_option linter.unusedSimpArgs false
theorem sz27 : (Try.prog.info? 27).map (·.size) = some 16 := by kernel_rfl
theorem szr27 (b : Flat 256 .u8) (n : Nat) : (Try.prog.info? 27).map (·.size) = some (b.sub n 16).size := by rw [Flat.sub_size]; kernel_rfl
theorem sz5 : (Try.prog.info? 5).map (·.size) = some 1 := by kernel_rfl
theorem ValidGrounds_any (b : Flat 258 .i8) (d : Flat 256 .u8) (w : World) : Calls Try.prog 12 #[.agg b.A, .agg d.A] w fun e w' => e = .returned (.bool (groundsB b d)) ∧ Below w.heap.size w w' := by
  obtain ⟨a0, a1⟩ := bounds_i8 (b.ok 0 (by omega))
  obtain ⟨b0, b1⟩ := bounds_i8 (b.ok 1 (by omega))
  cases e1 : bayB b
  · have HV := Lib.hid (show groundsB b d = false by unfold groundsB; rw [e1]; rfl)
    have HC := Lib.hid (fun W => e1 ▸ ValidBay_any b W)
    clear e1
    go_enter Try.func12, Try.ntmps12
    go_wp2_with (first
      | ((with_reducible refine gate_dst (N := 2) rfl ?_); refine wpList_box_ev rfl 30 _ rfl b.A rfl ?_; intro g w1 hg hb hb1; have HG := Lib.hid hb; have HB0 := Lib.hid hb1; clear hb hb1 hg)
      | ((with_reducible refine gate_dst (N := 3) rfl ?_); refine wpList_box_ev rfl 32 _ rfl d.A rfl ?_; intro g1 w2 hg hb hb1; have HG1 := Lib.hid (BayAt.below (b := b) HG.out hb1); have HB1 := Lib.hid (below_join HB0.out hb1); clear hb hb1 hg)
      | ((with_reducible refine gate_dst (N := 9) rfl ?_); refine Kd.event_run rfl (exec_load_blk rfl rfl HG1.out Try.underlying30 rfl (szO30 b)) ?_)
      | (go_at_call 16; refine (HC.out _).mono ?_; rintro e w3 ⟨rfl, hb⟩; have HB2 := Lib.hid (below_join HB1.out hb); clear hb))
    go_ret
    exact ⟨by rw [HV.out]; rfl, HB2.out⟩
  · have HE := Lib.hid e1
    have HC := Lib.hid (fun W => e1 ▸ ValidBay_any b W)
    clear e1
    go_enter Try.func12, Try.ntmps12
    go_wp2_with (first
      | ((with_reducible refine gate_dst (N := 2) rfl ?_); refine wpList_box_ev rfl 30 _ rfl b.A rfl ?_; intro g w1 hg hb hb1; have HG := Lib.hid hb; have HB0 := Lib.hid hb1; clear hb hb1 hg)
      | ((with_reducible refine gate_dst (N := 3) rfl ?_); refine wpList_box_ev rfl 32 _ rfl d.A rfl ?_; intro g1 w2 hg hb hb1; have HG1 := Lib.hid (BayAt.below (b := b) HG.out hb1); have HD1 := Lib.hid hb; have HB1 := Lib.hid (below_join HB0.out hb1); clear hb hb1 hg)
      | ((with_reducible refine gate_dst (N := 9) rfl ?_); refine Kd.event_run rfl (exec_load_blk rfl rfl HG1.out Try.underlying30 rfl (szO30 b)) ?_)
      | (go_at_call 16; refine (HC.out _).mono ?_; rintro e w3 ⟨rfl, hb⟩; have HB2 := Lib.hid (below_join HB1.out hb); have HG2 := Lib.hid (BayAt.below (b := b) HG1.out hb); have HD2 := Lib.hid (GroundsAt.below (d := d) HD1.out hb); clear hb)
      | ((with_reducible refine gate_dst (N := 12) rfl ?_); refine Kd.event_run rfl (exec_load_blk rfl rfl HD2.out Try.underlying32 rfl (szO32 d)) ?_))
    clear HC
    rw [← d.sub_whole]
    go_loopw [13] (fun i wr => ∃ y : Nat, y ≤ 16 ∧ i = .int .i64 y ∧ Hid (∀ j, j < y → ∀ x, x < 16 → okG b d j x = true) ∧ Hid (Below w.heap.size w wr) ∧ Hid (BayAt wr g b)) (fun i _ => 16 - (intOf i).toNat)
    case atStart => exact ⟨0, Nat.zero_le _, rfl, fun j h => absurd h (by omega), HB2.out, HG2.out⟩
    case round =>
      obtain ⟨y, hy, rfl, HN, HD, HG1⟩ := hrel
      by_cases hlt : y < 16
      · have i0 : (y : Int) < 16 := by omega
        have i1 : (0 : Int) ≤ (y : Int) := by omega
        obtain ⟨wo, rfl⟩ : ∃ wo : World, wo = wr := ⟨_, rfl⟩
        go_wp2_with (first
          | ((with_reducible refine gate_dst (N := 16) rfl ?_); refine Kd.event_run rfl (exec_index_row (k := (y : Int)) (sz := 16) rfl rfl rfl i1 i0 Try.underlying32 Try.underlying27 rfl sz27) ?_; rw [Int.toNat_natCast, d.sub_part (show y * 16 + 16 ≤ 256 by omega), Nat.zero_add])
          | ((with_reducible refine gate_dst (N := 6) rfl ?_); refine box_event rfl (N := 6) rfl (t := 27) (exec_alloc rfl (Try.zeroValue27 _)) ?_; intro gr hgr wa ha hb; have HA := Lib.hid ha; have HBa := Lib.hid (below_join HD.out hb); have HGa := Lib.hid (BayAt.below (b := b) HG1.out hb); have hne := Lib.hid (show w.heap.size ≤ gr by have := HD.out.size; omega); have hng := Lib.hid (show g ≠ gr by have := (Array.getElem?_eq_some_iff.1 HG1.out).1; omega); clear ha hb hgr)
          | ((with_reducible refine gate_store (t := 27) (p := 6) rfl ?_); refine store_event (t := 27) (p := 6) rfl rfl rfl (exec_store_row (t2 := 27) (vs := d.sub (y * 16) 16) rfl rfl rfl HA.out (by rw [Flat.sub_size]; decide) (d.sub_one _ _) (szr27 d _)) ?_; intro ws hws; have HS := Lib.hid (show ws.heap[gr]? = some (.cells (d.sub (y * 16) 16) 27 (0, 0)) by rw [hws]; exact setRow_whole HA.out (by rw [Flat.sub_size]; rfl)); have HBs := Lib.hid (show Below w.heap.size w ws by rw [hws]; exact below_setRow HBa.out hne.out _); have HGs := Lib.hid (show BayAt ws g b by rw [hws]; exact (setRow_other _ _ _ _ hng.out).trans HGa.out); clear hws)
          | ((with_reducible refine gate_dst (N := 17) rfl ?_); refine Kd.event_run rfl (exec_load_blk rfl rfl HS.out Try.underlying27 rfl (szr27 d _)) ?_))
        go_loopw [18] (fun i wr => ∃ x : Nat, x ≤ 16 ∧ i = .int .i64 x ∧ Hid (∀ j, j < x → okG b d y j = true) ∧ Hid (wr = ws)) (fun i _ => 16 - (intOf i).toNat)
        case atStart => exact ⟨0, Nat.zero_le _, rfl, fun j h => absurd h (by omega), rfl⟩
        case round =>
          obtain ⟨x, hx, rfl, HN1, HW⟩ := hrel
          obtain rfl := HW.out
          by_cases hlx : x < 16
          · have j0 : (x : Int) < 16 := by omega
            have j1 : (0 : Int) ≤ (x : Int) := by omega
            have c0 := BayAt.cell HGs.out (j := 0) (by omega)
            have c1 := BayAt.cell HGs.out (j := 1) (by omega)
            have hv := d.sub_at (y * 16) 16 (j := x) (by omega)
            have HP := Lib.hid (show okG b d y x = (decide (d.z (y * 16 + x) ≤ 3) && (d.z (y * 16 + x) == 0 || isP b x y)) from rfl)
            have HIP := Lib.hid (isP_nat (b := b) (x := x) (y := y))
            generalize d.z (y * 16 + x) = k at hv HP
            by_cases h1 : 3 < k
            · have HH := Lib.hid (groundsB_no hlt hlx (show okG b d y x = false by rw [HP.out, decide_eq_false (show ¬ k ≤ 3 by omega)]; rfl))
              go_wp2_with ((with_reducible refine gate_dst (N := 21) rfl ?_); refine Kd.event_run rfl (exec_index_cell (k := (x : Int)) rfl rfl rfl j1 j0 Try.underlying27 Try.isAgg5 sz5 (v := .int .u8 k) (by rw [Int.toNat_natCast]; exact hv)) ?_)
              go_ret
              exact ⟨by rw [HH.out]; rfl, HBs.out⟩
            · have HI := Lib.hid (show decide (k ≤ 3) = true from decide_eq_true (by omega))
              cases e4 : (k == 0)
              · have e4' : (k != 0) = true := by simp only [bne, e4]; rfl
                by_cases h5 : (x : Int) < b.z 0
                · have h5' : ¬ b.z 0 ≤ (x : Int) := by omega
                  by_cases h6 : (y : Int) < b.z 1
                  · have h6' : ¬ b.z 1 ≤ (y : Int) := by omega
                    have HH := Lib.hid (show okG b d y x = true by rw [HP.out, HI.out, e4, HIP.out, decide_eq_true h5, decide_eq_true h6]; rfl)
                    go_wp2_with ((with_reducible refine gate_dst (N := 21) rfl ?_); refine Kd.event_run rfl (exec_index_cell (k := (x : Int)) rfl rfl rfl j1 j0 Try.underlying27 Try.isAgg5 sz5 (v := .int .u8 k) (by rw [Int.toNat_natCast]; exact hv)) ?_)
                    go_roundw
                    case rel => exact ⟨x + 1, by omega, by go_num, next_one HN1.out HH.out, by first | exact trivial | rfl⟩
                    case measure => simp [intOf]; omega
                  · have h6' : b.z 1 ≤ (y : Int) := by omega
                    have HH := Lib.hid (groundsB_no hlt hlx (show okG b d y x = false by rw [HP.out, HI.out, e4, HIP.out, decide_eq_true h5, decide_eq_false h6]; rfl))
                    go_wp2_with ((with_reducible refine gate_dst (N := 21) rfl ?_); refine Kd.event_run rfl (exec_index_cell (k := (x : Int)) rfl rfl rfl j1 j0 Try.underlying27 Try.isAgg5 sz5 (v := .int .u8 k) (by rw [Int.toNat_natCast]; exact hv)) ?_)
                    go_ret
                    exact ⟨by rw [HH.out]; rfl, HBs.out⟩
                · have h5' : b.z 0 ≤ (x : Int) := by omega
                  have HH := Lib.hid (groundsB_no hlt hlx (show okG b d y x = false by rw [HP.out, HI.out, e4, HIP.out, decide_eq_false h5]; rfl))
                  go_wp2_with ((with_reducible refine gate_dst (N := 21) rfl ?_); refine Kd.event_run rfl (exec_index_cell (k := (x : Int)) rfl rfl rfl j1 j0 Try.underlying27 Try.isAgg5 sz5 (v := .int .u8 k) (by rw [Int.toNat_natCast]; exact hv)) ?_)
                  go_ret
                  exact ⟨by rw [HH.out]; rfl, HBs.out⟩
              · have e4' : (k != 0) = false := by simp only [bne, e4]; rfl
                have HH := Lib.hid (show okG b d y x = true by rw [HP.out, HI.out, e4]; rfl)
                go_wp2_with ((with_reducible refine gate_dst (N := 21) rfl ?_); refine Kd.event_run rfl (exec_index_cell (k := (x : Int)) rfl rfl rfl j1 j0 Try.underlying27 Try.isAgg5 sz5 (v := .int .u8 k) (by rw [Int.toNat_natCast]; exact hv)) ?_)
                go_roundw
                case rel => exact ⟨x + 1, by omega, by go_num, next_one HN1.out HH.out, by first | exact trivial | rfl⟩
                case measure => simp [intOf]; omega
          · have HH := Lib.hid (next_row HN.out (fun j hj => HN1.out j (by omega)))
            have j0 : ¬ (x : Int) < 16 := by omega
            go_wp2
            go_roundw
            case rel => exact ⟨y + 1, by omega, by go_num, HH.out, HBs.out, HGs.out⟩
            case measure => simp [intOf]; omega
      · have HH := Lib.hid (groundsB_ok HE.out (fun j hj => HN.out j (by omega)))
        have i0 : ¬ (y : Int) < 16 := by omega
        go_wp2
        go_ret
        exact ⟨by rw [HH.out]; rfl, HD.out⟩
def spec_l07Grounds.f (a0 : O30) (a1 : O32) : Option (Bool) := some (groundsB a0 a1)
def impl_ValidGrounds.f (a0 : O30) (a1 : O32) : Option (Bool) := some (groundsB a0 a1)
theorem spec_l07Grounds.calls (gp0 : Nat) (a0 : O30) (gp1 : Nat) (a1 : O32) (r : Bool) (w : World) (hp0 : w.heap[gp0]? = some (.cells (a0).A 30 (0, 0))) (hp1 : w.heap[gp1]? = some (.cells (a1).A 32 (0, 0))) (h : spec_l07Grounds.f a0 a1 = some r) :
    Calls Try.prog 8 #[.pointer (some ⟨gp0, 0, none⟩), .pointer (some ⟨gp1, 0, none⟩)] w fun e w' => e = .returned (.bool r) ∧ Below w.heap.size w w' := by
  obtain rfl := Option.some.inj h
  exact l07Grounds_any gp0 gp1 a0 a1 w hp0 hp1
theorem impl_ValidGrounds.calls (a0 : O30) (a1 : O32) (r : Bool) (w : World) (h : impl_ValidGrounds.f a0 a1 = some r) :
    Calls Try.prog 12 #[VO30 a0, VO32 a1] w fun e w' => e = .returned (.bool r) ∧ Below w.heap.size w w' := by
  obtain rfl := Option.some.inj h
  exact ValidGrounds_any a0 a1 w
end Go.Proofs.Ytagffdhfcgcnoaa.G
end
section
namespace Go.Proofs.Ytagffdhfcgcnoaa.G
open Go.RowKit Go.Proofs.YtagffdhfcgcnoaaW.PrintWords Go.Proofs.YtagffdhfcgcnoaaW.PrintLast Go.Proofs.YtagffdhfcgcnoaaW.PrintMore
attribute [local go_sem] max2_int min2_int max_two min_two max_three min_three max_four min_four   -- for this text's walks alone
set_option linter.unusedVariables false
set_option linter.unusedSimpArgs false
def spec_GroundsText.f (k : Nat) (a0 : O30) (a1 : O32) : Option (ByteArray) := (spec_l07Grounds.f a0 a1).bind fun t106 => (if t106 = true then ((spec_l07Letters.f k a0 a1).bind fun t107 => (some t107)) else (some (⟨#[]⟩ : ByteArray)))
set_option maxHeartbeats 8000000 in
set_option maxRecDepth 100000 in
theorem spec_GroundsText.calls (k : Nat) (a0 : O30) (a1 : O32) (r : ByteArray) (w : World) (h : spec_GroundsText.f k a0 a1 = some r) :
    Calls Try.prog 4 #[VO30 a0, VO32 a1] w fun e w' => e = .returned (.string r) ∧ Below w.heap.size w w' := by
  have HB := Aside0.mk (Below.refl w.heap.size w)
  have H : ((spec_l07Grounds.f a0 a1).bind fun t106 => (if t106 = true then ((spec_l07Letters.f k a0 a1).bind fun t107 => (some t107)) else (some (⟨#[]⟩ : ByteArray)))) = some r := h
  clear h
  replace H := Option.bind_eq_some_iff.mp H
  obtain ⟨t106, A30, H⟩ := H
  replace H : (if t106 = true then ((spec_l07Letters.f k a0 a1).bind fun t107 => (some t107)) else (some (⟨#[]⟩ : ByteArray))) = some r := H
  have A3 := Aside0.mk A30
  clear A30
  by_cases c4 : t106 = true
  · subst c4
    have H1 : ((spec_l07Letters.f k a0 a1).bind fun t107 => (some t107)) = some r := by rw [if_pos rfl] at H; exact H
    clear H
    have H := H1
    clear H1
    replace H := Option.bind_eq_some_iff.mp H
    obtain ⟨t107, A50, H⟩ := H
    replace H : (some t107) = some r := H
    have A5 := Aside0.mk A50
    clear A50
    obtain rfl := Option.some.inj H
    go_enter Try.func4, Try.ntmps4
    go_wp2_with (first | ((with_reducible refine gate_dst (N := 2) rfl ?_); refine box_event ?hg (N := 2) ?hd (cs := (a0).A) (t := 30) ?hr ?_; (case hd => rfl); (case hg => rfl); (case hr => first | exact AR.run_box_row rfl rfl | (go_simp; done) | (go_simp; rfl)); intro gb104 hg w6 hbox hb; have n0_ := Aside0.mk (below_step (by repeat (first | (with_reducible first | exact HB.out | apply below_alloc | apply pw_below_drewN | apply below_drew1) | exact HB.out)) hb); have n1_ := Aside0.mk (hbox); have n2_ := Aside0.mk ((by rw [hg]; exact (below_size (by repeat (first | (with_reducible first | exact HB.out | apply below_alloc | apply pw_below_drewN | apply below_drew1) | exact HB.out))) : w.heap.size ≤ gb104)); have n3_ := Aside0.mk ((by rw [hg]; exact (below_size (by repeat (first | (with_reducible first | exact HB.out | apply below_alloc | apply pw_below_drewN | apply below_drew1) | exact HB.out))) : w.heap.size ≤ gb104)); clear HB; have HB := n0_; have BK104 := n1_; have GW104 := n2_; have GE104 := n3_; clear n0_ n1_ n2_ n3_; clear hb hbox hg) | ((with_reducible refine gate_dst (N := 3) rfl ?_); refine box_event ?hg (N := 3) ?hd (cs := (a1).A) (t := 32) ?hr ?_; (case hd => rfl); (case hg => rfl); (case hr => first | exact AR.run_box_row rfl rfl | (go_simp; done) | (go_simp; rfl)); intro gb105 hg w7 hbox hb; have n0_ := Aside0.mk (blk_below (g := gb104) (o := .cells (a0).A 30 (0, 0)) (by (with_reducible repeat (first | refine blk_drewN ?_ _ | refine blk_drew ?_ | refine blk_alloc ?_ _)); exact BK104.out) hb); have n1_ := Aside0.mk (below_step (by repeat (first | (with_reducible first | exact HB.out | apply below_alloc | apply pw_below_drewN | apply below_drew1 | refine below_set ?_ GE104.out) | exact HB.out)) hb); have n2_ := Aside0.mk (hbox); have n3_ := Aside0.mk ((by rw [hg]; exact (below_size (by repeat (first | (with_reducible first | exact HB.out | apply below_alloc | apply pw_below_drewN | apply below_drew1 | refine below_set ?_ GE104.out) | exact HB.out))) : w.heap.size ≤ gb105)); have n4_ := Aside0.mk ((by rw [hg]; exact (below_size (by repeat (first | (with_reducible first | exact HB.out | apply below_alloc | apply pw_below_drewN | apply below_drew1 | refine below_set ?_ GE104.out) | exact HB.out))) : w.heap.size ≤ gb105)); have n5_ := Aside0.mk ((by rw [hg]; exact Nat.ne_of_lt (blk_lt (g := gb104) (o := .cells (a0).A 30 (0, 0)) (by (with_reducible repeat (first | refine blk_drewN ?_ _ | refine blk_drew ?_ | refine blk_alloc ?_ _)); exact BK104.out)) : gb104 ≠ gb105)); have n6_ := Aside0.mk ((by rw [hg]; exact Nat.ne_of_gt (blk_lt (g := gb104) (o := .cells (a0).A 30 (0, 0)) (by (with_reducible repeat (first | refine blk_drewN ?_ _ | refine blk_drew ?_ | refine blk_alloc ?_ _)); exact BK104.out)) : gb105 ≠ gb104)); clear BK104; clear HB; have BK104 := n0_; have HB := n1_; have BK105 := n2_; have GW105 := n3_; have GE105 := n4_; have NB104_105 := n5_; have NB105_104 := n6_; clear n0_ n1_ n2_ n3_ n4_ n5_ n6_; clear hb hbox hg) | ((with_reducible refine gate_callee (f := 8) rfl ?_); refine goesL_ (some 5) rfl rfl Try.func8 (by kernel_rfl) rfl #[.pointer (some ⟨gb104, 0, none⟩), .pointer (some ⟨gb105, 0, none⟩)] rfl (by (try simp only [List.map_toArray, List.map_cons, List.map_nil]); first | done | rfl | (simp only [List.length_drop, List.length_take]; rfl)) ?_; (with_reducible refine (spec_l07Grounds.calls gb104 a0 gb105 a1 true _ ?side1 ?side2 A3.out).mono ?_); (case side1 => (with_reducible repeat (first | refine blk_drewN ?_ _ | refine blk_drew ?_ | refine blk_alloc ?_ _)); exact BK104.out); (case side2 => (with_reducible repeat (first | refine blk_drewN ?_ _ | refine blk_drew ?_ | refine blk_alloc ?_ _)); exact BK105.out); rintro e w8 ⟨rfl, hb⟩; refine ⟨_, rfl, ?_⟩; have n0_ := Aside0.mk (blk_below (g := gb104) (o := .cells (a0).A 30 (0, 0)) (by (with_reducible repeat (first | refine blk_drewN ?_ _ | refine blk_drew ?_ | refine blk_alloc ?_ _)); exact BK104.out) hb); have n1_ := Aside0.mk (blk_below (g := gb105) (o := .cells (a1).A 32 (0, 0)) (by (with_reducible repeat (first | refine blk_drewN ?_ _ | refine blk_drew ?_ | refine blk_alloc ?_ _)); exact BK105.out) hb); have n2_ := Aside0.mk (below_step (by repeat (first | (with_reducible first | exact HB.out | apply below_alloc | apply pw_below_drewN | apply below_drew1 | refine below_set ?_ GE104.out | refine below_set ?_ GE105.out) | exact HB.out)) hb); clear BK104; clear BK105; clear HB; have BK104 := n0_; have BK105 := n1_; have HB := n2_; clear n0_ n1_ n2_; (try clear hb); (try clear hb2); (try clear hk); (try clear hi)) | ((with_reducible refine gate_callee (f := 9) rfl ?_); refine goesL_ (some 7) rfl rfl Try.func9 (by kernel_rfl) rfl #[.pointer (some ⟨gb104, 0, none⟩), .pointer (some ⟨gb105, 0, none⟩)] rfl (by (try simp only [List.map_toArray, List.map_cons, List.map_nil]); first | done | rfl | (simp only [List.length_drop, List.length_take]; rfl)) ?_; (with_reducible refine (spec_l07Letters.calls k gb104 a0 gb105 a1 t107 _ ?side1 ?side2 A5.out).mono ?_); (case side1 => (with_reducible repeat (first | refine blk_drewN ?_ _ | refine blk_drew ?_ | refine blk_alloc ?_ _)); exact BK104.out); (case side2 => (with_reducible repeat (first | refine blk_drewN ?_ _ | refine blk_drew ?_ | refine blk_alloc ?_ _)); exact BK105.out); rintro e w9 ⟨rfl, hb⟩; refine ⟨_, rfl, ?_⟩; have n0_ := Aside0.mk (blk_below (g := gb104) (o := .cells (a0).A 30 (0, 0)) (by (with_reducible repeat (first | refine blk_drewN ?_ _ | refine blk_drew ?_ | refine blk_alloc ?_ _)); exact BK104.out) hb); have n1_ := Aside0.mk (blk_below (g := gb105) (o := .cells (a1).A 32 (0, 0)) (by (with_reducible repeat (first | refine blk_drewN ?_ _ | refine blk_drew ?_ | refine blk_alloc ?_ _)); exact BK105.out) hb); have n2_ := Aside0.mk (below_step (by repeat (first | (with_reducible first | exact HB.out | apply below_alloc | apply pw_below_drewN | apply below_drew1 | refine below_set ?_ GE104.out | refine below_set ?_ GE105.out) | exact HB.out)) hb); clear BK104; clear BK105; clear HB; have BK104 := n0_; have BK105 := n1_; have HB := n2_; clear n0_ n1_ n2_; (try clear hb); (try clear hb2); (try clear hk); (try clear hi)))
    go_ret
    exact ⟨by first | rfl | (simp [errW_none, errW_some] <;> rfl) | (simp [*, errW_none, errW_some] <;> rfl), by repeat (first | (with_reducible first | exact HB.out | apply below_alloc | apply pw_below_drewN | apply below_drew1 | refine below_set ?_ GE104.out | refine below_set ?_ GE105.out) | exact HB.out)⟩
  · replace c4 := Bool.eq_false_iff.mpr c4
    subst c4
    have H1 : (some (⟨#[]⟩ : ByteArray)) = some r := by rw [if_neg (show ¬ (false = true) by decide)] at H; exact H
    clear H
    have H := H1
    clear H1
    obtain rfl := Option.some.inj H
    go_enter Try.func4, Try.ntmps4
    go_wp2_with (first | ((with_reducible refine gate_dst (N := 2) rfl ?_); refine box_event ?hg (N := 2) ?hd (cs := (a0).A) (t := 30) ?hr ?_; (case hd => rfl); (case hg => rfl); (case hr => first | exact AR.run_box_row rfl rfl | (go_simp; done) | (go_simp; rfl)); intro gb104 hg w10 hbox hb; have n0_ := Aside0.mk (below_step (by repeat (first | (with_reducible first | exact HB.out | apply below_alloc | apply pw_below_drewN | apply below_drew1) | exact HB.out)) hb); have n1_ := Aside0.mk (hbox); have n2_ := Aside0.mk ((by rw [hg]; exact (below_size (by repeat (first | (with_reducible first | exact HB.out | apply below_alloc | apply pw_below_drewN | apply below_drew1) | exact HB.out))) : w.heap.size ≤ gb104)); have n3_ := Aside0.mk ((by rw [hg]; exact (below_size (by repeat (first | (with_reducible first | exact HB.out | apply below_alloc | apply pw_below_drewN | apply below_drew1) | exact HB.out))) : w.heap.size ≤ gb104)); clear HB; have HB := n0_; have BK104 := n1_; have GW104 := n2_; have GE104 := n3_; clear n0_ n1_ n2_ n3_; clear hb hbox hg) | ((with_reducible refine gate_dst (N := 3) rfl ?_); refine box_event ?hg (N := 3) ?hd (cs := (a1).A) (t := 32) ?hr ?_; (case hd => rfl); (case hg => rfl); (case hr => first | exact AR.run_box_row rfl rfl | (go_simp; done) | (go_simp; rfl)); intro gb105 hg w11 hbox hb; have n0_ := Aside0.mk (blk_below (g := gb104) (o := .cells (a0).A 30 (0, 0)) (by (with_reducible repeat (first | refine blk_drewN ?_ _ | refine blk_drew ?_ | refine blk_alloc ?_ _)); exact BK104.out) hb); have n1_ := Aside0.mk (below_step (by repeat (first | (with_reducible first | exact HB.out | apply below_alloc | apply pw_below_drewN | apply below_drew1 | refine below_set ?_ GE104.out) | exact HB.out)) hb); have n2_ := Aside0.mk (hbox); have n3_ := Aside0.mk ((by rw [hg]; exact (below_size (by repeat (first | (with_reducible first | exact HB.out | apply below_alloc | apply pw_below_drewN | apply below_drew1 | refine below_set ?_ GE104.out) | exact HB.out))) : w.heap.size ≤ gb105)); have n4_ := Aside0.mk ((by rw [hg]; exact (below_size (by repeat (first | (with_reducible first | exact HB.out | apply below_alloc | apply pw_below_drewN | apply below_drew1 | refine below_set ?_ GE104.out) | exact HB.out))) : w.heap.size ≤ gb105)); have n5_ := Aside0.mk ((by rw [hg]; exact Nat.ne_of_lt (blk_lt (g := gb104) (o := .cells (a0).A 30 (0, 0)) (by (with_reducible repeat (first | refine blk_drewN ?_ _ | refine blk_drew ?_ | refine blk_alloc ?_ _)); exact BK104.out)) : gb104 ≠ gb105)); have n6_ := Aside0.mk ((by rw [hg]; exact Nat.ne_of_gt (blk_lt (g := gb104) (o := .cells (a0).A 30 (0, 0)) (by (with_reducible repeat (first | refine blk_drewN ?_ _ | refine blk_drew ?_ | refine blk_alloc ?_ _)); exact BK104.out)) : gb105 ≠ gb104)); clear BK104; clear HB; have BK104 := n0_; have HB := n1_; have BK105 := n2_; have GW105 := n3_; have GE105 := n4_; have NB104_105 := n5_; have NB105_104 := n6_; clear n0_ n1_ n2_ n3_ n4_ n5_ n6_; clear hb hbox hg) | ((with_reducible refine gate_callee (f := 8) rfl ?_); refine goesL_ (some 5) rfl rfl Try.func8 (by kernel_rfl) rfl #[.pointer (some ⟨gb104, 0, none⟩), .pointer (some ⟨gb105, 0, none⟩)] rfl (by (try simp only [List.map_toArray, List.map_cons, List.map_nil]); first | done | rfl | (simp only [List.length_drop, List.length_take]; rfl)) ?_; (with_reducible refine (spec_l07Grounds.calls gb104 a0 gb105 a1 false _ ?side1 ?side2 A3.out).mono ?_); (case side1 => (with_reducible repeat (first | refine blk_drewN ?_ _ | refine blk_drew ?_ | refine blk_alloc ?_ _)); exact BK104.out); (case side2 => (with_reducible repeat (first | refine blk_drewN ?_ _ | refine blk_drew ?_ | refine blk_alloc ?_ _)); exact BK105.out); rintro e w12 ⟨rfl, hb⟩; refine ⟨_, rfl, ?_⟩; have n0_ := Aside0.mk (blk_below (g := gb104) (o := .cells (a0).A 30 (0, 0)) (by (with_reducible repeat (first | refine blk_drewN ?_ _ | refine blk_drew ?_ | refine blk_alloc ?_ _)); exact BK104.out) hb); have n1_ := Aside0.mk (blk_below (g := gb105) (o := .cells (a1).A 32 (0, 0)) (by (with_reducible repeat (first | refine blk_drewN ?_ _ | refine blk_drew ?_ | refine blk_alloc ?_ _)); exact BK105.out) hb); have n2_ := Aside0.mk (below_step (by repeat (first | (with_reducible first | exact HB.out | apply below_alloc | apply pw_below_drewN | apply below_drew1 | refine below_set ?_ GE104.out | refine below_set ?_ GE105.out) | exact HB.out)) hb); clear BK104; clear BK105; clear HB; have BK104 := n0_; have BK105 := n1_; have HB := n2_; clear n0_ n1_ n2_; (try clear hb); (try clear hb2); (try clear hk); (try clear hi)))
    go_ret
    exact ⟨by first | rfl | (simp [errW_none, errW_some] <;> rfl) | (simp [*, errW_none, errW_some] <;> rfl), by repeat (first | (with_reducible first | exact HB.out | apply below_alloc | apply pw_below_drewN | apply below_drew1 | refine below_set ?_ GE104.out | refine below_set ?_ GE105.out) | exact HB.out)⟩
end Go.Proofs.Ytagffdhfcgcnoaa.G
end
section
namespace Go.Proofs.Ytagffdhfcgcnoaa.G
open Go.RowKit Go.Proofs.YtagffdhfcgcnoaaW.PrintWords Go.Proofs.YtagffdhfcgcnoaaW.PrintLast Go.Proofs.YtagffdhfcgcnoaaW.PrintMore
attribute [local go_sem] max2_int min2_int max_two min_two max_three min_three max_four min_four   -- for this text's walks alone
set_option linter.unusedVariables false
set_option linter.unusedSimpArgs false
mutual
def impl_GroundsText.l0 : Nat → ByteArray → Int → Int → O30 → O32 → Option (ByteArray)
  | 0, _, _, _, _, _ => none
  | k + 1, x5, x14, x15, x109000, x110000 => if x15 < x14 then (impl_GroundsText.l1 k x5 x15 x14 x15 (x109000.z 0) 0 x109000 x110000) else (some x5)
def impl_GroundsText.l1 : Nat → ByteArray → Int → Int → Int → Int → Int → O30 → O32 → Option (ByteArray)
  | 0, _, _, _, _, _, _, _, _ => none
  | k + 1, x5, x6, x14, x15, x19, x20, x109000, x110000 => if x20 < x19 then (if 0 ≤ x6 then (if x6 < 16 then (if 0 ≤ x20 then (if x20 < 16 then (if 0 ≤ (x110000.z (x6.toNat * 16 + x20.toNat)) then (if (x110000.z (x6.toNat * 16 + x20.toNat)) ≤ (((x110000.z (x6.toNat * 16 + x20.toNat)) + 1) % 256) then (if (((x110000.z (x6.toNat * 16 + x20.toNat)) + 1) % 256) ≤ 4 then (if x5.size + ((⟨#[109, 115, 99, 114]⟩ : ByteArray).extract ((x110000.z (x6.toNat * 16 + x20.toNat)) : Int).toNat ((((x110000.z (x6.toNat * 16 + x20.toNat)) + 1) % 256) : Int).toNat).size ≤ 9223372036854775807 then (impl_GroundsText.l1 k (x5 ++ ((⟨#[109, 115, 99, 114]⟩ : ByteArray).extract ((x110000.z (x6.toNat * 16 + x20.toNat)) : Int).toNat ((((x110000.z (x6.toNat * 16 + x20.toNat)) + 1) % 256) : Int).toNat)) x6 x14 x15 x19 (IntKind.i8.wrap (x20 + 1)) x109000 x110000) else (none)) else (none)) else (none)) else (none)) else (none)) else (none)) else (none)) else (none)) else (if x5.size + 1 ≤ 9223372036854775807 then (impl_GroundsText.l0 k (x5 ++ (⟨#[10]⟩ : ByteArray)) x14 (IntKind.i8.wrap (x15 + 1)) x109000 x110000) else (none))
end
def impl_GroundsText.f (k : Nat) (a0 : O30) (a1 : O32) : Option (ByteArray) := (impl_ValidGrounds.f a0 a1).bind fun t110 => (if t110 = true then (impl_GroundsText.l0 k (⟨#[]⟩ : ByteArray) (a0.z 1) 0 a0 a1) else (some (⟨#[]⟩ : ByteArray)))
theorem impl_GroundsText.mono_l : ∀ k, (∀ y0 y1 y2 y3 y4, LeO (impl_GroundsText.l0 k y0 y1 y2 y3 y4) (impl_GroundsText.l0 (k + 1) y0 y1 y2 y3 y4)) ∧ (∀ y0 y1 y2 y3 y4 y5 y6 y7, LeO (impl_GroundsText.l1 k y0 y1 y2 y3 y4 y5 y6 y7) (impl_GroundsText.l1 (k + 1) y0 y1 y2 y3 y4 y5 y6 y7))
  | 0 => ⟨fun _ _ _ _ _ r h => by simp [impl_GroundsText.l0] at h, fun _ _ _ _ _ _ _ _ r h => by simp [impl_GroundsText.l1] at h⟩
  | k + 1 => by
    obtain ⟨ih0, ih1⟩ := impl_GroundsText.mono_l k
    refine ⟨?_, ?_⟩
    · intro y0 y1 y2 y3 y4
      unfold impl_GroundsText.l0
      repeat' first
      | (with_reducible exact ih0 _ _ _ _ _)
      | (with_reducible exact ih1 _ _ _ _ _ _ _ _)
      | (with_reducible exact LeO.refl _)
      | (with_reducible exact LeO.none _)
      | (with_reducible refine LeO.ite ?_ ?_)
      | (with_reducible refine LeO.bind ?_ (fun _ => ?_))
      | exact ih0 _ _ _ _ _
      | exact ih1 _ _ _ _ _ _ _ _
      | exact LeO.none _
      | refine LeO.ite ?_ ?_
      | refine LeO.bind ?_ (fun _ => ?_)
    · intro y0 y1 y2 y3 y4 y5 y6 y7
      unfold impl_GroundsText.l1
      repeat' first
      | (with_reducible exact ih0 _ _ _ _ _)
      | (with_reducible exact ih1 _ _ _ _ _ _ _ _)
      | (with_reducible exact LeO.refl _)
      | (with_reducible exact LeO.none _)
      | (with_reducible refine LeO.ite ?_ ?_)
      | (with_reducible refine LeO.bind ?_ (fun _ => ?_))
      | exact ih0 _ _ _ _ _
      | exact ih1 _ _ _ _ _ _ _ _
      | exact LeO.none _
      | refine LeO.ite ?_ ?_
      | refine LeO.bind ?_ (fun _ => ?_)
set_option maxHeartbeats 8000000 in
set_option maxRecDepth 100000 in
theorem impl_GroundsText.calls (k : Nat) (a0 : O30) (a1 : O32) (r : ByteArray) (w : World) (h : impl_GroundsText.f k a0 a1 = some r) :
    Calls Try.prog 7 #[VO30 a0, VO32 a1] w fun e w' => e = .returned (.string r) ∧ Below w.heap.size w w' := by
  have HB := Aside0.mk (Below.refl w.heap.size w)
  have H : ((impl_ValidGrounds.f a0 a1).bind fun t110 => (if t110 = true then (impl_GroundsText.l0 k (⟨#[]⟩ : ByteArray) (a0.z 1) 0 a0 a1) else (some (⟨#[]⟩ : ByteArray)))) = some r := h
  clear h
  replace H := Option.bind_eq_some_iff.mp H
  obtain ⟨t110, A30, H⟩ := H
  replace H : (if t110 = true then (impl_GroundsText.l0 k (⟨#[]⟩ : ByteArray) (a0.z 1) 0 a0 a1) else (some (⟨#[]⟩ : ByteArray))) = some r := H
  have A3 := Aside0.mk A30
  clear A30
  by_cases c4 : t110 = true
  · subst c4
    have H1 : (impl_GroundsText.l0 k (⟨#[]⟩ : ByteArray) (a0.z 1) 0 a0 a1) = some r := by rw [if_pos rfl] at H; exact H
    clear H
    have H := H1
    clear H1
    have H' := Aside0.mk H
    clear H
    go_enter Try.func7, Try.ntmps7
    go_wp2_with (first | ((with_reducible refine gate_dst (N := 2) rfl ?_); refine box_event ?hg (N := 2) ?hd (cs := (a0).A) (t := 30) ?hr ?_; (case hd => rfl); (case hg => rfl); (case hr => first | exact AR.run_box_row rfl rfl | (go_simp; done) | (go_simp; rfl)); intro gb108 hg w5 hbox hb; have n0_ := Aside0.mk (below_step (by repeat (first | (with_reducible first | exact HB.out | apply below_alloc | apply pw_below_drewN | apply below_drew1) | exact HB.out)) hb); have n1_ := Aside0.mk (hbox); have n2_ := Aside0.mk ((by rw [hg]; exact (below_size (by repeat (first | (with_reducible first | exact HB.out | apply below_alloc | apply pw_below_drewN | apply below_drew1) | exact HB.out))) : w.heap.size ≤ gb108)); have n3_ := Aside0.mk ((by rw [hg]; exact (below_size (by repeat (first | (with_reducible first | exact HB.out | apply below_alloc | apply pw_below_drewN | apply below_drew1) | exact HB.out))) : w.heap.size ≤ gb108)); clear HB; have HB := n0_; have BK108 := n1_; have GW108 := n2_; have GE108 := n3_; clear n0_ n1_ n2_ n3_; clear hb hbox hg) | ((with_reducible refine gate_dst (N := 3) rfl ?_); refine box_event ?hg (N := 3) ?hd (cs := (a1).A) (t := 32) ?hr ?_; (case hd => rfl); (case hg => rfl); (case hr => first | exact AR.run_box_row rfl rfl | (go_simp; done) | (go_simp; rfl)); intro gb109 hg w6 hbox hb; have n0_ := Aside0.mk (blk_below (g := gb108) (o := .cells (a0).A 30 (0, 0)) (by (with_reducible repeat (first | refine blk_drewN ?_ _ | refine blk_drew ?_ | refine blk_alloc ?_ _)); exact BK108.out) hb); have n1_ := Aside0.mk (below_step (by repeat (first | (with_reducible first | exact HB.out | apply below_alloc | apply pw_below_drewN | apply below_drew1 | refine below_set ?_ GE108.out) | exact HB.out)) hb); have n2_ := Aside0.mk (hbox); have n3_ := Aside0.mk ((by rw [hg]; exact (below_size (by repeat (first | (with_reducible first | exact HB.out | apply below_alloc | apply pw_below_drewN | apply below_drew1 | refine below_set ?_ GE108.out) | exact HB.out))) : w.heap.size ≤ gb109)); have n4_ := Aside0.mk ((by rw [hg]; exact (below_size (by repeat (first | (with_reducible first | exact HB.out | apply below_alloc | apply pw_below_drewN | apply below_drew1 | refine below_set ?_ GE108.out) | exact HB.out))) : w.heap.size ≤ gb109)); have n5_ := Aside0.mk ((by rw [hg]; exact Nat.ne_of_lt (blk_lt (g := gb108) (o := .cells (a0).A 30 (0, 0)) (by (with_reducible repeat (first | refine blk_drewN ?_ _ | refine blk_drew ?_ | refine blk_alloc ?_ _)); exact BK108.out)) : gb108 ≠ gb109)); have n6_ := Aside0.mk ((by rw [hg]; exact Nat.ne_of_gt (blk_lt (g := gb108) (o := .cells (a0).A 30 (0, 0)) (by (with_reducible repeat (first | refine blk_drewN ?_ _ | refine blk_drew ?_ | refine blk_alloc ?_ _)); exact BK108.out)) : gb109 ≠ gb108)); clear BK108; clear HB; have BK108 := n0_; have HB := n1_; have BK109 := n2_; have GW109 := n3_; have GE109 := n4_; have NB108_109 := n5_; have NB109_108 := n6_; clear n0_ n1_ n2_ n3_ n4_ n5_ n6_; clear hb hbox hg) | ((with_reducible refine gate_dst (N := 9) rfl ?_); (with_reducible refine AR.gate_load (t := 30) rfl ?_); (try refine gate_guard (by rfl) ?_); refine AR.wpList_load_blk rfl 30 _ rfl gb108 rfl (a0).A _ (by (with_reducible repeat (first | refine blk_drewN ?_ _ | refine blk_drew ?_ | refine blk_alloc ?_ _)); exact BK108.out) Try.underlying30 rfl (szO30 _) ?_) | ((with_reducible refine gate_dst (N := 10) rfl ?_); (with_reducible refine AR.gate_load (t := 32) rfl ?_); (try refine gate_guard (by rfl) ?_); refine AR.wpList_load_blk rfl 32 _ rfl gb109 rfl (a1).A _ (by (with_reducible repeat (first | refine blk_drewN ?_ _ | refine blk_drew ?_ | refine blk_alloc ?_ _)); exact BK109.out) Try.underlying32 rfl (szO32 _) ?_) | ((with_reducible refine gate_callee (f := 12) rfl ?_); refine goesL_ (some 11) rfl rfl Try.func12 (by kernel_rfl) rfl #[VO30 a0, VO32 a1] rfl (by (try simp only [List.map_toArray, List.map_cons, List.map_nil]); first | done | rfl | (simp only [List.length_drop, List.length_take]; rfl)) ?_; (with_reducible refine (impl_ValidGrounds.calls a0 a1 true _ A3.out).mono ?_); rintro e w7 ⟨rfl, hb⟩; refine ⟨_, rfl, ?_⟩; have n0_ := Aside0.mk (blk_below (g := gb108) (o := .cells (a0).A 30 (0, 0)) (by (with_reducible repeat (first | refine blk_drewN ?_ _ | refine blk_drew ?_ | refine blk_alloc ?_ _)); exact BK108.out) hb); have n1_ := Aside0.mk (blk_below (g := gb109) (o := .cells (a1).A 32 (0, 0)) (by (with_reducible repeat (first | refine blk_drewN ?_ _ | refine blk_drew ?_ | refine blk_alloc ?_ _)); exact BK109.out) hb); have n2_ := Aside0.mk (below_step (by repeat (first | (with_reducible first | exact HB.out | apply below_alloc | apply pw_below_drewN | apply below_drew1 | refine below_set ?_ GE108.out | refine below_set ?_ GE109.out) | exact HB.out)) hb); clear BK108; clear BK109; clear HB; have BK108 := n0_; have BK109 := n1_; have HB := n2_; clear n0_ n1_ n2_; (try clear hb); (try clear hb2); (try clear hk); (try clear hi); have hco108_0 : w7.cell? ⟨gb108, 0, none⟩ = some (.int .i8 (a0.z 0)) := AR.blk_cell BK108.out (Flat.at_ a0 (by decide)); have hco108_1 : w7.cell? ⟨gb108, 1, none⟩ = some (.int .i8 (a0.z 1)) := AR.blk_cell BK108.out (Flat.at_ a0 (by decide))))
    go_loopg [5, 15] k (fun kq v5 v15 w' => ∃ (x5_1 : ByteArray) (x15_1 : Int), v5 = .string x5_1 ∧ v15 = .int .i8 x15_1 ∧ Aside0 (impl_GroundsText.l0 kq x5_1 (a0.z 1) x15_1 a0 a1 = some r) ∧ Aside0 (kq ≤ k) ∧ Aside0 (w'.heap[gb108]? = some (.cells (a0).A 30 (0, 0))) ∧ Aside0 (w'.heap[gb109]? = some (.cells (a1).A 32 (0, 0))) ∧ Aside0 (Below w.heap.size w w'))
    case atStart => exact ⟨((⟨#[]⟩ : ByteArray)), (0), (by first | rfl | (simp; done) | (simp [*]; done)), (by first | rfl | (simp; done) | (simp [*]; done)), H', ⟨Nat.le_refl _⟩, ⟨by (with_reducible repeat (first | refine blk_drewN ?_ _ | refine blk_drew ?_ | refine blk_alloc ?_ _)); exact BK108.out⟩, ⟨by (with_reducible repeat (first | refine blk_drewN ?_ _ | refine blk_drew ?_ | refine blk_alloc ?_ _)); exact BK109.out⟩, ⟨by repeat (first | (with_reducible first | exact HB.out | apply below_alloc | apply pw_below_drewN | apply below_drew1 | refine below_set ?_ GE108.out | refine below_set ?_ GE109.out) | exact HB.out)⟩⟩
    case round =>
      clear H'
      try clear c1
      try clear p2
      try clear c4
      try clear c7
      obtain ⟨x5_1, x15_1, rfl, rfl, HA, HK1, BK108, BK109, HB⟩ := hrel
      cases gk with
      | zero => exact absurd HA.out (by simp [impl_GroundsText.l0])
      | succ k1 =>
        have H := HA.out
        clear HA
        simp only [impl_GroundsText.l0] at H
        by_cases c8 : x15_1 < (a0.z 1)
        · rw [if_pos c8] at H
          have c8b0 : decide (x15_1 < (a0.z 1)) = true := decide_eq_true c8
          clear c8
          have H' := Aside0.mk H
          clear H
          have hco108_0 : wr.cell? ⟨gb108, 0, none⟩ = some (.int .i8 (a0.z 0)) := AR.blk_cell BK108.out (Flat.at_ a0 (by decide))
          have hco108_1 : wr.cell? ⟨gb108, 1, none⟩ = some (.int .i8 (a0.z 1)) := AR.blk_cell BK108.out (Flat.at_ a0 (by decide))
          go_wp2
          go_loopg [5, 20] k1 (fun kq v5 v20 w' => ∃ (x5_2 : ByteArray) (x20_2 : Int), v5 = .string x5_2 ∧ v20 = .int .i8 x20_2 ∧ Aside0 (impl_GroundsText.l1 kq x5_2 x15_1 (a0.z 1) x15_1 (a0.z 0) x20_2 a0 a1 = some r) ∧ Aside0 (kq ≤ k1) ∧ Aside0 (w'.heap[gb108]? = some (.cells (a0).A 30 (0, 0))) ∧ Aside0 (w'.heap[gb109]? = some (.cells (a1).A 32 (0, 0))) ∧ Aside0 (Below w.heap.size w w'))
          case atStart => exact ⟨(x5_1), (0), (by first | rfl | (simp; done) | (simp [*]; done)), (by first | rfl | (simp; done) | (simp [*]; done)), H', ⟨Nat.le_refl _⟩, ⟨by (with_reducible repeat (first | refine blk_drewN ?_ _ | refine blk_drew ?_ | refine blk_alloc ?_ _)); exact BK108.out⟩, ⟨by (with_reducible repeat (first | refine blk_drewN ?_ _ | refine blk_drew ?_ | refine blk_alloc ?_ _)); exact BK109.out⟩, ⟨by repeat (first | (with_reducible first | exact HB.out | apply below_alloc | apply pw_below_drewN | apply below_drew1 | refine below_set ?_ GE108.out | refine below_set ?_ GE109.out) | exact HB.out)⟩⟩
          case round =>
            clear H'
            try clear c1
            try clear p2
            try clear c4
            try clear c7
            try clear c8
            try clear c8b0
            try clear p2
            obtain ⟨x5_2, x20_2, rfl, rfl, HA, HK2, BK108, BK109, HB⟩ := hrel
            cases gk with
            | zero => exact absurd HA.out (by simp [impl_GroundsText.l1])
            | succ k2 =>
              have H := HA.out
              clear HA
              simp only [impl_GroundsText.l1] at H
              by_cases c9 : x20_2 < (a0.z 0)
              · rw [if_pos c9] at H
                have c9b0 : decide (x20_2 < (a0.z 0)) = true := decide_eq_true c9
                clear c9
                by_cases c10 : 0 ≤ x15_1
                · rw [if_pos c10] at H
                  have c10b0 : decide (0 ≤ x15_1) = true := decide_eq_true c10
                  clear c10
                  by_cases c11 : x15_1 < 16
                  · rw [if_pos c11] at H
                    have c11b0 : decide (x15_1 < 16) = true := decide_eq_true c11
                    clear c11
                    by_cases c13 : 0 ≤ x20_2
                    · rw [if_pos c13] at H
                      have c13b0 : decide (0 ≤ x20_2) = true := decide_eq_true c13
                      clear c13
                      by_cases c14 : x20_2 < 16
                      · rw [if_pos c14] at H
                        have c14b0 : decide (x20_2 < 16) = true := decide_eq_true c14
                        clear c14
                        obtain ⟨ji16, hji16⟩ : ∃ j_ : Int, (a1.z (x15_1.toNat * 16 + x20_2.toNat)) = j_ := ⟨_, rfl⟩
                        replace H : (if 0 ≤ (ji16) then (if (ji16) ≤ (((ji16) + 1) % 256) then (if (((ji16) + 1) % 256) ≤ 4 then (if x5_2.size + ((⟨#[109, 115, 99, 114]⟩ : ByteArray).extract ((ji16) : Int).toNat ((((ji16) + 1) % 256) : Int).toNat).size ≤ 9223372036854775807 then (impl_GroundsText.l1 k2 (x5_2 ++ ((⟨#[109, 115, 99, 114]⟩ : ByteArray).extract ((ji16) : Int).toNat ((((ji16) + 1) % 256) : Int).toNat)) x15_1 (a0.z 1) x15_1 (a0.z 0) (IntKind.i8.wrap (x20_2 + 1)) a0 a1) else (none)) else (none)) else (none)) else (none)) = some r := by first | (rw [hji16] at H; exact H) | (simp only [hji16] at H ⊢; exact H)
                        by_cases c17 : 0 ≤ (ji16)
                        · rw [if_pos c17] at H
                          have c17b0 := eq_true c17
                          have c17b1 : decide (0 ≤ (ji16)) = true := decide_eq_true c17
                          clear c17
                          by_cases c18 : (ji16) ≤ (((ji16) + 1) % 256)
                          · rw [if_pos c18] at H
                            have c18b0 := eq_true c18
                            have c18b1 : decide ((ji16) ≤ (((ji16) + 1) % 256)) = true := decide_eq_true c18
                            by_cases c19 : (((ji16) + 1) % 256) ≤ 4
                            · rw [if_pos c19] at H
                              have c19b0 := eq_true c19
                              have c19b1 : decide ((((ji16) + 1) % 256) ≤ 4) = true := decide_eq_true c19
                              by_cases c20 : x5_2.size + ((⟨#[109, 115, 99, 114]⟩ : ByteArray).extract ((ji16) : Int).toNat ((((ji16) + 1) % 256) : Int).toNat).size ≤ 9223372036854775807
                              · rw [if_pos c20] at H
                                have c20b0 := eq_true c20
                                have c20b1 : decide (x5_2.size + ((⟨#[109, 115, 99, 114]⟩ : ByteArray).extract ((ji16) : Int).toNat ((((ji16) + 1) % 256) : Int).toNat).size ≤ 9223372036854775807) = true := decide_eq_true c20
                                try have c20b2 : (9223372036854775807 < x5_2.size + ((⟨#[109, 115, 99, 114]⟩ : ByteArray).extract ((ji16) : Int).toNat ((((ji16) + 1) % 256) : Int).toNat).size) = False := eq_false (Nat.not_lt.2 c20)
                                have H' := Aside0.mk H
                                clear H
                                have p12 : 0 ≤ (x15_1 : Int) := of_decide_eq_true (by first | (with_reducible assumption) | assumption)
                                have q12 : (x15_1 : Int) < (16 : Int) := of_decide_eq_true (by first | (with_reducible assumption) | assumption)
                                replace p12 := eq_true p12
                                replace q12 := eq_true q12
                                have p15 : 0 ≤ (x20_2 : Int) := of_decide_eq_true (by first | (with_reducible assumption) | assumption)
                                have q15 : (x20_2 : Int) < (16 : Int) := of_decide_eq_true (by first | (with_reducible assumption) | assumption)
                                replace p15 := eq_true p15
                                replace q15 := eq_true q15
                                have hco109_v111 : wr.cell? ⟨gb109, x15_1.toNat * 16 + x20_2.toNat, none⟩ = some (.int .u8 (a1.z (x15_1.toNat * 16 + x20_2.toNat))) := AR.blk_cell BK109.out (Flat.at_ a1 (by first | decide | (have hb0_ : 0 ≤ (x15_1 : Int) := (by first | omega | exact of_decide_eq_true (by first | (with_reducible assumption) | assumption)); have hc0_ : (x15_1 : Int) < 16 := (by first | omega | exact of_decide_eq_true (by first | (with_reducible assumption) | assumption)); have hb1_ : 0 ≤ (x20_2 : Int) := (by first | omega | exact of_decide_eq_true (by first | (with_reducible assumption) | assumption)); have hc1_ : (x20_2 : Int) < 16 := (by first | omega | exact of_decide_eq_true (by first | (with_reducible assumption) | assumption)); omega)))
                                go_wp2
                                go_roundg k2
                                case measure => have := HK1.out; have := HK2.out; omega
                                case rel => exact ⟨(x5_2 ++ ((⟨#[109, 115, 99, 114]⟩ : ByteArray).extract ((ji16) : Int).toNat ((((ji16) + 1) % 256) : Int).toNat)), (IntKind.i8.wrap (x20_2 + 1)), (by first | rfl | (simp; done) | (simp only [← hji16] <;> (first | rfl | simp)) | (simp [*]; done)), (by first | rfl | (simp; done) | (simp [*]; done)), H', ⟨by have := HK1.out; have := HK2.out; omega⟩, ⟨by (with_reducible repeat (first | refine blk_drewN ?_ _ | refine blk_drew ?_ | refine blk_alloc ?_ _)); exact BK108.out⟩, ⟨by (with_reducible repeat (first | refine blk_drewN ?_ _ | refine blk_drew ?_ | refine blk_alloc ?_ _)); exact BK109.out⟩, ⟨by repeat (first | (with_reducible first | exact HB.out | apply below_alloc | apply pw_below_drewN | apply below_drew1 | refine below_set ?_ GE108.out | refine below_set ?_ GE109.out) | exact HB.out)⟩⟩
                              · rw [if_neg c20] at H
                                exact absurd H (by simp)
                            · rw [if_neg c19] at H
                              exact absurd H (by simp)
                          · rw [if_neg c18] at H
                            exact absurd H (by simp)
                        · rw [if_neg c17] at H
                          exact absurd H (by simp)
                      · rw [if_neg c14] at H
                        exact absurd H (by simp)
                    · rw [if_neg c13] at H
                      exact absurd H (by simp)
                  · rw [if_neg c11] at H
                    exact absurd H (by simp)
                · rw [if_neg c10] at H
                  exact absurd H (by simp)
              · rw [if_neg c9] at H
                have c9b0 : decide (x20_2 < (a0.z 0)) = false := decide_eq_false c9
                clear c9
                by_cases c21 : x5_2.size + 1 ≤ 9223372036854775807
                · rw [if_pos c21] at H
                  have c21b0 := eq_true c21
                  have c21b1 : decide (x5_2.size + 1 ≤ 9223372036854775807) = true := decide_eq_true c21
                  try have c21b2 : (9223372036854775807 < x5_2.size + 1) = False := eq_false (Nat.not_lt.2 c21)
                  have H' := Aside0.mk H
                  clear H
                  go_wp2
                  go_roundg k2
                  case measure => have := HK1.out; have := HK2.out; omega
                  case rel => exact ⟨(x5_2 ++ (⟨#[10]⟩ : ByteArray)), (IntKind.i8.wrap (x15_1 + 1)), (by first | rfl | (simp; done) | (simp [*]; done)), (by first | rfl | (simp; done) | (simp [*]; done)), H', ⟨by have := HK1.out; have := HK2.out; omega⟩, ⟨by (with_reducible repeat (first | refine blk_drewN ?_ _ | refine blk_drew ?_ | refine blk_alloc ?_ _)); exact BK108.out⟩, ⟨by (with_reducible repeat (first | refine blk_drewN ?_ _ | refine blk_drew ?_ | refine blk_alloc ?_ _)); exact BK109.out⟩, ⟨by repeat (first | (with_reducible first | exact HB.out | apply below_alloc | apply pw_below_drewN | apply below_drew1 | refine below_set ?_ GE108.out | refine below_set ?_ GE109.out) | exact HB.out)⟩⟩
                · rw [if_neg c21] at H
                  exact absurd H (by simp)
        · rw [if_neg c8] at H
          have c8b0 : decide (x15_1 < (a0.z 1)) = false := decide_eq_false c8
          clear c8
          obtain rfl := Option.some.inj H
          go_wp2
          go_ret
          exact ⟨by first | rfl | (simp [errW_none, errW_some] <;> rfl) | (simp [*, errW_none, errW_some] <;> rfl), by repeat (first | (with_reducible first | exact HB.out | apply below_alloc | apply pw_below_drewN | apply below_drew1 | refine below_set ?_ GE108.out | refine below_set ?_ GE109.out) | exact HB.out)⟩
  · replace c4 := Bool.eq_false_iff.mpr c4
    subst c4
    have H1 : (some (⟨#[]⟩ : ByteArray)) = some r := by rw [if_neg (show ¬ (false = true) by decide)] at H; exact H
    clear H
    have H := H1
    clear H1
    obtain rfl := Option.some.inj H
    go_enter Try.func7, Try.ntmps7
    go_wp2_with (first | ((with_reducible refine gate_dst (N := 2) rfl ?_); refine box_event ?hg (N := 2) ?hd (cs := (a0).A) (t := 30) ?hr ?_; (case hd => rfl); (case hg => rfl); (case hr => first | exact AR.run_box_row rfl rfl | (go_simp; done) | (go_simp; rfl)); intro gb108 hg w22 hbox hb; have n0_ := Aside0.mk (below_step (by repeat (first | (with_reducible first | exact HB.out | apply below_alloc | apply pw_below_drewN | apply below_drew1) | exact HB.out)) hb); have n1_ := Aside0.mk (hbox); have n2_ := Aside0.mk ((by rw [hg]; exact (below_size (by repeat (first | (with_reducible first | exact HB.out | apply below_alloc | apply pw_below_drewN | apply below_drew1) | exact HB.out))) : w.heap.size ≤ gb108)); have n3_ := Aside0.mk ((by rw [hg]; exact (below_size (by repeat (first | (with_reducible first | exact HB.out | apply below_alloc | apply pw_below_drewN | apply below_drew1) | exact HB.out))) : w.heap.size ≤ gb108)); clear HB; have HB := n0_; have BK108 := n1_; have GW108 := n2_; have GE108 := n3_; clear n0_ n1_ n2_ n3_; clear hb hbox hg) | ((with_reducible refine gate_dst (N := 3) rfl ?_); refine box_event ?hg (N := 3) ?hd (cs := (a1).A) (t := 32) ?hr ?_; (case hd => rfl); (case hg => rfl); (case hr => first | exact AR.run_box_row rfl rfl | (go_simp; done) | (go_simp; rfl)); intro gb109 hg w23 hbox hb; have n0_ := Aside0.mk (blk_below (g := gb108) (o := .cells (a0).A 30 (0, 0)) (by (with_reducible repeat (first | refine blk_drewN ?_ _ | refine blk_drew ?_ | refine blk_alloc ?_ _)); exact BK108.out) hb); have n1_ := Aside0.mk (below_step (by repeat (first | (with_reducible first | exact HB.out | apply below_alloc | apply pw_below_drewN | apply below_drew1 | refine below_set ?_ GE108.out) | exact HB.out)) hb); have n2_ := Aside0.mk (hbox); have n3_ := Aside0.mk ((by rw [hg]; exact (below_size (by repeat (first | (with_reducible first | exact HB.out | apply below_alloc | apply pw_below_drewN | apply below_drew1 | refine below_set ?_ GE108.out) | exact HB.out))) : w.heap.size ≤ gb109)); have n4_ := Aside0.mk ((by rw [hg]; exact (below_size (by repeat (first | (with_reducible first | exact HB.out | apply below_alloc | apply pw_below_drewN | apply below_drew1 | refine below_set ?_ GE108.out) | exact HB.out))) : w.heap.size ≤ gb109)); have n5_ := Aside0.mk ((by rw [hg]; exact Nat.ne_of_lt (blk_lt (g := gb108) (o := .cells (a0).A 30 (0, 0)) (by (with_reducible repeat (first | refine blk_drewN ?_ _ | refine blk_drew ?_ | refine blk_alloc ?_ _)); exact BK108.out)) : gb108 ≠ gb109)); have n6_ := Aside0.mk ((by rw [hg]; exact Nat.ne_of_gt (blk_lt (g := gb108) (o := .cells (a0).A 30 (0, 0)) (by (with_reducible repeat (first | refine blk_drewN ?_ _ | refine blk_drew ?_ | refine blk_alloc ?_ _)); exact BK108.out)) : gb109 ≠ gb108)); clear BK108; clear HB; have BK108 := n0_; have HB := n1_; have BK109 := n2_; have GW109 := n3_; have GE109 := n4_; have NB108_109 := n5_; have NB109_108 := n6_; clear n0_ n1_ n2_ n3_ n4_ n5_ n6_; clear hb hbox hg) | ((with_reducible refine gate_dst (N := 9) rfl ?_); (with_reducible refine AR.gate_load (t := 30) rfl ?_); (try refine gate_guard (by rfl) ?_); refine AR.wpList_load_blk rfl 30 _ rfl gb108 rfl (a0).A _ (by (with_reducible repeat (first | refine blk_drewN ?_ _ | refine blk_drew ?_ | refine blk_alloc ?_ _)); exact BK108.out) Try.underlying30 rfl (szO30 _) ?_) | ((with_reducible refine gate_dst (N := 10) rfl ?_); (with_reducible refine AR.gate_load (t := 32) rfl ?_); (try refine gate_guard (by rfl) ?_); refine AR.wpList_load_blk rfl 32 _ rfl gb109 rfl (a1).A _ (by (with_reducible repeat (first | refine blk_drewN ?_ _ | refine blk_drew ?_ | refine blk_alloc ?_ _)); exact BK109.out) Try.underlying32 rfl (szO32 _) ?_) | ((with_reducible refine gate_callee (f := 12) rfl ?_); refine goesL_ (some 11) rfl rfl Try.func12 (by kernel_rfl) rfl #[VO30 a0, VO32 a1] rfl (by (try simp only [List.map_toArray, List.map_cons, List.map_nil]); first | done | rfl | (simp only [List.length_drop, List.length_take]; rfl)) ?_; (with_reducible refine (impl_ValidGrounds.calls a0 a1 false _ A3.out).mono ?_); rintro e w24 ⟨rfl, hb⟩; refine ⟨_, rfl, ?_⟩; have n0_ := Aside0.mk (blk_below (g := gb108) (o := .cells (a0).A 30 (0, 0)) (by (with_reducible repeat (first | refine blk_drewN ?_ _ | refine blk_drew ?_ | refine blk_alloc ?_ _)); exact BK108.out) hb); have n1_ := Aside0.mk (blk_below (g := gb109) (o := .cells (a1).A 32 (0, 0)) (by (with_reducible repeat (first | refine blk_drewN ?_ _ | refine blk_drew ?_ | refine blk_alloc ?_ _)); exact BK109.out) hb); have n2_ := Aside0.mk (below_step (by repeat (first | (with_reducible first | exact HB.out | apply below_alloc | apply pw_below_drewN | apply below_drew1 | refine below_set ?_ GE108.out | refine below_set ?_ GE109.out) | exact HB.out)) hb); clear BK108; clear BK109; clear HB; have BK108 := n0_; have BK109 := n1_; have HB := n2_; clear n0_ n1_ n2_; (try clear hb); (try clear hb2); (try clear hk); (try clear hi)))
    go_ret
    exact ⟨by first | rfl | (simp [errW_none, errW_some] <;> rfl) | (simp [*, errW_none, errW_some] <;> rfl), by repeat (first | (with_reducible first | exact HB.out | apply below_alloc | apply pw_below_drewN | apply below_drew1 | refine below_set ?_ GE108.out | refine below_set ?_ GE109.out) | exact HB.out)⟩
end Go.Proofs.Ytagffdhfcgcnoaa.G
end
section
namespace Go.Proofs.Ytagffdhfcgcnoaa.AR
open Go.RowKit Go.Proofs.YtagffdhfcgcnoaaW.PrintWords
variable {P : Program} {ops : Array Oper} {rest : List Oper} {o : Oper} {a : Act} {Q : Exit → Act → World → Prop}
theorem results_cell {fn : Func} {p : Tmp} {ty : TypeId} (h : fn.results = #[.cell p ty]) {tmps : Array Value} {w : World} {g : Nat} {cs : Array Value} (hp : tmps.getD p undef = .pointer (some ⟨g, 0, none⟩))
    (hl : (loadVar ty ⟨g, 0, none⟩).run P w = .ok (.agg cs) w) : (results fn tmps).run P w = .ok (.agg cs) w := by
  have e : (results fn tmps).run P w = ((asAddr (tmps.getD p undef)).run P w).andThen fun a w₁ => (loadVar ty a).run P w₁ := by
    simp only [results, h]
    simp [Sem.run_bind, Result.andThen]
  rw [e, hp]
  exact hl
def CopyTo (cur : Array Value) (N i : Nat) (src : Array Value) : Prop := cur.size = N ∧ ∀ j, j < i → cur[j]? = src[j]?
theorem CopyTo.zero {cur : Array Value} {N : Nat} {src : Array Value} (h : cur.size = N) : CopyTo cur N 0 src := ⟨h, fun j hj => absurd hj (by omega)⟩
theorem CopyTo.step {cur src : Array Value} {N i m : Nat} {vs : List Value} (h : CopyTo cur N i src) (hm : vs.length = m) (hi : i + m ≤ N) (hv : ∀ j, j < m → vs[j]? = src[i + j]?) :
    CopyTo (cur.toList.take i ++ vs ++ cur.toList.drop (i + m)).toArray N (i + m) src := by
  obtain ⟨h1, h2⟩ := h
  have hl : cur.toList.length = N := by simpa using h1
  refine ⟨by simp [hm]; omega, fun j hj => ?_⟩
  simp only [List.getElem?_toArray]
  by_cases hji : j < i
  · rw [List.append_assoc, List.getElem?_append_left (by simp; omega), List.getElem?_take_of_lt hji, ← h2 j hji]; simp
  · rw [List.getElem?_append_left (by simp; omega), List.getElem?_append_right (by simp; omega), show (cur.toList.take i).length = i by simp; omega, hv (j - i) (by omega)]
    congr 1; omega
theorem CopyTo.set {cur src : Array Value} {N i : Nat} {v : Value} (h : CopyTo cur N i src) (hv : src[i]? = some v) (hi : i < N) : CopyTo (cur.setIfInBounds i v) N (i + 1) src := by
  obtain ⟨h1, h2⟩ := h
  refine ⟨by simpa using h1, fun j hj => ?_⟩
  by_cases e : j = i
  · subst e; rw [hv, Array.getElem?_setIfInBounds_self_of_lt (by omega)]
  · rw [Array.getElem?_setIfInBounds_ne (Ne.symm e)]; exact h2 j (by omega)
theorem CopyTo.done {cur src : Array Value} {N : Nat} (h : CopyTo cur N N src) (hs : src.size = N) : cur = src := by
  apply Array.ext_getElem?
  intro j
  by_cases hj : j < N
  · exact h.2 j hj
  · rw [Array.getElem?_eq_none (by have := h.1; omega), Array.getElem?_eq_none (by omega)]
end Go.Proofs.Ytagffdhfcgcnoaa.AR
end
section
namespace Go.Proofs.Ytagffdhfcgcnoaa.G
open Go.RowKit Go.Proofs.YtagffdhfcgcnoaaW.PrintWords Go.Proofs.YtagffdhfcgcnoaaW.PrintLast Go.Proofs.YtagffdhfcgcnoaaW.PrintMore AR M
set_option linter.unusedVariables false
set_option linter.unusedSimpArgs false
theorem szq24 (b : Flat 258 .i8) (n : Nat) : (Try.prog.info? 24).map (·.size) = some (b.sub n 256).size := by rw [Flat.sub_size]; kernel_rfl
theorem szq32 (b : Flat 256 .u8) (n : Nat) : (Try.prog.info? 32).map (·.size) = some (b.sub n 256).size := by rw [Flat.sub_size]; kernel_rfl
theorem zv24 (w : World) : (zeroValue 24).run Try.prog w = .ok (.agg (Array.replicate 256 (.int .i8 0))) w := by kernel_rfl
theorem zv32 (w : World) : (zeroValue 32).run Try.prog w = .ok (.agg (Array.replicate 256 (.int .u8 0))) w := by kernel_rfl
set_option maxHeartbeats 1000000 in
set_option maxRecDepth 100000 in
theorem toInt8A16_any (b : Flat 258 .i8) (off : Nat) (w : World) : Calls Try.prog 15 #[.agg (b.sub off 16)] w fun e w' => e = .returned (.agg (b.sub off 16)) ∧ Below w.heap.size w w' := by
  have SZ := Lib.hid (szr23 b off)
  go_enter Try.func15, Try.ntmps15
  go_wp2_with (first
    | ((with_reducible refine gate_dst (N := 1) rfl ?_); refine wpList_box_ev rfl 23 _ rfl (b.sub off 16) rfl ?_; intro g w1 hg hb hb1; have HG := Lib.hid hb; have HB0 := Lib.hid hb1; clear hb hb1 hg)
    | ((with_reducible refine gate_dst (N := 2) rfl ?_); refine box_event rfl (N := 2) rfl (t := 23) (exec_alloc rfl (Try.zeroValue23 _)) ?_; intro g2 hg wa ha hb; have HA := Lib.hid ha; have HB1 := Lib.hid (below_join HB0.out hb); have HG1 := Lib.hid (blkB HG.out hb); have h2 := Lib.hid (show w.heap.size ≤ g2 by have := HB0.out.size; omega); have h12 := Lib.hid (show g ≠ g2 by have := (Array.getElem?_eq_some_iff.1 HG.out).1; omega); clear ha hb hg)
    | ((with_reducible refine gate_dst (N := 3) rfl ?_); refine box_event rfl (N := 3) rfl (t := 23) (exec_alloc rfl (Try.zeroValue23 _)) ?_; intro g3 hg wb ha hb; have HO := Lib.hid ha; have HB2 := Lib.hid (below_join HB1.out hb); have HG2 := Lib.hid (blkB HG1.out hb); have HA2 := Lib.hid (blkB HA.out hb); have h3 := Lib.hid (show w.heap.size ≤ g3 by have := HB1.out.size; omega); have h13 := Lib.hid (show g ≠ g3 by have := (Array.getElem?_eq_some_iff.1 HG1.out).1; omega); have h23 := Lib.hid (show g2 ≠ g3 by have := (Array.getElem?_eq_some_iff.1 HA.out).1; omega); clear ha hb hg))
  go_loopw [4] (fun i wr => ∃ (n : Nat) (cur : Array Value), n ≤ 16 ∧ i = .int .i64 n ∧ Hid (wr.heap[g3]? = some (.cells cur 23 (0, 0))) ∧ Hid (CopyTo cur 16 n (b.sub off 16)) ∧ Hid (wr.heap[g]? = some (.cells (b.sub off 16) 23 (0, 0))) ∧ Hid (∃ z : Array Value, z.size = 16 ∧ wr.heap[g2]? = some (.cells z 23 (0, 0))) ∧ Hid (Below w.heap.size w wr)) (fun i _ => 16 - (intOf i).toNat)
  case atStart => exact ⟨0, _, Nat.zero_le _, rfl, HO.out, CopyTo.zero rfl, HG2.out, ⟨_, rfl, HA2.out⟩, HB2.out⟩
  case round =>
    obtain ⟨n, cur, hn, rfl, HC, HT, HS, HZ, HD⟩ := hrel
    by_cases hlt : n < 16
    · have i0 : (n : Int) < 16 := by omega
      have i1 : (0 : Int) ≤ (n : Int) := by omega
      have cc := blk_cell (j := n) HS.out (b.sub_at off 16 hlt)
      have HV := Lib.hid (b.sub_at off 16 hlt)
      generalize b.z (off + n) = v at cc HV
      obtain ⟨u, hu⟩ : ∃ u, cur[n]? = some u := ⟨cur[n]'(by have := HT.out.1; omega), Array.getElem?_eq_getElem _⟩
      have ct := blk_cell HC.out hu
      have cf := blk_frozen HC.out n
      have HW := Lib.hid (setCell_eq_setRow wr g3 n cur _ _ (.int .i8 v) HC.out)
      have HC1 := Lib.hid (setRow_heap wr g3 cur (cur.setIfInBounds n (.int .i8 v)) _ _ HC.out)
      have HT1 := Lib.hid (HT.out.set HV.out hlt)
      have HD1 := Lib.hid (below_setRow HD.out h3.out (cur.setIfInBounds n (.int .i8 v)))
      have HS1 := Lib.hid ((setRow_other wr g3 g (cur.setIfInBounds n (.int .i8 v)) h13.out).trans HS.out)
      have HZ1 := Lib.hid (show ∃ z : Array Value, z.size = 16 ∧ (wr.setRow g3 (cur.setIfInBounds n (.int .i8 v))).heap[g2]? = some (.cells z 23 (0, 0)) by obtain ⟨z, hz, hz2⟩ := HZ.out; exact ⟨z, hz, (setRow_other _ _ _ _ h23.out).trans hz2⟩)
      clear hu
      go_wp2
      go_roundw
      case rel => exact ⟨n + 1, cur.setIfInBounds n (.int .i8 v), by omega, by go_num, by rw [HW.out]; exact HC1.out, HT1.out, by rw [HW.out]; exact HS1.out, by rw [HW.out]; exact HZ1.out, by rw [HW.out]; exact HD1.out⟩
      case measure => simp [intOf]; omega
    · obtain rfl : n = 16 := by omega
      obtain rfl := HT.out.done (b.sub_size off 16)
      obtain ⟨z, hz, hz2⟩ := HZ.out
      have HZ2 := Lib.hid hz2
      have HZS := Lib.hid hz
      clear hz hz2 HZ
      go_wp2_with (first
        | ((with_reducible refine gate_dst (N := 14) rfl ?_); refine Kd.event_run rfl (exec_load_blk rfl rfl HC.out Try.underlying23 rfl SZ.out) ?_)
        | ((with_reducible refine gate_store (t := 23) (p := 2) rfl ?_); refine store_event (t := 23) (p := 2) rfl rfl rfl (exec_store_row (t2 := 23) (vs := b.sub off 16) rfl rfl rfl HZ2.out (by rw [HZS.out, Flat.sub_size]; decide) (b.sub_one _ _) SZ.out) ?_; intro ws hws; have HR := Lib.hid (show ws.heap[g2]? = some (.cells (b.sub off 16) 23 (0, 0)) by rw [hws]; exact setRow_whole HZ2.out (by rw [HZS.out, Flat.sub_size])); have HD1 := Lib.hid (show Below w.heap.size w ws by rw [hws]; exact below_setRow HD.out h2.out _); clear hws))
      (try simp only [Exit.inBlock, Exit.then])
      refine bodyPost_ret (results_cell rfl rfl (run_load_blk _ _ _ _ _ HR.out Try.underlying23 rfl SZ.out)) rfl ?_
      exact ⟨rfl, HD1.out⟩
set_option maxHeartbeats 1000000 in
set_option maxRecDepth 100000 in
theorem toByteA16_any (b : Flat 256 .u8) (off : Nat) (w : World) : Calls Try.prog 11 #[.agg (b.sub off 16)] w fun e w' => e = .returned (.agg (b.sub off 16)) ∧ Below w.heap.size w w' := by
  have SZ := Lib.hid (szr27 b off)
  go_enter Try.func11, Try.ntmps11
  go_wp2_with (first
    | ((with_reducible refine gate_dst (N := 1) rfl ?_); refine wpList_box_ev rfl 27 _ rfl (b.sub off 16) rfl ?_; intro g w1 hg hb hb1; have HG := Lib.hid hb; have HB0 := Lib.hid hb1; clear hb hb1 hg)
    | ((with_reducible refine gate_dst (N := 2) rfl ?_); refine box_event rfl (N := 2) rfl (t := 27) (exec_alloc rfl (Try.zeroValue27 _)) ?_; intro g2 hg wa ha hb; have HA := Lib.hid ha; have HB1 := Lib.hid (below_join HB0.out hb); have HG1 := Lib.hid (blkB HG.out hb); have h2 := Lib.hid (show w.heap.size ≤ g2 by have := HB0.out.size; omega); have h12 := Lib.hid (show g ≠ g2 by have := (Array.getElem?_eq_some_iff.1 HG.out).1; omega); clear ha hb hg)
    | ((with_reducible refine gate_dst (N := 3) rfl ?_); refine box_event rfl (N := 3) rfl (t := 27) (exec_alloc rfl (Try.zeroValue27 _)) ?_; intro g3 hg wb ha hb; have HO := Lib.hid ha; have HB2 := Lib.hid (below_join HB1.out hb); have HG2 := Lib.hid (blkB HG1.out hb); have HA2 := Lib.hid (blkB HA.out hb); have h3 := Lib.hid (show w.heap.size ≤ g3 by have := HB1.out.size; omega); have h13 := Lib.hid (show g ≠ g3 by have := (Array.getElem?_eq_some_iff.1 HG1.out).1; omega); have h23 := Lib.hid (show g2 ≠ g3 by have := (Array.getElem?_eq_some_iff.1 HA.out).1; omega); clear ha hb hg))
  go_loopw [4] (fun i wr => ∃ (n : Nat) (cur : Array Value), n ≤ 16 ∧ i = .int .i64 n ∧ Hid (wr.heap[g3]? = some (.cells cur 27 (0, 0))) ∧ Hid (CopyTo cur 16 n (b.sub off 16)) ∧ Hid (wr.heap[g]? = some (.cells (b.sub off 16) 27 (0, 0))) ∧ Hid (∃ z : Array Value, z.size = 16 ∧ wr.heap[g2]? = some (.cells z 27 (0, 0))) ∧ Hid (Below w.heap.size w wr)) (fun i _ => 16 - (intOf i).toNat)
  case atStart => exact ⟨0, _, Nat.zero_le _, rfl, HO.out, CopyTo.zero rfl, HG2.out, ⟨_, rfl, HA2.out⟩, HB2.out⟩
  case round =>
    obtain ⟨n, cur, hn, rfl, HC, HT, HS, HZ, HD⟩ := hrel
    by_cases hlt : n < 16
    · have i0 : (n : Int) < 16 := by omega
      have i1 : (0 : Int) ≤ (n : Int) := by omega
      have cc := blk_cell (j := n) HS.out (b.sub_at off 16 hlt)
      have HV := Lib.hid (b.sub_at off 16 hlt)
      generalize b.z (off + n) = v at cc HV
      obtain ⟨u, hu⟩ : ∃ u, cur[n]? = some u := ⟨cur[n]'(by have := HT.out.1; omega), Array.getElem?_eq_getElem _⟩
      have ct := blk_cell HC.out hu
      have cf := blk_frozen HC.out n
      have HW := Lib.hid (setCell_eq_setRow wr g3 n cur _ _ (.int .u8 v) HC.out)
      have HC1 := Lib.hid (setRow_heap wr g3 cur (cur.setIfInBounds n (.int .u8 v)) _ _ HC.out)
      have HT1 := Lib.hid (HT.out.set HV.out hlt)
      have HD1 := Lib.hid (below_setRow HD.out h3.out (cur.setIfInBounds n (.int .u8 v)))
      have HS1 := Lib.hid ((setRow_other wr g3 g (cur.setIfInBounds n (.int .u8 v)) h13.out).trans HS.out)
      have HZ1 := Lib.hid (show ∃ z : Array Value, z.size = 16 ∧ (wr.setRow g3 (cur.setIfInBounds n (.int .u8 v))).heap[g2]? = some (.cells z 27 (0, 0)) by obtain ⟨z, hz, hz2⟩ := HZ.out; exact ⟨z, hz, (setRow_other _ _ _ _ h23.out).trans hz2⟩)
      clear hu
      go_wp2
      go_roundw
      case rel => exact ⟨n + 1, cur.setIfInBounds n (.int .u8 v), by omega, by go_num, by rw [HW.out]; exact HC1.out, HT1.out, by rw [HW.out]; exact HS1.out, by rw [HW.out]; exact HZ1.out, by rw [HW.out]; exact HD1.out⟩
      case measure => simp [intOf]; omega
    · obtain rfl : n = 16 := by omega
      obtain rfl := HT.out.done (b.sub_size off 16)
      obtain ⟨z, hz, hz2⟩ := HZ.out
      have HZ2 := Lib.hid hz2
      have HZS := Lib.hid hz
      clear hz hz2 HZ
      go_wp2_with (first
        | ((with_reducible refine gate_dst (N := 14) rfl ?_); refine Kd.event_run rfl (exec_load_blk rfl rfl HC.out Try.underlying27 rfl SZ.out) ?_)
        | ((with_reducible refine gate_store (t := 27) (p := 2) rfl ?_); refine store_event (t := 27) (p := 2) rfl rfl rfl (exec_store_row (t2 := 27) (vs := b.sub off 16) rfl rfl rfl HZ2.out (by rw [HZS.out, Flat.sub_size]; decide) (b.sub_one _ _) SZ.out) ?_; intro ws hws; have HR := Lib.hid (show ws.heap[g2]? = some (.cells (b.sub off 16) 27 (0, 0)) by rw [hws]; exact setRow_whole HZ2.out (by rw [HZS.out, Flat.sub_size])); have HD1 := Lib.hid (show Below w.heap.size w ws by rw [hws]; exact below_setRow HD.out h2.out _); clear hws))
      (try simp only [Exit.inBlock, Exit.then])
      refine bodyPost_ret (results_cell rfl rfl (run_load_blk _ _ _ _ _ HR.out Try.underlying27 rfl SZ.out)) rfl ?_
      exact ⟨rfl, HD1.out⟩
end Go.Proofs.Ytagffdhfcgcnoaa.G
end
