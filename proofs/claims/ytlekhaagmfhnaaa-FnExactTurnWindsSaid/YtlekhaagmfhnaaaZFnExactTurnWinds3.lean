/- FnExactTurnWinds returns true, whatever the input, and leaves its arguments as they were. -/
import Derived.Deep.Slices
import Derived.ChangeSame
import Derived.ChangeArms
import Derived.OpenShut
import Derived.WalkKit
import Derived.ProofKit
import Derived.Below
import Derived.Deep.Draws
import Derived.Deep.AppendLies
import Derived.Maps.AppendAt
import Derived.OwnWalk
import Derived.Laws.BytesArg
import Derived.Laws.MakeOwn
import Derived.Laws.OwnMore
import Derived.Deep.OwnRows
import Derived.Tactics
import Derived.Lib.ConvBytes
import Derived.Laws.Slices
import Derived.KernelRfl
import Derived.RowKit3
import Derived.Deep.LoopGhost
import Derived.Deep.QuietTactic
import Derived.BigQuiet
import Derived.WideLaws
import Derived.Deep.DeepCutAuto
import Derived.Deep.CutBlock
import Derived.Deep.RegionHeld3
import Derived.Laws.Rows
import Derived.Lib.AppendStr
import Derived.ArgAppend
import Derived.Laws.IdiomCopy
import Derived.RowKit
import Derived.Test.YtlekhaagmfhnaaaRows
import Derived.Test.YtlekhaagmfhnaaaProg
import Derived.OrdersHeld
import Derived.Laws.BitsLemmas
import Derived.Laws.StructEq
import Derived.Lib.SliceRun
import Derived.ShutString
import Derived.ChangeOld
import Derived.SizedLaws
import Derived.Test.YtlekhaagmfhnaaaZFnExactTurnWinds1
import Derived.Test.YtlekhaagmfhnaaaZFnExactTurnWinds2
section
namespace Go.Proofs.Ytlekhaagmfhnaaa.RL
open Go.ChangeShapes Go.WideShapes Go.Deep Go.Proofs.YtlekhaagmfhnaaaW.PrintWords
set_option linter.unusedVariables false
def leafAt (P : Program) : Nat → TypeId → Nat → Option IntKind
  | 0, _, _ => none
  | n + 1, t, j => match P.underlying t with
    | some (.int k) => if j = 0 then some k else none
    | some (.struct fs) => ((List.range fs.size).find? fun i => match fs[i]? with
        | some f => decide (f.offset ≤ j ∧ j < f.offset + P.cellsOf f.type)
        | none => false).bind fun i => (fs[i]?).bind fun f => leafAt P n f.type (j - f.offset)
    | some (.array m e) => if j < m * P.cellsOf e then leafAt P n e (j % P.cellsOf e) else none
    | _ => none
section
variable {H : Type} {enc : TypeId × Value → H} {P : Program} {w : World} {base : Nat} {spare : Nat → Bool} {held : Bool}
theorem seg_at {cs : List Value} {o s j : Nat} {u : Value} (h0 : o ≤ j) (h1 : j < o + s) (h : ((cs.drop o).take s)[j - o]? = some u) : cs[j]? = some u := by
  rw [List.getElem?_take, if_pos (by omega), List.getElem?_drop] at h
  rw [← h]
  congr 1
  omega
theorem leaf_trod (n : Nat) : ∀ (t : TypeId) (j : Nat) (k : IntKind) (fuel : Nat) (cs : List Value) (x : DataW H × List MemPlace), leafAt P n t j = some k → DataW.trod enc P w base spare held fuel t cs = some x →
    ∃ z, cs[j]? = some (.int k z) ∧ (Lit.int k z).wf = true := by
  induction n with
  | zero => intro t j k fuel cs x h; simp [leafAt] at h
  | succ n ih =>
    intro t j k fuel cs x h ht
    unfold leafAt at h
    split at h
    · rename_i k' hu
      split at h
      · rename_i hj
        subst hj
        injection h with h
        subst h
        obtain ⟨z, rfl, _, hw⟩ := DataW.trod_int hu ht
        exact ⟨z, rfl, hw⟩
      · cases h
    · rename_i fs hu
      rw [Option.bind_eq_some_iff] at h
      obtain ⟨i, hi, h⟩ := h
      rw [Option.bind_eq_some_iff] at h
      obtain ⟨f, hf, h⟩ := h
      have hp := List.find?_some hi
      rw [hf] at hp
      have hp' : f.offset ≤ j ∧ j < f.offset + P.cellsOf f.type := of_decide_eq_true hp
      obtain ⟨xs, m, rfl, rfl, hlen, hxl, hat⟩ := DataW.trod_struct hu ht
      have h1 := hat i f hf
      have hil : i < xs.length := by rw [hxl]; exact (Array.getElem?_eq_some_iff.1 hf).1
      rw [List.getElem?_eq_getElem hil] at h1
      obtain ⟨z, hz, hw⟩ := ih f.type (j - f.offset) k m _ _ h h1
      exact ⟨z, seg_at hp'.1 hp'.2 hz, hw⟩
    · rename_i m e hu
      split at h
      · rename_i hj
        have hC : 0 < P.cellsOf e := by
          rcases Nat.eq_zero_or_pos (P.cellsOf e) with h0 | h0
          · rw [h0] at hj; omega
          · exact h0
        obtain ⟨xs, m', rfl, rfl, hlen, hxl, hat⟩ := DataW.trod_array hu ht
        have hi : j / P.cellsOf e < m := by rw [Nat.div_lt_iff_lt_mul hC]; exact hj
        have h1 := hat (j / P.cellsOf e) hi
        rw [List.getElem?_eq_getElem (by omega)] at h1
        obtain ⟨z, hz, hw⟩ := ih e (j % P.cellsOf e) k m' _ _ h h1
        have hd := Nat.div_add_mod j (P.cellsOf e)
        have hm := Nat.mod_lt j hC
        rw [Nat.mul_comm] at hd
        refine ⟨z, seg_at (o := j / P.cellsOf e * P.cellsOf e) (s := P.cellsOf e) (by omega) (by omega) ?_, hw⟩
        rw [← hz]
        congr 1
        omega
      · cases h
    · cases h
def leaves (P : Program) (t : TypeId) (C : Nat) : List (Option IntKind) := (List.range C).map (leafAt P 6 t)
theorem leaves_at {t : TypeId} {C : Nat} {ks : List IntKind} (h : leaves P t C = ks.map some) {j : Nat} (hj : j < C) : leafAt P 6 t j = some (ks.getD j .i64) := by
  have hl : ks.length = C := by have := congrArg List.length h; simpa [leaves] using this.symm
  have h1 := congrArg (fun l => l[j]?) h
  simp only [leaves, List.getElem?_map] at h1
  rw [List.getElem?_eq_getElem (by simpa using hj), List.getElem?_eq_getElem (by omega)] at h1
  simp only [List.getElem_range, Option.map_some, Option.some.injEq] at h1
  rw [h1, List.getD_eq_getElem?_getD, List.getElem?_eq_getElem (by omega)]
  rfl
def cellsL (ks : List IntKind) (C : Nat) (z : Nat → Int) : List Value := (List.range C).map fun j => Value.int (ks.getD j .i64) (z j)
theorem flat_slice {t e : TypeId} {a : Option Addr} {len cap : Nat} {d : DataW H} {p : List MemPlace} (C : Nat) (ks : List IntKind) (ht : P.underlying t = some (.slice e)) (hC : P.cellsOf e = C) (hk : leaves P e C = ks.map some)
    (h : DataW.Trod enc P w base (fun _ => true) held t (.slice a len cap) d p) : len ≤ cap ∧ len ≤ 9223372036854775807 ∧ ∃ z : Nat → Nat → Int, (0 < len → ∃ ad, a = some ad ∧ ∀ i, i < len → ∀ j, j < C → w.cell? (ad.add (i * C + j)) = some (.int (ks.getD j .i64) (z i j))) ∧
      ∀ i, i < len → ∀ j, j < C → (Lit.int (ks.getD j .i64) (z i j)).wf = true := by
  obtain ⟨fuel, hf⟩ := h
  rcases open_slice ht hf with ⟨hcs, _⟩ | ⟨ad, l, c, m, n, D, Pl, hcs, hb, hl, hm, hmm, _, hi⟩
  · simp [Value.cells] at hcs
    obtain ⟨rfl, rfl, rfl⟩ := hcs
    exact ⟨Nat.le_refl _, by omega, fun _ _ => 0, fun h => absurd h (by omega), fun i hi => absurd hi (by omega)⟩
  · simp [Value.cells] at hcs
    obtain ⟨rfl, rfl, rfl⟩ := hcs
    have hmc : m = cap := by simpa using hmm
    have ha : ∀ i j, ∃ z : Int, i < len → j < C → w.cell? (ad.add (i * C + j)) = some (.int (ks.getD j .i64) z) ∧ (Lit.int (ks.getD j .i64) z).wf = true := by
      intro i j
      by_cases hij : i < len ∧ j < C
      · obtain ⟨cs', hc, htr⟩ := hi i (by omega)
        rw [hC] at hc
        obtain ⟨z, h1, h2⟩ := leaf_trod 6 e j _ n _ _ (leaves_at hk hij.2) htr
        obtain ⟨_, hcl, hat⟩ := World.cells?_some hc
        have h3 := hat j hij.2
        rw [Go.Deep.add_add, h1] at h3
        exact ⟨z, fun _ _ => ⟨h3, h2⟩⟩
      · exact ⟨0, fun h1 h2 => absurd ⟨h1, h2⟩ hij⟩
    obtain ⟨z, hz⟩ : ∃ z : Nat → Nat → Int, ∀ i j, i < len → j < C → w.cell? (ad.add (i * C + j)) = some (.int (ks.getD j .i64) (z i j)) ∧ (Lit.int (ks.getD j .i64) (z i j)).wf = true := ⟨fun i j => (ha i j).choose, fun i j => (ha i j).choose_spec⟩
    exact ⟨hl, by unfold maxLen at hm; omega, z, fun _ => ⟨ad, rfl, fun i hi j hj => (hz i j hi hj).1⟩, fun i hi j hj => (hz i j hi hj).2⟩
theorem slice_C {t e : TypeId} {a : Option Addr} {len cap : Nat} {d : DataW H} {p : List MemPlace} {α : Type} (kd : Kd α) (mk : (Nat → Int) → α) (C : Nat) (ks : List IntKind) (hsz : kd.sz = C) (hK : ∀ z, kd.K w (mk z) (cellsL ks C z)) (ht : P.underlying t = some (.slice e)) (hC : P.cellsOf e = C) (hk : leaves P e C = ks.map some)
    (h : DataW.Trod enc P w base (fun _ => true) held t (.slice a len cap) d p) : ∃ l : List α, len = l.length ∧ kd.C w a l.length l ∧ l.length ≤ cap ∧ l.length ≤ 9223372036854775807 ∧ ∀ x ∈ l, ∃ z : Nat → Int, x = mk z ∧ ∀ j, j < C → (Lit.int (ks.getD j .i64) (z j)).wf = true := by
  obtain ⟨hl, hm, z, hc, hw⟩ := flat_slice C ks ht hC hk h
  have hlen : ((List.range len).map fun i => mk (z i)).length = len := by simp
  refine ⟨(List.range len).map fun i => mk (z i), hlen.symm, ?_, by omega, by omega, ?_⟩
  · rw [hlen]
    refine ⟨hlen, hm, fun h0 => ?_⟩
    obtain ⟨ad, rfl, hcell⟩ := hc h0
    refine ⟨ad, rfl, fun i x hx => ?_⟩
    have hi : i < len := by
      have := (List.getElem?_eq_some_iff.1 hx).1
      omega
    rw [List.getElem?_map, List.getElem?_eq_getElem (by simpa using hi)] at hx
    simp only [List.getElem_range, Option.map_some, Option.some.injEq] at hx
    subst hx
    refine ⟨cellsL ks C (z i), by rw [hsz]; simp [cellsL], hK (z i), fun j u hu => ?_⟩
    have hj : j < C := by
      have := (List.getElem?_eq_some_iff.1 hu).1
      simpa [cellsL] using this
    rw [cellsL, List.getElem?_map, List.getElem?_eq_getElem (by simpa using hj)] at hu
    simp only [List.getElem_range, Option.map_some, Option.some.injEq] at hu
    rw [hsz, ← hu]
    exact hcell i hi j hj
  · intro x hx
    rw [List.mem_map] at hx
    obtain ⟨i, hi, rfl⟩ := hx
    exact ⟨z i, rfl, fun j hj => hw i (by simpa using hi) j hj⟩
end
end Go.Proofs.Ytlekhaagmfhnaaa.RL
end
namespace Go.Proofs.Ytlekhaagmfhnaaa.rowFnExactTurnWinds
open Go.ChangeShapes Go.WideShapes Go.ChangeAt Go.RowKit G Go.Proofs.YtlekhaagmfhnaaaW.PrintWords
open Go.ChangeMaps (open_string shut_string)
set_option linter.unusedVariables false
theorem own : ownKnob Try.prog.godebug = none := by kernel_rfl
theorem laidOut : laidOutB Try.prog = true := by kernel_rfl
set_option maxRecDepth 100000 in
theorem lifted (os : Os) (started : os.Started) (H : Type) (enc : TypeId × Value → H) :
    ReturnsInHanded {} Try.checked os 3 .any (Rows.fnExactTurnWindsSpec.pre6 enc Try.prog Try.f3 Rows.fnExactTurnWindsRow.domain false) (Rows.fnExactTurnWindsSpec.post enc Try.prog Try.f3 false true false false) := by
  refine returnsInHanded_of_change_sized (C := Try.checked) own started (by kernel_rfl) Try.func3
    (ChangeSpec.witness6 (enc := enc) (C := Try.checked) false ⟨#[], #[.slice none 0 0, .int .i64 0], []⟩ 8 (by kernel_rfl) (by kernel_rfl) (by kernel_rfl) (by kernel_rfl)) ?_
  intro W base args ds gs before hval0 hW hcnd hsz0 _
  have hsz : (DataW.weightsEach Try.prog (Try.f3.params.toList ++ Rows.fnExactTurnWindsSpec.plain.varTypes Try.prog) (ds ++ gs)).all (· ≤ reachBytes) = true := hsz0
  have hval : ∀ (j : Nat) t v, Try.f3.params[j]? = some t → args[j]? = some v → Value.okWide Try.prog W .any base t v := hval0
  have hW' := hW
  obtain ⟨p, q, hA0, hV, rfl, hfz, hnd⟩ := hW
  have hA : DataW.TrodAll enc Try.prog W 0 (fun _ => true) true Try.f3.params.toList args.toList ds p := hA0
  rw [Try.params3] at hA hval hsz
  obtain ⟨v0, vs0, d0, ds0, p0, q0, hargs, rfl, rfl, h0, r0⟩ := trodAll_cons hA
  obtain ⟨v1, vs1, d1, ds1, p1, q1, rfl, rfl, rfl, h1, r1⟩ := trodAll_cons r0
  obtain ⟨rfl, rfl, rfl⟩ := trodAll_nil r1
  obtain rfl : args = #[v0, v1] := by cases args; simp_all
  obtain ⟨rfl, rfl⟩ := trodVars_none hV
  have k0_ := h0
  have lt0 : ∀ x ∈ p0, x.block < W.heap.size := by obtain ⟨m, hm⟩ := k0_; exact DataW.trod_lt m _ _ _ hm
  obtain ⟨A0, len0, c0, rfl⟩ := okWide_slice Try.underlying22 (hval 0 22 v0 rfl rfl)
  obtain ⟨l0, rfl, C0, g0, m0, y0⟩ := RL.slice_C k37 (fun z => (⟨z 0, z 1⟩ : S37)) 2 [.i8, .i8] rfl (fun z => ⟨[.int .i8 (z 0)], [.int .i8 (z 1)], rfl, rfl, rfl⟩) Try.underlying22 (by kernel_rfl) (by kernel_rfl) h0
  have k1_ := h1
  have lt1 : ∀ x ∈ p1, x.block < W.heap.size := by obtain ⟨m, hm⟩ := k1_; exact DataW.trod_lt m _ _ _ hm
  obtain ⟨a1, rfl, rfl, rfl, w1⟩ := open_int Try.underlying2 (hval 1 2 v1 rfl rfl) h1
  clear hA0 hval0 hsz0 hsz
  obtain ⟨k, hp⟩ := Pure.FnExactTurnWinds l0 a1 m0 y0 w1
  refine (laws_FnExactTurnWinds.calls k A0 c0 l0 a1 true W rfl C0 g0 hp).mono fun e W' ⟨he, bel⟩ => ?_
  subst he
  exact ⟨_, rfl, _, _, _, [], _, [], hW', trodAll_mk1 (shut_bool Try.underlying4 _), (trodAll_cons_mk (Below.trod laidOut (by kernel_rfl) (of_decide_eq_true (by kernel_rfl)) k0_ bel lt0) (trodAll_cons_mk (Below.trod laidOut (by kernel_rfl) (of_decide_eq_true (by kernel_rfl)) k1_ bel lt1) trodAll_mk0)), rfl, bel.frame _, fun h => by cases h⟩
set_option maxHeartbeats 8000000 in
theorem closed : joinedFacts Try.pinned.checked.prog 3 Try.f3 Rows.fnExactTurnWindsSpec Rows.fnExactTurnWindsRow = true := by
  kernel_rfl
theorem named : Try.pinned.checked.prog.funcNamed Rows.fnExactTurnWindsRow.func = some 3 := by kernel_rfl
theorem inst : Try.f3.isInstance Try.pinned.checked.prog Rows.fnExactTurnWindsRow.origin Rows.fnExactTurnWindsRow.targs := of_decide_eq_true (by kernel_rfl)
theorem wrapper : Try.f3.isWrapper Try.pinned.checked.prog Rows.fnExactTurnWindsRow.wrapper Rows.fnExactTurnWindsRow.mainSum := by unfold Func.isWrapper; first | (rw [if_pos (by decide +kernel)]; kernel_rfl) | (rw [if_neg (by decide +kernel)]; exact ⟨rfl, rfl⟩)
theorem over : Rows.fnExactTurnWindsRow.holds Try.pinned (OpenSpec.ofChange Rows.fnExactTurnWindsSpec) :=
  OpenClaim.holds_of_wide 3 Try.f3 rfl rfl rfl rfl rfl rfl rfl ⟨rfl, rfl, rfl, rfl, rfl⟩ rfl rfl rfl rfl rfl named Try.func3 closed inst wrapper
    (fun os started H enc _ => lifted os started H enc)
theorem proved : Rows.FnExactTurnWindsSaid := over
#print axioms proved
end Go.Proofs.Ytlekhaagmfhnaaa.rowFnExactTurnWinds
namespace Go.Proofs.Ytlekhaagmfhnaaa
theorem fnExactTurnWinds_holds : Rows.FnExactTurnWindsSaid := rowFnExactTurnWinds.proved
end Go.Proofs.Ytlekhaagmfhnaaa
