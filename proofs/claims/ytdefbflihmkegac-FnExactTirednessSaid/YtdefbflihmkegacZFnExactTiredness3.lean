/- FnExactTiredness returns true, whatever the input, and leaves its arguments as they were. -/
import Derived.Test.YtdefbflihmkegacProg
import Derived.Below
import Derived.Deep.Draws
import Derived.Deep.AppendLies
import Derived.Maps.AppendAt
import Derived.OwnWalk
import Derived.Laws.BytesArg
import Derived.Laws.MakeOwn
import Derived.Laws.OwnMore
import Derived.Deep.OwnRows
import Derived.Tactics
import Derived.Lib.ConvBytes
import Derived.Laws.Slices
import Derived.WalkKit
import Derived.KernelRfl
import Derived.RowKit3
import Derived.Deep.LoopGhost
import Derived.Deep.QuietTactic
import Derived.BigQuiet
import Derived.WideLaws
import Derived.Deep.DeepCutAuto
import Derived.Deep.CutBlock
import Derived.Deep.RegionHeld3
import Derived.Laws.Rows
import Derived.Lib.AppendStr
import Derived.ArgAppend
import Derived.Laws.IdiomCopy
import Derived.OrdersHeld
import Derived.Laws.BitsLemmas
import Derived.RowKit
import Derived.Laws.StructEq
import Derived.Lib.SliceRun
import Derived.Shelf.SortM.Plain
import Derived.Shelf.SortM.SortNone
import Derived.Ground.SlgmProg
import Derived.OpenShut
import Derived.Deep.Slices
import Derived.ChangeSame
import Derived.ChangeArms
import Derived.ProofKit
import Derived.Test.YtdefbflihmkegacRows
import Derived.ShutString
import Derived.ChangeOld
import Derived.SizedLaws
import Derived.Test.YtdefbflihmkegacZFnExactTiredness1
import Derived.Test.YtdefbflihmkegacZFnExactTiredness2
section
namespace Go.Proofs.Ytdefbflihmkegac.G.Pure
open Go.RowKit M Go.Proofs.Ytdefbflihmkegac.PL Go.Proofs.Ytdefbflihmkegac.G.PS Go.Proofs.YtdefbflihmkegacW.PrintWords
set_option linter.unusedSimpArgs false
set_option linter.unusedVariables false
def cst : List (List Int) → Nat
  | [] => 1
  | r :: rs => r.length + 2 + cst rs
theorem cst_drop {l : List (List Int)} {i : Nat} (h : i < l.length) : cst (l.drop i) = l[i].length + 2 + cst (l.drop (i + 1)) := by
  rw [List.drop_eq_getElem_cons h]; rfl
theorem cst_tot : ∀ (l : List (List Int)), cst l = tot l + 2 * l.length + 1
  | [] => rfl
  | r :: rs => by rw [cst, cst_tot rs, tot, List.length_cons]; omega
def inT (x : Int) : Bool := inB x 0 1000
def rowB (n : Nat) (r : List Int) : Bool := decide (r.length = n) && r.all inT
def sleepyV (S : List (List Int)) : Bool := S.all (rowB S.length) && inB (S.length : Int) 1 6
theorem inB_iff {x a b : Int} : inB x a b = true ↔ a ≤ x ∧ x ≤ b := by unfold inB; simp
theorem spec_l1 (S : List (List Int)) (hl : S.length ≤ 1048576) (i : Nat) (h : i < S.length) (hr : S[i].length ≤ 1048576) (d : Nat) : ∀ (k j : Nat), j + d = S[i].length → spec_l06Sleepy.l1 (k + d + 1) S i j = if (S[i].drop j).all inT = true then spec_l06Sleepy.l0 k S ((i + 1 : Nat) : Int) else some false := by
  induction d with
  | zero =>
    intro k j hj
    rw [spec_l06Sleepy.l1, if_pos (by omega), if_pos (by omega), rdL_at h, if_neg (by omega), List.drop_of_length_le (by omega), wnx (by omega)]
    rfl
  | succ d ih =>
    intro k j hj
    have hj2 : j < S[i].length := by omega
    rw [show k + (d + 1) + 1 = (k + d + 1) + 1 by omega, spec_l06Sleepy.l1, if_pos (by omega), if_pos (by omega), rdL_at h, if_pos (by omega), if_pos (by omega), rd_at hj2, spec_inE, List.drop_eq_getElem_cons hj2, List.all_cons]
    simp only [Option.bind_some]
    by_cases hb : inB S[i][j] 0 1000 = true
    · rw [if_pos hb, wnx (by omega), ih k (j + 1) (by omega), show inT S[i][j] = true from hb, Bool.true_and]
    · rw [if_neg hb, show inT S[i][j] = false from by simpa [inT] using hb, Bool.false_and]; rfl
theorem spec_l0 (S : List (List Int)) (hl : S.length ≤ 1048576) (hr : ∀ r ∈ S, r.length ≤ 1048576) (d : Nat) : ∀ (k i : Nat), i + d = S.length → cst (S.drop i) ≤ k → spec_l06Sleepy.l0 k S i = some ((S.drop i).all (rowB S.length) && inB (S.length : Int) 1 6) := by
  induction d with
  | zero =>
    intro k i hi hk
    rw [List.drop_of_length_le (by omega)] at hk ⊢
    obtain ⟨k, rfl⟩ : ∃ m, k = m + 1 := ⟨k - 1, by simp only [cst] at hk; omega⟩
    rw [spec_l06Sleepy.l0, if_neg (by omega), spec_l06Crew.f, spec_inE]
    simp
  | succ d ih =>
    intro k i hi hk
    have h : i < S.length := by omega
    rw [cst_drop h] at hk
    obtain ⟨k, rfl⟩ : ∃ m, k = m + S[i].length + 1 + 1 := ⟨k - (S[i].length + 2), by omega⟩
    rw [spec_l06Sleepy.l0, if_pos (by omega), if_pos (by omega), rdL_at h, List.drop_eq_getElem_cons h, List.all_cons]
    by_cases hn : S[i].length = S.length
    · have := spec_l1 S hl i h (hr _ (List.getElem_mem h)) S[i].length k 0 (by omega)
      rw [if_pos (by omega), show (0 : Int) = ((0 : Nat) : Int) from rfl, this, List.drop_zero]
      by_cases ha : S[i].all inT = true
      · rw [if_pos ha, ih k (i + 1) (by omega) (by omega), show rowB S.length S[i] = true from by simp [rowB, hn, ha], Bool.true_and]
      · rw [if_neg ha, show rowB S.length S[i] = false from by simp only [rowB]; rw [Bool.eq_false_iff.2 ha, Bool.and_false], Bool.false_and, Bool.false_and]
    · rw [if_neg (by omega), show rowB S.length S[i] = false from by simp [rowB, hn], Bool.false_and, Bool.false_and]
theorem impl_l1 (S : List (List Int)) (hl : S.length ≤ 1048576) (i : Nat) (h : i < S.length) (hr : S[i].length ≤ 1048576) (d : Nat) : ∀ (k j : Nat), j + d = S[i].length → impl_isSleepy.l1 (k + d + 1) S S S.length i S[i] S[i].length j = if (S[i].drop j).all inT = true then impl_isSleepy.l0 k S S S.length ((i + 1 : Nat) : Int) else some false := by
  induction d with
  | zero =>
    intro k j hj
    rw [impl_isSleepy.l1, if_neg (by omega), List.drop_of_length_le (by omega), wnx (by omega)]
    rfl
  | succ d ih =>
    intro k j hj
    have hj2 : j < S[i].length := by omega
    rw [show k + (d + 1) + 1 = (k + d + 1) + 1 by omega, impl_isSleepy.l1, if_pos (by omega), if_pos (by omega), if_pos (by omega), rd_at hj2, List.drop_eq_getElem_cons hj2, List.all_cons]
    by_cases h0 : S[i][j] < 0
    · rw [if_pos h0, show inT S[i][j] = false from by rw [Bool.eq_false_iff]; intro hc; have := inB_iff.1 hc; omega, Bool.false_and]; rfl
    · rw [if_neg h0]
      by_cases h1 : S[i][j] > 1000
      · rw [if_pos h1, show inT S[i][j] = false from by rw [Bool.eq_false_iff]; intro hc; have := inB_iff.1 hc; omega, Bool.false_and]; rfl
      · rw [if_neg h1, wnx (by omega), ih k (j + 1) (by omega), show inT S[i][j] = true from inB_iff.2 ⟨by omega, by omega⟩, Bool.true_and]
theorem impl_l0 (S : List (List Int)) (hl : S.length ≤ 1048576) (hr : ∀ r ∈ S, r.length ≤ 1048576) (d : Nat) : ∀ (k i : Nat), i + d = S.length → cst (S.drop i) ≤ k → impl_isSleepy.l0 k S S S.length i = some ((S.drop i).all (rowB S.length) && inB (S.length : Int) 1 6) := by
  induction d with
  | zero =>
    intro k i hi hk
    rw [List.drop_of_length_le (by omega)] at hk ⊢
    obtain ⟨k, rfl⟩ : ∃ m, k = m + 1 := ⟨k - 1, by simp only [cst] at hk; omega⟩
    rw [impl_isSleepy.l0, if_neg (by omega), impl_isCrew.f]
    by_cases h1 : (S.length : Int) ≥ 1
    · rw [if_pos h1]; simp [inB]; omega
    · rw [if_neg h1]; simp [inB]; omega
  | succ d ih =>
    intro k i hi hk
    have h : i < S.length := by omega
    rw [cst_drop h] at hk
    obtain ⟨k, rfl⟩ : ∃ m, k = m + S[i].length + 1 + 1 := ⟨k - (S[i].length + 2), by omega⟩
    rw [impl_isSleepy.l0, if_pos (by omega), if_pos (by omega), if_pos (by omega), rdL_at h, List.drop_eq_getElem_cons h, List.all_cons]
    by_cases hn : S[i].length = S.length
    · have := impl_l1 S hl i h (hr _ (List.getElem_mem h)) S[i].length k 0 (by omega)
      rw [if_pos (by omega), show (0 : Int) = ((0 : Nat) : Int) from rfl, this, List.drop_zero]
      by_cases ha : S[i].all inT = true
      · rw [if_pos ha, ih k (i + 1) (by omega) (by omega), show rowB S.length S[i] = true from by simp [rowB, hn, ha], Bool.true_and]
      · rw [if_neg ha, show rowB S.length S[i] = false from by simp only [rowB]; rw [Bool.eq_false_iff.2 ha, Bool.and_false], Bool.false_and, Bool.false_and]
    · rw [if_neg (by omega), show rowB S.length S[i] = false from by simp [rowB, hn], Bool.false_and, Bool.false_and]
def inW (x : Int) : Bool := inB x 0 1440
def tv (W O : List Int) (S : List (List Int)) : Nat → Nat → Int → Int
  | 0, _, s => s
  | d + 1, i, s => tv W O S d (i + 1) (wrap64 (s + (wrap64 ((rd (rd_L1 S (rd O i)) i) * (rd W i)))))
def tiredV (W O : List Int) (S : List (List Int)) : Int × Int :=
  if (sleepyV S && (decide (W.length = S.length) && W.all inW)) = true then (if sortI O = cnt S.length then (tv W O S S.length 0 0, 0) else (0, 4)) else (0, 2)
structure okAll (W O : List Int) (S : List (List Int)) : Prop where
  sl : sleepyV S = true
  wl : W.length = S.length
  ol : O.length = S.length
  ob : ∀ x ∈ O, 0 ≤ x ∧ x < (S.length : Int)
theorem sleepy_row {S : List (List Int)} (h : sleepyV S = true) : ∀ r ∈ S, r.length = S.length := by
  intro r hr
  unfold sleepyV at h
  rw [Bool.and_eq_true] at h
  have := List.all_eq_true.1 h.1 r hr
  unfold rowB at this
  simp at this
  exact this.1
theorem sleepy_len {S : List (List Int)} (h : sleepyV S = true) : S.length ≤ 6 := by
  unfold sleepyV at h
  rw [Bool.and_eq_true] at h
  have := inB_iff.1 h.2
  omega
theorem row_at {W O : List Int} {S : List (List Int)} (h : okAll W O S) {i : Nat} (hi : i < S.length) : 0 ≤ rd O (i : Int) ∧ rd O (i : Int) < (S.length : Int) ∧ (rd_L1 S (rd O (i : Int))).length = S.length := by
  have ho : i < O.length := by have := h.ol; omega
  rw [rd_at ho]
  have hb := h.ob _ (List.getElem_mem ho)
  obtain ⟨m, hm⟩ : ∃ m : Nat, O[i] = (m : Int) := ⟨O[i].toNat, by omega⟩
  rw [hm] at hb ⊢
  have hm2 : m < S.length := by omega
  rw [rdL_at hm2]
  exact ⟨hb.1, hb.2, sleepy_row h.sl _ (List.getElem_mem hm2)⟩
theorem spec_tv {W O : List Int} {S : List (List Int)} (h : okAll W O S) (d : Nat) : ∀ (k i : Nat) (s : Int), i + d = S.length → d < k → spec_Tiredness.l1 k W O S s i = some (tv W O S d i s, 0) := by
  have h6 := sleepy_len h.sl
  have hw := h.wl
  have ho := h.ol
  induction d with
  | zero =>
    intro k i s hi hk
    obtain ⟨k, rfl⟩ : ∃ m, k = m + 1 := ⟨k - 1, by omega⟩
    rw [spec_Tiredness.l1, if_neg (by omega), tv]
  | succ d ih =>
    intro k i s hi hk
    obtain ⟨k, rfl⟩ : ∃ m, k = m + 1 := ⟨k - 1, by omega⟩
    obtain ⟨r0, r1, r2⟩ := row_at h (i := i) (by omega)
    rw [spec_Tiredness.l1, if_pos (by omega), if_pos (by omega), if_pos (by omega), if_pos r0, if_pos r1, if_pos (by omega), wnx (by omega), ih k (i + 1) _ (by omega) (by omega), tv]
theorem impl_tv {W O : List Int} {S : List (List Int)} (h : okAll W O S) (d : Nat) : ∀ (k i : Nat) (s : Int), i + d = S.length → d < k → impl_tired.l0 k W S s O O.length i = some (tv W O S d i s) := by
  have h6 := sleepy_len h.sl
  have hw := h.wl
  have ho := h.ol
  induction d with
  | zero =>
    intro k i s hi hk
    obtain ⟨k, rfl⟩ : ∃ m, k = m + 1 := ⟨k - 1, by omega⟩
    rw [impl_tired.l0, if_neg (by omega), tv]
  | succ d ih =>
    intro k i s hi hk
    obtain ⟨k, rfl⟩ : ∃ m, k = m + 1 := ⟨k - 1, by omega⟩
    obtain ⟨r0, r1, r2⟩ := row_at h (i := i) (by omega)
    rw [impl_tired.l0, if_pos (by omega), if_pos (by omega), if_pos (by omega), if_pos r0, if_pos r1, if_pos (by omega), if_pos (by omega), wnx (by omega), ih k (i + 1) _ (by omega) (by omega), tv]
theorem okAll_of {W O : List Int} {S : List (List Int)} (hs : sleepyV S = true) (hw : W.length = S.length) (ho : sortI O = cnt S.length) : okAll W O S := by
  have := (sortI_iff O S.length).1 ho
  exact ⟨hs, hw, this.2.2, this.2.1⟩
theorem spec_fin {W O : List Int} {S : List (List Int)} (hO : O.length ≤ 1048576) (hs : sleepyV S = true) (hw : W.length = S.length) {k : Nat} (hk : 3000000 < k) : (spec_l06Each.f k (S.length : Int) O).bind (fun t119 => (if t119 = true then (spec_Tiredness.l1 k W O S 0 0) else (some (0, 4)))) = some (if sortI O = cnt S.length then (tv W O S S.length 0 0, 0) else (0, 4)) := by
  have h6 := sleepy_len hs
  rw [each_tells (by omega) (by omega) (by omega)]
  simp only [Option.bind_some]
  by_cases he : sortI O = cnt S.length
  · rw [if_pos (by simpa using he), if_pos he]
    exact spec_tv (okAll_of hs hw he) S.length k 0 0 (by omega) (by omega)
  · rw [if_neg (by simpa using he), if_neg he]
theorem spec_wF (W O : List Int) (S : List (List Int)) (hW : W.length ≤ 1048576) (d : Nat) : ∀ (k i : Nat), i + d = W.length → d < k → spec_Tiredness.l0 k W O S false i = some (0, 2) := by
  induction d with
  | zero =>
    intro k i hi hk
    obtain ⟨k, rfl⟩ : ∃ m, k = m + 1 := ⟨k - 1, by omega⟩
    rw [spec_Tiredness.l0, if_neg (by omega), if_neg (by simp)]
  | succ d ih =>
    intro k i hi hk
    obtain ⟨k, rfl⟩ : ∃ m, k = m + 1 := ⟨k - 1, by omega⟩
    rw [spec_Tiredness.l0, if_pos (by omega), if_neg (by simp), wnx (by omega), ih k (i + 1) (by omega) (by omega)]
theorem spec_wT (W O : List Int) (S : List (List Int)) (hW : W.length ≤ 1048576) (hO : O.length ≤ 1048576) (hs : sleepyV S = true) (hw : W.length = S.length) (d : Nat) : ∀ (k i : Nat), i + d = W.length → d + 3000010 < k → spec_Tiredness.l0 k W O S true i = some (if (W.drop i).all inW = true then (if sortI O = cnt S.length then (tv W O S S.length 0 0, 0) else (0, 4)) else (0, 2)) := by
  induction d with
  | zero =>
    intro k i hi hk
    obtain ⟨k, rfl⟩ : ∃ m, k = m + 1 := ⟨k - 1, by omega⟩
    rw [spec_Tiredness.l0, if_neg (by omega), if_pos rfl, spec_fin hO hs hw (by omega), List.drop_of_length_le (by omega)]
    rfl
  | succ d ih =>
    intro k i hi hk
    obtain ⟨k, rfl⟩ : ∃ m, k = m + 1 := ⟨k - 1, by omega⟩
    have h : i < W.length := by omega
    rw [spec_Tiredness.l0, if_pos (by omega), if_pos rfl, if_pos (by omega), rd_at h, spec_inE, List.drop_eq_getElem_cons h, List.all_cons]
    simp only [Option.bind_some]
    rw [wnx (by omega)]
    by_cases hb : inB W[i] 0 1440 = true
    · rw [hb, ih k (i + 1) (by omega) (by omega), show inW W[i] = true from hb, Bool.true_and]
    · rw [Bool.eq_false_iff.2 hb, spec_wF W O S hW d k (i + 1) (by omega) (by omega), show inW W[i] = false from Bool.eq_false_iff.2 hb, Bool.false_and]
      rfl
theorem spec_tells {W O : List Int} {S : List (List Int)} (hW : W.length ≤ 1048576) (hO : O.length ≤ 1048576) (hS : S.length ≤ 1048576) (hT : tot S ≤ 1048576) {k : Nat} (hk : 9000000 < k) : spec_Tiredness.f k W O S = some (tiredV W O S) := by
  have hr : ∀ r ∈ S, r.length ≤ 1048576 := fun r h => Nat.le_trans (len_tot S r h) hT
  have hc := cst_tot S
  obtain ⟨k, rfl⟩ : ∃ m, k = m + 1 := ⟨k - 1, by omega⟩
  have hsl := spec_l0 S hS hr S.length (k + 1) 0 (by omega) (by rw [List.drop_zero]; omega)
  rw [List.drop_zero, show ((0 : Nat) : Int) = 0 from rfl] at hsl
  unfold spec_Tiredness.f spec_l06Sleepy.f tiredV
  rw [hsl]
  simp only [Option.bind_some]
  rw [show (S.all (rowB S.length) && inB (S.length : Int) 1 6) = sleepyV S from rfl]
  cases hs : sleepyV S
  · rw [if_neg (by simp), Bool.false_and, if_neg (by simp), spec_Tiredness.j0]
    exact spec_wF W O S hW W.length k 0 (by omega) (by omega)
  · rw [if_pos rfl, Bool.true_and, spec_Tiredness.j0]
    by_cases hw : W.length = S.length
    · rw [show ((W.length : Int) == (S.length : Int)) = true from by simp [hw], show decide (W.length = S.length) = true from by simp [hw], Bool.true_and]
      have := spec_wT W O S hW hO hs hw W.length k 0 (by omega) (by omega)
      rw [List.drop_zero] at this
      exact this
    · rw [show ((W.length : Int) == (S.length : Int)) = false from by rw [beq_eq_false_iff_ne]; omega, show decide (W.length = S.length) = false from by simp [hw], Bool.false_and, if_neg (by simp)]
      exact spec_wF W O S hW W.length k 0 (by omega) (by omega)
theorem impl_fin {W O : List Int} {S : List (List Int)} (hO : O.length ≤ 1048576) (hs : sleepyV S = true) (hw : W.length = S.length) {k : Nat} (hk : 3000000 < k) : (impl_isOrder.f k (S.length : Int) O).bind (fun t168 => (if t168 = true then ((impl_tired.f k W O S).bind fun t169 => (some (t169, (0 : Int)))) else (some ((0 : Int), (4 : Int))))) = some (if sortI O = cnt S.length then (tv W O S S.length 0 0, 0) else (0, 4)) := by
  have h6 := sleepy_len hs
  rw [order_tells (by omega) (by omega) (by omega)]
  simp only [Option.bind_some]
  by_cases he : sortI O = cnt S.length
  · rw [if_pos (by simpa using he), if_pos he]
    have := impl_tv (okAll_of hs hw he) S.length k 0 0 (by omega) (by omega)
    unfold impl_tired.f
    rw [show ((0 : Nat) : Int) = 0 from rfl] at this
    rw [this]
    rfl
  · rw [if_neg (by simpa using he), if_neg he]
theorem impl_w (W O : List Int) (S : List (List Int)) (hW : W.length ≤ 1048576) (hO : O.length ≤ 1048576) (hs : sleepyV S = true) (hw : W.length = S.length) (d : Nat) : ∀ (k i : Nat), i + d = W.length → d + 3000010 < k → impl_Tiredness.l0 k W O S W W.length i = some (if (W.drop i).all inW = true then (if sortI O = cnt S.length then (tv W O S S.length 0 0, 0) else (0, 4)) else (0, 2)) := by
  induction d with
  | zero =>
    intro k i hi hk
    obtain ⟨k, rfl⟩ : ∃ m, k = m + 1 := ⟨k - 1, by omega⟩
    rw [impl_Tiredness.l0, if_neg (by omega), List.drop_of_length_le (by omega), show ([] : List Int).all inW = true from rfl, if_pos rfl]
    exact impl_fin (k := k) hO hs hw (by omega)
  | succ d ih =>
    intro k i hi hk
    obtain ⟨k, rfl⟩ : ∃ m, k = m + 1 := ⟨k - 1, by omega⟩
    have h : i < W.length := by omega
    rw [impl_Tiredness.l0, if_pos (by omega), if_pos (by omega), if_pos (by omega), rd_at h, List.drop_eq_getElem_cons h, List.all_cons]
    by_cases h0 : W[i] < 0
    · rw [if_pos h0, show inW W[i] = false from by rw [Bool.eq_false_iff]; intro hc; have := inB_iff.1 hc; omega, Bool.false_and]; rfl
    · rw [if_neg h0]
      by_cases h1 : W[i] > 1440
      · rw [if_pos h1, show inW W[i] = false from by rw [Bool.eq_false_iff]; intro hc; have := inB_iff.1 hc; omega, Bool.false_and]; rfl
      · rw [if_neg h1, wnx (by omega), ih k (i + 1) (by omega) (by omega), show inW W[i] = true from inB_iff.2 ⟨by omega, by omega⟩, Bool.true_and]
theorem impl_tells {W O : List Int} {S : List (List Int)} (hW : W.length ≤ 1048576) (hO : O.length ≤ 1048576) (hS : S.length ≤ 1048576) (hT : tot S ≤ 1048576) {k : Nat} (hk : 9000000 < k) : impl_Tiredness.f k W O S = some (tiredV W O S) := by
  have hr : ∀ r ∈ S, r.length ≤ 1048576 := fun r h => Nat.le_trans (len_tot S r h) hT
  have hc := cst_tot S
  obtain ⟨k, rfl⟩ : ∃ m, k = m + 1 := ⟨k - 1, by omega⟩
  have hsl := impl_l0 S hS hr S.length (k + 1) 0 (by omega) (by rw [List.drop_zero]; omega)
  rw [List.drop_zero, show ((0 : Nat) : Int) = 0 from rfl] at hsl
  unfold impl_Tiredness.f impl_isSleepy.f tiredV
  rw [hsl]
  simp only [Option.bind_some]
  rw [show (S.all (rowB S.length) && inB (S.length : Int) 1 6) = sleepyV S from rfl]
  cases hs : sleepyV S
  · rw [if_neg (by simp), Bool.false_and, if_neg (by simp), impl_Tiredness.j0, if_pos rfl]
  · rw [if_pos rfl, Bool.true_and, impl_Tiredness.j0]
    by_cases hw : W.length = S.length
    · rw [show ((W.length : Int) != (S.length : Int)) = false from by simp [hw], show decide (W.length = S.length) = true from by simp [hw], Bool.true_and, if_neg (by simp)]
      have := impl_w W O S hW hO hs hw W.length k 0 (by omega) (by omega)
      rw [List.drop_zero] at this
      exact this
    · rw [show ((W.length : Int) != (S.length : Int)) = true from by rw [bne_iff_ne]; omega, show decide (W.length = S.length) = false from by simp [hw], Bool.false_and]
      simp
theorem FnExactTiredness : ∀ (l0 : List Int) (l1 : List Int) (l2 : List (List Int)), l0.length ≤ 9223372036854775807 → (∀ x ∈ l0, ∃ z : Nat → Int, x = z 0 ∧ ∀ j, j < 1 → (Lit.int (([.i64] : List IntKind).getD j .i64) (z j)).wf = true) → l1.length ≤ 9223372036854775807 → (∀ x ∈ l1, ∃ z : Nat → Int, x = z 0 ∧ ∀ j, j < 1 → (Lit.int (([.i64] : List IntKind).getD j .i64) (z j)).wf = true) → l2.length ≤ 9223372036854775807 → (∀ y ∈ l2, y.length ≤ 9223372036854775807 ∧ ∀ x ∈ y, ∃ z : Nat → Int, x = z 0 ∧ ∀ j, j < 1 → (Lit.int (([.i64] : List IntKind).getD j .i64) (z j)).wf = true) → ∃ k, laws_FnExactTiredness.f k l0 l1 l2 = some true := by
  intro W O S hW _ hO _ hS hSr
  unfold laws_FnExactTiredness.f
  by_cases h1 : (W.length : Int) > 1048576
  · exact ⟨0, by rw [if_pos h1]⟩
  by_cases h2 : (O.length : Int) > 1048576
  · exact ⟨0, by rw [if_neg h1, if_pos h2]⟩
  obtain ⟨K, hK⟩ : ∃ K, K = 20000000 := ⟨_, rfl⟩
  obtain ⟨r, er, hr⟩ := szSS_tells (l := S) (fun y hy => (hSr y hy).1) hS (k := K + 1) (by omega)
  refine ⟨K + 1, ?_⟩
  rw [if_neg h1, if_neg h2, er]
  simp only [Option.bind_some]
  by_cases hneg : r < 0
  · rw [if_pos hneg]
  rw [if_neg hneg]
  obtain ⟨hSl, hT⟩ : S.length ≤ 1048576 ∧ tot S ≤ 1048576 := hr.resolve_left hneg
  have hrow : ∀ y ∈ S, y.length ≤ 1048576 := fun y h => Nat.le_trans (len_tot S y h) hT
  have hsp : ∀ k, 9000000 < k → spec_Tiredness.f k W O S = some (tiredV W O S) := fun k h => spec_tells (by omega) (by omega) hSl hT h
  have him : ∀ k, 9000000 < k → impl_Tiredness.f k W O S = some (tiredV W O S) := fun k h => impl_tells (by omega) (by omega) hSl hT h
  have tW : ∀ k, 9000000 < k → laws_toInt64S.f k W = some W := fun k h => by rw [toInt64_tells (by omega) (by omega), List.map_id]
  have tO : ∀ k, 9000000 < k → laws_toInt64S.f k O = some O := fun k h => by rw [toInt64_tells (by omega) (by omega), List.map_id]
  have tS : ∀ k, 9000000 < k → laws_toInt64SS.f k S = some S := fun k h => toSS_tells hrow hSl (by omega)
  rw [tW _ (by omega)]
  simp only [Option.bind_some]
  rw [tO _ (by omega)]
  simp only [Option.bind_some]
  rw [tS _ (by omega)]
  simp only [Option.bind_some]
  rw [hsp _ (by omega)]
  simp only [Option.bind_some]
  rw [him _ (by omega)]
  simp only [Option.bind_some, if_true, bne_self_eq_false]
  rw [laws_FnExactTiredness.j0, if_neg (by simp), tW _ (by omega)]
  simp only [Option.bind_some]
  rw [eqInt64_tells (by omega) (by omega)]
  simp only [Option.bind_some, if_true]
  rw [tO _ (by omega)]
  simp only [Option.bind_some]
  rw [eqInt64_tells (by omega) (by omega)]
  simp only [Option.bind_some, if_true]
  rw [tS _ (by omega)]
  simp only [Option.bind_some]
  rw [eqSS_tells hrow hSl (by omega)]
  simp
end Go.Proofs.Ytdefbflihmkegac.G.Pure
end
section
namespace Go.Proofs.Ytdefbflihmkegac.RL
open Go.ChangeShapes Go.WideShapes Go.Deep Go.Proofs.YtdefbflihmkegacW.PrintWords
set_option linter.unusedVariables false
def leafAt (P : Program) : Nat → TypeId → Nat → Option IntKind
  | 0, _, _ => none
  | n + 1, t, j => match P.underlying t with
    | some (.int k) => if j = 0 then some k else none
    | some (.struct fs) => ((List.range fs.size).find? fun i => match fs[i]? with
        | some f => decide (f.offset ≤ j ∧ j < f.offset + P.cellsOf f.type)
        | none => false).bind fun i => (fs[i]?).bind fun f => leafAt P n f.type (j - f.offset)
    | some (.array m e) => if j < m * P.cellsOf e then leafAt P n e (j % P.cellsOf e) else none
    | _ => none
section
variable {H : Type} {enc : TypeId × Value → H} {P : Program} {w : World} {base : Nat} {spare : Nat → Bool} {held : Bool}
theorem seg_at {cs : List Value} {o s j : Nat} {u : Value} (h0 : o ≤ j) (h1 : j < o + s) (h : ((cs.drop o).take s)[j - o]? = some u) : cs[j]? = some u := by
  rw [List.getElem?_take, if_pos (by omega), List.getElem?_drop] at h
  rw [← h]
  congr 1
  omega
theorem leaf_trod (n : Nat) : ∀ (t : TypeId) (j : Nat) (k : IntKind) (fuel : Nat) (cs : List Value) (x : DataW H × List MemPlace), leafAt P n t j = some k → DataW.trod enc P w base spare held fuel t cs = some x →
    ∃ z, cs[j]? = some (.int k z) ∧ (Lit.int k z).wf = true := by
  induction n with
  | zero => intro t j k fuel cs x h; simp [leafAt] at h
  | succ n ih =>
    intro t j k fuel cs x h ht
    unfold leafAt at h
    split at h
    · rename_i k' hu
      split at h
      · rename_i hj
        subst hj
        injection h with h
        subst h
        obtain ⟨z, rfl, _, hw⟩ := DataW.trod_int hu ht
        exact ⟨z, rfl, hw⟩
      · cases h
    · rename_i fs hu
      rw [Option.bind_eq_some_iff] at h
      obtain ⟨i, hi, h⟩ := h
      rw [Option.bind_eq_some_iff] at h
      obtain ⟨f, hf, h⟩ := h
      have hp := List.find?_some hi
      rw [hf] at hp
      have hp' : f.offset ≤ j ∧ j < f.offset + P.cellsOf f.type := of_decide_eq_true hp
      obtain ⟨xs, m, rfl, rfl, hlen, hxl, hat⟩ := DataW.trod_struct hu ht
      have h1 := hat i f hf
      have hil : i < xs.length := by rw [hxl]; exact (Array.getElem?_eq_some_iff.1 hf).1
      rw [List.getElem?_eq_getElem hil] at h1
      obtain ⟨z, hz, hw⟩ := ih f.type (j - f.offset) k m _ _ h h1
      exact ⟨z, seg_at hp'.1 hp'.2 hz, hw⟩
    · rename_i m e hu
      split at h
      · rename_i hj
        have hC : 0 < P.cellsOf e := by
          rcases Nat.eq_zero_or_pos (P.cellsOf e) with h0 | h0
          · rw [h0] at hj; omega
          · exact h0
        obtain ⟨xs, m', rfl, rfl, hlen, hxl, hat⟩ := DataW.trod_array hu ht
        have hi : j / P.cellsOf e < m := by rw [Nat.div_lt_iff_lt_mul hC]; exact hj
        have h1 := hat (j / P.cellsOf e) hi
        rw [List.getElem?_eq_getElem (by omega)] at h1
        obtain ⟨z, hz, hw⟩ := ih e (j % P.cellsOf e) k m' _ _ h h1
        have hd := Nat.div_add_mod j (P.cellsOf e)
        have hm := Nat.mod_lt j hC
        rw [Nat.mul_comm] at hd
        refine ⟨z, seg_at (o := j / P.cellsOf e * P.cellsOf e) (s := P.cellsOf e) (by omega) (by omega) ?_, hw⟩
        rw [← hz]
        congr 1
        omega
      · cases h
    · cases h
def leaves (P : Program) (t : TypeId) (C : Nat) : List (Option IntKind) := (List.range C).map (leafAt P 6 t)
theorem leaves_at {t : TypeId} {C : Nat} {ks : List IntKind} (h : leaves P t C = ks.map some) {j : Nat} (hj : j < C) : leafAt P 6 t j = some (ks.getD j .i64) := by
  have hl : ks.length = C := by have := congrArg List.length h; simpa [leaves] using this.symm
  have h1 := congrArg (fun l => l[j]?) h
  simp only [leaves, List.getElem?_map] at h1
  rw [List.getElem?_eq_getElem (by simpa using hj), List.getElem?_eq_getElem (by omega)] at h1
  simp only [List.getElem_range, Option.map_some, Option.some.injEq] at h1
  rw [h1, List.getD_eq_getElem?_getD, List.getElem?_eq_getElem (by omega)]
  rfl
def cellsL (ks : List IntKind) (C : Nat) (z : Nat → Int) : List Value := (List.range C).map fun j => Value.int (ks.getD j .i64) (z j)
theorem flat_slice {t e : TypeId} {a : Option Addr} {len cap : Nat} {d : DataW H} {p : List MemPlace} (C : Nat) (ks : List IntKind) (ht : P.underlying t = some (.slice e)) (hC : P.cellsOf e = C) (hk : leaves P e C = ks.map some)
    (h : DataW.Trod enc P w base (fun _ => true) held t (.slice a len cap) d p) : len ≤ cap ∧ len ≤ 9223372036854775807 ∧ ∃ z : Nat → Nat → Int, (0 < len → ∃ ad, a = some ad ∧ ∀ i, i < len → ∀ j, j < C → w.cell? (ad.add (i * C + j)) = some (.int (ks.getD j .i64) (z i j))) ∧
      ∀ i, i < len → ∀ j, j < C → (Lit.int (ks.getD j .i64) (z i j)).wf = true := by
  obtain ⟨fuel, hf⟩ := h
  rcases open_slice ht hf with ⟨hcs, _⟩ | ⟨ad, l, c, m, n, D, Pl, hcs, hb, hl, hm, hmm, _, hi⟩
  · simp [Value.cells] at hcs
    obtain ⟨rfl, rfl, rfl⟩ := hcs
    exact ⟨Nat.le_refl _, by omega, fun _ _ => 0, fun h => absurd h (by omega), fun i hi => absurd hi (by omega)⟩
  · simp [Value.cells] at hcs
    obtain ⟨rfl, rfl, rfl⟩ := hcs
    have hmc : m = cap := by simpa using hmm
    have ha : ∀ i j, ∃ z : Int, i < len → j < C → w.cell? (ad.add (i * C + j)) = some (.int (ks.getD j .i64) z) ∧ (Lit.int (ks.getD j .i64) z).wf = true := by
      intro i j
      by_cases hij : i < len ∧ j < C
      · obtain ⟨cs', hc, htr⟩ := hi i (by omega)
        rw [hC] at hc
        obtain ⟨z, h1, h2⟩ := leaf_trod 6 e j _ n _ _ (leaves_at hk hij.2) htr
        obtain ⟨_, hcl, hat⟩ := World.cells?_some hc
        have h3 := hat j hij.2
        rw [Go.Deep.add_add, h1] at h3
        exact ⟨z, fun _ _ => ⟨h3, h2⟩⟩
      · exact ⟨0, fun h1 h2 => absurd ⟨h1, h2⟩ hij⟩
    obtain ⟨z, hz⟩ : ∃ z : Nat → Nat → Int, ∀ i j, i < len → j < C → w.cell? (ad.add (i * C + j)) = some (.int (ks.getD j .i64) (z i j)) ∧ (Lit.int (ks.getD j .i64) (z i j)).wf = true := ⟨fun i j => (ha i j).choose, fun i j => (ha i j).choose_spec⟩
    exact ⟨hl, by unfold maxLen at hm; omega, z, fun _ => ⟨ad, rfl, fun i hi j hj => (hz i j hi hj).1⟩, fun i hi j hj => (hz i j hi hj).2⟩
theorem slice_C {t e : TypeId} {a : Option Addr} {len cap : Nat} {d : DataW H} {p : List MemPlace} {α : Type} (kd : Kd α) (mk : (Nat → Int) → α) (C : Nat) (ks : List IntKind) (hsz : kd.sz = C) (hK : ∀ z, kd.K w (mk z) (cellsL ks C z)) (ht : P.underlying t = some (.slice e)) (hC : P.cellsOf e = C) (hk : leaves P e C = ks.map some)
    (h : DataW.Trod enc P w base (fun _ => true) held t (.slice a len cap) d p) : ∃ l : List α, len = l.length ∧ kd.C w a l.length l ∧ l.length ≤ cap ∧ l.length ≤ 9223372036854775807 ∧ ∀ x ∈ l, ∃ z : Nat → Int, x = mk z ∧ ∀ j, j < C → (Lit.int (ks.getD j .i64) (z j)).wf = true := by
  obtain ⟨hl, hm, z, hc, hw⟩ := flat_slice C ks ht hC hk h
  have hlen : ((List.range len).map fun i => mk (z i)).length = len := by simp
  refine ⟨(List.range len).map fun i => mk (z i), hlen.symm, ?_, by omega, by omega, ?_⟩
  · rw [hlen]
    refine ⟨hlen, hm, fun h0 => ?_⟩
    obtain ⟨ad, rfl, hcell⟩ := hc h0
    refine ⟨ad, rfl, fun i x hx => ?_⟩
    have hi : i < len := by
      have := (List.getElem?_eq_some_iff.1 hx).1
      omega
    rw [List.getElem?_map, List.getElem?_eq_getElem (by simpa using hi)] at hx
    simp only [List.getElem_range, Option.map_some, Option.some.injEq] at hx
    subst hx
    refine ⟨cellsL ks C (z i), by rw [hsz]; simp [cellsL], hK (z i), fun j u hu => ?_⟩
    have hj : j < C := by
      have := (List.getElem?_eq_some_iff.1 hu).1
      simpa [cellsL] using this
    rw [cellsL, List.getElem?_map, List.getElem?_eq_getElem (by simpa using hj)] at hu
    simp only [List.getElem_range, Option.map_some, Option.some.injEq] at hu
    rw [hsz, ← hu]
    exact hcell i hi j hj
  · intro x hx
    rw [List.mem_map] at hx
    obtain ⟨i, hi, rfl⟩ := hx
    exact ⟨z i, rfl, fun j hj => hw i (by simpa using hi) j hj⟩
theorem slice2_C {t e e2 : TypeId} {a : Option Addr} {len cap : Nat} {d : DataW H} {p : List MemPlace} {α : Type} (kd : Kd α) (n2 : Nat) (mk : (Nat → Int) → α) (C : Nat) (ks : List IntKind) (hsz : kd.sz = C) (hK : ∀ z, kd.K w (mk z) (cellsL ks C z)) (ht : P.underlying t = some (.slice e)) (he : P.underlying e = some (.slice e2)) (hCe : P.cellsOf e = 1) (hC : P.cellsOf e2 = C) (hk : leaves P e2 C = ks.map some)
    (h : DataW.Trod enc P w base (fun _ => true) held t (.slice a len cap) d p) : ∃ l : List (List α), len = l.length ∧ (Kd.slice n2 kd).C w a l.length l ∧ l.length ≤ cap ∧ l.length ≤ 9223372036854775807 ∧ ∀ y ∈ l, y.length ≤ 9223372036854775807 ∧ ∀ x ∈ y, ∃ z : Nat → Int, x = mk z ∧ ∀ j, j < C → (Lit.int (ks.getD j .i64) (z j)).wf = true := by
  obtain ⟨fuel, hf⟩ := h
  rcases open_slice ht hf with ⟨hcs, _⟩ | ⟨ad, l, c, m, n, D, Pl, hcs, hb, hl, hm, hmm, _, hi⟩
  · simp [Value.cells] at hcs
    obtain ⟨rfl, rfl, rfl⟩ := hcs
    exact ⟨[], rfl, ⟨rfl, by simp, fun h => absurd h (by simp)⟩, by simp, by simp, fun y hy => by cases hy⟩
  · simp [Value.cells] at hcs
    obtain ⟨rfl, rfl, rfl⟩ := hcs
    have hmc : m = cap := by simpa using hmm
    have ha : ∀ i, ∃ (y : List α) (A' : Option Addr) (c' : Nat), i < len → w.cell? (ad.add i) = some (.slice A' y.length c') ∧ y.length ≤ c' ∧ kd.C w A' y.length y ∧ y.length ≤ 9223372036854775807 ∧ ∀ x ∈ y, ∃ z : Nat → Int, x = mk z ∧ ∀ j, j < C → (Lit.int (ks.getD j .i64) (z j)).wf = true := by
      intro i
      by_cases hil : i < len
      · obtain ⟨cs', hc, htr⟩ := hi i (by omega)
        rw [hCe] at hc
        obtain ⟨_, hcl, hat⟩ := World.cells?_some hc
        have h0 := hat 0 (by omega)
        rw [Go.Deep.add_add] at h0
        have hcell : ∀ v : Value, cs' = [v] → w.cell? (ad.add i) = some v := by
          intro v hv
          have e0 : cs'[0]? = some v := by rw [hv]; rfl
          simp only [Nat.mul_one, Nat.add_zero] at h0
          rw [h0, e0]
        have hwrap : ∀ A' l' c', cs' = [Value.slice A' l' c'] → ∃ (y : List α) (A' : Option Addr) (c' : Nat), i < len → w.cell? (ad.add i) = some (.slice A' y.length c') ∧ y.length ≤ c' ∧ kd.C w A' y.length y ∧ y.length ≤ 9223372036854775807 ∧ ∀ x ∈ y, ∃ z : Nat → Int, x = mk z ∧ ∀ j, j < C → (Lit.int (ks.getD j .i64) (z j)).wf = true := by
          intro A' l' c' hv
          rw [hv] at htr
          obtain ⟨y, rfl, hC2, hl2, hm2, hz2⟩ := slice_C kd mk C ks hsz hK he hC hk (a := A') (len := l') (cap := c') ⟨n, htr⟩
          exact ⟨y, A', c', fun _ => ⟨hcell _ hv, hl2, hC2, hm2, hz2⟩⟩
        rcases open_slice he htr with ⟨hcs2, _⟩ | ⟨ad2, l2, c2, m2, n3, D2, Pl2, hcs2, _⟩
        · exact hwrap _ _ _ hcs2
        · exact hwrap _ _ _ hcs2
      · exact ⟨[], none, 0, fun h => absurd h hil⟩
    obtain ⟨Y, hY⟩ : ∃ Y : Nat → List α, ∀ i, ∃ (A' : Option Addr) (c' : Nat), i < len → w.cell? (ad.add i) = some (.slice A' (Y i).length c') ∧ (Y i).length ≤ c' ∧ kd.C w A' (Y i).length (Y i) ∧ (Y i).length ≤ 9223372036854775807 ∧ ∀ x ∈ Y i, ∃ z : Nat → Int, x = mk z ∧ ∀ j, j < C → (Lit.int (ks.getD j .i64) (z j)).wf = true := ⟨fun i => (ha i).choose, fun i => (ha i).choose_spec⟩
    have hlen : ((List.range len).map Y).length = len := by simp
    have hmx : len ≤ 9223372036854775807 := by unfold maxLen at hm; omega
    refine ⟨(List.range len).map Y, hlen.symm, ?_, by omega, by omega, ?_⟩
    · rw [hlen]
      refine ⟨hlen, hmx, fun h0 => ⟨ad, rfl, fun i y hy => ?_⟩⟩
      have hi2 : i < len := by
        have := (List.getElem?_eq_some_iff.1 hy).1
        omega
      rw [List.getElem?_map, List.getElem?_eq_getElem (by simpa using hi2)] at hy
      simp only [List.getElem_range, Option.map_some, Option.some.injEq] at hy
      subst hy
      obtain ⟨A', c', hx⟩ := hY i
      obtain ⟨h1, h2, h3, _⟩ := hx hi2
      refine ⟨[.slice A' (Y i).length c'], rfl, ⟨A', c', rfl, h2, h3⟩, fun j u hu => ?_⟩
      have hj : j = 0 := by
        have := (List.getElem?_eq_some_iff.1 hu).1
        simpa using this
      subst hj
      simp only [List.getElem?_cons_zero, Option.some.injEq] at hu
      subst hu
      rw [show (Kd.slice n2 kd).sz = 1 from rfl, Nat.mul_one, Nat.add_zero]
      exact h1
    · intro y hy
      rw [List.mem_map] at hy
      obtain ⟨i, hi2, rfl⟩ := hy
      obtain ⟨A', c', hx⟩ := hY i
      obtain ⟨_, _, _, h4, h5⟩ := hx (by simpa using hi2)
      exact ⟨h4, h5⟩
end
end Go.Proofs.Ytdefbflihmkegac.RL
end
namespace Go.Proofs.Ytdefbflihmkegac.rowFnExactTiredness
open Go.ChangeShapes Go.WideShapes Go.ChangeAt Go.RowKit G Go.Proofs.YtdefbflihmkegacW.PrintWords
open Go.ChangeMaps (open_string shut_string)
set_option linter.unusedVariables false
theorem own : ownKnob Try.prog.godebug = none := by kernel_rfl
theorem laidOut : laidOutB Try.prog = true := by kernel_rfl
set_option maxRecDepth 100000 in
theorem lifted (os : Os) (started : os.Started) (H : Type) (enc : TypeId × Value → H) :
    ReturnsInHanded {} Try.checked os 3 .any (Rows.fnExactTirednessSpec.pre6 enc Try.prog Try.f3 Rows.fnExactTirednessRow.domain false) (Rows.fnExactTirednessSpec.post enc Try.prog Try.f3 false true false false) := by
  refine returnsInHanded_of_change_sized (C := Try.checked) own started (by kernel_rfl) Try.func3
    (ChangeSpec.witness6 (enc := enc) (C := Try.checked) false ⟨#[], #[.slice none 0 0, .slice none 0 0, .slice none 0 0], []⟩ 8 (by kernel_rfl) (by kernel_rfl) (by kernel_rfl) (by kernel_rfl)) ?_
  intro W base args ds gs before hval0 hW hcnd hsz0 _
  have hsz : (DataW.weightsEach Try.prog (Try.f3.params.toList ++ Rows.fnExactTirednessSpec.plain.varTypes Try.prog) (ds ++ gs)).all (· ≤ reachBytes) = true := hsz0
  have hval : ∀ (j : Nat) t v, Try.f3.params[j]? = some t → args[j]? = some v → Value.okWide Try.prog W .any base t v := hval0
  have hW' := hW
  obtain ⟨p, q, hA0, hV, rfl, hfz, hnd⟩ := hW
  have hA : DataW.TrodAll enc Try.prog W 0 (fun _ => true) true Try.f3.params.toList args.toList ds p := hA0
  rw [Try.params3] at hA hval hsz
  obtain ⟨v0, vs0, d0, ds0, p0, q0, hargs, rfl, rfl, h0, r0⟩ := trodAll_cons hA
  obtain ⟨v1, vs1, d1, ds1, p1, q1, rfl, rfl, rfl, h1, r1⟩ := trodAll_cons r0
  obtain ⟨v2, vs2, d2, ds2, p2, q2, rfl, rfl, rfl, h2, r2⟩ := trodAll_cons r1
  obtain ⟨rfl, rfl, rfl⟩ := trodAll_nil r2
  obtain rfl : args = #[v0, v1, v2] := by cases args; simp_all
  obtain ⟨rfl, rfl⟩ := trodVars_none hV
  have k0_ := h0
  have lt0 : ∀ x ∈ p0, x.block < W.heap.size := by obtain ⟨m, hm⟩ := k0_; exact DataW.trod_lt m _ _ _ hm
  obtain ⟨A0, len0, c0, rfl⟩ := okWide_slice Try.underlying22 (hval 0 22 v0 rfl rfl)
  obtain ⟨l0, rfl, C0, g0, m0, y0⟩ := RL.slice_C (Kd.int .i64) (fun z => z 0) 1 [.i64] rfl (fun z => rfl) Try.underlying22 (by kernel_rfl) (by kernel_rfl) h0
  have k1_ := h1
  have lt1 : ∀ x ∈ p1, x.block < W.heap.size := by obtain ⟨m, hm⟩ := k1_; exact DataW.trod_lt m _ _ _ hm
  obtain ⟨A1, len1, c1, rfl⟩ := okWide_slice Try.underlying22 (hval 1 22 v1 rfl rfl)
  obtain ⟨l1, rfl, C1, g1, m1, y1⟩ := RL.slice_C (Kd.int .i64) (fun z => z 0) 1 [.i64] rfl (fun z => rfl) Try.underlying22 (by kernel_rfl) (by kernel_rfl) h1
  have k2_ := h2
  have lt2 : ∀ x ∈ p2, x.block < W.heap.size := by obtain ⟨m, hm⟩ := k2_; exact DataW.trod_lt m _ _ _ hm
  obtain ⟨A2, len2, c2, rfl⟩ := okWide_slice Try.underlying23 (hval 2 23 v2 rfl rfl)
  obtain ⟨l2, rfl, C2, g2, m2, y2⟩ := RL.slice2_C (Kd.int .i64) 2 (fun z => z 0) 1 [.i64] rfl (fun z => rfl) Try.underlying23 Try.underlying22 (by kernel_rfl) (by kernel_rfl) (by kernel_rfl) h2
  clear hA0 hval0 hsz0 hsz
  obtain ⟨k, hp⟩ := Pure.FnExactTiredness l0 l1 l2 m0 y0 m1 y1 m2 y2
  refine (laws_FnExactTiredness.calls k A0 c0 l0 A1 c1 l1 A2 c2 l2 true W rfl C0 g0 C1 g1 C2 g2 hp).mono fun e W' ⟨he, bel⟩ => ?_
  subst he
  exact ⟨_, rfl, _, _, _, [], _, [], hW', trodAll_mk1 (shut_bool Try.underlying4 _), (trodAll_cons_mk (Below.trod laidOut (by kernel_rfl) (of_decide_eq_true (by kernel_rfl)) k0_ bel lt0) (trodAll_cons_mk (Below.trod laidOut (by kernel_rfl) (of_decide_eq_true (by kernel_rfl)) k1_ bel lt1) (trodAll_cons_mk (Below.trod laidOut (by kernel_rfl) (of_decide_eq_true (by kernel_rfl)) k2_ bel lt2) trodAll_mk0))), rfl, bel.frame _, fun h => by cases h⟩
set_option maxHeartbeats 8000000 in
theorem closed : joinedFacts Try.pinned.checked.prog 3 Try.f3 Rows.fnExactTirednessSpec Rows.fnExactTirednessRow = true := by
  kernel_rfl
theorem named : Try.pinned.checked.prog.funcNamed Rows.fnExactTirednessRow.func = some 3 := by kernel_rfl
theorem inst : Try.f3.isInstance Try.pinned.checked.prog Rows.fnExactTirednessRow.origin Rows.fnExactTirednessRow.targs := of_decide_eq_true (by kernel_rfl)
theorem wrapper : Try.f3.isWrapper Try.pinned.checked.prog Rows.fnExactTirednessRow.wrapper Rows.fnExactTirednessRow.mainSum := by unfold Func.isWrapper; first | (rw [if_pos (by decide +kernel)]; kernel_rfl) | (rw [if_neg (by decide +kernel)]; exact ⟨rfl, rfl⟩)
theorem over : Rows.fnExactTirednessRow.holds Try.pinned (OpenSpec.ofChange Rows.fnExactTirednessSpec) :=
  OpenClaim.holds_of_wide 3 Try.f3 rfl rfl rfl rfl rfl rfl rfl ⟨rfl, rfl, rfl, rfl, rfl⟩ rfl rfl rfl rfl rfl named Try.func3 closed inst wrapper
    (fun os started H enc _ => lifted os started H enc)
theorem proved : Rows.FnExactTirednessSaid := over
#print axioms proved
end Go.Proofs.Ytdefbflihmkegac.rowFnExactTiredness
namespace Go.Proofs.Ytdefbflihmkegac
theorem fnExactTiredness_holds : Rows.FnExactTirednessSaid := rowFnExactTiredness.proved
end Go.Proofs.Ytdefbflihmkegac
