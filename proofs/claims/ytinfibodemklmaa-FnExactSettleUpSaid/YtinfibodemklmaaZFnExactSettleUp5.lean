/- FnExactSettleUp returns true, whatever the input, and leaves its arguments as they were. -/
import Derived.Test.YtinfibodemklmaaProg
import Derived.Below
import Derived.Deep.Draws
import Derived.Deep.AppendLies
import Derived.Maps.AppendAt
import Derived.OwnWalk
import Derived.Laws.BytesArg
import Derived.Laws.MakeOwn
import Derived.Laws.OwnMore
import Derived.Deep.OwnRows
import Derived.Tactics
import Derived.Lib.ConvBytes
import Derived.Laws.Slices
import Derived.WalkKit
import Derived.KernelRfl
import Derived.RowKit3
import Derived.Deep.LoopGhost
import Derived.Deep.QuietTactic
import Derived.BigQuiet
import Derived.WideLaws
import Derived.Deep.DeepCutAuto
import Derived.Deep.CutBlock
import Derived.Deep.RegionHeld3
import Derived.Laws.Rows
import Derived.Lib.AppendStr
import Derived.ArgAppend
import Derived.Laws.IdiomCopy
import Derived.OrdersHeld
import Derived.Laws.BitsLemmas
import Derived.RowKit
import Derived.Laws.StructEq
import Derived.OpenShut
import Derived.Laws.Tables
import Derived.Deep.Slices
import Derived.ChangeSame
import Derived.ChangeArms
import Derived.ProofKit
import Derived.Test.YtinfibodemklmaaRows
import Derived.ShutString
import Derived.ChangeOld
import Derived.SizedLaws
import Derived.Test.YtinfibodemklmaaZFnExactSettleUp1
import Derived.Test.YtinfibodemklmaaZFnExactSettleUp2
import Derived.Test.YtinfibodemklmaaZFnExactSettleUp3
import Derived.Test.YtinfibodemklmaaZFnExactSettleUp4
section
namespace Go.Proofs.Ytinfibodemklmaa.G.PS
open Go.RowKit Go.Proofs.Ytinfibodemklmaa.PL Go.Proofs.YtinfibodemklmaaW.PrintWords Go.Proofs.YtinfibodemklmaaW.PrintLast Go.Proofs.YtinfibodemklmaaW.PrintMore
set_option linter.unusedSimpArgs false
set_option linter.unusedVariables false
abbrev Row3 := S33
theorem spec_share_loop (n c : Int) (h0 : 0 ≤ n) (h1 : n ≤ 1000000) (hc : 1 ≤ c) (hc6 : c ≤ 6) (d : Nat) :
    ∀ (k i : Nat), (i : Int) + d = c → d < k → spec_l06Share.l0 k n c (parts n c i) i = some (parts n c c.toNat) := by
  induction d with
  | zero =>
    intro k i hi hk
    obtain ⟨k, rfl⟩ : ∃ m, k = m + 1 := ⟨k - 1, by omega⟩
    have e : c.toNat = i := by omega
    simp only [spec_l06Share.l0]; rw [if_neg (by omega), e]
  | succ d ih =>
    intro k i hi hk
    obtain ⟨k, rfl⟩ : ∃ m, k = m + 1 := ⟨k - 1, by omega⟩
    obtain ⟨b1, b2, b3, b4⟩ := part_bounds (n := n) (c := c) i h0 h1 hc
    have hw : wrap64 ((i : Int) + 1) = ((i + 1 : Nat) : Int) := wnx (by omega)
    have hl : (parts n c i).length < 17592186044416 := by rw [parts_length]; omega
    simp only [spec_l06Share.l0]
    rw [if_pos (by omega), if_neg (by omega), Int.tmod_eq_emod_of_nonneg h0, Int.tdiv_eq_ediv_of_nonneg h0, if_pos hl, if_pos hl, hw, wsm (x := n / c) (by omega) (by omega), wsm (by omega) (by omega)]
    have hp : part n c i = n / c + if (i : Int) < n % c then 1 else 0 := rfl
    by_cases hlt : (i : Int) < n % c
    · rw [if_pos hlt] at hp ⊢
      rw [← hp, ← parts_succ]
      exact ih k (i + 1) (by omega) (by omega)
    · rw [if_neg hlt] at hp ⊢
      rw [Int.add_zero] at hp
      rw [← hp, ← parts_succ]
      exact ih k (i + 1) (by omega) (by omega)
theorem spec_share_tells {n c : Int} (h0 : 0 ≤ n) (h1 : n ≤ 1000000) (hc : 1 ≤ c) (hc6 : c ≤ 6) {k : Nat} (hk : 6 < k) : spec_l06Share.f k n c = some (parts n c c.toNat) :=
  spec_share_loop n c h0 h1 hc hc6 c.toNat k 0 (by omega) (by omega)
theorem impl_share_loop (n c : Int) (h0 : 0 ≤ n) (h1 : n ≤ 1000000) (hc : 1 ≤ c) (hc6 : c ≤ 6) (d : Nat) :
    ∀ (k i : Nat), (i : Int) + d = c → d < k → impl_share.l0 k n c (parts n c i) c i = some (parts n c c.toNat) := by
  induction d with
  | zero =>
    intro k i hi hk
    obtain ⟨k, rfl⟩ : ∃ m, k = m + 1 := ⟨k - 1, by omega⟩
    have e : c.toNat = i := by omega
    simp only [impl_share.l0]; rw [if_neg (by omega), e]
  | succ d ih =>
    intro k i hi hk
    obtain ⟨k, rfl⟩ : ∃ m, k = m + 1 := ⟨k - 1, by omega⟩
    obtain ⟨b1, b2, b3, b4⟩ := part_bounds (n := n) (c := c) i h0 h1 hc
    have hw : wrap64 ((i : Int) + 1) = ((i + 1 : Nat) : Int) := wnx (by omega)
    have hl : (parts n c i).length < 17592186044416 := by rw [parts_length]; omega
    simp only [impl_share.l0]
    rw [if_pos (by omega), if_neg (by omega), Int.tmod_eq_emod_of_nonneg h0, Int.tdiv_eq_ediv_of_nonneg h0, if_pos hl, if_pos hl, hw, wsm (x := n / c) (by omega) (by omega), wsm (by omega) (by omega)]
    have hp : part n c i = n / c + if (i : Int) < n % c then 1 else 0 := rfl
    by_cases hlt : (i : Int) < n % c
    · rw [if_pos hlt] at hp ⊢
      rw [← hp, ← parts_succ]
      exact ih k (i + 1) (by omega) (by omega)
    · rw [if_neg hlt] at hp ⊢
      rw [Int.add_zero] at hp
      rw [← hp, ← parts_succ]
      exact ih k (i + 1) (by omega) (by omega)
theorem impl_share_tells {n c : Int} (h0 : 0 ≤ n) (h1 : n ≤ 1000000) (hc : 1 ≤ c) (hc6 : c ≤ 6) {k : Nat} (hk : 6 < k) : impl_share.f k n c = some (parts n c c.toNat) :=
  impl_share_loop n c h0 h1 hc hc6 c.toNat k 0 (by omega) (by omega)
theorem paid_loops (l : List Int) (hl : l.length ≤ 10000000) (d : Nat) : ∀ (i : Nat), i + d = l.length →
    ∃ b : Bool, (b = true → (∀ j : Nat, i ≤ j → (h : j < l.length) → 0 ≤ l[j] ∧ l[j] ≤ 100000) ∧ 1 ≤ l.length ∧ l.length ≤ 6) ∧
      (∀ k, d < k → spec_l06Paid.l0 k l i = some b) ∧ (∀ k, d < k → impl_isPaid.l0 k l l l.length i = some b) := by
  induction d with
  | zero =>
    intro i hi
    refine ⟨decide (1 ≤ l.length ∧ l.length ≤ 6), fun h => ⟨fun j h1 h2 => by omega, of_decide_eq_true h⟩, fun k hk => ?_, fun k hk => ?_⟩ <;> obtain ⟨k, rfl⟩ : ∃ m, k = m + 1 := ⟨k - 1, by omega⟩
    · simp only [spec_l06Paid.l0, spec_l06Crew.f, spec_l00In.f]; rw [if_neg (by omega)]
      by_cases h1 : (l.length : Int) ≥ 1
      · rw [if_pos h1]; simp only [Option.bind_some, Option.some.injEq, decide_eq_decide]; omega
      · rw [if_neg h1]; simp; omega
    · simp only [impl_isPaid.l0, impl_isCrew.f]; rw [if_neg (by omega)]
      by_cases h1 : (l.length : Int) ≥ 1
      · rw [if_pos h1]; simp only [Option.bind_some, Option.some.injEq, decide_eq_decide]; omega
      · rw [if_neg h1]; simp; omega
  | succ d ih =>
    intro i hi
    have hlt : i < l.length := by omega
    by_cases hg : 0 ≤ l[i] ∧ l[i] ≤ 100000
    · obtain ⟨b, hb, e1, e2⟩ := ih (i + 1) (by omega)
      refine ⟨b, fun h => ⟨fun j h1 h2 => ?_, (hb h).2⟩, fun k hk => ?_, fun k hk => ?_⟩
      · by_cases e : j = i
        · subst e; exact hg
        · exact (hb h).1 j (by omega) h2
      all_goals obtain ⟨k, rfl⟩ : ∃ m, k = m + 1 := ⟨k - 1, by omega⟩
      · simp only [spec_l06Paid.l0, spec_l00In.f]; rw [if_pos (by omega), if_pos (by omega), rd_at hlt, if_pos hg.1]
        simp only [Option.bind_some, hg.2, decide_true, if_true]
        rw [wnx (by omega)]; exact e1 k (by omega)
      · simp only [impl_isPaid.l0]; rw [if_pos (by omega), if_pos (by omega), if_pos (by omega), rd_at hlt, if_neg (by omega), if_neg (by omega), wnx (by omega)]; exact e2 k (by omega)
    · refine ⟨false, fun h => by simp at h, fun k hk => ?_, fun k hk => ?_⟩ <;> obtain ⟨k, rfl⟩ : ∃ m, k = m + 1 := ⟨k - 1, by omega⟩
      · simp only [spec_l06Paid.l0, spec_l00In.f]; rw [if_pos (by omega), if_pos (by omega), rd_at hlt]
        by_cases h0 : l[i] ≥ 0
        · rw [if_pos h0]; have : ¬ l[i] ≤ 100000 := fun h => hg ⟨h0, h⟩
          simp [this]
        · rw [if_neg h0]; simp
      · simp only [impl_isPaid.l0]; rw [if_pos (by omega), if_pos (by omega), if_pos (by omega), rd_at hlt]
        by_cases h0 : l[i] < 0
        · rw [if_pos h0]
        · rw [if_neg h0, if_pos (by omega)]
def lessV (l o : List Int) : List Int := List.zipWith (fun x y => x - y) l o
theorem less_loops (l o : List Int) (hl : l.length ≤ 10000000) (ho : o.length = l.length) (hb : ∀ j : Nat, j < l.length → -1000000000 ≤ rd l (j : Int) ∧ rd l (j : Int) ≤ 1000000000 ∧ -1000000000 ≤ rd o (j : Int) ∧ rd o (j : Int) ≤ 1000000000) (d : Nat) : ∀ (i : Nat) (x : List Int), x.length = l.length → i + d = l.length →
    (∀ j : Nat, j < i → rd x (j : Int) = rd l (j : Int) - rd o (j : Int)) → (∀ j : Nat, i ≤ j → rd x (j : Int) = rd o (j : Int)) →
    (∀ k, d < k → spec_l06Balances.l1 k l x i = some (lessV l o)) ∧ (∀ k, d < k → impl_balances.l1 k x l l.length i = some (lessV l o)) := by
  induction d with
  | zero =>
    intro i x hx hi h1 h2
    have e : x = lessV l o := by
      apply List.ext_getElem
      · simp [lessV, hx, ho]
      · intro j hj hj'
        have := h1 j (by omega)
        rw [rd_at hj, rd_at (by omega), rd_at (by omega)] at this
        simp [lessV, this]
    subst e
    refine ⟨fun k hk => ?_, fun k hk => ?_⟩ <;> obtain ⟨k, rfl⟩ : ∃ m, k = m + 1 := ⟨k - 1, by omega⟩
    · simp only [spec_l06Balances.l1]; rw [if_neg (by omega)]
    · simp only [impl_balances.l1]; rw [if_neg (by omega)]
  | succ d ih =>
    intro i x hx hi h1 h2
    obtain ⟨b1, b2, b3, b4⟩ := hb i (by omega)
    have hxi := h2 i (Nat.le_refl i)
    obtain ⟨e1, e2⟩ := ih (i + 1) (x.set i (rd l (i : Int) - rd o (i : Int))) (by simp [hx]) (by omega) (fun j hj => by
      rw [rd_set _ _ _ _ (by omega)]
      split
      · rename_i e; subst e; rfl
      · exact h1 j (by omega)) (fun j hj => by
      rw [rd_set _ _ _ _ (by omega), if_neg (by omega)]; exact h2 j (by omega))
    refine ⟨fun k hk => ?_, fun k hk => ?_⟩ <;> obtain ⟨k, rfl⟩ : ∃ m, k = m + 1 := ⟨k - 1, by omega⟩
    · simp only [spec_l06Balances.l1]; rw [if_pos (by omega), if_pos (by omega), if_pos (by omega), wnx (by omega), hxi, wsm (x := rd l (i : Int) - rd o (i : Int)) (by omega) (by omega), Int.toNat_natCast]; exact e1 k (by omega)
    · simp only [impl_balances.l1]; rw [if_pos (by omega), if_pos (by omega), if_pos (by omega), if_pos (by omega), wnx (by omega), hxi, wsm (x := rd l (i : Int) - rd o (i : Int)) (by omega) (by omega), Int.toNat_natCast]; exact e2 k (by omega)
theorem sum_loops (l : List Int) (h1 : 1 ≤ l.length) (h6 : l.length ≤ 6) (hb : ∀ j : Nat, (h : j < l.length) → 0 ≤ l[j] ∧ l[j] ≤ 100000) (d : Nat) : ∀ (i : Nat) (s : Int), 0 ≤ s → s ≤ 100000 * i → s = sm (l.take i) → i + d = l.length →
    (∀ k, d + 10 < k → spec_l06Balances.l0 k l s i = some (lessV l (parts (sm l) l.length l.length))) ∧ (∀ k, d + 10 < k → impl_balances.l0 k l s l l.length i = some (lessV l (parts (sm l) l.length l.length))) := by
  induction d with
  | zero =>
    intro i s h0 hs hsm hi
    have hc : ((l.length : Int)).toNat = l.length := by omega
    rw [List.take_of_length_le (by omega)] at hsm
    subst hsm
    obtain ⟨e1, e2⟩ := less_loops l (parts (sm l) l.length l.length) (by omega) (parts_length _ _ _) (fun j hj => by
      rw [rd_at hj, rd_parts hj]
      have := hb j hj
      obtain ⟨p0, p1, p2, p3⟩ := part_bounds (n := sm l) (c := (l.length : Int)) (j : Int) h0 (by omega) (by omega)
      omega) l.length 0 (parts (sm l) l.length l.length) (parts_length _ _ _) (by omega) (fun j hj => by omega) (fun j hj => rfl)
    refine ⟨fun k hk => ?_, fun k hk => ?_⟩ <;> obtain ⟨k, rfl⟩ : ∃ m, k = m + 1 := ⟨k - 1, by omega⟩
    · simp only [spec_l06Balances.l0]; rw [if_neg (by omega), spec_share_tells h0 (by omega) (by omega) (by omega) (by omega), hc]; exact e1 k (by omega)
    · simp only [impl_balances.l0]; rw [if_neg (by omega), impl_share_tells h0 (by omega) (by omega) (by omega) (by omega), hc]; exact e2 k (by omega)
  | succ d ih =>
    intro i s h0 hs hsm hi
    have hlt : i < l.length := by omega
    obtain ⟨g0, g1⟩ := hb i hlt
    obtain ⟨e1, e2⟩ := ih (i + 1) (s + l[i]) (by omega) (by omega) (by rw [List.take_succ_eq_append_getElem hlt, sm_append, hsm, sm, sm]; omega) (by omega)
    refine ⟨fun k hk => ?_, fun k hk => ?_⟩ <;> obtain ⟨k, rfl⟩ : ∃ m, k = m + 1 := ⟨k - 1, by omega⟩
    · simp only [spec_l06Balances.l0]; rw [if_pos (by omega), if_pos (by omega), rd_at hlt, wnx (by omega), wsm (by omega) (by omega)]; exact e1 k (by omega)
    · simp only [impl_balances.l0]; rw [if_pos (by omega), if_pos (by omega), if_pos (by omega), rd_at hlt, wnx (by omega), wsm (by omega) (by omega)]; exact e2 k (by omega)
theorem rd_lessV {l o : List Int} (ho : o.length = l.length) {j : Nat} (hj : j < l.length) : rd (lessV l o) (j : Int) = rd l (j : Int) - rd o (j : Int) := by
  rw [rd_at (by simp [lessV, ho]; exact hj), rd_at hj, rd_at (by omega)]; simp [lessV]
theorem scan (l : List Int) (hl : l.length ≤ 100) (d : Nat) : ∀ (i lo hi : Nat), i + d = l.length → isLo l i lo → isHi l i hi →
    ∃ lo' hi' : Nat, isLo l l.length lo' ∧ isHi l l.length hi' ∧ ∀ (k : Nat) (out : List Row3), spec_SettleUp.l1 (k + d + 1) out l lo hi i = spec_SettleUp.l1 (k + 1) out l lo' hi' (l.length : Int) := by
  induction d with
  | zero =>
    intro i lo hi hi_ h1 h2
    have e : i = l.length := by omega
    subst e
    exact ⟨lo, hi, h1, h2, fun k out => rfl⟩
  | succ d ih =>
    intro i lo hi hi_ h1 h2
    have hlo := h1.1
    have hhi := h2.1
    obtain ⟨lo2, elo, hlo2⟩ : ∃ lo2 : Nat, lo2 = (if rd l (i : Int) < rd l (lo : Int) then i else lo) ∧ isLo l (i + 1) lo2 := by
      by_cases c : rd l (i : Int) < rd l (lo : Int)
      · exact ⟨i, by rw [if_pos c], isLo_new h1 c⟩
      · exact ⟨lo, by rw [if_neg c], isLo_keep h1 c⟩
    obtain ⟨hi2, ehi, hhi2⟩ : ∃ hi2 : Nat, hi2 = (if rd l (i : Int) > rd l (hi : Int) then i else hi) ∧ isHi l (i + 1) hi2 := by
      by_cases c : rd l (i : Int) > rd l (hi : Int)
      · exact ⟨i, by rw [if_pos c], isHi_new h2 c⟩
      · exact ⟨hi, by rw [if_neg c], isHi_keep h2 c⟩
    obtain ⟨lo', hi', a, b, e⟩ := ih (i + 1) lo2 hi2 (by omega) hlo2 hhi2
    refine ⟨lo', hi', a, b, fun k out => ?_⟩
    rw [← e k out, show k + (d + 1) + 1 = (k + d + 1) + 1 by omega, spec_SettleUp.l1, if_pos (by omega), if_pos (by omega), if_pos (by omega), if_pos (by omega)]
    rw [if_pos (show (0 : Int) ≤ (hi : Int) by omega), if_pos (show (hi : Int) < (l.length : Int) by omega), wnx (by omega), if_pos (show (0 : Int) ≤ (hi : Int) by omega), if_pos (show (hi : Int) < (l.length : Int) by omega), elo, ehi]
    by_cases c1 : rd l (i : Int) < rd l (lo : Int) <;> by_cases c2 : rd l (i : Int) > rd l (hi : Int) <;> simp only [c1, c2, if_true, if_false]
theorem min_loop (l : List Int) (hl : l.length ≤ 100) {lo : Nat} (hlo : isLo l l.length lo) (d : Nat) : ∀ (k i : Nat) (m : Int), i + d = l.length → (∃ j : Nat, j < i ∧ rd l (j : Int) = m) → (∀ j : Nat, j < i → m ≤ rd l (j : Int)) → d < k →
    slices_Min_int64_int64.l0 k l m i = some (rd l (lo : Int)) := by
  induction d with
  | zero =>
    intro k i m hi hm hn hk
    obtain ⟨k, rfl⟩ : ∃ m, k = m + 1 := ⟨k - 1, by omega⟩
    obtain ⟨j, hj, e⟩ := hm
    have a := hn lo (by have := hlo.1; omega)
    have b := (hlo.2 j (by omega)).1
    rw [slices_Min_int64_int64.l0, if_neg (by omega)]
    congr 1; omega
  | succ d ih =>
    intro k i m hi hm hn hk
    obtain ⟨k, rfl⟩ : ∃ m, k = m + 1 := ⟨k - 1, by omega⟩
    obtain ⟨j, hj, e⟩ := hm
    rw [slices_Min_int64_int64.l0, if_pos (by omega), if_pos (by omega), wnx (by omega)]
    refine ih k (i + 1) _ (by omega) ?_ ?_ (by omega)
    · unfold mn; split
      · exact ⟨i, by omega, rfl⟩
      · exact ⟨j, by omega, e⟩
    · intro q hq
      by_cases hqi : q = i
      · subst hqi; unfold mn; split <;> omega
      · have := hn q (by omega); unfold mn; split <;> omega
theorem max_loop (l : List Int) (hl : l.length ≤ 100) {hi : Nat} (hhi : isHi l l.length hi) (d : Nat) : ∀ (k i : Nat) (m : Int), i + d = l.length → (∃ j : Nat, j < i ∧ rd l (j : Int) = m) → (∀ j : Nat, j < i → rd l (j : Int) ≤ m) → d < k →
    slices_Max_int64_int64.l0 k l m i = some (rd l (hi : Int)) := by
  induction d with
  | zero =>
    intro k i m hi_ hm hn hk
    obtain ⟨k, rfl⟩ : ∃ m, k = m + 1 := ⟨k - 1, by omega⟩
    obtain ⟨j, hj, e⟩ := hm
    have a := hn hi (by have := hhi.1; omega)
    have b := (hhi.2 j (by omega)).1
    rw [slices_Max_int64_int64.l0, if_neg (by omega)]
    congr 1; omega
  | succ d ih =>
    intro k i m hi_ hm hn hk
    obtain ⟨k, rfl⟩ : ∃ m, k = m + 1 := ⟨k - 1, by omega⟩
    obtain ⟨j, hj, e⟩ := hm
    rw [slices_Max_int64_int64.l0, if_pos (by omega), if_pos (by omega), wnx (by omega)]
    refine ih k (i + 1) _ (by omega) ?_ ?_ (by omega)
    · unfold mx; split
      · exact ⟨i, by omega, rfl⟩
      · exact ⟨j, by omega, e⟩
    · intro q hq
      by_cases hqi : q = i
      · subst hqi; unfold mx; split <;> omega
      · have := hn q (by omega); unfold mx; split <;> omega
theorem min_tells {l : List Int} (h1 : 1 ≤ l.length) (hl : l.length ≤ 100) {lo : Nat} (hlo : isLo l l.length lo) {k : Nat} (hk : l.length < k) : slices_Min_int64_int64.f k l = some (rd l (lo : Int)) := by
  unfold slices_Min_int64_int64.f
  rw [if_neg (by omega), if_pos (by omega)]
  exact min_loop l hl hlo (l.length - 1) k 1 _ (by omega) ⟨0, by omega, rfl⟩ (fun j hj => by obtain rfl : j = 0 := by omega
                                                                                             exact Int.le_refl _) (by omega)
theorem max_tells {l : List Int} (h1 : 1 ≤ l.length) (hl : l.length ≤ 100) {hi : Nat} (hhi : isHi l l.length hi) {k : Nat} (hk : l.length < k) : slices_Max_int64_int64.f k l = some (rd l (hi : Int)) := by
  unfold slices_Max_int64_int64.f
  rw [if_neg (by omega), if_pos (by omega)]
  exact max_loop l hl hhi (l.length - 1) k 1 _ (by omega) ⟨0, by omega, rfl⟩ (fun j hj => by obtain rfl : j = 0 := by omega
                                                                                             exact Int.le_refl _) (by omega)
theorem index_loop (l : List Int) (hl : l.length ≤ 100) {v : Int} {p : Nat} (hp : p < l.length) (hv : rd l (p : Int) = v) (hn : ∀ j : Nat, j < p → rd l (j : Int) ≠ v) (d : Nat) : ∀ (k i : Nat), i + d = p → d < k → slices_Index_int64_int64.l0 k l v l.length i = some (p : Int) := by
  induction d with
  | zero =>
    intro k i hi hk
    obtain ⟨k, rfl⟩ : ∃ m, k = m + 1 := ⟨k - 1, by omega⟩
    have e : i = p := by omega
    subst e
    rw [slices_Index_int64_int64.l0, if_pos (by omega), if_pos (by omega), if_pos (by omega), if_pos hv.symm]
  | succ d ih =>
    intro k i hi hk
    obtain ⟨k, rfl⟩ : ∃ m, k = m + 1 := ⟨k - 1, by omega⟩
    rw [slices_Index_int64_int64.l0, if_pos (by omega), if_pos (by omega), if_pos (by omega), if_neg (fun e => hn i (by omega) e.symm), wnx (by omega)]
    exact ih k (i + 1) (by omega) (by omega)
theorem min_spec (a b : Int) : spec_l00Min.f a b = some (mn a b) := by
  unfold spec_l00Min.f mn
  split <;> split <;> first | rfl | (congr 1; omega)
theorem settle (m : Nat) : ∀ (out : List Row3) (l : List Int), nz l ≤ m → sm l = 0 → 1 ≤ l.length → l.length ≤ 6 → (∀ j : Nat, j < l.length → -1000000000 ≤ rd l (j : Int) ∧ rd l (j : Int) ≤ 1000000000) → out.length + m ≤ 100 →
    ∃ r : List Row3, r.length ≤ 100 ∧ ∀ k, m * 20 + 20 < k → spec_SettleUp.l0 k out l = some (r, 0) ∧ impl_SettleUp.l0 k l out = some (r, 0) := by
  induction m with
  | zero => ?_
  | succ m ih => ?_
  all_goals
    intro out l hz hs h1 h6 hb ho
    obtain ⟨lo, hi, hlo, hhi, hsc⟩ := scan l (by omega) (l.length - 1) 1 0 0 (by omega) (isLo_one l) (isHi_one l)
    have hlt := hlo.1
    have hht := hhi.1
    obtain ⟨bl0, bl1⟩ := hb lo hlt
    obtain ⟨bh0, bh1⟩ := hb hi hht
    have hlow : ∀ x ∈ l, rd l (lo : Int) ≤ x := fun x hx => by
      obtain ⟨j, hj, e⟩ := mem_rd hx
      rw [← e]; exact (hlo.2 j hj).1
    have hhigh : ∀ x ∈ l, x ≤ rd l (hi : Int) := fun x hx => by
      obtain ⟨j, hj, e⟩ := mem_rd hx
      rw [← e]; exact (hhi.2 j hj).1
    have hspec : ∀ k, spec_SettleUp.l0 (k + l.length + 1) out l = spec_SettleUp.l1 (k + 1) out l lo hi (l.length : Int) := fun k => by
      rw [spec_SettleUp.l0, ← hsc k out]
      congr 1; omega
    have himpl : ∀ k, 6 < k → ∀ {X : Option (List Row3 × Int)}, (if (mn (-(rd l (lo : Int))) (rd l (hi : Int))) = 0 then (some (out, (0 : Int))) else impl_SettleUp.l0 k ((l.set lo (rd l (lo : Int) + mn (-(rd l (lo : Int))) (rd l (hi : Int)))).set hi (rd (l.set lo (rd l (lo : Int) + mn (-(rd l (lo : Int))) (rd l (hi : Int)))) (hi : Int) - mn (-(rd l (lo : Int))) (rd l (hi : Int)))) (out ++ [⟨lo, hi, mn (-(rd l (lo : Int))) (rd l (hi : Int))⟩])) = X → impl_SettleUp.l0 (k + 1) l out = X := fun k hk X hX => by
      rw [impl_SettleUp.l0, min_tells h1 (by omega) hlo (by omega)]
      simp only [Option.bind_some]
      rw [slices_Index_int64_int64.f, show (0 : Int) = ((0 : Nat) : Int) from rfl, index_loop l (by omega) hlt rfl (fun j hj e => by have := (hlo.2 j (by omega)).2 hj; omega) lo k 0 (by omega) (by omega)]
      simp only [Option.bind_some]
      rw [max_tells h1 (by omega) hhi (by omega)]
      simp only [Option.bind_some]
      rw [slices_Index_int64_int64.f, show (0 : Int) = ((0 : Nat) : Int) from rfl, index_loop l (by omega) hht rfl (fun j hj e => by have := (hhi.2 j (by omega)).2 hj; omega) hi k 0 (by omega) (by omega)]
      simp only [Option.bind_some]
      rw [if_pos (by omega), if_pos (by omega), if_pos (by omega), if_pos (by omega), wsm (x := -(rd l (lo : Int))) (by omega) (by omega), if_pos (show out.length < 5864062014805 by omega)]
      rw [← hX]
      have hmn : -1000000000 ≤ mn (-(rd l (lo : Int))) (rd l (hi : Int)) ∧ mn (-(rd l (lo : Int))) (rd l (hi : Int)) ≤ 1000000000 := by unfold mn; split <;> omega
      rw [wsm (x := rd l (lo : Int) + mn (-(rd l (lo : Int))) (rd l (hi : Int))) (by omega) (by omega), Int.toNat_natCast, Int.toNat_natCast]
      have hrd : -3000000000 ≤ rd (l.set lo (rd l (lo : Int) + mn (-(rd l (lo : Int))) (rd l (hi : Int)))) (hi : Int) ∧ rd (l.set lo (rd l (lo : Int) + mn (-(rd l (lo : Int))) (rd l (hi : Int)))) (hi : Int) ≤ 3000000000 := by
        rw [rd_set _ _ _ _ hlt]; split <;> omega
      rw [wsm (x := rd (l.set lo (rd l (lo : Int) + mn (-(rd l (lo : Int))) (rd l (hi : Int)))) (hi : Int) - mn (-(rd l (lo : Int))) (rd l (hi : Int))) (by omega) (by omega)]
      rfl
    by_cases hv : rd l (lo : Int) = 0
    · have hall := (sm_pos l fun x hx => by have := hlow x hx; omega).2 hs
      have hu : rd l (hi : Int) = 0 := hall _ (rd_mem hht)
      refine ⟨out, by omega, fun k hk => ⟨?_, ?_⟩⟩
      · obtain ⟨q, rfl⟩ : ∃ q, k = q + l.length + 1 := ⟨k - l.length - 1, by omega⟩
        rw [hspec q, spec_SettleUp.l1, if_neg (by omega), if_pos (by omega), if_pos (by omega), if_pos hv]
      · obtain ⟨q, rfl⟩ : ∃ q, k = q + 1 := ⟨k - 1, by omega⟩
        exact himpl q (by omega) (by rw [hv, hu]; rfl)
    have hneg : rd l (lo : Int) < 0 := by
      rcases Int.lt_or_le (rd l (lo : Int)) 0 with h | h
      · exact h
      · exact absurd ((sm_pos l fun x hx => by have := hlow x hx; omega).2 hs _ (rd_mem hlt)) hv
    have hpos : 0 < rd l (hi : Int) := by
      rcases Int.lt_or_le 0 (rd l (hi : Int)) with h | h
      · exact h
      · exact absurd ((sm_neg l fun x hx => by have := hhigh x hx; omega).2 hs _ (rd_mem hlt)) hv
    have hne : lo ≠ hi := fun e => by rw [e] at hneg; omega
    obtain ⟨t, ht⟩ : ∃ t, t = mn (-(rd l (lo : Int))) (rd l (hi : Int)) := ⟨_, rfl⟩
    have ht0 : 0 < t ∧ t ≤ -(rd l (lo : Int)) ∧ t ≤ rd l (hi : Int) ∧ (t = -(rd l (lo : Int)) ∨ t = rd l (hi : Int)) := by rw [ht]; unfold mn; split <;> omega
    obtain ⟨t0, t1, t2, t3⟩ := ht0
    have hrd1 : rd (l.set lo (rd l (lo : Int) + t)) (hi : Int) = rd l (hi : Int) := by rw [rd_set _ _ _ _ hlt, if_neg hne]
    have nz1 := nz_set l lo (rd l (lo : Int) + t) hlt
    have nz2 := nz_set (l.set lo (rd l (lo : Int) + t)) hi (rd l (hi : Int) - t) (by simp; exact hht)
    have hnz : nz ((l.set lo (rd l (lo : Int) + t)).set hi (rd l (hi : Int) - t)) + 1 ≤ nz l := by
      rw [hrd1, if_neg (show ¬ rd l (hi : Int) = 0 by omega)] at nz2
      rw [if_neg (show ¬ rd l (lo : Int) = 0 by omega)] at nz1
      rcases t3 with e | e
      · rw [if_pos (show rd l (lo : Int) + t = 0 by omega)] at nz1
        split at nz2 <;> omega
      · rw [if_pos (show rd l (hi : Int) - t = 0 by omega)] at nz2
        split at nz1 <;> omega
  · exact absurd hz (by omega)
  · have s1 := sm_set l lo (rd l (lo : Int) + t) hlt
    have s2 := sm_set (l.set lo (rd l (lo : Int) + t)) hi (rd l (hi : Int) - t) (by simp; exact hht)
    rw [hrd1] at s2
    obtain ⟨r, hr, hk⟩ := ih (out ++ [⟨lo, hi, t⟩]) ((l.set lo (rd l (lo : Int) + t)).set hi (rd l (hi : Int) - t)) (by omega) (by omega) (by simp; omega) (by simp; omega) (fun j hj => by
      have hj' : j < l.length := by simpa using hj
      have := hb j hj'
      rw [rd_set _ _ _ _ (by simp; exact hht), rd_set _ _ _ _ hlt]
      split
      · omega
      · split <;> omega) (by simp; omega)
    refine ⟨r, hr, fun k hkk => ⟨?_, ?_⟩⟩
    · obtain ⟨q, rfl⟩ : ∃ q, k = q + l.length + 1 := ⟨k - l.length - 1, by omega⟩
      rw [hspec q, spec_SettleUp.l1, if_neg (by omega), if_pos (by omega), if_pos (by omega), if_neg hv, if_pos (by omega), if_pos (by omega), wsm (x := -(rd l (lo : Int))) (by omega) (by omega), min_spec, ← ht]
      simp only [Option.bind_some]
      rw [wsm (x := rd l (lo : Int) + t) (by omega) (by omega), Int.toNat_natCast, Int.toNat_natCast, hrd1, wsm (x := rd l (hi : Int) - t) (by omega) (by omega), if_pos (by omega)]
      exact (hk q (by omega)).1
    · obtain ⟨q, rfl⟩ : ∃ q, k = q + 1 := ⟨k - 1, by omega⟩
      refine himpl q (by omega) ?_
      rw [← ht, if_neg (by omega), hrd1]
      exact (hk q (by omega)).2
theorem both (l : List Int) (hl : l.length ≤ 1048576) : ∃ (r : List Row3) (c : Int), r.length ≤ 100 ∧ ∀ k, l.length + 300 < k → spec_SettleUp.f k l = some (r, c) ∧ impl_SettleUp.f k l = some (r, c) := by
  obtain ⟨b, hb, e1, e2⟩ := paid_loops l (by omega) l.length 0 (by omega)
  cases b with
  | false =>
    refine ⟨[], 2, by simp, fun k hk => ⟨?_, ?_⟩⟩
    · unfold spec_SettleUp.f spec_l06Paid.f; rw [show (0 : Int) = ((0 : Nat) : Int) from rfl, e1 k (by omega)]; simp
    · unfold impl_SettleUp.f impl_isPaid.f; rw [show (0 : Int) = ((0 : Nat) : Int) from rfl, e2 k (by omega)]; simp
  | true =>
    obtain ⟨hg, h1, h6⟩ := hb rfl
    have hg' : ∀ j : Nat, (h : j < l.length) → 0 ≤ l[j] ∧ l[j] ≤ 100000 := fun j h => hg j (by omega) h
    have hsm : 0 ≤ sm l := (sm_pos l fun x hx => by
      obtain ⟨j, hj, e⟩ := List.mem_iff_getElem.1 hx
      have := hg' j hj; omega).1
    have hsmb : ∀ (i : Nat), i ≤ l.length → sm (l.take i) ≤ 100000 * i := by
      intro i
      induction i with
      | zero => intro _; simp [sm]
      | succ i ih =>
        intro h
        have := hg' i (by omega)
        have := ih (by omega)
        rw [List.take_succ_eq_append_getElem (by omega), sm_append, sm, sm]; omega
    have hsm1 : sm l ≤ 1000000 := by have := hsmb l.length (Nat.le_refl _); rw [List.take_length] at this; omega
    obtain ⟨f1, f2⟩ := sum_loops l h1 h6 hg' l.length 0 0 (by omega) (by omega) (by simp [sm]) (by omega)
    have hz := nz_le (lessV l (parts (sm l) l.length l.length))
    have hlen : (lessV l (parts (sm l) l.length l.length)).length = l.length := by simp [lessV, parts_length]
    obtain ⟨r, hr, hk⟩ := settle 6 [] (lessV l (parts (sm l) l.length l.length)) (by omega) (by rw [lessV, sm_zip _ _ (by rw [parts_length]), sm_parts_all h1]; omega) (by omega) (by omega) (fun j hj => by
      rw [hlen] at hj
      rw [rd_lessV (parts_length _ _ _) hj, rd_at hj, rd_parts hj]
      have := hg' j hj
      obtain ⟨p0, p1, p2, p3⟩ := part_bounds (n := sm l) (c := (l.length : Int)) (j : Int) hsm hsm1 (by omega)
      omega) (by simp)
    refine ⟨r, 0, by omega, fun k hkk => ⟨?_, ?_⟩⟩
    · unfold spec_SettleUp.f spec_l06Paid.f; rw [show spec_l06Paid.l0 k l 0 = some true from e1 k (by omega)]; simp only [Option.bind_some, if_true]
      unfold spec_l06Balances.f; rw [show spec_l06Balances.l0 k l 0 0 = some _ from f1 k (by omega)]; exact (hk k (by omega)).1
    · unfold impl_SettleUp.f impl_isPaid.f; rw [show impl_isPaid.l0 k l l l.length 0 = some true from e2 k (by omega)]; simp only [Option.bind_some, if_true]
      unfold impl_balances.f; rw [show impl_balances.l0 k l 0 l l.length 0 = some _ from f2 k (by omega)]; exact (hk k (by omega)).2
end Go.Proofs.Ytinfibodemklmaa.G.PS
end
section
namespace Go.Proofs.Ytinfibodemklmaa.G.Pure
open Go.RowKit M Go.Proofs.Ytinfibodemklmaa.PL Go.Proofs.Ytinfibodemklmaa.G.PS Go.Proofs.YtinfibodemklmaaW.PrintWords
set_option linter.unusedSimpArgs false
set_option linter.unusedVariables false
theorem FnExactSettleUp : ∀ (l0 : List Int), l0.length ≤ 9223372036854775807 → (∀ x ∈ l0, ∃ z : Nat → Int, x = z 0 ∧ ∀ j, j < 1 → (Lit.int (([.i64] : List IntKind).getD j .i64) (z j)).wf = true) → ∃ k, laws_FnExactSettleUp.f k l0 = some true := by
  intro l0 _ _
  unfold laws_FnExactSettleUp.f
  by_cases hbig : (l0.length : Int) > 1048576
  · exact ⟨0, by rw [if_pos hbig]⟩
  have hl : l0.length ≤ 1048576 := by omega
  obtain ⟨r, c, hr, hb⟩ := both l0 hl
  have hto : ∀ k, l0.length < k → laws_toInt64S.f k l0 = some l0 := fun k hk => by rw [toInt64_tells hl hk, List.map_id]
  refine ⟨3000000, ?_⟩
  rw [if_neg hbig, hto _ (by omega)]
  simp only [Option.bind_some]
  rw [(hb 3000000 (by omega)).1, (hb 3000000 (by omega)).2]
  simp only [Option.bind_some]
  rw [eqA3_tells (by omega) (by omega)]
  simp only [Option.bind_some, if_true, bne_self_eq_false]
  obtain ⟨K, hK⟩ : ∃ K, K = 2999997 := ⟨_, rfl⟩
  rw [show 3000000 = K + 1 + 1 + 1 by omega]
  simp only [laws_FnExactSettleUp.j0]
  rw [if_neg (by simp), hto _ (by omega)]
  simp only [Option.bind_some]
  rw [eqInt64_tells (by omega) (by omega)]
  simp only [Option.bind_some, if_true]
  rw [markI_tells (by omega) (by omega)]
  simp only [Option.bind_some]
  rw [if_neg (by omega), eqA3_tells (by omega) (by omega)]
  simp only [Option.bind_some, if_true]
  simp only [laws_FnExactSettleUp.j1, bne_self_eq_false]
  rw [if_neg (by simp), markA3_tells (by omega)]
  simp only [Option.bind_some]
  rw [heldA3_tells (by omega)]
  simp only [Option.bind_some]
  rw [if_neg (by omega), if_pos trivial, hto _ (by omega)]
  simp only [Option.bind_some]
  rw [(hb (K + 1) (by omega)).2]
  simp only [Option.bind_some]
  rw [eqA3_tells (by omega) (by omega)]
  simp only [Option.bind_some, if_true, bne_self_eq_false]
  simp only [laws_FnExactSettleUp.j2]
  rw [if_neg (by simp), heldA3_tells (by omega)]
  simp only [Option.bind_some]
  rw [if_neg (by omega), if_pos trivial]
end Go.Proofs.Ytinfibodemklmaa.G.Pure
end
section
namespace Go.Proofs.Ytinfibodemklmaa.RL
open Go.ChangeShapes Go.WideShapes Go.Deep Go.Proofs.YtinfibodemklmaaW.PrintWords
set_option linter.unusedVariables false
def leafAt (P : Program) : Nat → TypeId → Nat → Option IntKind
  | 0, _, _ => none
  | n + 1, t, j => match P.underlying t with
    | some (.int k) => if j = 0 then some k else none
    | some (.struct fs) => ((List.range fs.size).find? fun i => match fs[i]? with
        | some f => decide (f.offset ≤ j ∧ j < f.offset + P.cellsOf f.type)
        | none => false).bind fun i => (fs[i]?).bind fun f => leafAt P n f.type (j - f.offset)
    | some (.array m e) => if j < m * P.cellsOf e then leafAt P n e (j % P.cellsOf e) else none
    | _ => none
section
variable {H : Type} {enc : TypeId × Value → H} {P : Program} {w : World} {base : Nat} {spare : Nat → Bool} {held : Bool}
theorem seg_at {cs : List Value} {o s j : Nat} {u : Value} (h0 : o ≤ j) (h1 : j < o + s) (h : ((cs.drop o).take s)[j - o]? = some u) : cs[j]? = some u := by
  rw [List.getElem?_take, if_pos (by omega), List.getElem?_drop] at h
  rw [← h]
  congr 1
  omega
theorem leaf_trod (n : Nat) : ∀ (t : TypeId) (j : Nat) (k : IntKind) (fuel : Nat) (cs : List Value) (x : DataW H × List MemPlace), leafAt P n t j = some k → DataW.trod enc P w base spare held fuel t cs = some x →
    ∃ z, cs[j]? = some (.int k z) ∧ (Lit.int k z).wf = true := by
  induction n with
  | zero => intro t j k fuel cs x h; simp [leafAt] at h
  | succ n ih =>
    intro t j k fuel cs x h ht
    unfold leafAt at h
    split at h
    · rename_i k' hu
      split at h
      · rename_i hj
        subst hj
        injection h with h
        subst h
        obtain ⟨z, rfl, _, hw⟩ := DataW.trod_int hu ht
        exact ⟨z, rfl, hw⟩
      · cases h
    · rename_i fs hu
      rw [Option.bind_eq_some_iff] at h
      obtain ⟨i, hi, h⟩ := h
      rw [Option.bind_eq_some_iff] at h
      obtain ⟨f, hf, h⟩ := h
      have hp := List.find?_some hi
      rw [hf] at hp
      have hp' : f.offset ≤ j ∧ j < f.offset + P.cellsOf f.type := of_decide_eq_true hp
      obtain ⟨xs, m, rfl, rfl, hlen, hxl, hat⟩ := DataW.trod_struct hu ht
      have h1 := hat i f hf
      have hil : i < xs.length := by rw [hxl]; exact (Array.getElem?_eq_some_iff.1 hf).1
      rw [List.getElem?_eq_getElem hil] at h1
      obtain ⟨z, hz, hw⟩ := ih f.type (j - f.offset) k m _ _ h h1
      exact ⟨z, seg_at hp'.1 hp'.2 hz, hw⟩
    · rename_i m e hu
      split at h
      · rename_i hj
        have hC : 0 < P.cellsOf e := by
          rcases Nat.eq_zero_or_pos (P.cellsOf e) with h0 | h0
          · rw [h0] at hj; omega
          · exact h0
        obtain ⟨xs, m', rfl, rfl, hlen, hxl, hat⟩ := DataW.trod_array hu ht
        have hi : j / P.cellsOf e < m := by rw [Nat.div_lt_iff_lt_mul hC]; exact hj
        have h1 := hat (j / P.cellsOf e) hi
        rw [List.getElem?_eq_getElem (by omega)] at h1
        obtain ⟨z, hz, hw⟩ := ih e (j % P.cellsOf e) k m' _ _ h h1
        have hd := Nat.div_add_mod j (P.cellsOf e)
        have hm := Nat.mod_lt j hC
        rw [Nat.mul_comm] at hd
        refine ⟨z, seg_at (o := j / P.cellsOf e * P.cellsOf e) (s := P.cellsOf e) (by omega) (by omega) ?_, hw⟩
        rw [← hz]
        congr 1
        omega
      · cases h
    · cases h
def leaves (P : Program) (t : TypeId) (C : Nat) : List (Option IntKind) := (List.range C).map (leafAt P 6 t)
theorem leaves_at {t : TypeId} {C : Nat} {ks : List IntKind} (h : leaves P t C = ks.map some) {j : Nat} (hj : j < C) : leafAt P 6 t j = some (ks.getD j .i64) := by
  have hl : ks.length = C := by have := congrArg List.length h; simpa [leaves] using this.symm
  have h1 := congrArg (fun l => l[j]?) h
  simp only [leaves, List.getElem?_map] at h1
  rw [List.getElem?_eq_getElem (by simpa using hj), List.getElem?_eq_getElem (by omega)] at h1
  simp only [List.getElem_range, Option.map_some, Option.some.injEq] at h1
  rw [h1, List.getD_eq_getElem?_getD, List.getElem?_eq_getElem (by omega)]
  rfl
def cellsL (ks : List IntKind) (C : Nat) (z : Nat → Int) : List Value := (List.range C).map fun j => Value.int (ks.getD j .i64) (z j)
theorem flat_slice {t e : TypeId} {a : Option Addr} {len cap : Nat} {d : DataW H} {p : List MemPlace} (C : Nat) (ks : List IntKind) (ht : P.underlying t = some (.slice e)) (hC : P.cellsOf e = C) (hk : leaves P e C = ks.map some)
    (h : DataW.Trod enc P w base (fun _ => true) held t (.slice a len cap) d p) : len ≤ cap ∧ len ≤ 9223372036854775807 ∧ ∃ z : Nat → Nat → Int, (0 < len → ∃ ad, a = some ad ∧ ∀ i, i < len → ∀ j, j < C → w.cell? (ad.add (i * C + j)) = some (.int (ks.getD j .i64) (z i j))) ∧
      ∀ i, i < len → ∀ j, j < C → (Lit.int (ks.getD j .i64) (z i j)).wf = true := by
  obtain ⟨fuel, hf⟩ := h
  rcases open_slice ht hf with ⟨hcs, _⟩ | ⟨ad, l, c, m, n, D, Pl, hcs, hb, hl, hm, hmm, _, hi⟩
  · simp [Value.cells] at hcs
    obtain ⟨rfl, rfl, rfl⟩ := hcs
    exact ⟨Nat.le_refl _, by omega, fun _ _ => 0, fun h => absurd h (by omega), fun i hi => absurd hi (by omega)⟩
  · simp [Value.cells] at hcs
    obtain ⟨rfl, rfl, rfl⟩ := hcs
    have hmc : m = cap := by simpa using hmm
    have ha : ∀ i j, ∃ z : Int, i < len → j < C → w.cell? (ad.add (i * C + j)) = some (.int (ks.getD j .i64) z) ∧ (Lit.int (ks.getD j .i64) z).wf = true := by
      intro i j
      by_cases hij : i < len ∧ j < C
      · obtain ⟨cs', hc, htr⟩ := hi i (by omega)
        rw [hC] at hc
        obtain ⟨z, h1, h2⟩ := leaf_trod 6 e j _ n _ _ (leaves_at hk hij.2) htr
        obtain ⟨_, hcl, hat⟩ := World.cells?_some hc
        have h3 := hat j hij.2
        rw [Go.Deep.add_add, h1] at h3
        exact ⟨z, fun _ _ => ⟨h3, h2⟩⟩
      · exact ⟨0, fun h1 h2 => absurd ⟨h1, h2⟩ hij⟩
    obtain ⟨z, hz⟩ : ∃ z : Nat → Nat → Int, ∀ i j, i < len → j < C → w.cell? (ad.add (i * C + j)) = some (.int (ks.getD j .i64) (z i j)) ∧ (Lit.int (ks.getD j .i64) (z i j)).wf = true := ⟨fun i j => (ha i j).choose, fun i j => (ha i j).choose_spec⟩
    exact ⟨hl, by unfold maxLen at hm; omega, z, fun _ => ⟨ad, rfl, fun i hi j hj => (hz i j hi hj).1⟩, fun i hi j hj => (hz i j hi hj).2⟩
theorem slice_C {t e : TypeId} {a : Option Addr} {len cap : Nat} {d : DataW H} {p : List MemPlace} {α : Type} (kd : Kd α) (mk : (Nat → Int) → α) (C : Nat) (ks : List IntKind) (hsz : kd.sz = C) (hK : ∀ z, kd.K w (mk z) (cellsL ks C z)) (ht : P.underlying t = some (.slice e)) (hC : P.cellsOf e = C) (hk : leaves P e C = ks.map some)
    (h : DataW.Trod enc P w base (fun _ => true) held t (.slice a len cap) d p) : ∃ l : List α, len = l.length ∧ kd.C w a l.length l ∧ l.length ≤ cap ∧ l.length ≤ 9223372036854775807 ∧ ∀ x ∈ l, ∃ z : Nat → Int, x = mk z ∧ ∀ j, j < C → (Lit.int (ks.getD j .i64) (z j)).wf = true := by
  obtain ⟨hl, hm, z, hc, hw⟩ := flat_slice C ks ht hC hk h
  have hlen : ((List.range len).map fun i => mk (z i)).length = len := by simp
  refine ⟨(List.range len).map fun i => mk (z i), hlen.symm, ?_, by omega, by omega, ?_⟩
  · rw [hlen]
    refine ⟨hlen, hm, fun h0 => ?_⟩
    obtain ⟨ad, rfl, hcell⟩ := hc h0
    refine ⟨ad, rfl, fun i x hx => ?_⟩
    have hi : i < len := by
      have := (List.getElem?_eq_some_iff.1 hx).1
      omega
    rw [List.getElem?_map, List.getElem?_eq_getElem (by simpa using hi)] at hx
    simp only [List.getElem_range, Option.map_some, Option.some.injEq] at hx
    subst hx
    refine ⟨cellsL ks C (z i), by rw [hsz]; simp [cellsL], hK (z i), fun j u hu => ?_⟩
    have hj : j < C := by
      have := (List.getElem?_eq_some_iff.1 hu).1
      simpa [cellsL] using this
    rw [cellsL, List.getElem?_map, List.getElem?_eq_getElem (by simpa using hj)] at hu
    simp only [List.getElem_range, Option.map_some, Option.some.injEq] at hu
    rw [hsz, ← hu]
    exact hcell i hi j hj
  · intro x hx
    rw [List.mem_map] at hx
    obtain ⟨i, hi, rfl⟩ := hx
    exact ⟨z i, rfl, fun j hj => hw i (by simpa using hi) j hj⟩
end
end Go.Proofs.Ytinfibodemklmaa.RL
end
namespace Go.Proofs.Ytinfibodemklmaa.rowFnExactSettleUp
open Go.ChangeShapes Go.WideShapes Go.ChangeAt Go.RowKit G Go.Proofs.YtinfibodemklmaaW.PrintWords
open Go.ChangeMaps (open_string shut_string)
set_option linter.unusedVariables false
theorem own : ownKnob Try.prog.godebug = none := by kernel_rfl
theorem laidOut : laidOutB Try.prog = true := by kernel_rfl
set_option maxRecDepth 100000 in
theorem lifted (os : Os) (started : os.Started) (H : Type) (enc : TypeId × Value → H) :
    ReturnsInHanded {} Try.checked os 3 .any (Rows.fnExactSettleUpSpec.pre6 enc Try.prog Try.f3 Rows.fnExactSettleUpRow.domain false) (Rows.fnExactSettleUpSpec.post enc Try.prog Try.f3 false true false false) := by
  refine returnsInHanded_of_change_sized (C := Try.checked) own started (by kernel_rfl) Try.func3
    (ChangeSpec.witness6 (enc := enc) (C := Try.checked) false ⟨#[], #[.slice none 0 0], []⟩ 8 (by kernel_rfl) (by kernel_rfl) (by kernel_rfl) (by kernel_rfl)) ?_
  intro W base args ds gs before hval0 hW hcnd hsz0 _
  have hsz : (DataW.weightsEach Try.prog (Try.f3.params.toList ++ Rows.fnExactSettleUpSpec.plain.varTypes Try.prog) (ds ++ gs)).all (· ≤ reachBytes) = true := hsz0
  have hval : ∀ (j : Nat) t v, Try.f3.params[j]? = some t → args[j]? = some v → Value.okWide Try.prog W .any base t v := hval0
  have hW' := hW
  obtain ⟨p, q, hA0, hV, rfl, hfz, hnd⟩ := hW
  have hA : DataW.TrodAll enc Try.prog W 0 (fun _ => true) true Try.f3.params.toList args.toList ds p := hA0
  rw [Try.params3] at hA hval hsz
  obtain ⟨v0, vs0, d0, ds0, p0, q0, hargs, rfl, rfl, h0, r0⟩ := trodAll_cons hA
  obtain ⟨rfl, rfl, rfl⟩ := trodAll_nil r0
  obtain rfl : args = #[v0] := by cases args; simp_all
  obtain ⟨rfl, rfl⟩ := trodVars_none hV
  have k0_ := h0
  have lt0 : ∀ x ∈ p0, x.block < W.heap.size := by obtain ⟨m, hm⟩ := k0_; exact DataW.trod_lt m _ _ _ hm
  obtain ⟨A0, len0, c0, rfl⟩ := okWide_slice Try.underlying22 (hval 0 22 v0 rfl rfl)
  obtain ⟨l0, rfl, C0, g0, m0, y0⟩ := RL.slice_C (Kd.int .i64) (fun z => z 0) 1 [.i64] rfl (fun z => rfl) Try.underlying22 (by kernel_rfl) (by kernel_rfl) h0
  clear hA0 hval0 hsz0 hsz
  obtain ⟨k, hp⟩ := Pure.FnExactSettleUp l0 m0 y0
  refine (laws_FnExactSettleUp.calls k A0 c0 l0 true W rfl C0 g0 hp).mono fun e W' ⟨he, bel⟩ => ?_
  subst he
  exact ⟨_, rfl, _, _, _, [], _, [], hW', trodAll_mk1 (shut_bool Try.underlying4 _), (trodAll_cons_mk (Below.trod laidOut (by kernel_rfl) (of_decide_eq_true (by kernel_rfl)) k0_ bel lt0) trodAll_mk0), rfl, bel.frame _, fun h => by cases h⟩
set_option maxHeartbeats 8000000 in
theorem closed : joinedFacts Try.pinned.checked.prog 3 Try.f3 Rows.fnExactSettleUpSpec Rows.fnExactSettleUpRow = true := by
  kernel_rfl
theorem named : Try.pinned.checked.prog.funcNamed Rows.fnExactSettleUpRow.func = some 3 := by kernel_rfl
theorem inst : Try.f3.isInstance Try.pinned.checked.prog Rows.fnExactSettleUpRow.origin Rows.fnExactSettleUpRow.targs := of_decide_eq_true (by kernel_rfl)
theorem wrapper : Try.f3.isWrapper Try.pinned.checked.prog Rows.fnExactSettleUpRow.wrapper Rows.fnExactSettleUpRow.mainSum := by unfold Func.isWrapper; first | (rw [if_pos (by decide +kernel)]; kernel_rfl) | (rw [if_neg (by decide +kernel)]; exact ⟨rfl, rfl⟩)
theorem over : Rows.fnExactSettleUpRow.holds Try.pinned (OpenSpec.ofChange Rows.fnExactSettleUpSpec) :=
  OpenClaim.holds_of_wide 3 Try.f3 rfl rfl rfl rfl rfl rfl rfl ⟨rfl, rfl, rfl, rfl, rfl⟩ rfl rfl rfl rfl rfl named Try.func3 closed inst wrapper
    (fun os started H enc _ => lifted os started H enc)
theorem proved : Rows.FnExactSettleUpSaid := over
#print axioms proved
end Go.Proofs.Ytinfibodemklmaa.rowFnExactSettleUp
namespace Go.Proofs.Ytinfibodemklmaa
theorem fnExactSettleUp_holds : Rows.FnExactSettleUpSaid := rowFnExactSettleUp.proved
end Go.Proofs.Ytinfibodemklmaa
