/- Balances of the program and of the reference answer alike, in new memory: the plain statement behind the printed walk. For all lists of up to 1048576 numbers (longer ones are passed by). -/
import Derived.Test.YtnpaoeemgglaaaaPFnExactBalancesx3
namespace Go.Proofs.Ytnpaoeemgglaaaa.PureBalances
open Go.RowKit Go.Proofs.Ytnpaoeemgglaaaa.PFnExactBalances Go.Proofs.YtnpaoeemgglaaaaW.PrintWords Go.Proofs.YtnpaoeemgglaaaaW.PrintLast

set_option linter.unusedVariables false
set_option linter.unusedSimpArgs false
theorem wrap_small {x : Int} (h0 : -1000000000000 ≤ x) (h1 : x ≤ 1000000000000) : wrap64 x = x := by
  unfold wrap64; omega
theorem wrap_next {i : Nat} (h : i ≤ 10000000) : wrap64 ((i : Int) + 1) = ((i + 1 : Nat) : Int) := by
  rw [wrap_small (by omega) (by omega)]; omega
theorem rd_at {l : List Int} {i : Nat} (h : i < l.length) : rd l (i : Int) = l[i] := by simp [rd, h]

def part (n c i : Int) : Int := n / c + if i < n % c then 1 else 0
def parts (n c : Int) (m : Nat) : List Int := (List.range m).map fun (i : Nat) => part n c (i : Int)
theorem parts_succ (n c : Int) (m : Nat) : parts n c (m + 1) = parts n c m ++ [part n c m] := by
  simp [parts, List.range_succ]
theorem parts_length (n c : Int) (m : Nat) : (parts n c m).length = m := by simp [parts]
theorem part_bounds {n c : Int} (i : Int) (h0 : 0 ≤ n) (h1 : n ≤ 1000000) (hc : 1 ≤ c) : 0 ≤ n / c ∧ n / c ≤ 1000000 ∧ 0 ≤ part n c i ∧ part n c i ≤ n / c + 1 := by
  have a : 0 ≤ n / c := Int.ediv_nonneg h0 (by omega)
  have b : n / c ≤ n := Int.ediv_le_self _ h0
  unfold part
  split <;> omega

theorem spec_share_loop (n c : Int) (h0 : 0 ≤ n) (h1 : n ≤ 1000000) (hc : 1 ≤ c) (hc6 : c ≤ 6) (d : Nat) :
    ∀ (k i : Nat), (i : Int) + d = c → d < k → spec_l06Share.l0 k n c (parts n c i) i = some (parts n c c.toNat) := by
  induction d with
  | zero =>
    intro k i hi hk
    obtain ⟨k, rfl⟩ : ∃ m, k = m + 1 := ⟨k - 1, by omega⟩
    have e : c.toNat = i := by omega
    simp only [spec_l06Share.l0]; rw [if_neg (by omega), e]
  | succ d ih =>
    intro k i hi hk
    obtain ⟨k, rfl⟩ : ∃ m, k = m + 1 := ⟨k - 1, by omega⟩
    obtain ⟨b1, b2, b3, b4⟩ := part_bounds (n := n) (c := c) i h0 h1 hc
    have hw : wrap64 ((i : Int) + 1) = ((i + 1 : Nat) : Int) := wrap_next (by omega)
    have hl : (parts n c i).length < 17592186044416 := by rw [parts_length]; omega
    simp only [spec_l06Share.l0]
    rw [if_pos (by omega), if_neg (by omega), Int.tmod_eq_emod_of_nonneg h0, Int.tdiv_eq_ediv_of_nonneg h0, if_pos hl, if_pos hl, hw, wrap_small (x := n / c) (by omega) (by omega), wrap_small (by omega) (by omega)]
    have hp : part n c i = n / c + if (i : Int) < n % c then 1 else 0 := rfl
    by_cases hlt : (i : Int) < n % c
    · rw [if_pos hlt] at hp ⊢
      rw [← hp, ← parts_succ]
      exact ih k (i + 1) (by omega) (by omega)
    · rw [if_neg hlt] at hp ⊢
      rw [Int.add_zero] at hp
      rw [← hp, ← parts_succ]
      exact ih k (i + 1) (by omega) (by omega)
theorem spec_share_tells {n c : Int} (h0 : 0 ≤ n) (h1 : n ≤ 1000000) (hc : 1 ≤ c) (hc6 : c ≤ 6) {k : Nat} (hk : 6 < k) : spec_l06Share.f k n c = some (parts n c c.toNat) :=
  spec_share_loop n c h0 h1 hc hc6 c.toNat k 0 (by omega) (by omega)

theorem impl_share_loop (n c : Int) (h0 : 0 ≤ n) (h1 : n ≤ 1000000) (hc : 1 ≤ c) (hc6 : c ≤ 6) (d : Nat) :
    ∀ (k i : Nat), (i : Int) + d = c → d < k → impl_share.l0 k n c (parts n c i) c i = some (parts n c c.toNat) := by
  induction d with
  | zero =>
    intro k i hi hk
    obtain ⟨k, rfl⟩ : ∃ m, k = m + 1 := ⟨k - 1, by omega⟩
    have e : c.toNat = i := by omega
    simp only [impl_share.l0]; rw [if_neg (by omega), e]
  | succ d ih =>
    intro k i hi hk
    obtain ⟨k, rfl⟩ : ∃ m, k = m + 1 := ⟨k - 1, by omega⟩
    obtain ⟨b1, b2, b3, b4⟩ := part_bounds (n := n) (c := c) i h0 h1 hc
    have hw : wrap64 ((i : Int) + 1) = ((i + 1 : Nat) : Int) := wrap_next (by omega)
    have hl : (parts n c i).length < 17592186044416 := by rw [parts_length]; omega
    simp only [impl_share.l0]
    rw [if_pos (by omega), if_neg (by omega), Int.tmod_eq_emod_of_nonneg h0, Int.tdiv_eq_ediv_of_nonneg h0, if_pos hl, if_pos hl, hw, wrap_small (x := n / c) (by omega) (by omega), wrap_small (by omega) (by omega)]
    have hp : part n c i = n / c + if (i : Int) < n % c then 1 else 0 := rfl
    by_cases hlt : (i : Int) < n % c
    · rw [if_pos hlt] at hp ⊢
      rw [← hp, ← parts_succ]
      exact ih k (i + 1) (by omega) (by omega)
    · rw [if_neg hlt] at hp ⊢
      rw [Int.add_zero] at hp
      rw [← hp, ← parts_succ]
      exact ih k (i + 1) (by omega) (by omega)
theorem impl_share_tells {n c : Int} (h0 : 0 ≤ n) (h1 : n ≤ 1000000) (hc : 1 ≤ c) (hc6 : c ≤ 6) {k : Nat} (hk : 6 < k) : impl_share.f k n c = some (parts n c c.toNat) :=
  impl_share_loop n c h0 h1 hc hc6 c.toNat k 0 (by omega) (by omega)

theorem eq_loop (l : List Int) (hl : l.length ≤ 10000000) (d : Nat) : ∀ (k i : Nat), i + d = l.length → d < k → laws_eqInt64S.l0 k l l i = some true := by
  induction d with
  | zero =>
    intro k i hi hk
    obtain ⟨k, rfl⟩ : ∃ m, k = m + 1 := ⟨k - 1, by omega⟩
    simp only [laws_eqInt64S.l0]; rw [if_neg (by omega)]
  | succ d ih =>
    intro k i hi hk
    obtain ⟨k, rfl⟩ : ∃ m, k = m + 1 := ⟨k - 1, by omega⟩
    simp only [laws_eqInt64S.l0]; rw [if_pos (by omega), if_pos (by omega), if_pos (by omega), if_pos trivial, wrap_next (by omega)]
    exact ih k (i + 1) (by omega) (by omega)
theorem eq_tells {l : List Int} (hl : l.length ≤ 10000000) {k : Nat} (hk : l.length < k) : laws_eqInt64S.f k l l = some true := by
  unfold laws_eqInt64S.f; rw [if_pos rfl]; exact eq_loop l hl l.length k 0 (by omega) hk
def ups (m : Nat) : List Int := (List.range m).map fun (i : Nat) => 1 + (i : Int)
theorem ups_succ (m : Nat) : ups (m + 1) = ups m ++ [1 + (m : Int)] := by simp [ups, List.range_succ]
theorem ups_length (m : Nat) : (ups m).length = m := by simp [ups]
theorem mark_loop (l : List Int) (hl : l.length ≤ 10000000) (d : Nat) : ∀ (k i : Nat), i + d = l.length → d < k → laws_markInt64S.l0 k (ups i ++ l.drop i) (1 + i) i = some (1 + (l.length : Int), ups l.length) := by
  induction d with
  | zero =>
    intro k i hi hk
    obtain ⟨k, rfl⟩ : ∃ m, k = m + 1 := ⟨k - 1, by omega⟩
    have e : i = l.length := by omega
    subst e
    simp only [laws_markInt64S.l0]; rw [if_neg (by simp [ups_length])]; simp
  | succ d ih =>
    intro k i hi hk
    obtain ⟨k, rfl⟩ : ∃ m, k = m + 1 := ⟨k - 1, by omega⟩
    have hlen : (ups i ++ l.drop i).length = l.length := by simp [ups_length]; omega
    have hset : (ups i ++ l.drop i).set ((i : Int)).toNat (1 + i) = ups (i + 1) ++ l.drop (i + 1) := by
      rw [Int.toNat_natCast, List.set_append_right _ _ (by rw [ups_length]; omega), ups_length, Nat.sub_self, List.drop_eq_getElem_cons (by omega : i < l.length), List.set_cons_zero, ups_succ, List.append_assoc]
      rfl
    simp only [laws_markInt64S.l0]; rw [hlen, if_pos (by omega), if_pos (by omega), hset, wrap_next (by omega), wrap_small (by omega) (by omega)]
    have := ih k (i + 1) (by omega) (by omega)
    rw [show (1 : Int) + i + 1 = 1 + ((i + 1 : Nat) : Int) by omega]
    exact this
theorem mark_tells {l : List Int} (hl : l.length ≤ 10000000) {k : Nat} (hk : l.length < k) : laws_markInt64S.f k l 1 = some (1 + (l.length : Int), ups l.length) := by
  have := mark_loop l hl l.length k 0 (by omega) hk
  simpa [ups, laws_markInt64S.f] using this
theorem held_loop (m : Nat) (hl : m ≤ 10000000) (d : Nat) : ∀ (k i : Nat), i + d = m → d < k → laws_heldInt64S.l0 k (ups m) (1 + i) i = some (1 + (m : Int)) := by
  induction d with
  | zero =>
    intro k i hi hk
    obtain ⟨k, rfl⟩ : ∃ m, k = m + 1 := ⟨k - 1, by omega⟩
    simp only [laws_heldInt64S.l0]; rw [if_neg (by rw [ups_length]; omega)]; simp; omega
  | succ d ih =>
    intro k i hi hk
    obtain ⟨k, rfl⟩ : ∃ m, k = m + 1 := ⟨k - 1, by omega⟩
    have hr : rd (ups m) (i : Int) = 1 + i := by rw [rd_at (by rw [ups_length]; omega)]; simp [ups]
    simp only [laws_heldInt64S.l0]; rw [if_pos (by rw [ups_length]; omega), if_pos (by omega), hr, if_pos rfl, wrap_next (by omega), wrap_small (by omega) (by omega)]
    have := ih k (i + 1) (by omega) (by omega)
    rw [show (1 : Int) + i + 1 = 1 + ((i + 1 : Nat) : Int) by omega]
    exact this
theorem held_tells {m : Nat} (hl : m ≤ 10000000) {k : Nat} (hk : m < k) : laws_heldInt64S.f k (ups m) 1 = some (1 + (m : Int)) := by
  have := held_loop m hl m k 0 (by omega) hk
  simpa [laws_heldInt64S.f] using this

theorem to_loop (l : List Int) (hl : l.length ≤ 10000000) (d : Nat) : ∀ (k i : Nat) (o : List Int), o.length = l.length → o.take i = l.take i → i + d = l.length → d < k → laws_toInt64S.l0 k l o i = some l := by
  induction d with
  | zero =>
    intro k i o ho he hi hk
    obtain ⟨k, rfl⟩ : ∃ m, k = m + 1 := ⟨k - 1, by omega⟩
    rw [List.take_of_length_le (by omega), List.take_of_length_le (by omega)] at he
    simp only [laws_toInt64S.l0]; rw [if_neg (by omega), he]
  | succ d ih =>
    intro k i o ho he hi hk
    obtain ⟨k, rfl⟩ : ∃ m, k = m + 1 := ⟨k - 1, by omega⟩
    simp only [laws_toInt64S.l0]; rw [if_pos (by omega), if_pos (by omega), if_pos (by omega), wrap_next (by omega), rd_at (by omega)]
    refine ih k (i + 1) _ (by simp [ho]) ?_ (by omega) (by omega)
    rw [Int.toNat_natCast]
    have e1 : (o.set i l[i]).take (i + 1) = o.take i ++ [l[i]] := by
      rw [List.take_add_one, List.take_set_of_le (Nat.le_refl _), List.getElem?_set_self (by omega)]; rfl
    rw [e1, he, List.take_add_one, List.getElem?_eq_getElem (by omega)]; rfl
theorem to_tells {l : List Int} (hl : l.length ≤ 1048576) {k : Nat} (hk : l.length < k) : laws_toInt64S.f k l = some l := by
  unfold laws_toInt64S.f
  rw [if_pos (by omega), if_pos (by omega)]
  exact to_loop l (by omega) l.length k 0 _ (by simp) (by simp) (by omega) hk
theorem paid_loops (l : List Int) (hl : l.length ≤ 10000000) (d : Nat) : ∀ (i : Nat), i + d = l.length →
    ∃ b : Bool, (b = true → (∀ j : Nat, i ≤ j → (h : j < l.length) → 0 ≤ l[j] ∧ l[j] ≤ 100000) ∧ 1 ≤ l.length ∧ l.length ≤ 6) ∧
      (∀ k, d < k → spec_l06Paid.l0 k l i = some b) ∧ (∀ k, d < k → impl_isPaid.l0 k l l l.length i = some b) := by
  induction d with
  | zero =>
    intro i hi
    refine ⟨decide (1 ≤ l.length ∧ l.length ≤ 6), fun h => ⟨fun j h1 h2 => by omega, of_decide_eq_true h⟩, fun k hk => ?_, fun k hk => ?_⟩ <;> obtain ⟨k, rfl⟩ : ∃ m, k = m + 1 := ⟨k - 1, by omega⟩
    · simp only [spec_l06Paid.l0, spec_l06Crew.f, spec_l00In.f]; rw [if_neg (by omega)]
      by_cases h1 : (l.length : Int) ≥ 1
      · rw [if_pos h1]; simp only [Option.bind_some, Option.some.injEq, decide_eq_decide]; omega
      · rw [if_neg h1]; simp; omega
    · simp only [impl_isPaid.l0, impl_isCrew.f]; rw [if_neg (by omega)]
      by_cases h1 : (l.length : Int) ≥ 1
      · rw [if_pos h1]; simp only [Option.bind_some, Option.some.injEq, decide_eq_decide]; omega
      · rw [if_neg h1]; simp; omega
  | succ d ih =>
    intro i hi
    have hlt : i < l.length := by omega
    by_cases hg : 0 ≤ l[i] ∧ l[i] ≤ 100000
    · obtain ⟨b, hb, e1, e2⟩ := ih (i + 1) (by omega)
      refine ⟨b, fun h => ⟨fun j h1 h2 => ?_, (hb h).2⟩, fun k hk => ?_, fun k hk => ?_⟩
      · by_cases e : j = i
        · subst e; exact hg
        · exact (hb h).1 j (by omega) h2
      all_goals obtain ⟨k, rfl⟩ : ∃ m, k = m + 1 := ⟨k - 1, by omega⟩
      · simp only [spec_l06Paid.l0, spec_l00In.f]; rw [if_pos (by omega), if_pos (by omega), rd_at hlt, if_pos hg.1]
        simp only [Option.bind_some, hg.2, decide_true, if_true]
        rw [wrap_next (by omega)]; exact e1 k (by omega)
      · simp only [impl_isPaid.l0]; rw [if_pos (by omega), if_pos (by omega), if_pos (by omega), rd_at hlt, if_neg (by omega), if_neg (by omega), wrap_next (by omega)]; exact e2 k (by omega)
    · refine ⟨false, fun h => by simp at h, fun k hk => ?_, fun k hk => ?_⟩ <;> obtain ⟨k, rfl⟩ : ∃ m, k = m + 1 := ⟨k - 1, by omega⟩
      · simp only [spec_l06Paid.l0, spec_l00In.f]; rw [if_pos (by omega), if_pos (by omega), rd_at hlt]
        by_cases h0 : l[i] ≥ 0
        · rw [if_pos h0]; have : ¬ l[i] ≤ 100000 := fun h => hg ⟨h0, h⟩
          simp [this]
        · rw [if_neg h0]; simp
      · simp only [impl_isPaid.l0]; rw [if_pos (by omega), if_pos (by omega), if_pos (by omega), rd_at hlt]
        by_cases h0 : l[i] < 0
        · rw [if_pos h0]
        · rw [if_neg h0, if_pos (by omega)]
theorem less_loops (l : List Int) (hl : l.length ≤ 10000000) (d : Nat) : ∀ (i : Nat) (o : List Int), o.length = l.length → i + d = l.length →
    ∃ r : List Int, r.length = l.length ∧ (∀ k, d < k → spec_l06Balances.l1 k l o i = some r) ∧ (∀ k, d < k → impl_balances.l1 k o l l.length i = some r) := by
  induction d with
  | zero =>
    intro i o ho hi
    refine ⟨o, ho, fun k hk => ?_, fun k hk => ?_⟩ <;> obtain ⟨k, rfl⟩ : ∃ m, k = m + 1 := ⟨k - 1, by omega⟩
    · simp only [spec_l06Balances.l1]; rw [if_neg (by omega)]
    · simp only [impl_balances.l1]; rw [if_neg (by omega)]
  | succ d ih =>
    intro i o ho hi
    obtain ⟨r, hr, e1, e2⟩ := ih (i + 1) (o.set ((i : Int)).toNat (wrap64 (rd l i - rd o i))) (by simp [ho]) (by omega)
    refine ⟨r, hr, fun k hk => ?_, fun k hk => ?_⟩ <;> obtain ⟨k, rfl⟩ : ∃ m, k = m + 1 := ⟨k - 1, by omega⟩
    · simp only [spec_l06Balances.l1]; rw [if_pos (by omega), if_pos (by omega), if_pos (by omega), wrap_next (by omega)]; exact e1 k (by omega)
    · simp only [impl_balances.l1]; rw [if_pos (by omega), if_pos (by omega), if_pos (by omega), if_pos (by omega), wrap_next (by omega)]; exact e2 k (by omega)
theorem sum_loops (l : List Int) (h1 : 1 ≤ l.length) (h6 : l.length ≤ 6) (hb : ∀ j : Nat, (h : j < l.length) → 0 ≤ l[j] ∧ l[j] ≤ 100000) (d : Nat) : ∀ (i : Nat) (s : Int), 0 ≤ s → s ≤ 100000 * i → i + d = l.length →
    ∃ r : List Int, r.length = l.length ∧ (∀ k, d + 10 < k → spec_l06Balances.l0 k l s i = some r) ∧ (∀ k, d + 10 < k → impl_balances.l0 k l s l l.length i = some r) := by
  induction d with
  | zero =>
    intro i s h0 hs hi
    have hc : ((l.length : Int)).toNat = l.length := by omega
    obtain ⟨r, hr, e1, e2⟩ := less_loops l (by omega) l.length 0 (parts s l.length l.length) (parts_length _ _ _) (by omega)
    refine ⟨r, hr, fun k hk => ?_, fun k hk => ?_⟩ <;> obtain ⟨k, rfl⟩ : ∃ m, k = m + 1 := ⟨k - 1, by omega⟩
    · simp only [spec_l06Balances.l0]; rw [if_neg (by omega), spec_share_tells h0 (by omega) (by omega) (by omega) (by omega), hc]; exact e1 k (by omega)
    · simp only [impl_balances.l0]; rw [if_neg (by omega), impl_share_tells h0 (by omega) (by omega) (by omega) (by omega), hc]; exact e2 k (by omega)
  | succ d ih =>
    intro i s h0 hs hi
    have hlt : i < l.length := by omega
    obtain ⟨g0, g1⟩ := hb i hlt
    obtain ⟨r, hr, e1, e2⟩ := ih (i + 1) (s + l[i]) (by omega) (by omega) (by omega)
    refine ⟨r, hr, fun k hk => ?_, fun k hk => ?_⟩ <;> obtain ⟨k, rfl⟩ : ∃ m, k = m + 1 := ⟨k - 1, by omega⟩
    · simp only [spec_l06Balances.l0]; rw [if_pos (by omega), if_pos (by omega), rd_at hlt, wrap_next (by omega), wrap_small (by omega) (by omega)]; exact e1 k (by omega)
    · simp only [impl_balances.l0]; rw [if_pos (by omega), if_pos (by omega), if_pos (by omega), rd_at hlt, wrap_next (by omega), wrap_small (by omega) (by omega)]; exact e2 k (by omega)
theorem both (l : List Int) (hl : l.length ≤ 1048576) : ∃ r c, r.length ≤ 1048576 ∧ ∀ k, l.length + 20 < k → spec_Balances.f k l = some (r, c) ∧ impl_Balances.f k l = some (r, c) := by
  obtain ⟨b, hb, e1, e2⟩ := paid_loops l (by omega) l.length 0 (by omega)
  cases b with
  | false =>
    refine ⟨[], 2, by simp, fun k hk => ⟨?_, ?_⟩⟩
    · unfold spec_Balances.f spec_l06Paid.f; rw [show (0 : Int) = ((0 : Nat) : Int) from rfl, e1 k (by omega)]; simp
    · unfold impl_Balances.f impl_isPaid.f; rw [show (0 : Int) = ((0 : Nat) : Int) from rfl, e2 k (by omega)]; simp
  | true =>
    obtain ⟨hg, h1, h6⟩ := hb rfl
    obtain ⟨r, hr, f1, f2⟩ := sum_loops l h1 h6 (fun j h => hg j (by omega) h) l.length 0 0 (by omega) (by omega) (by omega)
    refine ⟨r, 0, by omega, fun k hk => ⟨?_, ?_⟩⟩
    · unfold spec_Balances.f spec_l06Paid.f; rw [show spec_l06Paid.l0 k l 0 = some true from e1 k (by omega)]; simp only [Option.bind_some, if_true]
      unfold spec_l06Balances.f; rw [show spec_l06Balances.l0 k l 0 0 = some r from f1 k (by omega)]; rfl
    · unfold impl_Balances.f impl_isPaid.f; rw [show impl_isPaid.l0 k l l l.length 0 = some true from e2 k (by omega)]; simp only [Option.bind_some, if_true]
      unfold impl_balances.f; rw [show impl_balances.l0 k l 0 l l.length 0 = some r from f2 k (by omega)]; rfl
theorem told : laws_FnExactBalances.Pure := by
  intro l0 _ _ _
  unfold laws_FnExactBalances.f
  by_cases hbig : (l0.length : Int) > 1048576
  · exact ⟨0, by rw [if_pos hbig]⟩
  have hl : l0.length ≤ 1048576 := by omega
  obtain ⟨r, c, hr, hb⟩ := both l0 hl
  refine ⟨3000000, ?_⟩
  rw [if_neg hbig, to_tells hl (by omega)]
  simp only [Option.bind_some]
  rw [(hb 3000000 (by omega)).1, (hb 3000000 (by omega)).2]
  simp only [Option.bind_some]
  rw [eq_tells (by omega) (by omega)]
  simp only [Option.bind_some, if_true, bne_self_eq_false]
  obtain ⟨K, hK⟩ : ∃ K, K = 2999997 := ⟨_, rfl⟩
  rw [show 3000000 = K + 1 + 1 + 1 by omega]
  simp only [laws_FnExactBalances.j0]
  rw [if_neg (by simp), to_tells hl (by omega)]
  simp only [Option.bind_some]
  rw [eq_tells (by omega) (by omega)]
  simp only [Option.bind_some, if_true]
  rw [mark_tells (by omega) (by omega)]
  simp only [Option.bind_some]
  rw [if_neg (by omega), eq_tells (by omega) (by omega)]
  simp only [Option.bind_some, if_true]
  simp only [laws_FnExactBalances.j1, bne_self_eq_false]
  rw [if_neg (by simp), mark_tells (by omega) (by omega)]
  simp only [Option.bind_some]
  rw [held_tells (by omega) (by omega)]
  simp only [Option.bind_some]
  rw [if_neg (by omega), if_pos trivial, to_tells hl (by omega)]
  simp only [Option.bind_some]
  rw [(hb (K + 1) (by omega)).2]
  simp only [Option.bind_some]
  rw [eq_tells (by omega) (by omega)]
  simp only [Option.bind_some, if_true, bne_self_eq_false]
  simp only [laws_FnExactBalances.j2]
  rw [if_neg (by simp), held_tells (by omega) (by omega)]
  simp only [Option.bind_some]
  rw [if_neg (by omega), if_pos trivial]

end Go.Proofs.Ytnpaoeemgglaaaa.PureBalances
namespace Go.Proofs.Ytnpaoeemgglaaaa.Pure
theorem FnExactBalances : PFnExactBalances.laws_FnExactBalances.Pure := PureBalances.told
end Go.Proofs.Ytnpaoeemgglaaaa.Pure
