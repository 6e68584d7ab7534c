/- ShareNight of the program and of the reference answer alike, in new memory: the plain statement behind the printed walk. For all numbers. -/
import Derived.Test.YtnpaoeemgglaaaaPFnExactShareNightx2
namespace Go.Proofs.Ytnpaoeemgglaaaa.PureShareNight
open Go.RowKit Go.Proofs.Ytnpaoeemgglaaaa.PFnExactShareNight Go.Proofs.YtnpaoeemgglaaaaW.PrintWords Go.Proofs.YtnpaoeemgglaaaaW.PrintLast

set_option linter.unusedVariables false
set_option linter.unusedSimpArgs false
theorem wrap_small {x : Int} (h0 : -1000000000000 ≤ x) (h1 : x ≤ 1000000000000) : wrap64 x = x := by
  unfold wrap64; omega
theorem wrap_next {i : Nat} (h : i ≤ 10000000) : wrap64 ((i : Int) + 1) = ((i + 1 : Nat) : Int) := by
  rw [wrap_small (by omega) (by omega)]; omega
theorem rd_at {l : List Int} {i : Nat} (h : i < l.length) : rd l (i : Int) = l[i] := by simp [rd, h]

def part (n c i : Int) : Int := n / c + if i < n % c then 1 else 0
def parts (n c : Int) (m : Nat) : List Int := (List.range m).map fun (i : Nat) => part n c (i : Int)
theorem parts_succ (n c : Int) (m : Nat) : parts n c (m + 1) = parts n c m ++ [part n c m] := by
  simp [parts, List.range_succ]
theorem parts_length (n c : Int) (m : Nat) : (parts n c m).length = m := by simp [parts]
theorem part_bounds {n c : Int} (i : Int) (h0 : 0 ≤ n) (h1 : n ≤ 1000000) (hc : 1 ≤ c) : 0 ≤ n / c ∧ n / c ≤ 1000000 ∧ 0 ≤ part n c i ∧ part n c i ≤ n / c + 1 := by
  have a : 0 ≤ n / c := Int.ediv_nonneg h0 (by omega)
  have b : n / c ≤ n := Int.ediv_le_self _ h0
  unfold part
  split <;> omega

theorem spec_share_loop (n c : Int) (h0 : 0 ≤ n) (h1 : n ≤ 1000000) (hc : 1 ≤ c) (hc6 : c ≤ 6) (d : Nat) :
    ∀ (k i : Nat), (i : Int) + d = c → d < k → spec_l06Share.l0 k n c (parts n c i) i = some (parts n c c.toNat) := by
  induction d with
  | zero =>
    intro k i hi hk
    obtain ⟨k, rfl⟩ : ∃ m, k = m + 1 := ⟨k - 1, by omega⟩
    have e : c.toNat = i := by omega
    simp only [spec_l06Share.l0]; rw [if_neg (by omega), e]
  | succ d ih =>
    intro k i hi hk
    obtain ⟨k, rfl⟩ : ∃ m, k = m + 1 := ⟨k - 1, by omega⟩
    obtain ⟨b1, b2, b3, b4⟩ := part_bounds (n := n) (c := c) i h0 h1 hc
    have hw : wrap64 ((i : Int) + 1) = ((i + 1 : Nat) : Int) := wrap_next (by omega)
    have hl : (parts n c i).length < 17592186044416 := by rw [parts_length]; omega
    simp only [spec_l06Share.l0]
    rw [if_pos (by omega), if_neg (by omega), Int.tmod_eq_emod_of_nonneg h0, Int.tdiv_eq_ediv_of_nonneg h0, if_pos hl, if_pos hl, hw, wrap_small (x := n / c) (by omega) (by omega), wrap_small (by omega) (by omega)]
    have hp : part n c i = n / c + if (i : Int) < n % c then 1 else 0 := rfl
    by_cases hlt : (i : Int) < n % c
    · rw [if_pos hlt] at hp ⊢
      rw [← hp, ← parts_succ]
      exact ih k (i + 1) (by omega) (by omega)
    · rw [if_neg hlt] at hp ⊢
      rw [Int.add_zero] at hp
      rw [← hp, ← parts_succ]
      exact ih k (i + 1) (by omega) (by omega)
theorem spec_share_tells {n c : Int} (h0 : 0 ≤ n) (h1 : n ≤ 1000000) (hc : 1 ≤ c) (hc6 : c ≤ 6) {k : Nat} (hk : 6 < k) : spec_l06Share.f k n c = some (parts n c c.toNat) :=
  spec_share_loop n c h0 h1 hc hc6 c.toNat k 0 (by omega) (by omega)

theorem impl_share_loop (n c : Int) (h0 : 0 ≤ n) (h1 : n ≤ 1000000) (hc : 1 ≤ c) (hc6 : c ≤ 6) (d : Nat) :
    ∀ (k i : Nat), (i : Int) + d = c → d < k → impl_share.l0 k n c (parts n c i) c i = some (parts n c c.toNat) := by
  induction d with
  | zero =>
    intro k i hi hk
    obtain ⟨k, rfl⟩ : ∃ m, k = m + 1 := ⟨k - 1, by omega⟩
    have e : c.toNat = i := by omega
    simp only [impl_share.l0]; rw [if_neg (by omega), e]
  | succ d ih =>
    intro k i hi hk
    obtain ⟨k, rfl⟩ : ∃ m, k = m + 1 := ⟨k - 1, by omega⟩
    obtain ⟨b1, b2, b3, b4⟩ := part_bounds (n := n) (c := c) i h0 h1 hc
    have hw : wrap64 ((i : Int) + 1) = ((i + 1 : Nat) : Int) := wrap_next (by omega)
    have hl : (parts n c i).length < 17592186044416 := by rw [parts_length]; omega
    simp only [impl_share.l0]
    rw [if_pos (by omega), if_neg (by omega), Int.tmod_eq_emod_of_nonneg h0, Int.tdiv_eq_ediv_of_nonneg h0, if_pos hl, if_pos hl, hw, wrap_small (x := n / c) (by omega) (by omega), wrap_small (by omega) (by omega)]
    have hp : part n c i = n / c + if (i : Int) < n % c then 1 else 0 := rfl
    by_cases hlt : (i : Int) < n % c
    · rw [if_pos hlt] at hp ⊢
      rw [← hp, ← parts_succ]
      exact ih k (i + 1) (by omega) (by omega)
    · rw [if_neg hlt] at hp ⊢
      rw [Int.add_zero] at hp
      rw [← hp, ← parts_succ]
      exact ih k (i + 1) (by omega) (by omega)
theorem impl_share_tells {n c : Int} (h0 : 0 ≤ n) (h1 : n ≤ 1000000) (hc : 1 ≤ c) (hc6 : c ≤ 6) {k : Nat} (hk : 6 < k) : impl_share.f k n c = some (parts n c c.toNat) :=
  impl_share_loop n c h0 h1 hc hc6 c.toNat k 0 (by omega) (by omega)

theorem eq_loop (l : List Int) (hl : l.length ≤ 10000000) (d : Nat) : ∀ (k i : Nat), i + d = l.length → d < k → laws_eqInt64S.l0 k l l i = some true := by
  induction d with
  | zero =>
    intro k i hi hk
    obtain ⟨k, rfl⟩ : ∃ m, k = m + 1 := ⟨k - 1, by omega⟩
    simp only [laws_eqInt64S.l0]; rw [if_neg (by omega)]
  | succ d ih =>
    intro k i hi hk
    obtain ⟨k, rfl⟩ : ∃ m, k = m + 1 := ⟨k - 1, by omega⟩
    simp only [laws_eqInt64S.l0]; rw [if_pos (by omega), if_pos (by omega), if_pos (by omega), if_pos trivial, wrap_next (by omega)]
    exact ih k (i + 1) (by omega) (by omega)
theorem eq_tells {l : List Int} (hl : l.length ≤ 10000000) {k : Nat} (hk : l.length < k) : laws_eqInt64S.f k l l = some true := by
  unfold laws_eqInt64S.f; rw [if_pos rfl]; exact eq_loop l hl l.length k 0 (by omega) hk
def ups (m : Nat) : List Int := (List.range m).map fun (i : Nat) => 1 + (i : Int)
theorem ups_succ (m : Nat) : ups (m + 1) = ups m ++ [1 + (m : Int)] := by simp [ups, List.range_succ]
theorem ups_length (m : Nat) : (ups m).length = m := by simp [ups]
theorem mark_loop (l : List Int) (hl : l.length ≤ 10000000) (d : Nat) : ∀ (k i : Nat), i + d = l.length → d < k → laws_markInt64S.l0 k (ups i ++ l.drop i) (1 + i) i = some (1 + (l.length : Int), ups l.length) := by
  induction d with
  | zero =>
    intro k i hi hk
    obtain ⟨k, rfl⟩ : ∃ m, k = m + 1 := ⟨k - 1, by omega⟩
    have e : i = l.length := by omega
    subst e
    simp only [laws_markInt64S.l0]; rw [if_neg (by simp [ups_length])]; simp
  | succ d ih =>
    intro k i hi hk
    obtain ⟨k, rfl⟩ : ∃ m, k = m + 1 := ⟨k - 1, by omega⟩
    have hlen : (ups i ++ l.drop i).length = l.length := by simp [ups_length]; omega
    have hset : (ups i ++ l.drop i).set ((i : Int)).toNat (1 + i) = ups (i + 1) ++ l.drop (i + 1) := by
      rw [Int.toNat_natCast, List.set_append_right _ _ (by rw [ups_length]; omega), ups_length, Nat.sub_self, List.drop_eq_getElem_cons (by omega : i < l.length), List.set_cons_zero, ups_succ, List.append_assoc]
      rfl
    simp only [laws_markInt64S.l0]; rw [hlen, if_pos (by omega), if_pos (by omega), hset, wrap_next (by omega), wrap_small (by omega) (by omega)]
    have := ih k (i + 1) (by omega) (by omega)
    rw [show (1 : Int) + i + 1 = 1 + ((i + 1 : Nat) : Int) by omega]
    exact this
theorem mark_tells {l : List Int} (hl : l.length ≤ 10000000) {k : Nat} (hk : l.length < k) : laws_markInt64S.f k l 1 = some (1 + (l.length : Int), ups l.length) := by
  have := mark_loop l hl l.length k 0 (by omega) hk
  simpa [ups, laws_markInt64S.f] using this
theorem held_loop (m : Nat) (hl : m ≤ 10000000) (d : Nat) : ∀ (k i : Nat), i + d = m → d < k → laws_heldInt64S.l0 k (ups m) (1 + i) i = some (1 + (m : Int)) := by
  induction d with
  | zero =>
    intro k i hi hk
    obtain ⟨k, rfl⟩ : ∃ m, k = m + 1 := ⟨k - 1, by omega⟩
    simp only [laws_heldInt64S.l0]; rw [if_neg (by rw [ups_length]; omega)]; simp; omega
  | succ d ih =>
    intro k i hi hk
    obtain ⟨k, rfl⟩ : ∃ m, k = m + 1 := ⟨k - 1, by omega⟩
    have hr : rd (ups m) (i : Int) = 1 + i := by rw [rd_at (by rw [ups_length]; omega)]; simp [ups]
    simp only [laws_heldInt64S.l0]; rw [if_pos (by rw [ups_length]; omega), if_pos (by omega), hr, if_pos rfl, wrap_next (by omega), wrap_small (by omega) (by omega)]
    have := ih k (i + 1) (by omega) (by omega)
    rw [show (1 : Int) + i + 1 = 1 + ((i + 1 : Nat) : Int) by omega]
    exact this
theorem held_tells {m : Nat} (hl : m ≤ 10000000) {k : Nat} (hk : m < k) : laws_heldInt64S.f k (ups m) 1 = some (1 + (m : Int)) := by
  have := held_loop m hl m k 0 (by omega) hk
  simpa [laws_heldInt64S.f] using this

theorem spec_bad (k : Nat) (a0 a1 : Int) (h : ¬ (0 ≤ a0 ∧ a0 ≤ 1440 ∧ 1 ≤ a1 ∧ a1 ≤ 6)) : spec_ShareNight.f k a0 a1 = some ([], 2) := by
  unfold spec_ShareNight.f spec_l06Crew.f spec_l00In.f
  by_cases h1 : 0 ≤ a0
  · by_cases h2 : a0 ≤ 1440
    · by_cases h3 : 1 ≤ a1
      · have h4 : ¬ a1 ≤ 6 := fun h4 => h ⟨h1, h2, h3, h4⟩
        simp [h1, h2, h3, h4]
      · simp [h1, h2, h3]
    · simp [h1, h2]
  · simp [h1]
theorem impl_bad (k : Nat) (a0 a1 : Int) (h : ¬ (0 ≤ a0 ∧ a0 ≤ 1440 ∧ 1 ≤ a1 ∧ a1 ≤ 6)) : impl_ShareNight.f k a0 a1 = some ([], 2) := by
  unfold impl_ShareNight.f impl_isCrew.f
  by_cases h1 : a0 < 0
  · simp [h1]
  · by_cases h2 : 1440 < a0
    · simp [h1, h2]
    · by_cases h3 : 1 ≤ a1
      · have h4 : ¬ a1 ≤ 6 := fun h4 => h ⟨by omega, by omega, h3, h4⟩
        simp [h1, h2, h3, h4]
      · simp [h1, h2, h3]
theorem both (a0 a1 : Int) : ∃ l c, l.length ≤ 6 ∧ ∀ k, 6 < k → spec_ShareNight.f k a0 a1 = some (l, c) ∧ impl_ShareNight.f k a0 a1 = some (l, c) := by
  by_cases h : 0 ≤ a0 ∧ a0 ≤ 1440 ∧ 1 ≤ a1 ∧ a1 ≤ 6
  · obtain ⟨h1, h2, h3, h4⟩ := h
    refine ⟨parts a0 a1 a1.toNat, 0, by rw [parts_length]; omega, fun k hk => ⟨?_, ?_⟩⟩
    · unfold spec_ShareNight.f spec_l06Crew.f spec_l00In.f
      simp [h1, h2, h3, h4, spec_share_tells h1 (by omega) h3 h4 hk]
    · unfold impl_ShareNight.f impl_isCrew.f
      simp [show ¬ a0 < 0 by omega, show ¬ 1440 < a0 by omega, h3, h4, impl_share_tells h1 (by omega) h3 h4 hk]
  · exact ⟨[], 2, by simp, fun k _ => ⟨spec_bad k _ _ h, impl_bad k _ _ h⟩⟩
theorem told : laws_FnExactShareNight.Pure := by
  intro a0 a1 _ _
  obtain ⟨l, c, hl, hb⟩ := both a0 a1
  refine ⟨22, ?_⟩
  unfold laws_FnExactShareNight.f
  rw [(hb 22 (by omega)).1, (hb 22 (by omega)).2]
  simp only [Option.bind_some]
  rw [eq_tells (by omega) (by omega)]
  simp only [Option.bind_some, if_true]
  simp only [laws_FnExactShareNight.j0]
  simp only [bne_self_eq_false]
  rw [if_neg (by simp), mark_tells (by omega) (by omega)]
  simp only [Option.bind_some]
  rw [held_tells (by omega) (by omega)]
  simp only [Option.bind_some]
  rw [if_neg (by omega), if_pos trivial, (hb 21 (by omega)).2]
  simp only [Option.bind_some]
  rw [eq_tells (by omega) (by omega)]
  simp only [Option.bind_some, if_true, bne_self_eq_false]
  simp only [laws_FnExactShareNight.j1]
  rw [if_neg (by simp), held_tells (by omega) (by omega)]
  simp only [Option.bind_some]
  rw [if_neg (by omega), if_pos trivial]

end Go.Proofs.Ytnpaoeemgglaaaa.PureShareNight
namespace Go.Proofs.Ytnpaoeemgglaaaa.Pure
theorem FnExactShareNight : PFnExactShareNight.laws_FnExactShareNight.Pure := PureShareNight.told
end Go.Proofs.Ytnpaoeemgglaaaa.Pure
