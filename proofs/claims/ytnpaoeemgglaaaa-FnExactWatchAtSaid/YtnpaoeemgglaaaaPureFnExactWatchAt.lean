/- WatchAt of the program and of the reference answer alike: the plain statement behind the printed walk. For all numbers. -/
import Derived.Test.YtnpaoeemgglaaaaPFnExactWatchAtx1
namespace Go.Proofs.Ytnpaoeemgglaaaa.Pure
open Go.RowKit Go.Proofs.Ytnpaoeemgglaaaa.PFnExactWatchAt Go.Proofs.YtnpaoeemgglaaaaW.PrintWords Go.Proofs.YtnpaoeemgglaaaaW.PrintLast

set_option linter.unusedVariables false
def part (n c i : Int) : Int := n / c + if i < n % c then 1 else 0
def parts (n c : Int) (m : Nat) : List Int := (List.range m).map fun (i : Nat) => part n c (i : Int)

theorem parts_succ (n c : Int) (m : Nat) : parts n c (m + 1) = parts n c m ++ [part n c m] := by
  simp [parts, List.range_succ]
theorem parts_length (n c : Int) (m : Nat) : (parts n c m).length = m := by simp [parts]

theorem wrap_small {x : Int} (h0 : -10000000 ≤ x) (h1 : x ≤ 10000000) : wrap64 x = x := by
  unfold wrap64; omega

theorem part_bounds {n c : Int} (i : Int) (h0 : 0 ≤ n) (h1 : n ≤ 1000000) (hc : 1 ≤ c) : 0 ≤ n / c ∧ n / c ≤ 1000000 ∧ 0 ≤ part n c i ∧ part n c i ≤ n / c + 1 := by
  have a : 0 ≤ n / c := Int.ediv_nonneg h0 (by omega)
  have b : n / c ≤ n := Int.ediv_le_self _ h0
  unfold part
  split <;> omega

theorem spec_share_loop (n c : Int) (h0 : 0 ≤ n) (h1 : n ≤ 1000000) (hc : 1 ≤ c) (hc6 : c ≤ 6) (d : Nat) :
    ∀ (k i : Nat), (i : Int) + d = c → d < k → spec_l06Share.l0 k n c (parts n c i) i = some (parts n c c.toNat) := by
  induction d with
  | zero =>
    intro k i hi hk
    obtain ⟨k, rfl⟩ : ∃ m, k = m + 1 := ⟨k - 1, by omega⟩
    have e : c.toNat = i := by omega
    simp only [spec_l06Share.l0]; rw [if_neg (by omega), e]
  | succ d ih =>
    intro k i hi hk
    obtain ⟨k, rfl⟩ : ∃ m, k = m + 1 := ⟨k - 1, by omega⟩
    obtain ⟨b1, b2, b3, b4⟩ := part_bounds (n := n) (c := c) i h0 h1 hc
    have hw : wrap64 ((i : Int) + 1) = ((i + 1 : Nat) : Int) := by rw [wrap_small (by omega) (by omega)]; omega
    have hl : (parts n c i).length < 17592186044416 := by rw [parts_length]; omega
    simp only [spec_l06Share.l0]
    rw [if_pos (by omega), if_neg (by omega), Int.tmod_eq_emod_of_nonneg h0, Int.tdiv_eq_ediv_of_nonneg h0, if_pos hl, if_pos hl, hw, wrap_small (x := n / c) (by omega) (by omega), wrap_small (by omega) (by omega)]
    have hp : part n c i = n / c + if (i : Int) < n % c then 1 else 0 := rfl
    by_cases hlt : (i : Int) < n % c
    · rw [if_pos hlt] at hp ⊢
      rw [← hp, ← parts_succ]
      exact ih k (i + 1) (by omega) (by omega)
    · rw [if_neg hlt] at hp ⊢
      rw [Int.add_zero] at hp
      rw [← hp, ← parts_succ]
      exact ih k (i + 1) (by omega) (by omega)

theorem impl_share_loop (n c : Int) (h0 : 0 ≤ n) (h1 : n ≤ 1000000) (hc : 1 ≤ c) (hc6 : c ≤ 6) (d : Nat) :
    ∀ (k i : Nat), (i : Int) + d = c → d < k → impl_share.l0 k n c (parts n c i) c i = some (parts n c c.toNat) := by
  induction d with
  | zero =>
    intro k i hi hk
    obtain ⟨k, rfl⟩ : ∃ m, k = m + 1 := ⟨k - 1, by omega⟩
    have e : c.toNat = i := by omega
    simp only [impl_share.l0]; rw [if_neg (by omega), e]
  | succ d ih =>
    intro k i hi hk
    obtain ⟨k, rfl⟩ : ∃ m, k = m + 1 := ⟨k - 1, by omega⟩
    obtain ⟨b1, b2, b3, b4⟩ := part_bounds (n := n) (c := c) i h0 h1 hc
    have hw : wrap64 ((i : Int) + 1) = ((i + 1 : Nat) : Int) := by rw [wrap_small (by omega) (by omega)]; omega
    have hl : (parts n c i).length < 17592186044416 := by rw [parts_length]; omega
    simp only [impl_share.l0]
    rw [if_pos (by omega), if_neg (by omega), Int.tmod_eq_emod_of_nonneg h0, Int.tdiv_eq_ediv_of_nonneg h0, if_pos hl, if_pos hl, hw, wrap_small (x := n / c) (by omega) (by omega), wrap_small (by omega) (by omega)]
    have hp : part n c i = n / c + if (i : Int) < n % c then 1 else 0 := rfl
    by_cases hlt : (i : Int) < n % c
    · rw [if_pos hlt] at hp ⊢
      rw [← hp, ← parts_succ]
      exact ih k (i + 1) (by omega) (by omega)
    · rw [if_neg hlt] at hp ⊢
      rw [Int.add_zero] at hp
      rw [← hp, ← parts_succ]
      exact ih k (i + 1) (by omega) (by omega)

theorem spec_share_tells {n c : Int} (h0 : 0 ≤ n) (h1 : n ≤ 1000000) (hc : 1 ≤ c) (hc6 : c ≤ 6) {k : Nat} (hk : 6 < k) : spec_l06Share.f k n c = some (parts n c c.toNat) :=
  spec_share_loop n c h0 h1 hc hc6 c.toNat k 0 (by omega) (by omega)
theorem impl_share_tells {n c : Int} (h0 : 0 ≤ n) (h1 : n ≤ 1000000) (hc : 1 ≤ c) (hc6 : c ≤ 6) {k : Nat} (hk : 6 < k) : impl_share.f k n c = some (parts n c c.toNat) :=
  impl_share_loop n c h0 h1 hc hc6 c.toNat k 0 (by omega) (by omega)

theorem parts_sum {n c : Int} (h0 : 0 ≤ n) (hc : 1 ≤ c) (hc6 : c ≤ 6) : (parts n c c.toNat).sum = n := by
  rcases (by omega : c = 1 ∨ c = 2 ∨ c = 3 ∨ c = 4 ∨ c = 5 ∨ c = 6) with rfl | rfl | rfl | rfl | rfl | rfl <;>
    simp [parts, part, List.range_succ] <;> (repeat' split) <;> omega

theorem watch_loops (t : List Int) (hl : t.length ≤ 6) (ht : ∀ x ∈ t, 0 ≤ x ∧ x ≤ 2000) (d : Nat) : ∀ (i : Nat) (x : Int), i + d = t.length → 0 ≤ x → x ≤ 2000 → x < (t.drop i).sum →
    ∃ r, (∀ k, d < k → spec_WatchAt.l0 k x t i = some (r, 0)) ∧ (∀ k, d < k → impl_WatchAt.l0 k x t t.length i = some (r, 0)) := by
  induction d with
  | zero =>
    intro i x hi h0 h2 hx
    rw [List.drop_of_length_le (by omega)] at hx
    simp at hx; omega
  | succ d ih =>
    intro i x hi h0 h2 hx
    have hlt : i < t.length := by omega
    rw [List.drop_eq_getElem_cons hlt, List.sum_cons] at hx
    have hr : rd t i = t[i] := by simp [rd, hlt]
    obtain ⟨b0, b1⟩ := ht t[i] (List.getElem_mem hlt)
    have hw : wrap64 ((i : Int) + 1) = ((i + 1 : Nat) : Int) := by rw [wrap_small (by omega) (by omega)]; omega
    by_cases hc : x < t[i]
    · refine ⟨i, fun k hk => ?_, fun k hk => ?_⟩ <;> obtain ⟨k, rfl⟩ : ∃ m, k = m + 1 := ⟨k - 1, by omega⟩
      · simp only [spec_WatchAt.l0]; rw [if_pos (by omega), if_pos (by omega), hr, if_neg (by omega)]
      · simp only [impl_WatchAt.l0]; rw [if_pos (by omega), if_pos (by omega), if_pos (by omega), hr, if_pos hc]
    · obtain ⟨r, e1, e2⟩ := ih (i + 1) (x - t[i]) (by omega) (by omega) (by omega) (by omega)
      refine ⟨r, fun k hk => ?_, fun k hk => ?_⟩ <;> obtain ⟨k, rfl⟩ : ∃ m, k = m + 1 := ⟨k - 1, by omega⟩
      · simp only [spec_WatchAt.l0]; rw [if_pos (by omega), if_pos (by omega), hr, if_pos (by omega), hw, wrap_small (by omega) (by omega)]; exact e1 k (by omega)
      · simp only [impl_WatchAt.l0]; rw [if_pos (by omega), if_pos (by omega), if_pos (by omega), hr, if_neg hc, hw, wrap_small (by omega) (by omega)]; exact e2 k (by omega)

theorem spec_j (k : Nat) (a b c : Int) : spec_WatchAt.j0 (k + 1) a b c true = some (0, 2) := rfl
theorem impl_j (k : Nat) (a b c : Int) : impl_WatchAt.j0 (k + 1) a b c true = some (0, 2) := rfl

theorem spec_bad (k : Nat) (a0 a1 a2 : Int) (h : ¬ (0 ≤ a0 ∧ a0 ≤ 1440 ∧ 1 ≤ a1 ∧ a1 ≤ 6 ∧ 0 ≤ a2 ∧ a2 < a0)) : spec_WatchAt.f (k + 1) a0 a1 a2 = some (0, 2) := by
  unfold spec_WatchAt.f spec_l06Crew.f spec_l00In.f
  by_cases h1 : 0 ≤ a0
  · by_cases h2 : a0 ≤ 1440
    · have hw : wrap64 (a0 - 1) = a0 - 1 := wrap_small (by omega) (by omega)
      by_cases h3 : 1 ≤ a1
      · by_cases h4 : a1 ≤ 6
        · by_cases h5 : 0 ≤ a2
          · have h6 : ¬ a2 ≤ a0 - 1 := fun h6 => h ⟨h1, h2, h3, h4, h5, by omega⟩
            simp [h1, h2, h3, h4, h5, h6, hw, spec_j]
          · simp [h1, h2, h3, h4, h5, spec_j]
        · simp [h1, h2, h3, h4, spec_j]
      · simp [h1, h2, h3, spec_j]
    · simp [h1, h2, spec_j]
  · simp [h1, spec_j]

theorem impl_bad (k : Nat) (a0 a1 a2 : Int) (h : ¬ (0 ≤ a0 ∧ a0 ≤ 1440 ∧ 1 ≤ a1 ∧ a1 ≤ 6 ∧ 0 ≤ a2 ∧ a2 < a0)) : impl_WatchAt.f (k + 1) a0 a1 a2 = some (0, 2) := by
  unfold impl_WatchAt.f impl_isCrew.f
  by_cases h1 : a0 < 0
  · simp [h1, impl_j]
  · by_cases h2 : 1440 < a0
    · simp [h1, h2, impl_j]
    · by_cases h3 : 1 ≤ a1
      · by_cases h4 : a1 ≤ 6
        · by_cases h5 : a2 < 0
          · simp [h1, h2, h3, h4, h5, impl_j]
          · have h6 : a0 ≤ a2 := by
              by_cases h6 : a0 ≤ a2
              · exact h6
              · exact absurd ⟨by omega, by omega, h3, h4, by omega, by omega⟩ h
            simp [h1, h2, h3, h4, h5, h6, impl_j]
        · simp [h1, h2, h3, h4, impl_j]
      · simp [h1, h2, h3, impl_j]

theorem FnExactWatchAt : laws_FnExactWatchAt.Pure := by
  intro a0 a1 a2 _ _ _
  by_cases h : 0 ≤ a0 ∧ a0 ≤ 1440 ∧ 1 ≤ a1 ∧ a1 ≤ 6 ∧ 0 ≤ a2 ∧ a2 < a0
  · obtain ⟨h1, h2, h3, h4, h5, h6⟩ := h
    have hb : ∀ x ∈ parts a0 a1 a1.toNat, 0 ≤ x ∧ x ≤ 2000 := by
      intro x hx
      simp only [parts, List.mem_map] at hx
      obtain ⟨i, _, rfl⟩ := hx
      obtain ⟨b1, b2, b3, b4⟩ := part_bounds (n := a0) (c := a1) i h1 (by omega) h3
      have : a0 / a1 ≤ a0 := Int.ediv_le_self _ h1
      omega
    obtain ⟨r, e1, e2⟩ := watch_loops (parts a0 a1 a1.toNat) (by rw [parts_length]; omega) hb (parts a0 a1 a1.toNat).length 0 a2 (by omega) h5 (by omega) (by rw [List.drop_zero, parts_sum h1 h3 h4]; exact h6)
    have hw : wrap64 (a0 - 1) = a0 - 1 := wrap_small (by omega) (by omega)
    have s1 : spec_WatchAt.f 21 a0 a1 a2 = some (r, 0) := by
      have e := e1 20 (by rw [parts_length]; omega)
      unfold spec_WatchAt.f spec_l06Crew.f spec_l00In.f
      simp [h1, h2, h3, h4, h5, hw, show a2 ≤ a0 - 1 by omega]
      simp only [spec_WatchAt.j0]
      rw [spec_share_tells h1 (by omega) h3 h4 (by omega)]
      simpa using e
    have s2 : impl_WatchAt.f 21 a0 a1 a2 = some (r, 0) := by
      have e := e2 20 (by rw [parts_length]; omega)
      unfold impl_WatchAt.f impl_isCrew.f
      simp [show ¬ a0 < 0 by omega, show ¬ 1440 < a0 by omega, h3, h4, show ¬ a2 < 0 by omega, show ¬ a0 ≤ a2 by omega]
      simp only [impl_WatchAt.j0]
      rw [impl_share_tells h1 (by omega) h3 h4 (by omega)]
      simpa using e
    exact ⟨21, by unfold laws_FnExactWatchAt.f; rw [s1, s2]; simp⟩
  · exact ⟨1, by unfold laws_FnExactWatchAt.f; rw [spec_bad 0 _ _ _ h, impl_bad 0 _ _ _ h]; simp⟩

end Go.Proofs.Ytnpaoeemgglaaaa.Pure
