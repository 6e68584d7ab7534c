/- The reference's l01Bay. -/
import Derived.Test.YtofpjfbkbmpnnaaDD
namespace Go.Proofs.Ytofpjfbkbmpnnaa.G
open Go.RowKit Go.Proofs.YtofpjfbkbmpnnaaW.PrintWords Go.Proofs.YtofpjfbkbmpnnaaW.PrintLast Go.Proofs.YtofpjfbkbmpnnaaW.PrintMore AR M
set_option linter.unusedVariables false
set_option linter.unusedSimpArgs false
def okD (b : Flat 258 .i8) (y x : Nat) : Bool := inB (dep b x y) 0 30 && (dep b x y == 0 || isP b x y)
def allB (P : Nat → Nat → Bool) : Bool := (List.range 16).all fun y => (List.range 16).all fun x => P y x
theorem allB_iff {P : Nat → Nat → Bool} : allB P = true ↔ ∀ y, y < 16 → ∀ x, x < 16 → P y x = true := by
  simp only [allB, List.all_eq_true, List.mem_range]
theorem allB_no {P : Nat → Nat → Bool} {y x : Nat} (hy : y < 16) (hx : x < 16) (h : P y x = false) : allB P = false := by
  rw [← Bool.not_eq_true, allB_iff]
  exact fun hh => by rw [hh y hy x hx] at h; exact absurd h (by decide)
def bayB (b : Flat 258 .i8) : Bool := inB (b.z 0) 1 16 && inB (b.z 1) 1 16 && allB (okD b)
theorem bayB_true {b : Flat 258 .i8} (h : bayB b = true) : (1 ≤ b.z 0 ∧ b.z 0 ≤ 16) ∧ (1 ≤ b.z 1 ∧ b.z 1 ≤ 16) ∧ ∀ y, y < 16 → ∀ x, x < 16 → okD b y x = true := by
  unfold bayB at h
  rw [Bool.and_eq_true, Bool.and_eq_true] at h
  exact ⟨inB_true h.1.1, inB_true h.1.2, allB_iff.1 h.2⟩
theorem bayB_ok {b : Flat 258 .i8} (h1 : inB (b.z 0) 1 16 = true) (h2 : inB (b.z 1) 1 16 = true) (h : ∀ y, y < 16 → ∀ x, x < 16 → okD b y x = true) : bayB b = true := by
  unfold bayB
  rw [h1, h2, allB_iff.2 h]; rfl
theorem bayB_no {b : Flat 258 .i8} {y x : Nat} (hy : y < 16) (hx : x < 16) (h : okD b y x = false) : bayB b = false := by
  unfold bayB
  rw [allB_no hy hx h, Bool.and_false]
theorem dep_nat (b : Flat 258 .i8) (y x : Nat) : dep b x y = b.z (2 + y * 16 + x) := by simp [dep]
theorem next_row {y : Nat} {P : Nat → Nat → Bool} (h0 : ∀ j, j < y → ∀ x, x < 16 → P j x = true) (h1 : ∀ j, j < 16 → P y j = true) : ∀ j, j < y + 1 → ∀ x, x < 16 → P j x = true := by
  intro j hj x hx
  by_cases e : j = y
  · subst e; exact h1 x hx
  · exact h0 j (by omega) x hx
theorem next_one {x : Nat} {P : Nat → Bool} (h0 : ∀ j, j < x → P j = true) (h1 : P x = true) : ∀ j, j < x + 1 → P j = true := by
  intro j hj
  by_cases e : j = x
  · subst e; exact h1
  · exact h0 j (by omega)

theorem l01Bay_any (g : Nat) (b : Flat 258 .i8) (w : World) (hB : BayAt w g b) :
    Calls Try.prog 41 #[.pointer (some ⟨g, 0, none⟩)] w fun e w' => e = .returned (.bool (bayB b)) ∧ Below w.heap.size w w' := by
  obtain ⟨a0, a1⟩ := bounds_i8 (b.ok 0 (by omega))
  obtain ⟨b0, b1⟩ := bounds_i8 (b.ok 1 (by omega))
  have c0 := hB.cell (j := 0) (by omega)
  have c1 := hB.cell (j := 1) (by omega)
  have BB := Lib.hid hB
  cases e1 : inB (b.z 0) 1 16
  · have HV := Lib.hid (show bayB b = false by unfold bayB; rw [e1]; rfl)
    have HQ1 := Lib.hid (fun W => in_b e1 W)
    clear e1 hB
    go_enter Try.func41, Try.ntmps41
    go_wp2_with (go_at_call 50; refine (HQ1.out _).mono ?_; rintro e w' ⟨rfl, rfl⟩)
    go_ret
    exact ⟨by rw [HV.out]; rfl, Below.refl _ _⟩
  · cases e2 : inB (b.z 1) 1 16
    · have HV := Lib.hid (show bayB b = false by unfold bayB; rw [e1, e2]; rfl)
      have HQ1 := Lib.hid (fun W => in_b e1 W)
      have HQ2 := Lib.hid (fun W => in_b e2 W)
      clear e1 e2 hB
      go_enter Try.func41, Try.ntmps41
      go_wp2_with (go_at_call 50; (first | (with_reducible refine (HQ1.out _).mono ?_) | (with_reducible refine (HQ2.out _).mono ?_)); rintro e w' ⟨rfl, rfl⟩)
      go_ret
      exact ⟨by rw [HV.out]; rfl, Below.refl _ _⟩
    · have HE := Lib.hid (And.intro e1 e2)
      have HQ1 := Lib.hid (fun W => in_b e1 W)
      have HQ2 := Lib.hid (fun W => in_b e2 W)
      clear e1 e2 hB
      go_enter Try.func41, Try.ntmps41
      go_wp2_with (go_at_call 50; (first | (with_reducible refine (HQ1.out _).mono ?_) | (with_reducible refine (HQ2.out _).mono ?_)); rintro e w' ⟨rfl, rfl⟩)
      clear c0 c1 a0 a1 b0 b1 HQ1 HQ2
      go_loopw [3] (fun i wr => ∃ y : Nat, y ≤ 16 ∧ i = .int .i8 y ∧ Hid (∀ j, j < y → ∀ x, x < 16 → okD b j x = true) ∧ Hid (Below w.heap.size w wr)) (fun i _ => 16 - (intOf i).toNat)
      case atStart => exact ⟨0, Nat.zero_le _, rfl, fun j h => absurd h (by omega), Below.refl _ _⟩
      case round =>
        obtain ⟨y, hy, rfl, HN, HD⟩ := hrel
        by_cases hlt : y < 16
        · have i0 : (y : Int) < 16 := by omega
          have i1 : (0 : Int) ≤ (y : Int) := by omega
          obtain ⟨wo, rfl⟩ : ∃ wo : World, wo = wr := ⟨_, rfl⟩
          go_wp2
          go_loopw [4] (fun i wr => ∃ x : Nat, x ≤ 16 ∧ i = .int .i8 x ∧ Hid (∀ j, j < x → okD b y j = true) ∧ Hid (Below w.heap.size w wr)) (fun i _ => 16 - (intOf i).toNat)
          case atStart => exact ⟨0, Nat.zero_le _, rfl, fun j h => absurd h (by omega), HD.out⟩
          case round =>
            obtain ⟨x, hx, rfl, HN1, HD1⟩ := hrel
            by_cases hlx : x < 16
            · have j0 : (x : Int) < 16 := by omega
              have j1 : (0 : Int) ≤ (x : Int) := by omega
              have BW := Lib.hid (BB.out.below HD1.out)
              have cd := BW.out.cell (j := 2 + y * 16 + x) (by omega)
              obtain ⟨d0, d1⟩ := bounds_i8 (b.ok (2 + y * 16 + x) (by omega))
              have HP := Lib.hid (dep_nat b y x)
              generalize b.z (2 + y * 16 + x) = d at cd d0 d1 HP
              cases e3 : inB d 0 30
              · have HH := Lib.hid (bayB_no hlt hlx (show okD b y x = false by unfold okD; rw [HP.out, e3]; rfl))
                have HQ := Lib.hid (fun W => in_b e3 W)
                clear e3
                go_wp2_with (go_at_call 50; refine (HQ.out _).mono ?_; rintro e w' ⟨rfl, rfl⟩)
                go_ret
                exact ⟨by rw [HH.out]; rfl, HD1.out⟩
              · cases e4 : (d == 0)
                · have e4' : (d != 0) = true := by simp only [bne, e4]; rfl
                  cases e5 : isP b x y
                  · have HH := Lib.hid (bayB_no hlt hlx (show okD b y x = false by unfold okD; rw [HP.out, e3, e4, e5]; rfl))
                    have HQ := Lib.hid (fun W => in_b e3 W)
                    have HI := Lib.hid (e5 ▸ is_any g b x y wr BW.out (by omega) (by omega))
                    clear e3 e5
                    go_wp2_with (first | (go_at_call 50; refine (HQ.out _).mono ?_; rintro e w' ⟨rfl, rfl⟩) | (go_at_call 42; refine HI.out.mono ?_; rintro e w1 ⟨rfl, hb⟩; have HB1 := Lib.hid (below_join HD1.out hb); clear hb))
                    go_ret
                    exact ⟨by rw [HH.out]; rfl, HB1.out⟩
                  · have HH := Lib.hid (show okD b y x = true by unfold okD; rw [HP.out, e3, e4, e5]; rfl)
                    have HQ := Lib.hid (fun W => in_b e3 W)
                    have HI := Lib.hid (e5 ▸ is_any g b x y wr BW.out (by omega) (by omega))
                    clear e3 e5
                    go_wp2_with (first | (go_at_call 50; refine (HQ.out _).mono ?_; rintro e w' ⟨rfl, rfl⟩) | (go_at_call 42; refine HI.out.mono ?_; rintro e w1 ⟨rfl, hb⟩; have HB1 := Lib.hid (below_join HD1.out hb); clear hb))
                    go_roundw
                    case rel => exact ⟨x + 1, by omega, by go_num, next_one HN1.out HH.out, HB1.out⟩
                    case measure => simp [intOf]; omega
                · have e4' : (d != 0) = false := by simp only [bne, e4]; rfl
                  have HH := Lib.hid (show okD b y x = true by unfold okD; rw [HP.out, e3, e4]; rfl)
                  have HQ := Lib.hid (fun W => in_b e3 W)
                  clear e3
                  go_wp2_with (go_at_call 50; refine (HQ.out _).mono ?_; rintro e w' ⟨rfl, rfl⟩)
                  go_roundw
                  case rel => exact ⟨x + 1, by omega, by go_num, next_one HN1.out HH.out, HD1.out⟩
                  case measure => simp [intOf]; omega
            · have HH := Lib.hid (next_row HN.out (fun j hj => HN1.out j (by omega)))
              have j0 : ¬ (x : Int) < 16 := by omega
              go_wp2
              go_roundw
              case rel => exact ⟨y + 1, by omega, by go_num, HH.out, HD1.out⟩
              case measure => simp [intOf]; omega
        · have HH := Lib.hid (bayB_ok HE.out.1 HE.out.2 (fun j hj => HN.out j (by omega)))
          have i0 : ¬ (y : Int) < 16 := by omega
          go_wp2
          go_ret
          exact ⟨by rw [HH.out]; rfl, HD.out⟩
end Go.Proofs.Ytofpjfbkbmpnnaa.G
