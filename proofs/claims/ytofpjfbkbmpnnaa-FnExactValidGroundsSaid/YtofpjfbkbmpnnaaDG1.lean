/- The reference's l07Grounds. -/
import Derived.Test.YtofpjfbkbmpnnaaDV1
namespace Go.Proofs.Ytofpjfbkbmpnnaa.G
open Go.RowKit Go.Proofs.YtofpjfbkbmpnnaaW.PrintWords Go.Proofs.YtofpjfbkbmpnnaaW.PrintLast Go.Proofs.YtofpjfbkbmpnnaaW.PrintMore AR M
set_option linter.unusedVariables false
set_option linter.unusedSimpArgs false
def okG (b : Flat 258 .i8) (d : Flat 256 .u8) (y x : Nat) : Bool := decide (d.z (y * 16 + x) ≤ 3) && (d.z (y * 16 + x) == 0 || isP b x y)
def groundsB (b : Flat 258 .i8) (d : Flat 256 .u8) : Bool := bayB b && allB (okG b d)
theorem groundsB_true {b : Flat 258 .i8} {d : Flat 256 .u8} (h : groundsB b d = true) : bayB b = true ∧ ∀ y, y < 16 → ∀ x, x < 16 → okG b d y x = true := by
  unfold groundsB at h
  rw [Bool.and_eq_true] at h
  exact ⟨h.1, allB_iff.1 h.2⟩
theorem groundsB_ok {b : Flat 258 .i8} {d : Flat 256 .u8} (h1 : bayB b = true) (h : ∀ y, y < 16 → ∀ x, x < 16 → okG b d y x = true) : groundsB b d = true := by
  unfold groundsB
  rw [h1, allB_iff.2 h]; rfl
theorem groundsB_no {b : Flat 258 .i8} {d : Flat 256 .u8} {y x : Nat} (hy : y < 16) (hx : x < 16) (h : okG b d y x = false) : groundsB b d = false := by
  unfold groundsB
  rw [allB_no hy hx h, Bool.and_false]

theorem l07Grounds_any (g g1 : Nat) (b : Flat 258 .i8) (d : Flat 256 .u8) (w : World) (hB : BayAt w g b) (hG : GroundsAt w g1 d) :
    Calls Try.prog 23 #[.pointer (some ⟨g, 0, none⟩), .pointer (some ⟨g1, 0, none⟩)] w fun e w' => e = .returned (.bool (groundsB b d)) ∧ Below w.heap.size w w' := by
  have BB := Lib.hid hB
  have GG := Lib.hid hG
  cases e1 : bayB b
  · have HV := Lib.hid (show groundsB b d = false by unfold groundsB; rw [e1]; rfl)
    have HQ1 := Lib.hid (e1 ▸ l01Bay_any g b w hB)
    clear e1 hB hG
    go_enter Try.func23, Try.ntmps23
    go_wp2_with (go_at_call 41; refine (HQ1.out).mono ?_; rintro e w1 ⟨rfl, hb⟩; have HB1 := Lib.hid hb; clear hb)
    go_ret
    exact ⟨by rw [HV.out]; rfl, HB1.out⟩
  · have HE := Lib.hid e1
    have HQ1 := Lib.hid (e1 ▸ l01Bay_any g b w hB)
    clear e1 hB hG
    go_enter Try.func23, Try.ntmps23
    go_wp2_with (go_at_call 41; refine (HQ1.out).mono ?_; rintro e w1 ⟨rfl, hb⟩; have HB1 := Lib.hid hb; clear hb)
    clear HQ1
    go_loopw [5] (fun i wr => ∃ y : Nat, y ≤ 16 ∧ i = .int .i8 y ∧ Hid (∀ j, j < y → ∀ x, x < 16 → okG b d j x = true) ∧ Hid (Below w.heap.size w wr)) (fun i _ => 16 - (intOf i).toNat)
    case atStart => exact ⟨0, Nat.zero_le _, rfl, fun j h => absurd h (by omega), HB1.out⟩
    case round =>
      obtain ⟨y, hy, rfl, HN, HD⟩ := hrel
      by_cases hlt : y < 16
      · have i0 : (y : Int) < 16 := by omega
        have i1 : (0 : Int) ≤ (y : Int) := by omega
        obtain ⟨wo, rfl⟩ : ∃ wo : World, wo = wr := ⟨_, rfl⟩
        go_wp2
        go_loopw [6] (fun i wr => ∃ x : Nat, x ≤ 16 ∧ i = .int .i8 x ∧ Hid (∀ j, j < x → okG b d y j = true) ∧ Hid (Below w.heap.size w wr)) (fun i _ => 16 - (intOf i).toNat)
        case atStart => exact ⟨0, Nat.zero_le _, rfl, fun j h => absurd h (by omega), HD.out⟩
        case round =>
          obtain ⟨x, hx, rfl, HN1, HD1⟩ := hrel
          by_cases hlx : x < 16
          · have j0 : (x : Int) < 16 := by omega
            have j1 : (0 : Int) ≤ (x : Int) := by omega
            have BW := Lib.hid (BB.out.below HD1.out)
            have cd := (GG.out.below HD1.out).cell (j := y * 16 + x) (by omega)
            have HP := Lib.hid (show okG b d y x = (decide (d.z (y * 16 + x) ≤ 3) && (d.z (y * 16 + x) == 0 || isP b x y)) from rfl)
            generalize d.z (y * 16 + x) = k at cd HP
            by_cases hk : 3 < k
            · have HH := Lib.hid (groundsB_no hlt hlx (show okG b d y x = false by rw [HP.out, decide_eq_false (show ¬ k ≤ 3 by omega)]; rfl))
              go_wp2
              go_ret
              exact ⟨by rw [HH.out]; rfl, HD1.out⟩
            · have hk3 : decide (k ≤ 3) = true := decide_eq_true (by omega)
              cases e4 : (k == 0)
              · have e4' : (k != 0) = true := by simp only [bne, e4]; rfl
                cases e5 : isP b x y
                · have HH := Lib.hid (groundsB_no hlt hlx (show okG b d y x = false by rw [HP.out, hk3, e4, e5]; rfl))
                  have HI := Lib.hid (e5 ▸ is_any g b x y wr BW.out (by omega) (by omega))
                  clear e5 hk3
                  go_wp2_with (go_at_call 42; refine HI.out.mono ?_; rintro e w1 ⟨rfl, hb⟩; have HB1 := Lib.hid (below_join HD1.out hb); clear hb)
                  go_ret
                  exact ⟨by rw [HH.out]; rfl, HB1.out⟩
                · have HH := Lib.hid (show okG b d y x = true by rw [HP.out, hk3, e4, e5]; rfl)
                  have HI := Lib.hid (e5 ▸ is_any g b x y wr BW.out (by omega) (by omega))
                  clear e5 hk3
                  go_wp2_with (go_at_call 42; refine HI.out.mono ?_; rintro e w1 ⟨rfl, hb⟩; have HB1 := Lib.hid (below_join HD1.out hb); clear hb)
                  go_roundw
                  case rel => exact ⟨x + 1, by omega, by go_num, next_one HN1.out HH.out, HB1.out⟩
                  case measure => simp [intOf]; omega
              · have e4' : (k != 0) = false := by simp only [bne, e4]; rfl
                have HH := Lib.hid (show okG b d y x = true by rw [HP.out, hk3, e4]; rfl)
                clear hk3
                go_wp2
                go_roundw
                case rel => exact ⟨x + 1, by omega, by go_num, next_one HN1.out HH.out, HD1.out⟩
                case measure => simp [intOf]; omega
          · have HH := Lib.hid (next_row HN.out (fun j hj => HN1.out j (by omega)))
            have j0 : ¬ (x : Int) < 16 := by omega
            go_wp2
            go_roundw
            case rel => exact ⟨y + 1, by omega, by go_num, HH.out, HD1.out⟩
            case measure => simp [intOf]; omega
      · have HH := Lib.hid (groundsB_ok HE.out (fun j hj => HN.out j (by omega)))
        have i0 : ¬ (y : Int) < 16 := by omega
        go_wp2
        go_ret
        exact ⟨by rw [HH.out]; rfl, HD.out⟩
end Go.Proofs.Ytofpjfbkbmpnnaa.G
