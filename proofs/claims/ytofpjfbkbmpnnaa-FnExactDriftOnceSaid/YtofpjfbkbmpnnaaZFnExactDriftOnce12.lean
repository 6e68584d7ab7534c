/- FnExactDriftOnce returns true, whatever the input, and leaves its arguments as they were. -/
import Derived.RowKit
import Derived.Below
import Derived.Deep.Draws
import Derived.Deep.AppendLies
import Derived.Maps.AppendAt
import Derived.OwnWalk
import Derived.Laws.BytesArg
import Derived.Laws.MakeOwn
import Derived.Laws.OwnMore
import Derived.Deep.OwnRows
import Derived.Tactics
import Derived.Lib.ConvBytes
import Derived.Laws.Slices
import Derived.WalkKit
import Derived.KernelRfl
import Derived.RowKit3
import Derived.Deep.LoopGhost
import Derived.Deep.QuietTactic
import Derived.BigQuiet
import Derived.WideLaws
import Derived.Deep.DeepCutAuto
import Derived.Deep.CutBlock
import Derived.Deep.RegionHeld3
import Derived.Laws.Rows
import Derived.Lib.AppendStr
import Derived.ArgAppend
import Derived.Laws.IdiomCopy
import Derived.OpenShut
import Derived.Test.YtofpjfbkbmpnnaaProg
import Derived.OrdersHeld
import Derived.Laws.BitsLemmas
import Derived.Laws.StructEq
import Derived.Deep.Slices
import Derived.ChangeSame
import Derived.ChangeArms
import Derived.ProofKit
import Derived.Laws.Tables
import Derived.Lib.Hide
import Derived.Laws.CopyOwn
import Derived.Laws.CopyRow
import Derived.Test.YtofpjfbkbmpnnaaRows
import Derived.ShutString
import Derived.ChangeOld
import Derived.SizedLaws
import Derived.Test.YtofpjfbkbmpnnaaZFnExactDriftOnce1
import Derived.Test.YtofpjfbkbmpnnaaZFnExactDriftOnce2
import Derived.Test.YtofpjfbkbmpnnaaZFnExactDriftOnce3
import Derived.Test.YtofpjfbkbmpnnaaZFnExactDriftOnce4
import Derived.Test.YtofpjfbkbmpnnaaZFnExactDriftOnce5
import Derived.Test.YtofpjfbkbmpnnaaZFnExactDriftOnce6
import Derived.Test.YtofpjfbkbmpnnaaZFnExactDriftOnce7
import Derived.Test.YtofpjfbkbmpnnaaZFnExactDriftOnce8
import Derived.Test.YtofpjfbkbmpnnaaZFnExactDriftOnce9
import Derived.Test.YtofpjfbkbmpnnaaZFnExactDriftOnce10
import Derived.Test.YtofpjfbkbmpnnaaZFnExactDriftOnce11
section
namespace Go.Proofs.Ytofpjfbkbmpnnaa.PL
open Go.RowKit M Go.Proofs.YtofpjfbkbmpnnaaW.PrintWords
theorem wsm {x : Int} (h0 : -1000000000000 ≤ x) (h1 : x ≤ 1000000000000) : wrap64 x = x := by
  unfold wrap64; omega
theorem i8_bounds {x : Int} (h : i8B x = true) : -128 ≤ x ∧ x ≤ 127 := inB_true h
end Go.Proofs.Ytofpjfbkbmpnnaa.PL
end
section
namespace Go.Proofs.Ytofpjfbkbmpnnaa.G.PB
open Go.RowKit M Go.Proofs.Ytofpjfbkbmpnnaa.PL Go.Proofs.YtofpjfbkbmpnnaaW.PrintWords Go.Proofs.YtofpjfbkbmpnnaaW.PrintMore
set_option linter.unusedSimpArgs false
set_option linter.unusedVariables false
abbrev Bay := Flat 258 .i8
def boatV (b : Bay) (x y ch lo dr ki : Int) : Bool := isW b x y && (inB ch 1 60 && (inB lo 0 5 && (inB dr 1 30 && inB ki 0 9)))
def b8 (x : Int) : Prop := -128 ≤ x ∧ x ≤ 127
theorem ws {x : Int} (h : b8 x) : wrap64 x = x := by obtain ⟨h0, h1⟩ := h; unfold wrap64; omega
theorem w8 {x : Int} (h0 : -128 ≤ x) (h1 : x ≤ 127) : IntKind.i8.wrap x = x := by
  unfold IntKind.wrap; simp [IntKind.signed, IntKind.bits]; omega
theorem spec_in (n lo hi : Int) : spec_l00In.f n lo hi = some (inB n lo hi) := by
  unfold spec_l00In.f inB
  by_cases h : lo ≤ n <;> simp [h]
theorem depO_in (b : Bay) {x y : Int} (hx0 : 0 ≤ x) (hx1 : x < 16) (hy0 : 0 ≤ y) (hy1 : y < 16) : depO b x y = some (dep b x y) := if_pos ⟨hx0, hx1, hy0, hy1⟩
theorem bay_small {b : Bay} (h : bayB b = true) : 1 ≤ b.z 0 ∧ b.z 0 ≤ 16 ∧ 1 ≤ b.z 1 ∧ b.z 1 ≤ 16 := by
  obtain ⟨h0, h1, _⟩ := bayB_true h; omega
theorem isP_16 {b : Bay} {x y : Int} (h : bayB b = true) (hp : isP b x y = true) : 0 ≤ x ∧ x < 16 ∧ 0 ≤ y ∧ y < 16 := by
  have := bay_small h; have := isP_bounds hp; omega
theorem isW_isP {b : Bay} {x y : Int} (h : isW b x y = true) : isP b x y = true ∧ 0 < dep b x y := by
  unfold isW at h; simp at h; exact h
theorem boatV_isW {b : Bay} {x y ch lo dr ki : Int} (h : boatV b x y ch lo dr ki = true) : isW b x y = true ∧ (1 ≤ ch ∧ ch ≤ 60) ∧ (0 ≤ lo ∧ lo ≤ 5) ∧ (1 ≤ dr ∧ dr ≤ 30) ∧ (0 ≤ ki ∧ ki ≤ 9) := by
  unfold boatV inB at h; simp at h; omega
theorem dep_30 {b : Bay} {x y : Int} (h : bayB b = true) (h0 : 0 ≤ x) (h1 : x < 16) (h2 : 0 ≤ y) (h3 : y < 16) : 0 ≤ dep b x y ∧ dep b x y ≤ 30 := by
  have := (bayB_true h).2.2 y.toNat (by omega) x.toNat (by omega)
  unfold okD at this
  rw [Bool.and_eq_true] at this
  have h4 := inB_true this.1
  rw [show ((x.toNat : Nat) : Int) = x by omega, show ((y.toNat : Nat) : Int) = y by omega] at h4
  exact h4
theorem impl_place (b : Bay) (x y : Int) : impl_isPlace.f b x y = some (isP b x y) := by
  unfold impl_isPlace.f isP
  by_cases h1 : 0 ≤ x <;> by_cases h2 : x < b.z 0 <;> by_cases h3 : 0 ≤ y <;> simp [h1, h2, h3]
theorem impl_water {b : Bay} (h : bayB b = true) (x y : Int) : impl_isWater.f b x y = some (isW b x y) := by
  unfold impl_isWater.f isW
  rw [impl_place]
  simp only [Option.bind_some]
  cases hp : isP b x y
  · simp
  · obtain ⟨h0, h1, h2, h3⟩ := isP_16 h hp
    unfold impl_depth.f
    rw [if_pos rfl, depO_in b h0 h1 h2 h3]
    simp
theorem impl_boat {b : Bay} (h : bayB b = true) (x y ch lo dr ki : Int) : impl_isBoat.f b x y ch lo dr ki = some (boatV b x y ch lo dr ki) := by
  unfold impl_isBoat.f boatV
  rw [impl_water h]
  simp only [Option.bind_some]
  cases isW b x y
  · simp
  · simp only [if_true, Bool.true_and, inB]
    by_cases h1 : 1 ≤ ch
    · by_cases h2 : ch ≤ 60
      · by_cases h3 : 0 ≤ lo
        · by_cases h4 : lo ≤ 5
          · by_cases h5 : 1 ≤ dr
            · by_cases h6 : dr ≤ 30
              · by_cases h7 : 0 ≤ ki <;> simp [h1, h2, h3, h4, h5, h6, h7]
              · simp [h1, h2, h3, h4, h5, h6]
            · simp [h1, h2, h3, h4, h5]
          · simp [h1, h2, h3, h4]
        · simp [h1, h2, h3]
      · simp [h1, h2]
    · simp [h1]
theorem spec_is (b : Bay) {x y : Int} (hx : b8 x) (hy : b8 y) : spec_l01Is.f b x y = some (isP b x y) := by
  have h0 : b8 (b.z 0) := bounds_i8 (b.ok 0 (by omega))
  have h1 : b8 (b.z 1) := bounds_i8 (b.ok 1 (by omega))
  unfold spec_l01Is.f
  rw [ws hx, ws hy, ws h0, ws h1, wsm (by have := h0.1; omega) (by have := h0.2; omega), wsm (by have := h1.1; omega) (by have := h1.2; omega), spec_in, spec_in, isP_in]
  simp only [Option.bind_some]
  cases inB x 0 (b.z 0 - 1) <;> simp
theorem spec_boat {b : Bay} (h : bayB b = true) {x y ch lo dr ki : Int} (hx : b8 x) (hy : b8 y) (hc : b8 ch) (hl : b8 lo) (hd : b8 dr) (hk : b8 ki) : spec_l01Boat.f b x y ch lo dr ki = some (boatV b x y ch lo dr ki) := by
  unfold spec_l01Boat.f boatV isW
  rw [spec_is b hx hy]
  simp only [Option.bind_some]
  cases hp : isP b x y
  · simp
  · obtain ⟨h0, h1, h2, h3⟩ := isP_16 h hp
    unfold spec_l01Depth.f
    rw [if_pos rfl, depO_in b h0 h1 h2 h3, ws hc, ws hl, ws hd, ws hk, spec_in, spec_in, spec_in, spec_in]
    simp only [Option.bind_some]
    by_cases hw : 0 < dep b x y
    · rw [if_pos hw]
      cases inB ch 1 60 <;> cases inB lo 0 5 <;> cases inB dr 1 30 <;> simp [hw]
    · rw [if_neg hw]; simp [hw]
end Go.Proofs.Ytofpjfbkbmpnnaa.G.PB
end
section
namespace Go.Proofs.Ytofpjfbkbmpnnaa.G.PB
open Go.RowKit M Go.Proofs.Ytofpjfbkbmpnnaa.PL Go.Proofs.YtofpjfbkbmpnnaaW.PrintWords Go.Proofs.YtofpjfbkbmpnnaaW.PrintMore
set_option linter.unusedSimpArgs false
set_option linter.unusedVariables false
abbrev Grd := Flat 256 .u8
def baseV (k : Int) : Int := if k = 0 then 2 else if k = 1 then 4 else if k = 2 then 6 else 1
theorem base_rd {k : Int} (h0 : 0 ≤ k) (h1 : k ≤ 3) : rd [2, 4, 6, 1] k = baseV k := by
  have : k = 0 ∨ k = 1 ∨ k = 2 ∨ k = 3 := by omega
  rcases this with rfl | rfl | rfl | rfl <;> rfl
theorem base_bounds (k : Int) : 1 ≤ baseV k ∧ baseV k ≤ 6 := by unfold baseV; split <;> (try split) <;> (try split) <;> omega
def holdV (b : Bay) (g : Grd) (x y ch : Int) : Int := baseV (g.z (y.toNat * 16 + x.toNat)) + (if 6 < ch / dep b x y then 6 else ch / dep b x y)
theorem ground_3 {b : Bay} {g : Grd} (h : groundsB b g = true) {x y : Int} (h0 : 0 ≤ x) (h1 : x < 16) (h2 : 0 ≤ y) (h3 : y < 16) : 0 ≤ g.z (y.toNat * 16 + x.toNat) ∧ g.z (y.toNat * 16 + x.toNat) ≤ 3 := by
  have := (groundsB_true h).2 y.toNat (by omega) x.toNat (by omega)
  unfold okG at this
  rw [Bool.and_eq_true] at this
  exact ⟨(bounds_u8 (g.ok (y.toNat * 16 + x.toNat) (by omega))).1, by simpa using this.1⟩
theorem impl_hold_tells {b : Bay} {g : Grd} (hg : groundsB b g = true) {x y ch : Int} (lo dr ki : Int) (hw : isW b x y = true) (hc0 : 0 ≤ ch) (hc1 : ch ≤ 127) : impl_hold.f b g x y ch lo dr ki = some (holdV b g x y ch) := by
  have hb := (groundsB_true hg).1
  obtain ⟨hp, hd⟩ := isW_isP hw
  obtain ⟨h0, h1, h2, h3⟩ := isP_16 hb hp
  obtain ⟨g0, g1⟩ := ground_3 hg h0 h1 h2 h3
  have q0 := Int.ediv_nonneg hc0 (Int.le_of_lt hd)
  have q1 : ch / dep b x y ≤ ch := Int.ediv_le_self _ hc0
  have hbb := base_bounds (g.z (y.toNat * 16 + x.toNat))
  unfold impl_hold.f impl_depth.f
  simp only [Option.bind_some]
  rw [if_pos h2, if_pos h3, if_pos h0, if_pos h1, if_pos g0, if_pos (by simp; omega), depO_in b h0 h1 h2 h3]
  simp only [Option.bind_some]
  rw [if_neg (by omega), base_rd g0 g1, wsm (x := ch) (by omega) (by omega), Int.tdiv_eq_ediv_of_nonneg hc0, wsm (x := ch / _) (by omega) (by omega)]
  unfold mn holdV
  split <;> (rw [wsm (by omega) (by omega)])
theorem spec_hold_tells {b : Bay} {g : Grd} (hg : groundsB b g = true) {x y ch : Int} (lo dr ki : Int) (hw : isW b x y = true) (hc0 : 0 ≤ ch) (hc1 : ch ≤ 127) : spec_l07Hold.f b g x y ch lo dr ki = some (holdV b g x y ch) := by
  have hb := (groundsB_true hg).1
  obtain ⟨hp, hd⟩ := isW_isP hw
  obtain ⟨h0, h1, h2, h3⟩ := isP_16 hb hp
  obtain ⟨g0, g1⟩ := ground_3 hg h0 h1 h2 h3
  have q0 := Int.ediv_nonneg hc0 (Int.le_of_lt hd)
  have q1 : ch / dep b x y ≤ ch := Int.ediv_le_self _ hc0
  have hbb := base_bounds (g.z (y.toNat * 16 + x.toNat))
  unfold spec_l07Hold.f spec_l01Depth.f spec_l00Min.f
  simp only [Option.bind_some]
  rw [depO_in b h0 h1 h2 h3]
  simp only [Option.bind_some]
  rw [if_neg (by omega), wsm (x := ch) (by omega) (by omega), Int.tdiv_eq_ediv_of_nonneg hc0, wsm (x := ch / _) (by omega) (by omega)]
  unfold holdV
  split <;> simp only [Option.bind_some, h2, h3, h0, h1, g0, if_true] <;> rw [if_pos (by simp; omega), base_rd g0 g1, wsm (by omega) (by omega)]
end Go.Proofs.Ytofpjfbkbmpnnaa.G.PB
end
section
namespace Go.Proofs.Ytofpjfbkbmpnnaa.G.PB
open Go.RowKit M Go.Proofs.Ytofpjfbkbmpnnaa.PL Go.Proofs.YtofpjfbkbmpnnaaW.PrintWords
set_option linter.unusedSimpArgs false
set_option linter.unusedVariables false
def windB (f t : Int) : Bool := inB f 0 12 && inB t 0 7
theorem spec_wind {f t : Int} (hf : i8B f = true) (ht : i8B t = true) : spec_l07Wind.f f t = some (windB f t) := by
  obtain ⟨a, b⟩ := i8_bounds hf
  obtain ⟨c, d⟩ := i8_bounds ht
  unfold spec_l07Wind.f windB
  rw [wsm (by omega) (by omega), wsm (by omega) (by omega), spec_in, spec_in]
  cases inB f 0 12 <;> simp
theorem impl_wind (f t : Int) : impl_isWind.f f t = some (windB f t) := by
  unfold impl_isWind.f windB inB
  by_cases h1 : 0 ≤ f <;> by_cases h2 : f ≤ 12 <;> by_cases h3 : 0 ≤ t <;> simp [h1, h2, h3]
end Go.Proofs.Ytofpjfbkbmpnnaa.G.PB
end
section
namespace Go.Proofs.Ytofpjfbkbmpnnaa.G.PB
open Go.RowKit M Go.Proofs.Ytofpjfbkbmpnnaa.PL Go.Proofs.YtofpjfbkbmpnnaaW.PrintWords
set_option linter.unusedSimpArgs false
set_option linter.unusedVariables false
def validV (b : Bay) (g : Grd) (x y ch lo dr ki : Int) : Bool := groundsB b g && boatV b x y ch lo dr ki
theorem validV_true {b : Bay} {g : Grd} {x y ch lo dr ki : Int} (h : validV b g x y ch lo dr ki = true) : groundsB b g = true ∧ boatV b x y ch lo dr ki = true := by
  unfold validV at h; simpa using h
theorem spec_valid {b : Bay} {g : Grd} {x y ch lo dr ki : Int} {k : Nat} {l : List S50} {wv : Bool} (hw : spec_l07Winds.f k l = some wv) (hx : b8 x) (hy : b8 y) (hc : b8 ch) (hl : b8 lo) (hd : b8 dr) (hk : b8 ki) : spec_l07Valid.f k b g x y ch lo dr ki l = some (validV b g x y ch lo dr ki && wv) := by
  unfold spec_l07Valid.f spec_l07Grounds.f validV
  cases hg : groundsB b g
  · simp
  · simp only [Option.bind_some, if_true]
    rw [spec_boat (groundsB_true hg).1 hx hy hc hl hd hk]
    cases hb : boatV b x y ch lo dr ki
    · simp
    · simp [hw]
theorem winds_nil {k : Nat} (hk : 0 < k) : spec_l07Winds.f k [] = some true := by
  obtain ⟨k, rfl⟩ : ∃ m, k = m + 1 := ⟨k - 1, by omega⟩
  simp [spec_l07Winds.f, spec_l07Winds.l0]
theorem b8_of {x : Int} (h : (Lit.int .i8 x).wf = true) : b8 x := bounds_i8 h
end Go.Proofs.Ytofpjfbkbmpnnaa.G.PB
end
section
namespace Go.Proofs.Ytofpjfbkbmpnnaa.G.PB
open Go.RowKit M Go.Proofs.Ytofpjfbkbmpnnaa.PL Go.Proofs.YtofpjfbkbmpnnaaW.PrintWords Go.Proofs.YtofpjfbkbmpnnaaW.PrintMore
set_option linter.unusedSimpArgs false
set_option linter.unusedVariables false
def dxV (sd : Int) : Int := rd [0, 1, 1, 1, 0, (-1), (-1), (-1)] sd
def dyV (sd : Int) : Int := rd [(-1), (-1), 0, 1, 1, 1, 0, (-1)] sd
theorem sd_cases {sd : Int} (h0 : 0 ≤ sd) (h1 : sd ≤ 7) : sd = 0 ∨ sd = 1 ∨ sd = 2 ∨ sd = 3 ∨ sd = 4 ∨ sd = 5 ∨ sd = 6 ∨ sd = 7 := by omega
theorem dx_1 {sd : Int} (h0 : 0 ≤ sd) (h1 : sd ≤ 7) : (-1 ≤ dxV sd ∧ dxV sd ≤ 1) ∧ (-1 ≤ dyV sd ∧ dyV sd ≤ 1) := by
  rcases sd_cases h0 h1 with rfl | rfl | rfl | rfl | rfl | rfl | rfl | rfl <;> decide
theorem spec_side {x y sd : Int} (hx0 : 0 ≤ x) (hx1 : x < 16) (hy0 : 0 ≤ y) (hy1 : y < 16) (h0 : 0 ≤ sd) (h1 : sd ≤ 7) {k : Nat} (hk : 6 ≤ k) : spec_l07Side.f k x y sd = some (x + dxV sd, y + dyV sd) := by
  obtain ⟨m, rfl⟩ : ∃ m, k = m + 1 + 1 + 1 + 1 + 1 + 1 := ⟨k - 6, by omega⟩
  have e1 : IntKind.i8.wrap (y - 1) = y + -1 := by rw [w8 (by omega) (by omega)]; omega
  have e2 : IntKind.i8.wrap (y + 1) = y + 1 := w8 (by omega) (by omega)
  have e3 : IntKind.i8.wrap (x + 1) = x + 1 := w8 (by omega) (by omega)
  have e4 : IntKind.i8.wrap (x - 1) = x + -1 := by rw [w8 (by omega) (by omega)]; omega
  have d0 : dxV 0 = 0 ∧ dxV 1 = 1 ∧ dxV 2 = 1 ∧ dxV 3 = 1 ∧ dxV 4 = 0 ∧ dxV 5 = -1 ∧ dxV 6 = -1 ∧ dxV 7 = -1 := by decide
  have d1 : dyV 0 = -1 ∧ dyV 1 = -1 ∧ dyV 2 = 0 ∧ dyV 3 = 1 ∧ dyV 4 = 1 ∧ dyV 5 = 1 ∧ dyV 6 = 0 ∧ dyV 7 = -1 := by decide
  rcases sd_cases h0 h1 with rfl | rfl | rfl | rfl | rfl | rfl | rfl | rfl <;> simp [spec_l07Side.f, spec_l07Side.j0, spec_l07Side.j1, spec_l07Side.j2, spec_l07Side.j3, spec_l07Side.j4, e1, e2, e3, e4, d0, d1]
def driftV (b : Bay) (g : Grd) (x y ch f sd : Int) : Int × Int × Bool × Bool := if f ≤ holdV b g x y ch then (x, y, false, false) else if isW b (x + dxV sd) (y + dyV sd) = true then (x + dxV sd, y + dyV sd, true, false) else (x, y, true, true)
theorem impl_drift_tells {b : Bay} {g : Grd} (hg : groundsB b g = true) {x y ch : Int} (lo dr ki : Int) (hw : isW b x y = true) (hc0 : 0 ≤ ch) (hc1 : ch ≤ 127) {f sd : Int} (hf : b8 f) (h0 : 0 ≤ sd) (h1 : sd ≤ 7) :
    impl_drift.f b g x y ch lo dr ki f sd = some ((driftV b g x y ch f sd).1, (driftV b g x y ch f sd).2.1, ch, lo, dr, ki, (driftV b g x y ch f sd).2.2.1, (driftV b g x y ch f sd).2.2.2) := by
  have hb := (groundsB_true hg).1
  obtain ⟨x0, x1, y0, y1⟩ := isP_16 hb (isW_isP hw).1
  obtain ⟨⟨a, b'⟩, c, d⟩ := dx_1 h0 h1
  unfold impl_drift.f driftV
  rw [impl_hold_tells hg lo dr ki hw hc0 hc1]
  simp only [Option.bind_some]
  rw [ws hf]
  by_cases hh : f ≤ holdV b g x y ch
  · rw [if_pos hh, if_pos hh]
  · rw [if_neg hh, if_neg hh, if_pos h0, if_pos (by simp; omega), if_pos (by simp; omega), show rd [0, 1, 1, 1, 0, (-1), (-1), (-1)] sd = dxV sd from rfl, show rd [(-1), (-1), 0, 1, 1, 1, 0, (-1)] sd = dyV sd from rfl, w8 (by omega) (by omega), w8 (by omega) (by omega), impl_water hb]
    simp only [Option.bind_some]
    cases isW b (x + dxV sd) (y + dyV sd) <;> simp
theorem spec_once_tells {b : Bay} {g : Grd} (hg : groundsB b g = true) {x y ch : Int} (lo dr ki : Int) (hw : isW b x y = true) (hc0 : 0 ≤ ch) (hc1 : ch ≤ 127) {f sd : Int} (hf : b8 f) (h0 : 0 ≤ sd) (h1 : sd ≤ 7) {k : Nat} (hk : 6 ≤ k) :
    spec_l07Once.f k b g x y ch lo dr ki f sd = some ((driftV b g x y ch f sd).1, (driftV b g x y ch f sd).2.1, ch, lo, dr, ki, (driftV b g x y ch f sd).2.2.2) := by
  have hb := (groundsB_true hg).1
  obtain ⟨x0, x1, y0, y1⟩ := isP_16 hb (isW_isP hw).1
  obtain ⟨⟨a, b'⟩, c, d⟩ := dx_1 h0 h1
  unfold spec_l07Once.f spec_l07Drags.f driftV
  rw [spec_hold_tells hg lo dr ki hw hc0 hc1]
  simp only [Option.bind_some]
  rw [ws hf]
  by_cases hh : f ≤ holdV b g x y ch
  · rw [if_pos hh, if_neg (by simp; omega)]
  · rw [if_neg hh, if_pos (by simp; omega), spec_side x0 x1 y0 y1 h0 h1 hk]
    simp only [Option.bind_some]
    rw [spec_is b ⟨by omega, by omega⟩ ⟨by omega, by omega⟩]
    simp only [Option.bind_some, isW]
    by_cases hp : isP b (x + dxV sd) (y + dyV sd) = true
    case neg =>
      rw [if_neg hp]
      have hp' : isP b (x + dxV sd) (y + dyV sd) = false := by simpa using hp
      simp [hp']
    case pos =>
      obtain ⟨p0, p1, p2, p3⟩ := isP_16 hb hp
      have dd := dep_30 hb p0 p1 p2 p3
      unfold spec_l01Depth.f
      rw [if_pos hp, depO_in b p0 p1 p2 p3]
      simp only [Option.bind_some]
      by_cases hz : dep b (x + dxV sd) (y + dyV sd) = 0
      · simp [hp, hz]
      · have : 0 < dep b (x + dxV sd) (y + dyV sd) := by omega
        simp [hp, hz, this]
end Go.Proofs.Ytofpjfbkbmpnnaa.G.PB
end
section
namespace Go.Proofs.Ytofpjfbkbmpnnaa.G.Pure
open Go.RowKit M Go.Proofs.Ytofpjfbkbmpnnaa.PL Go.Proofs.Ytofpjfbkbmpnnaa.G.PB
set_option linter.unusedSimpArgs false
set_option linter.unusedVariables false
def onceV (b : PB.Bay) (g : Grd) (x y ch lo dr ki f sd : Int) : Int × Int × Int × Int × Int × Int × Bool × Int :=
  if validV b g x y ch lo dr ki = true then (if windB f sd = true then ((driftV b g x y ch f sd).1, (driftV b g x y ch f sd).2.1, ch, lo, dr, ki, (driftV b g x y ch f sd).2.2.2, 0) else (0, 0, 0, 0, 0, 0, false, 2)) else (0, 0, 0, 0, 0, 0, false, 1)
theorem wind_bounds {f sd : Int} (h : windB f sd = true) : (0 ≤ f ∧ f ≤ 12) ∧ 0 ≤ sd ∧ sd ≤ 7 := by
  unfold windB inB at h; simp at h; omega
theorem i8B_b8 {x : Int} (h : b8 x) : i8B x = true := by obtain ⟨h0, h1⟩ := h; simp [i8B, inB, h0, h1]
theorem spec_tells {b : PB.Bay} {g : Grd} {x y ch lo dr ki f sd : Int} {k : Nat} (hk : 10 < k) (hx : b8 x) (hy : b8 y) (hc : b8 ch) (hl : b8 lo) (hd : b8 dr) (hki : b8 ki) (hf : b8 f) (ht : b8 sd) : spec_DriftOnce.f k b g x y ch lo dr ki f sd = some (onceV b g x y ch lo dr ki f sd) := by
  unfold spec_DriftOnce.f onceV
  rw [spec_valid (winds_nil (by omega)) hx hy hc hl hd hki, Bool.and_true]
  simp only [Option.bind_some]
  cases hv : validV b g x y ch lo dr ki
  · simp
  · obtain ⟨hg, hb⟩ := validV_true hv
    obtain ⟨hw, h1, h2, _⟩ := boatV_isW hb
    rw [if_pos rfl, if_pos rfl, spec_wind (i8B_b8 hf) (i8B_b8 ht)]
    simp only [Option.bind_some]
    cases hwd : windB f sd
    · simp
    · obtain ⟨w1, w2, w3⟩ := wind_bounds hwd
      rw [if_pos rfl, if_pos rfl, spec_once_tells hg lo dr ki hw (by omega) (by omega) hf w2 w3 (by omega)]
      rfl
theorem impl_tells {b : PB.Bay} {g : Grd} {x y ch lo dr ki f sd : Int} {k : Nat} (hk : 10 < k) (hf : b8 f) : impl_DriftOnce.f k b g x y ch lo dr ki f sd = some (onceV b g x y ch lo dr ki f sd) := by
  obtain ⟨k, rfl⟩ : ∃ m, k = m + 1 := ⟨k - 1, by omega⟩
  unfold impl_DriftOnce.f onceV impl_ValidGrounds.f validV
  cases hg : groundsB b g
  · simp [impl_DriftOnce.j0]
  · simp only [Option.bind_some, if_true, Bool.true_and]
    rw [impl_boat (groundsB_true hg).1]
    simp only [Option.bind_some]
    cases hb : boatV b x y ch lo dr ki
    · simp [impl_DriftOnce.j0]
    · obtain ⟨hw, h1, h2, _⟩ := boatV_isW hb
      simp only [impl_DriftOnce.j0, Bool.not_true, Bool.false_eq_true, if_false, if_true]
      rw [impl_wind]
      simp only [Option.bind_some]
      cases hwd : windB f sd
      · simp
      · obtain ⟨w1, w2, w3⟩ := wind_bounds hwd
        rw [if_pos rfl, if_pos rfl, impl_drift_tells hg lo dr ki hw (by omega) (by omega) hf w2 w3]
        rfl
theorem eq_boat (x y ch lo dr ki : Int) : laws_eqBoat.f x y ch lo dr ki x y ch lo dr ki = some true := by
  simp [laws_eqBoat.f, laws_eqPlace.f]
theorem FnExactDriftOnce : ∀ (o0 : O26) (o1 : O28) (a2_0 a2_1 a2_2 a2_3 a2_4 a2_5 : Int) (a3_0 a3_1 : Int), (Lit.int .i8 a2_0).wf = true → (Lit.int .i8 a2_1).wf = true → (Lit.int .i8 a2_2).wf = true → (Lit.int .i8 a2_3).wf = true → (Lit.int .i8 a2_4).wf = true → (Lit.int .i8 a2_5).wf = true → (Lit.int .i8 a3_0).wf = true → (Lit.int .i8 a3_1).wf = true → ∃ k, laws_FnExactDriftOnce.f k o0 o1 a2_0 a2_1 a2_2 a2_3 a2_4 a2_5 a3_0 a3_1 = some true := by
  intro b g x y ch lo dr ki f sd hx hy hc hl hd hk hf ht
  refine ⟨100, ?_⟩
  obtain ⟨K, hK⟩ : ∃ K, K = 100 := ⟨_, rfl⟩
  rw [← hK]
  unfold laws_FnExactDriftOnce.f laws_toBay.f laws_toGrounds.f laws_toBoat.f laws_toPlace.f laws_toWind.f
  simp only [Option.bind_some]
  rw [spec_tells (by omega) (b8_of hx) (b8_of hy) (b8_of hc) (b8_of hl) (b8_of hd) (b8_of hk) (b8_of hf) (b8_of ht)]
  simp only [Option.bind_some]
  rw [impl_tells (by omega) (b8_of hf)]
  simp only [Option.bind_some]
  rw [eq_boat]
  simp
end Go.Proofs.Ytofpjfbkbmpnnaa.G.Pure
end
namespace Go.Proofs.Ytofpjfbkbmpnnaa.rowFnExactDriftOnce
open Go.ChangeShapes Go.WideShapes Go.ChangeAt Go.RowKit G Go.Proofs.YtofpjfbkbmpnnaaW.PrintWords
open Go.ChangeMaps (open_string shut_string)
set_option linter.unusedVariables false
theorem own : ownKnob Try.prog.godebug = none := by kernel_rfl
theorem laidOut : laidOutB Try.prog = true := by kernel_rfl
set_option maxRecDepth 100000 in
theorem lifted (os : Os) (started : os.Started) (H : Type) (enc : TypeId × Value → H) :
    ReturnsInHanded {} Try.checked os 5 .any (Rows.fnExactDriftOnceSpec.pre6 enc Try.prog Try.f5 Rows.fnExactDriftOnceRow.domain false) (Rows.fnExactDriftOnceSpec.post enc Try.prog Try.f5 false true false false) := by
  refine returnsInHanded_of_change_sized (C := Try.checked) own started (by kernel_rfl) Try.func5
    (ChangeSpec.witness6 (enc := enc) (C := Try.checked) false ⟨#[], #[.agg (Array.mk [.int .i8 0, .int .i8 0, .int .i8 0, .int .i8 0, .int .i8 0, .int .i8 0, .int .i8 0, .int .i8 0, .int .i8 0, .int .i8 0, .int .i8 0, .int .i8 0, .int .i8 0, .int .i8 0, .int .i8 0, .int .i8 0, .int .i8 0, .int .i8 0, .int .i8 0, .int .i8 0, .int .i8 0, .int .i8 0, .int .i8 0, .int .i8 0, .int .i8 0, .int .i8 0, .int .i8 0, .int .i8 0, .int .i8 0, .int .i8 0, .int .i8 0, .int .i8 0, .int .i8 0, .int .i8 0, .int .i8 0, .int .i8 0, .int .i8 0, .int .i8 0, .int .i8 0, .int .i8 0, .int .i8 0, .int .i8 0, .int .i8 0, .int .i8 0, .int .i8 0, .int .i8 0, .int .i8 0, .int .i8 0, .int .i8 0, .int .i8 0, .int .i8 0, .int .i8 0, .int .i8 0, .int .i8 0, .int .i8 0, .int .i8 0, .int .i8 0, .int .i8 0, .int .i8 0, .int .i8 0, .int .i8 0, .int .i8 0, .int .i8 0, .int .i8 0, .int .i8 0, .int .i8 0, .int .i8 0, .int .i8 0, .int .i8 0, .int .i8 0, .int .i8 0, .int .i8 0, .int .i8 0, .int .i8 0, .int .i8 0, .int .i8 0, .int .i8 0, .int .i8 0, .int .i8 0, .int .i8 0, .int .i8 0, .int .i8 0, .int .i8 0, .int .i8 0, .int .i8 0, .int .i8 0, .int .i8 0, .int .i8 0, .int .i8 0, .int .i8 0, .int .i8 0, .int .i8 0, .int .i8 0, .int .i8 0, .int .i8 0, .int .i8 0, .int .i8 0, .int .i8 0, .int .i8 0, .int .i8 0, .int .i8 0, .int .i8 0, .int .i8 0, .int .i8 0, .int .i8 0, .int .i8 0, .int .i8 0, .int .i8 0, .int .i8 0, .int .i8 0, .int .i8 0, .int .i8 0, .int .i8 0, .int .i8 0, .int .i8 0, .int .i8 0, .int .i8 0, .int .i8 0, .int .i8 0, .int .i8 0, .int .i8 0, .int .i8 0, .int .i8 0, .int .i8 0, .int .i8 0, .int .i8 0, .int .i8 0, .int .i8 0, .int .i8 0, .int .i8 0, .int .i8 0, .int .i8 0, .int .i8 0, .int .i8 0, .int .i8 0, .int .i8 0, .int .i8 0, .int .i8 0, .int .i8 0, .int .i8 0, .int .i8 0, .int .i8 0, .int .i8 0, .int .i8 0, .int .i8 0, .int .i8 0, .int .i8 0, .int .i8 0, .int .i8 0, .int .i8 0, .int .i8 0, .int .i8 0, .int .i8 0, .int .i8 0, .int .i8 0, .int .i8 0, .int .i8 0, .int .i8 0, .int .i8 0, .int .i8 0, .int .i8 0, .int .i8 0, .int .i8 0, .int .i8 0, .int .i8 0, .int .i8 0, .int .i8 0, .int .i8 0, .int .i8 0, .int .i8 0, .int .i8 0, .int .i8 0, .int .i8 0, .int .i8 0, .int .i8 0, .int .i8 0, .int .i8 0, .int .i8 0, .int .i8 0, .int .i8 0, .int .i8 0, .int .i8 0, .int .i8 0, .int .i8 0, .int .i8 0, .int .i8 0, .int .i8 0, .int .i8 0, .int .i8 0, .int .i8 0, .int .i8 0, .int .i8 0, .int .i8 0, .int .i8 0, .int .i8 0, .int .i8 0, .int .i8 0, .int .i8 0, .int .i8 0, .int .i8 0, .int .i8 0, .int .i8 0, .int .i8 0, .int .i8 0, .int .i8 0, .int .i8 0, .int .i8 0, .int .i8 0, .int .i8 0, .int .i8 0, .int .i8 0, .int .i8 0, .int .i8 0, .int .i8 0, .int .i8 0, .int .i8 0, .int .i8 0, .int .i8 0, .int .i8 0, .int .i8 0, .int .i8 0, .int .i8 0, .int .i8 0, .int .i8 0, .int .i8 0, .int .i8 0, .int .i8 0, .int .i8 0, .int .i8 0, .int .i8 0, .int .i8 0, .int .i8 0, .int .i8 0, .int .i8 0, .int .i8 0, .int .i8 0, .int .i8 0, .int .i8 0, .int .i8 0, .int .i8 0, .int .i8 0, .int .i8 0, .int .i8 0, .int .i8 0, .int .i8 0, .int .i8 0, .int .i8 0, .int .i8 0, .int .i8 0, .int .i8 0, .int .i8 0, .int .i8 0, .int .i8 0, .int .i8 0, .int .i8 0, .int .i8 0, .int .i8 0, .int .i8 0]), .agg (Array.mk [.int .u8 0, .int .u8 0, .int .u8 0, .int .u8 0, .int .u8 0, .int .u8 0, .int .u8 0, .int .u8 0, .int .u8 0, .int .u8 0, .int .u8 0, .int .u8 0, .int .u8 0, .int .u8 0, .int .u8 0, .int .u8 0, .int .u8 0, .int .u8 0, .int .u8 0, .int .u8 0, .int .u8 0, .int .u8 0, .int .u8 0, .int .u8 0, .int .u8 0, .int .u8 0, .int .u8 0, .int .u8 0, .int .u8 0, .int .u8 0, .int .u8 0, .int .u8 0, .int .u8 0, .int .u8 0, .int .u8 0, .int .u8 0, .int .u8 0, .int .u8 0, .int .u8 0, .int .u8 0, .int .u8 0, .int .u8 0, .int .u8 0, .int .u8 0, .int .u8 0, .int .u8 0, .int .u8 0, .int .u8 0, .int .u8 0, .int .u8 0, .int .u8 0, .int .u8 0, .int .u8 0, .int .u8 0, .int .u8 0, .int .u8 0, .int .u8 0, .int .u8 0, .int .u8 0, .int .u8 0, .int .u8 0, .int .u8 0, .int .u8 0, .int .u8 0, .int .u8 0, .int .u8 0, .int .u8 0, .int .u8 0, .int .u8 0, .int .u8 0, .int .u8 0, .int .u8 0, .int .u8 0, .int .u8 0, .int .u8 0, .int .u8 0, .int .u8 0, .int .u8 0, .int .u8 0, .int .u8 0, .int .u8 0, .int .u8 0, .int .u8 0, .int .u8 0, .int .u8 0, .int .u8 0, .int .u8 0, .int .u8 0, .int .u8 0, .int .u8 0, .int .u8 0, .int .u8 0, .int .u8 0, .int .u8 0, .int .u8 0, .int .u8 0, .int .u8 0, .int .u8 0, .int .u8 0, .int .u8 0, .int .u8 0, .int .u8 0, .int .u8 0, .int .u8 0, .int .u8 0, .int .u8 0, .int .u8 0, .int .u8 0, .int .u8 0, .int .u8 0, .int .u8 0, .int .u8 0, .int .u8 0, .int .u8 0, .int .u8 0, .int .u8 0, .int .u8 0, .int .u8 0, .int .u8 0, .int .u8 0, .int .u8 0, .int .u8 0, .int .u8 0, .int .u8 0, .int .u8 0, .int .u8 0, .int .u8 0, .int .u8 0, .int .u8 0, .int .u8 0, .int .u8 0, .int .u8 0, .int .u8 0, .int .u8 0, .int .u8 0, .int .u8 0, .int .u8 0, .int .u8 0, .int .u8 0, .int .u8 0, .int .u8 0, .int .u8 0, .int .u8 0, .int .u8 0, .int .u8 0, .int .u8 0, .int .u8 0, .int .u8 0, .int .u8 0, .int .u8 0, .int .u8 0, .int .u8 0, .int .u8 0, .int .u8 0, .int .u8 0, .int .u8 0, .int .u8 0, .int .u8 0, .int .u8 0, .int .u8 0, .int .u8 0, .int .u8 0, .int .u8 0, .int .u8 0, .int .u8 0, .int .u8 0, .int .u8 0, .int .u8 0, .int .u8 0, .int .u8 0, .int .u8 0, .int .u8 0, .int .u8 0, .int .u8 0, .int .u8 0, .int .u8 0, .int .u8 0, .int .u8 0, .int .u8 0, .int .u8 0, .int .u8 0, .int .u8 0, .int .u8 0, .int .u8 0, .int .u8 0, .int .u8 0, .int .u8 0, .int .u8 0, .int .u8 0, .int .u8 0, .int .u8 0, .int .u8 0, .int .u8 0, .int .u8 0, .int .u8 0, .int .u8 0, .int .u8 0, .int .u8 0, .int .u8 0, .int .u8 0, .int .u8 0, .int .u8 0, .int .u8 0, .int .u8 0, .int .u8 0, .int .u8 0, .int .u8 0, .int .u8 0, .int .u8 0, .int .u8 0, .int .u8 0, .int .u8 0, .int .u8 0, .int .u8 0, .int .u8 0, .int .u8 0, .int .u8 0, .int .u8 0, .int .u8 0, .int .u8 0, .int .u8 0, .int .u8 0, .int .u8 0, .int .u8 0, .int .u8 0, .int .u8 0, .int .u8 0, .int .u8 0, .int .u8 0, .int .u8 0, .int .u8 0, .int .u8 0, .int .u8 0, .int .u8 0, .int .u8 0, .int .u8 0, .int .u8 0, .int .u8 0, .int .u8 0, .int .u8 0, .int .u8 0, .int .u8 0, .int .u8 0, .int .u8 0, .int .u8 0, .int .u8 0, .int .u8 0, .int .u8 0, .int .u8 0, .int .u8 0, .int .u8 0, .int .u8 0, .int .u8 0, .int .u8 0, .int .u8 0, .int .u8 0]), .agg #[.int .i8 0, .int .i8 0, .int .i8 0, .int .i8 0, .int .i8 0, .int .i8 0], .agg #[.int .i8 0, .int .i8 0]], []⟩ 8 (by kernel_rfl) (by kernel_rfl) (by kernel_rfl) (by kernel_rfl)) ?_
  intro W base args ds gs before hval0 hW hcnd hsz0 _
  have hsz : (DataW.weightsEach Try.prog (Try.f5.params.toList ++ Rows.fnExactDriftOnceSpec.plain.varTypes Try.prog) (ds ++ gs)).all (· ≤ reachBytes) = true := hsz0
  have hval : ∀ (j : Nat) t v, Try.f5.params[j]? = some t → args[j]? = some v → Value.okWide Try.prog W .any base t v := hval0
  have hW' := hW
  obtain ⟨p, q, hA0, hV, rfl, hfz, hnd⟩ := hW
  have hA : DataW.TrodAll enc Try.prog W 0 (fun _ => true) true Try.f5.params.toList args.toList ds p := hA0
  rw [Try.params5] at hA hval hsz
  obtain ⟨v0, vs0, d0, ds0, p0, q0, hargs, rfl, rfl, h0, r0⟩ := trodAll_cons hA
  obtain ⟨v1, vs1, d1, ds1, p1, q1, rfl, rfl, rfl, h1, r1⟩ := trodAll_cons r0
  obtain ⟨v2, vs2, d2, ds2, p2, q2, rfl, rfl, rfl, h2, r2⟩ := trodAll_cons r1
  obtain ⟨v3, vs3, d3, ds3, p3, q3, rfl, rfl, rfl, h3, r3⟩ := trodAll_cons r2
  obtain ⟨rfl, rfl, rfl⟩ := trodAll_nil r3
  obtain rfl : args = #[v0, v1, v2, v3] := by cases args; simp_all
  obtain ⟨rfl, rfl⟩ := trodVars_none hV
  have k0_ := h0
  have lt0 : ∀ x ∈ p0, x.block < W.heap.size := by obtain ⟨m, hm⟩ := k0_; exact DataW.trod_lt m _ _ _ hm
  obtain ⟨o0, rfl⟩ : ∃ o : O26, v0 = VO26 o := by
    obtain ⟨z, e, hw⟩ := RL.flat_value 258 KSO26 (by kernel_rfl) (by kernel_rfl) (okWide_struct Try.underlying26 (hval 0 26 v0 rfl rfl)) h0
    obtain ⟨o, ho⟩ := openO26 z hw
    exact ⟨o, by first | (rw [e, ho]; done) | (rw [e, ho]; rfl)⟩
  have k1_ := h1
  have lt1 : ∀ x ∈ p1, x.block < W.heap.size := by obtain ⟨m, hm⟩ := k1_; exact DataW.trod_lt m _ _ _ hm
  obtain ⟨o1, rfl⟩ : ∃ o : O28, v1 = VO28 o := by
    obtain ⟨z, e, hw⟩ := RL.flat_value 256 KSO28 (by kernel_rfl) (by kernel_rfl) (RL.okWide_arr Try.underlying28 (hval 1 28 v1 rfl rfl)) h1
    obtain ⟨o, ho⟩ := openO28 z hw
    exact ⟨o, by first | (rw [e, ho]; done) | (rw [e, ho]; rfl)⟩
  have k2_ := h2
  have lt2 : ∀ x ∈ p2, x.block < W.heap.size := by obtain ⟨m, hm⟩ := k2_; exact DataW.trod_lt m _ _ _ hm
  obtain ⟨a2_0, a2_1, a2_2, a2_3, a2_4, a2_5, rfl, w2_0, w2_1, w2_2, w2_3, w2_4, w2_5⟩ : ∃ a2_0 a2_1 a2_2 a2_3 a2_4 a2_5 : Int, v2 = .agg #[.int .i8 a2_0, .int .i8 a2_1, .int .i8 a2_2, .int .i8 a2_3, .int .i8 a2_4, .int .i8 a2_5] ∧ (Lit.int .i8 a2_0).wf = true ∧ (Lit.int .i8 a2_1).wf = true ∧ (Lit.int .i8 a2_2).wf = true ∧ (Lit.int .i8 a2_3).wf = true ∧ (Lit.int .i8 a2_4).wf = true ∧ (Lit.int .i8 a2_5).wf = true := by
    obtain ⟨z, e, hw⟩ := RL.flat_value 6 [.i8, .i8, .i8, .i8, .i8, .i8] (by kernel_rfl) (by kernel_rfl) (okWide_struct Try.underlying38 (hval 2 38 v2 rfl rfl)) h2
    exact ⟨z 0, z 1, z 2, z 3, z 4, z 5, e, hw 0 (by omega), hw 1 (by omega), hw 2 (by omega), hw 3 (by omega), hw 4 (by omega), hw 5 (by omega)⟩
  have k3_ := h3
  have lt3 : ∀ x ∈ p3, x.block < W.heap.size := by obtain ⟨m, hm⟩ := k3_; exact DataW.trod_lt m _ _ _ hm
  obtain ⟨a3_0, a3_1, rfl, w3_0, w3_1⟩ : ∃ a3_0 a3_1 : Int, v3 = .agg #[.int .i8 a3_0, .int .i8 a3_1] ∧ (Lit.int .i8 a3_0).wf = true ∧ (Lit.int .i8 a3_1).wf = true := by
    obtain ⟨z, e, hw⟩ := RL.flat_value 2 [.i8, .i8] (by kernel_rfl) (by kernel_rfl) (okWide_struct Try.underlying47 (hval 3 47 v3 rfl rfl)) h3
    exact ⟨z 0, z 1, e, hw 0 (by omega), hw 1 (by omega)⟩
  clear hA0 hval0 hsz0 hsz
  obtain ⟨k, hp⟩ := Pure.FnExactDriftOnce o0 o1 a2_0 a2_1 a2_2 a2_3 a2_4 a2_5 a3_0 a3_1 w2_0 w2_1 w2_2 w2_3 w2_4 w2_5 w3_0 w3_1
  refine (laws_FnExactDriftOnce.calls k o0 o1 a2_0 a2_1 a2_2 a2_3 a2_4 a2_5 a3_0 a3_1 true W rfl  hp).mono fun e W' ⟨he, bel⟩ => ?_
  subst he
  exact ⟨_, rfl, _, _, _, [], _, [], hW', trodAll_mk1 (shut_bool Try.underlying4 _), (trodAll_cons_mk (Below.trod laidOut (by kernel_rfl) (of_decide_eq_true (by kernel_rfl)) k0_ bel lt0) (trodAll_cons_mk (Below.trod laidOut (by kernel_rfl) (of_decide_eq_true (by kernel_rfl)) k1_ bel lt1) (trodAll_cons_mk (Below.trod laidOut (by kernel_rfl) (of_decide_eq_true (by kernel_rfl)) k2_ bel lt2) (trodAll_cons_mk (Below.trod laidOut (by kernel_rfl) (of_decide_eq_true (by kernel_rfl)) k3_ bel lt3) trodAll_mk0)))), rfl, bel.frame _, fun h => by cases h⟩
set_option maxHeartbeats 8000000 in
theorem closed : joinedFacts Try.pinned.checked.prog 5 Try.f5 Rows.fnExactDriftOnceSpec Rows.fnExactDriftOnceRow = true := by
  kernel_rfl
theorem named : Try.pinned.checked.prog.funcNamed Rows.fnExactDriftOnceRow.func = some 5 := by kernel_rfl
theorem inst : Try.f5.isInstance Try.pinned.checked.prog Rows.fnExactDriftOnceRow.origin Rows.fnExactDriftOnceRow.targs := of_decide_eq_true (by kernel_rfl)
theorem wrapper : Try.f5.isWrapper Try.pinned.checked.prog Rows.fnExactDriftOnceRow.wrapper Rows.fnExactDriftOnceRow.mainSum := by unfold Func.isWrapper; first | (rw [if_pos (by decide +kernel)]; kernel_rfl) | (rw [if_neg (by decide +kernel)]; exact ⟨rfl, rfl⟩)
theorem over : Rows.fnExactDriftOnceRow.holds Try.pinned (OpenSpec.ofChange Rows.fnExactDriftOnceSpec) :=
  OpenClaim.holds_of_wide 5 Try.f5 rfl rfl rfl rfl rfl rfl rfl ⟨rfl, rfl, rfl, rfl, rfl⟩ rfl rfl rfl rfl rfl named Try.func5 closed inst wrapper
    (fun os started H enc _ => lifted os started H enc)
theorem proved : Rows.FnExactDriftOnceSaid := over
#print axioms proved
end Go.Proofs.Ytofpjfbkbmpnnaa.rowFnExactDriftOnce
namespace Go.Proofs.Ytofpjfbkbmpnnaa
theorem fnExactDriftOnce_holds : Rows.FnExactDriftOnceSaid := rowFnExactDriftOnce.proved
end Go.Proofs.Ytofpjfbkbmpnnaa
