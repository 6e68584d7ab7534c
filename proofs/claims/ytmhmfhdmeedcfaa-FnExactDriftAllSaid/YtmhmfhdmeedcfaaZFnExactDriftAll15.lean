/- FnExactDriftAll returns true, whatever the input, and leaves its arguments as they were. -/
import Derived.RowKit
import Derived.Below
import Derived.Deep.Draws
import Derived.Deep.AppendLies
import Derived.Maps.AppendAt
import Derived.OwnWalk
import Derived.Laws.BytesArg
import Derived.Laws.MakeOwn
import Derived.Laws.OwnMore
import Derived.Deep.OwnRows
import Derived.Tactics
import Derived.Lib.ConvBytes
import Derived.Laws.Slices
import Derived.WalkKit
import Derived.KernelRfl
import Derived.RowKit3
import Derived.Deep.LoopGhost
import Derived.Deep.QuietTactic
import Derived.BigQuiet
import Derived.WideLaws
import Derived.Deep.DeepCutAuto
import Derived.Deep.CutBlock
import Derived.Deep.RegionHeld3
import Derived.Laws.Rows
import Derived.Lib.AppendStr
import Derived.ArgAppend
import Derived.Laws.IdiomCopy
import Derived.OpenShut
import Derived.Test.YtmhmfhdmeedcfaaProg
import Derived.OrdersHeld
import Derived.Laws.BitsLemmas
import Derived.Laws.StructEq
import Derived.Deep.Slices
import Derived.ChangeSame
import Derived.ChangeArms
import Derived.ProofKit
import Derived.Laws.Tables
import Derived.Lib.Hide
import Derived.Laws.CopyOwn
import Derived.Laws.CopyRow
import Derived.Test.YtmhmfhdmeedcfaaRows
import Derived.ShutString
import Derived.ChangeOld
import Derived.SizedLaws
import Derived.Test.YtmhmfhdmeedcfaaZFnExactDriftAll1
import Derived.Test.YtmhmfhdmeedcfaaZFnExactDriftAll2
import Derived.Test.YtmhmfhdmeedcfaaZFnExactDriftAll3
import Derived.Test.YtmhmfhdmeedcfaaZFnExactDriftAll4
import Derived.Test.YtmhmfhdmeedcfaaZFnExactDriftAll5
import Derived.Test.YtmhmfhdmeedcfaaZFnExactDriftAll6
import Derived.Test.YtmhmfhdmeedcfaaZFnExactDriftAll7
import Derived.Test.YtmhmfhdmeedcfaaZFnExactDriftAll8
import Derived.Test.YtmhmfhdmeedcfaaZFnExactDriftAll9
import Derived.Test.YtmhmfhdmeedcfaaZFnExactDriftAll10
import Derived.Test.YtmhmfhdmeedcfaaZFnExactDriftAll11
import Derived.Test.YtmhmfhdmeedcfaaZFnExactDriftAll12
import Derived.Test.YtmhmfhdmeedcfaaZFnExactDriftAll13
import Derived.Test.YtmhmfhdmeedcfaaZFnExactDriftAll14
section
namespace Go.Proofs.Ytmhmfhdmeedcfaa.PL
open Go.RowKit M Go.Proofs.YtmhmfhdmeedcfaaW.PrintWords
theorem i8_wf {x : Int} (h : (Lit.int .i8 x).wf = true) : i8B x = true := by
 have := bounds_i8 h
 simp [i8B, inB]; omega
theorem wsm {x : Int} (h0 : -1000000000000 ≤ x) (h1 : x ≤ 1000000000000) : wrap64 x = x := by
 unfold wrap64; omega
theorem wnx {i : Nat} (h : i ≤ 10000000) : wrap64 ((i : Int) + 1) = ((i + 1 : Nat) : Int) := by
 rw [wsm (by omega) (by omega)]; omega
theorem i8_bounds {x : Int} (h : i8B x = true) : -128 ≤ x ∧ x ≤ 127 := inB_true h
end Go.Proofs.Ytmhmfhdmeedcfaa.PL
end
section
namespace Go.Proofs.Ytmhmfhdmeedcfaa.G.PB
open Go.RowKit M Go.Proofs.Ytmhmfhdmeedcfaa.PL Go.Proofs.YtmhmfhdmeedcfaaW.PrintWords Go.Proofs.YtmhmfhdmeedcfaaW.PrintMore
set_option linter.unusedSimpArgs false
set_option linter.unusedVariables false
abbrev Bay := Flat 258 .i8
def boatV (b : Bay) (x y ch lo dr ki : Int) : Bool := isW b x y && (inB ch 1 60 && (inB lo 0 5 && (inB dr 1 30 && inB ki 0 9)))
def b8 (x : Int) : Prop := -128 ≤ x ∧ x ≤ 127
theorem ws {x : Int} (h : b8 x) : wrap64 x = x := by obtain ⟨h0, h1⟩ := h; unfold wrap64; omega
theorem w8 {x : Int} (h0 : -128 ≤ x) (h1 : x ≤ 127) : IntKind.i8.wrap x = x := by
 unfold IntKind.wrap; simp [IntKind.signed, IntKind.bits]; omega
theorem spec_in (n lo hi : Int) : spec_l00In.f n lo hi = some (inB n lo hi) := by
 unfold spec_l00In.f inB
 by_cases h : lo ≤ n <;> simp [h]
theorem depO_in (b : Bay) {x y : Int} (hx0 : 0 ≤ x) (hx1 : x < 16) (hy0 : 0 ≤ y) (hy1 : y < 16) : depO b x y = some (dep b x y) := if_pos ⟨hx0, hx1, hy0, hy1⟩
theorem bay_small {b : Bay} (h : bayB b = true) : 1 ≤ b.z 0 ∧ b.z 0 ≤ 16 ∧ 1 ≤ b.z 1 ∧ b.z 1 ≤ 16 := by
 obtain ⟨h0, h1, _⟩ := bayB_true h; omega
theorem isP_16 {b : Bay} {x y : Int} (h : bayB b = true) (hp : isP b x y = true) : 0 ≤ x ∧ x < 16 ∧ 0 ≤ y ∧ y < 16 := by
 have := bay_small h; have := isP_bounds hp; omega
theorem isW_isP {b : Bay} {x y : Int} (h : isW b x y = true) : isP b x y = true ∧ 0 < dep b x y := by
 unfold isW at h; simp at h; exact h
theorem boatV_isW {b : Bay} {x y ch lo dr ki : Int} (h : boatV b x y ch lo dr ki = true) : isW b x y = true ∧ (1 ≤ ch ∧ ch ≤ 60) ∧ (0 ≤ lo ∧ lo ≤ 5) ∧ (1 ≤ dr ∧ dr ≤ 30) ∧ (0 ≤ ki ∧ ki ≤ 9) := by
 unfold boatV inB at h; simp at h; omega
theorem dep_30 {b : Bay} {x y : Int} (h : bayB b = true) (h0 : 0 ≤ x) (h1 : x < 16) (h2 : 0 ≤ y) (h3 : y < 16) : 0 ≤ dep b x y ∧ dep b x y ≤ 30 := by
 have := (bayB_true h).2.2 y.toNat (by omega) x.toNat (by omega)
 unfold okD at this
 rw [Bool.and_eq_true] at this
 have h4 := inB_true this.1
 rw [show ((x.toNat : Nat) : Int) = x by omega, show ((y.toNat : Nat) : Int) = y by omega] at h4
 exact h4
theorem impl_place (b : Bay) (x y : Int) : impl_isPlace.f b x y = some (isP b x y) := by
 unfold impl_isPlace.f isP
 by_cases h1 : 0 ≤ x <;> by_cases h2 : x < b.z 0 <;> by_cases h3 : 0 ≤ y <;> simp [h1, h2, h3]
theorem impl_water {b : Bay} (h : bayB b = true) (x y : Int) : impl_isWater.f b x y = some (isW b x y) := by
 unfold impl_isWater.f isW
 rw [impl_place]
 simp only [Option.bind_some]
 cases hp : isP b x y
 ·simp
 ·obtain ⟨h0, h1, h2, h3⟩ := isP_16 h hp
  unfold impl_depth.f
  rw [if_pos rfl, depO_in b h0 h1 h2 h3]
  simp
theorem impl_boat {b : Bay} (h : bayB b = true) (x y ch lo dr ki : Int) : impl_isBoat.f b x y ch lo dr ki = some (boatV b x y ch lo dr ki) := by
 unfold impl_isBoat.f boatV
 rw [impl_water h]
 simp only [Option.bind_some]
 cases isW b x y
 ·simp
 ·simp only [if_true, Bool.true_and, inB]
  by_cases h1 : 1 ≤ ch
  ·by_cases h2 : ch ≤ 60
   ·by_cases h3 : 0 ≤ lo
    ·by_cases h4 : lo ≤ 5
     ·by_cases h5 : 1 ≤ dr
      ·by_cases h6 : dr ≤ 30
       ·by_cases h7 : 0 ≤ ki <;> simp [h1, h2, h3, h4, h5, h6, h7]
       ·simp [h1, h2, h3, h4, h5, h6]
      ·simp [h1, h2, h3, h4, h5]
     ·simp [h1, h2, h3, h4]
    ·simp [h1, h2, h3]
   ·simp [h1, h2]
  ·simp [h1]
theorem spec_is (b : Bay) {x y : Int} (hx : b8 x) (hy : b8 y) : spec_l01Is.f b x y = some (isP b x y) := by
 have h0 : b8 (b.z 0) := bounds_i8 (b.ok 0 (by omega))
 have h1 : b8 (b.z 1) := bounds_i8 (b.ok 1 (by omega))
 unfold spec_l01Is.f
 rw [ws hx, ws hy, ws h0, ws h1, wsm (by have := h0.1; omega) (by have := h0.2; omega), wsm (by have := h1.1; omega) (by have := h1.2; omega), spec_in, spec_in, isP_in]
 simp only [Option.bind_some]
 cases inB x 0 (b.z 0 - 1) <;> simp
theorem spec_boat {b : Bay} (h : bayB b = true) {x y ch lo dr ki : Int} (hx : b8 x) (hy : b8 y) (hc : b8 ch) (hl : b8 lo) (hd : b8 dr) (hk : b8 ki) : spec_l01Boat.f b x y ch lo dr ki = some (boatV b x y ch lo dr ki) := by
 unfold spec_l01Boat.f boatV isW
 rw [spec_is b hx hy]
 simp only [Option.bind_some]
 cases hp : isP b x y
 ·simp
 ·obtain ⟨h0, h1, h2, h3⟩ := isP_16 h hp
  unfold spec_l01Depth.f
  rw [if_pos rfl, depO_in b h0 h1 h2 h3, ws hc, ws hl, ws hd, ws hk, spec_in, spec_in, spec_in, spec_in]
  simp only [Option.bind_some]
  by_cases hw : 0 < dep b x y
  ·rw [if_pos hw]
   cases inB ch 1 60 <;> cases inB lo 0 5 <;> cases inB dr 1 30 <;> simp [hw]
  ·rw [if_neg hw]; simp [hw]
end Go.Proofs.Ytmhmfhdmeedcfaa.G.PB
end
section
namespace Go.Proofs.Ytmhmfhdmeedcfaa.G.PB
open Go.RowKit M Go.Proofs.Ytmhmfhdmeedcfaa.PL Go.Proofs.YtmhmfhdmeedcfaaW.PrintWords Go.Proofs.YtmhmfhdmeedcfaaW.PrintMore
set_option linter.unusedSimpArgs false
set_option linter.unusedVariables false
abbrev Grd := Flat 256 .u8
def baseV (k : Int) : Int := if k = 0 then 2 else if k = 1 then 4 else if k = 2 then 6 else 1
theorem base_rd {k : Int} (h0 : 0 ≤ k) (h1 : k ≤ 3) : rd [2, 4, 6, 1] k = baseV k := by
 have : k = 0 ∨ k = 1 ∨ k = 2 ∨ k = 3 := by omega
 rcases this with rfl | rfl | rfl | rfl <;> rfl
theorem base_bounds (k : Int) : 1 ≤ baseV k ∧ baseV k ≤ 6 := by unfold baseV; split <;> (try split) <;> (try split) <;> omega
def holdV (b : Bay) (g : Grd) (x y ch : Int) : Int := baseV (g.z (y.toNat * 16 + x.toNat)) + (if 6 < ch / dep b x y then 6 else ch / dep b x y)
theorem ground_3 {b : Bay} {g : Grd} (h : groundsB b g = true) {x y : Int} (h0 : 0 ≤ x) (h1 : x < 16) (h2 : 0 ≤ y) (h3 : y < 16) : 0 ≤ g.z (y.toNat * 16 + x.toNat) ∧ g.z (y.toNat * 16 + x.toNat) ≤ 3 := by
 have := (groundsB_true h).2 y.toNat (by omega) x.toNat (by omega)
 unfold okG at this
 rw [Bool.and_eq_true] at this
 exact ⟨(bounds_u8 (g.ok (y.toNat * 16 + x.toNat) (by omega))).1, by simpa using this.1⟩
theorem impl_hold_tells {b : Bay} {g : Grd} (hg : groundsB b g = true) {x y ch : Int} (lo dr ki : Int) (hw : isW b x y = true) (hc0 : 0 ≤ ch) (hc1 : ch ≤ 127) : impl_hold.f b g x y ch lo dr ki = some (holdV b g x y ch) := by
 have hb := (groundsB_true hg).1
 obtain ⟨hp, hd⟩ := isW_isP hw
 obtain ⟨h0, h1, h2, h3⟩ := isP_16 hb hp
 obtain ⟨g0, g1⟩ := ground_3 hg h0 h1 h2 h3
 have q0 := Int.ediv_nonneg hc0 (Int.le_of_lt hd)
 have q1 : ch / dep b x y ≤ ch := Int.ediv_le_self _ hc0
 have hbb := base_bounds (g.z (y.toNat * 16 + x.toNat))
 unfold impl_hold.f impl_depth.f
 simp only [Option.bind_some]
 rw [if_pos h2, if_pos h3, if_pos h0, if_pos h1, if_pos g0, if_pos (by simp; omega), depO_in b h0 h1 h2 h3]
 simp only [Option.bind_some]
 rw [if_neg (by omega), base_rd g0 g1, wsm (x := ch) (by omega) (by omega), Int.tdiv_eq_ediv_of_nonneg hc0, wsm (x := ch / _) (by omega) (by omega)]
 unfold mn holdV
 split <;> (rw [wsm (by omega) (by omega)])
theorem spec_hold_tells {b : Bay} {g : Grd} (hg : groundsB b g = true) {x y ch : Int} (lo dr ki : Int) (hw : isW b x y = true) (hc0 : 0 ≤ ch) (hc1 : ch ≤ 127) : spec_l07Hold.f b g x y ch lo dr ki = some (holdV b g x y ch) := by
 have hb := (groundsB_true hg).1
 obtain ⟨hp, hd⟩ := isW_isP hw
 obtain ⟨h0, h1, h2, h3⟩ := isP_16 hb hp
 obtain ⟨g0, g1⟩ := ground_3 hg h0 h1 h2 h3
 have q0 := Int.ediv_nonneg hc0 (Int.le_of_lt hd)
 have q1 : ch / dep b x y ≤ ch := Int.ediv_le_self _ hc0
 have hbb := base_bounds (g.z (y.toNat * 16 + x.toNat))
 unfold spec_l07Hold.f spec_l01Depth.f spec_l00Min.f
 simp only [Option.bind_some]
 rw [depO_in b h0 h1 h2 h3]
 simp only [Option.bind_some]
 rw [if_neg (by omega), wsm (x := ch) (by omega) (by omega), Int.tdiv_eq_ediv_of_nonneg hc0, wsm (x := ch / _) (by omega) (by omega)]
 unfold holdV
 split <;> simp only [Option.bind_some, h2, h3, h0, h1, g0, if_true] <;> rw [if_pos (by simp; omega), base_rd g0 g1, wsm (by omega) (by omega)]
end Go.Proofs.Ytmhmfhdmeedcfaa.G.PB
end
section
namespace Go.Proofs.Ytmhmfhdmeedcfaa.G.PB
open Go.RowKit M Go.Proofs.Ytmhmfhdmeedcfaa.PL Go.Proofs.YtmhmfhdmeedcfaaW.PrintWords
set_option linter.unusedSimpArgs false
set_option linter.unusedVariables false
def windB (f t : Int) : Bool := inB f 0 12 && inB t 0 7
def vW (x : S78) : Bool := windB x.f0 x.f1
def okW (x : S78) : Bool := i8B x.f0 && i8B x.f1
theorem spec_wind {f t : Int} (hf : i8B f = true) (ht : i8B t = true) : spec_l07Wind.f f t = some (windB f t) := by
 obtain ⟨a, b⟩ := i8_bounds hf
 obtain ⟨c, d⟩ := i8_bounds ht
 unfold spec_l07Wind.f windB
 rw [wsm (by omega) (by omega), wsm (by omega) (by omega), spec_in, spec_in]
 cases inB f 0 12 <;> simp
theorem impl_wind (f t : Int) : impl_isWind.f f t = some (windB f t) := by
 unfold impl_isWind.f windB inB
 by_cases h1 : 0 ≤ f <;> by_cases h2 : f ≤ 12 <;> by_cases h3 : 0 ≤ t <;> simp [h1, h2, h3]
theorem rdW {l : List S78} {i : Nat} (h : i < l.length) : rd_T78 l (i : Int) = l[i] := by simp [rd_T78, h]
theorem spec_winds_loop (l : List S78) (hl : l.length ≤ 10000000) (hok : l.all okW = true) (d : Nat) : ∀ (k i : Nat), i + d = l.length → d < k → spec_l07Winds.l0 k l i = some ((l.drop i).all vW && decide (l.length ≤ 48)) := by
 induction d with
 | zero =>
  intro k i hi hk
  obtain ⟨k, rfl⟩ : ∃ m, k = m + 1 := ⟨k - 1, by omega⟩
  simp only [spec_l07Winds.l0]; rw [if_neg (by omega), List.drop_of_length_le (by omega)]; simp; omega
 | succ d ih =>
  intro k i hi hk
  obtain ⟨k, rfl⟩ : ∃ m, k = m + 1 := ⟨k - 1, by omega⟩
  have ho : okW (l[i]'(by omega)) = true := List.all_eq_true.mp hok _ (List.getElem_mem (by omega : i < l.length))
  simp only [okW, Bool.and_eq_true] at ho
  simp only [spec_l07Winds.l0]; rw [if_pos (by omega), if_pos (by omega), rdW (by omega), spec_wind ho.1 ho.2]
  rw [List.drop_eq_getElem_cons (by omega : i < l.length), List.all_cons]
  simp only [Option.bind_some]
  cases h : windB (l[i]'(by omega)).f0 (l[i]'(by omega)).f1
  ·simp [vW, h]
  ·rw [if_pos rfl, wnx (by omega), ih k (i + 1) (by omega) (by omega)]; simp [vW, h]
theorem impl_winds_loop (l : List S78) (hl : l.length ≤ 10000000) (d : Nat) : ∀ (k i : Nat), i + d = l.length → d < k → impl_ValidWinds.l0 k l l l.length i = some ((l.drop i).all vW && decide (l.length ≤ 48)) := by
 induction d with
 | zero =>
  intro k i hi hk
  obtain ⟨k, rfl⟩ : ∃ m, k = m + 1 := ⟨k - 1, by omega⟩
  simp only [impl_ValidWinds.l0]; rw [if_neg (by omega), List.drop_of_length_le (by omega)]; simp; omega
 | succ d ih =>
  intro k i hi hk
  obtain ⟨k, rfl⟩ : ∃ m, k = m + 1 := ⟨k - 1, by omega⟩
  simp only [impl_ValidWinds.l0]; rw [if_pos (by omega), if_pos (by omega), if_pos (by omega), rdW (by omega), impl_wind]
  rw [List.drop_eq_getElem_cons (by omega : i < l.length), List.all_cons]
  simp only [Option.bind_some]
  cases h : windB (l[i]'(by omega)).f0 (l[i]'(by omega)).f1
  ·simp [vW, h]
  ·rw [if_pos rfl, wnx (by omega), ih k (i + 1) (by omega) (by omega)]; simp [vW, h]
def windsV (l : List S78) : Bool := l.all vW && decide (l.length ≤ 48)
theorem spec_winds_tells {l : List S78} (hl : l.length ≤ 10000000) (hok : l.all okW = true) {k : Nat} (hk : l.length < k) : spec_l07Winds.f k l = some (windsV l) := by
 unfold spec_l07Winds.f windsV
 have := spec_winds_loop l hl hok l.length k 0 (by omega) hk
 rwa [List.drop_zero] at this
theorem impl_winds_tells {l : List S78} (hl : l.length ≤ 10000000) {k : Nat} (hk : l.length < k) : impl_ValidWinds.f k l = some (windsV l) := by
 unfold impl_ValidWinds.f windsV
 have := impl_winds_loop l hl l.length k 0 (by omega) hk
 rwa [List.drop_zero] at this
end Go.Proofs.Ytmhmfhdmeedcfaa.G.PB
end
section
namespace Go.Proofs.Ytmhmfhdmeedcfaa.G.PB
open Go.RowKit M Go.Proofs.Ytmhmfhdmeedcfaa.PL Go.Proofs.YtmhmfhdmeedcfaaW.PrintWords
set_option linter.unusedSimpArgs false
set_option linter.unusedVariables false
def validV (b : Bay) (g : Grd) (x y ch lo dr ki : Int) : Bool := groundsB b g && boatV b x y ch lo dr ki
theorem validV_true {b : Bay} {g : Grd} {x y ch lo dr ki : Int} (h : validV b g x y ch lo dr ki = true) : groundsB b g = true ∧ boatV b x y ch lo dr ki = true := by
 unfold validV at h; simpa using h
theorem spec_valid {b : Bay} {g : Grd} {x y ch lo dr ki : Int} {k : Nat} {l : List S78} {wv : Bool} (hw : spec_l07Winds.f k l = some wv) (hx : b8 x) (hy : b8 y) (hc : b8 ch) (hl : b8 lo) (hd : b8 dr) (hk : b8 ki) : spec_l07Valid.f k b g x y ch lo dr ki l = some (validV b g x y ch lo dr ki && wv) := by
 unfold spec_l07Valid.f spec_l07Grounds.f validV
 cases hg : groundsB b g
 ·simp
 ·simp only [Option.bind_some, if_true]
  rw [spec_boat (groundsB_true hg).1 hx hy hc hl hd hk]
  cases hb : boatV b x y ch lo dr ki
  ·simp
  ·simp [hw]
theorem b8_of {x : Int} (h : (Lit.int .i8 x).wf = true) : b8 x := bounds_i8 h
end Go.Proofs.Ytmhmfhdmeedcfaa.G.PB
end
section
namespace Go.Proofs.Ytmhmfhdmeedcfaa.G.PB
open Go.RowKit M Go.Proofs.Ytmhmfhdmeedcfaa.PL Go.Proofs.YtmhmfhdmeedcfaaW.PrintWords
set_option linter.unusedSimpArgs false
set_option linter.unusedVariables false
theorem impl_code {b : Bay} {g : Grd} {x y ch lo dr ki : Int} {k : Nat} {l : List S78} (hl : l.length ≤ 10000000) (hk : l.length < k) : impl_driftCode.f k b g x y ch lo dr ki l = some (if (validV b g x y ch lo dr ki && windsV l) = true then 0 else 1) := by
 unfold impl_driftCode.f impl_ValidGrounds.f validV
 cases hg : groundsB b g
 ·simp
 ·simp only [Option.bind_some, if_true]
  rw [impl_boat (groundsB_true hg).1]
  cases hb : boatV b x y ch lo dr ki
  ·simp
  ·simp only [Option.bind_some, if_true]
   rw [impl_winds_tells hl hk]
   cases windsV l <;> simp
end Go.Proofs.Ytmhmfhdmeedcfaa.G.PB
end
section
namespace Go.Proofs.Ytmhmfhdmeedcfaa.G.PS
open Go.RowKit Go.Proofs.Ytmhmfhdmeedcfaa.PL Go.Proofs.YtmhmfhdmeedcfaaW.PrintWords
set_option linter.unusedVariables false
set_option linter.unusedSimpArgs false
def convWind (x : S80) : S78 := ⟨x.f0, x.f1⟩
theorem toWind_loop (l : List S80) (hl : l.length ≤ 10000000) (d : Nat) : ∀ (k i : Nat) (o : List S78), o.length = l.length → o.take i = (l.map convWind).take i → i + d = l.length → d < k → laws_toWindS.l0 k l o i = some (l.map convWind) := by
 induction d with
 | zero =>
  intro k i o ho he hi hk
  obtain ⟨k, rfl⟩ : ∃ m, k = m + 1 := ⟨k - 1, by omega⟩
  rw [List.take_of_length_le (by omega), List.take_of_length_le (by rw [List.length_map]; omega)] at he
  simp only [laws_toWindS.l0]; rw [if_neg (by omega), he]
 | succ d ih =>
  intro k i o ho he hi hk
  obtain ⟨k, rfl⟩ : ∃ m, k = m + 1 := ⟨k - 1, by omega⟩
  simp only [laws_toWindS.l0]; rw [if_pos (by omega), if_pos (by omega)]
  simp only [laws_toWind.f, Option.bind_some]
  rw [if_pos (by omega), wnx (by omega)]
  refine ih k (i + 1) _ (by rw [List.length_set]; exact ho) ?_ (by omega) (by omega)
  rw [Int.toNat_natCast]
  have e2 : rd_T80 l (i : Int) = l[i]'(by omega) := by simp [rd_T80, show i < l.length by omega]
  simp only [e2]
  rw [List.take_add_one, List.take_set_of_le (Nat.le_refl _), List.getElem?_set_self (by omega), he, List.take_add_one (l := l.map convWind), List.getElem?_eq_getElem (by rw [List.length_map]; omega), List.getElem_map]
  rfl
theorem toWind_tells {l : List S80} (hl : l.length ≤ 1048576) {k : Nat} (hk : l.length < k) : laws_toWindS.f k l = some (l.map convWind) := by
 unfold laws_toWindS.f
 rw [if_pos (by omega), if_pos (by omega)]
 exact toWind_loop l (by omega) l.length k 0 _ (by simp) (by simp) (by omega) hk
theorem eqWind_loop (l : List S78) (hl : l.length ≤ 10000000) (d : Nat) : ∀ (k i : Nat), i + d = l.length → d < k → laws_eqWindS.l0 k l l i = some true := by
 induction d with
 | zero =>
  intro k i hi hk
  obtain ⟨k, rfl⟩ : ∃ m, k = m + 1 := ⟨k - 1, by omega⟩
  simp only [laws_eqWindS.l0]; rw [if_neg (by omega)]
 | succ d ih =>
  intro k i hi hk
  obtain ⟨k, rfl⟩ : ∃ m, k = m + 1 := ⟨k - 1, by omega⟩
  simp only [laws_eqWindS.l0]; rw [if_pos (by omega), if_pos (by omega), if_pos (by omega)]
  simp only [laws_eqWind.f, if_true, Option.bind_some]
  rw [wnx (by omega)]
  exact ih k (i + 1) (by omega) (by omega)
theorem eqWind_tells {l : List S78} (hl : l.length ≤ 10000000) {k : Nat} (hk : l.length < k) : laws_eqWindS.f k l l = some true := by
 unfold laws_eqWindS.f; rw [if_pos rfl]; exact eqWind_loop l hl l.length k 0 (by omega) hk
end Go.Proofs.Ytmhmfhdmeedcfaa.G.PS
end
section
namespace Go.Proofs.Ytmhmfhdmeedcfaa.G.PB
open Go.RowKit M Go.Proofs.Ytmhmfhdmeedcfaa.PL Go.Proofs.Ytmhmfhdmeedcfaa.G.PS Go.Proofs.YtmhmfhdmeedcfaaW.PrintWords
set_option linter.unusedSimpArgs false
set_option linter.unusedVariables false
theorem winds_ok {l : List S80} (h : ∀ x ∈ l, ∃ z : Nat → Int, x = (⟨z 0, z 1⟩ : S80) ∧ ∀ j, j < 2 → (Lit.int (([.i8, .i8] : List IntKind).getD j .i64) (z j)).wf = true) : (l.map convWind).all okW = true := by
 rw [List.all_eq_true]
 intro y hy
 rw [List.mem_map] at hy
 obtain ⟨x, hx, rfl⟩ := hy
 obtain ⟨z, rfl, hz⟩ := h x hx
 simp [okW, convWind, i8_wf (hz 0 (by omega)), i8_wf (hz 1 (by omega))]
theorem sz_tellsW {n : Nat} (h : n ≤ 9223372036854775807) : wrap64 (1048576 - (n : Int)) = 1048576 - (n : Int) := by unfold wrap64; omega
end Go.Proofs.Ytmhmfhdmeedcfaa.G.PB
end
section
namespace Go.Proofs.Ytmhmfhdmeedcfaa.G.PS
open Go.RowKit Go.Proofs.Ytmhmfhdmeedcfaa.PL Go.Proofs.YtmhmfhdmeedcfaaW.PrintWords
set_option linter.unusedVariables false
set_option linter.unusedSimpArgs false
theorem markWind_loop (L : Nat) (hl : L ≤ 10000000) (d : Nat) : ∀ (k i : Nat) (o : List S78) (a : Int), o.length = L → 0 ≤ a → a ≤ 1 + 2 * i → i + d = L → d < k → ∃ r, laws_markWindS.l0 k o a i = some (a + 2 * d, r) := by
 induction d with
 | zero =>
  intro k i o a ho ha0 ha1 hi hk
  obtain ⟨k, rfl⟩ : ∃ m, k = m + 1 := ⟨k - 1, by omega⟩
  exact ⟨o, by simp only [laws_markWindS.l0]; rw [if_neg (by omega)]; simp⟩
 | succ d ih =>
  intro k i o a ho ha0 ha1 hi hk
  obtain ⟨k, rfl⟩ : ∃ m, k = m + 1 := ⟨k - 1, by omega⟩
  have e : wrap64 ((wrap64 (a + 1)) + 1) = a + 2 := by rw [wsm (x := a + 1) (by omega) (by omega), wsm (x := a + 1 + 1) (by omega) (by omega)]; omega
  simp only [laws_markWindS.l0]; rw [if_pos (by omega), if_pos (by omega)]
  simp only [Option.bind_some]
  rw [e, wnx (by omega), show a + 2 * ((d + 1 : Nat) : Int) = a + 2 + 2 * (d : Int) by omega]
  exact ih k (i + 1) _ (a + 2) (by simp only [List.length_set]; exact ho) (by omega) (by omega) (by omega) (by omega)
theorem markWind_tells {l : List S78} (hl : l.length ≤ 10000000) {k : Nat} (hk : l.length < k) : ∃ r, laws_markWindS.f k l 1 = some (1 + 2 * (l.length : Int), r) := by
 obtain ⟨r, hr⟩ := markWind_loop l.length hl l.length k 0 l 1 rfl (by omega) (by omega) (by omega) hk
 exact ⟨r, hr⟩
end Go.Proofs.Ytmhmfhdmeedcfaa.G.PS
end
section
namespace Go.Proofs.Ytmhmfhdmeedcfaa.G.PB
open Go.RowKit Go.Proofs.Ytmhmfhdmeedcfaa.PL Go.Proofs.YtmhmfhdmeedcfaaW.PrintWords
set_option linter.unusedSimpArgs false
set_option linter.unusedVariables false
abbrev PlM := S42
theorem eqPlace0_loop (l : List PlM) (hl : l.length ≤ 10000000) (d : Nat) : ∀ (k i : Nat), i + d = l.length → d < k → laws_eqPlaceS.l0 k l l i = some true := by
 induction d with
 | zero =>
  intro k i hi hk
  obtain ⟨k, rfl⟩ : ∃ m, k = m + 1 := ⟨k - 1, by omega⟩
  simp only [laws_eqPlaceS.l0]; rw [if_neg (by omega)]
 | succ d ih =>
  intro k i hi hk
  obtain ⟨k, rfl⟩ : ∃ m, k = m + 1 := ⟨k - 1, by omega⟩
  simp only [laws_eqPlaceS.l0]; rw [if_pos (by omega), if_pos (by omega), if_pos (by omega)]
  simp only [laws_eqPlace.f, if_true, Option.bind_some]
  rw [wnx (by omega)]
  exact ih k (i + 1) (by omega) (by omega)
theorem eqP_tells {l : List PlM} (hl : l.length ≤ 10000000) {k : Nat} (hk : l.length < k) : laws_eqPlaceS.f k l l = some true := by
 unfold laws_eqPlaceS.f; rw [if_pos rfl]; exact eqPlace0_loop l hl l.length k 0 (by omega) hk
def upP (i : Nat) : PlM := ⟨IntKind.i8.wrap (1 + 2 * (i : Int)), IntKind.i8.wrap (2 + 2 * (i : Int))⟩
def upsP (m : Nat) : List PlM := (List.range m).map upP
theorem upsP_length (m : Nat) : (upsP m).length = m := by simp [upsP]
theorem upsP_succ (m : Nat) : upsP (m + 1) = upsP m ++ [upP m] := by simp [upsP, List.range_succ]
theorem markP_loop (l : List PlM) (hl : l.length ≤ 10000000) (d : Nat) : ∀ (k i : Nat), i + d = l.length → d < k → laws_markPlaceS.l0 k (upsP i ++ l.drop i) (1 + 2 * i) i = some (1 + 2 * (l.length : Int), upsP l.length) := by
 induction d with
 | zero =>
  intro k i hi hk
  obtain ⟨k, rfl⟩ : ∃ m, k = m + 1 := ⟨k - 1, by omega⟩
  have e : i = l.length := by omega
  subst e
  simp only [laws_markPlaceS.l0]; rw [if_neg (by simp [upsP_length])]; simp
 | succ d ih =>
  intro k i hi hk
  obtain ⟨k, rfl⟩ : ∃ m, k = m + 1 := ⟨k - 1, by omega⟩
  have hlen : (upsP i ++ l.drop i).length = l.length := by simp [upsP_length]; omega
  have hset : ∀ v, (upsP i ++ l.drop i).set i v = upsP i ++ v :: l.drop (i + 1) := fun v => by
   rw [List.set_append_right _ _ (by rw [upsP_length]; omega), upsP_length, Nat.sub_self, List.drop_eq_getElem_cons (by omega : i < l.length), List.set_cons_zero]
  have hset2 : ∀ u v, (upsP i ++ u :: l.drop (i + 1)).set i v = upsP i ++ v :: l.drop (i + 1) := fun u v => by
   rw [List.set_append_right _ _ (by rw [upsP_length]; omega), upsP_length, Nat.sub_self, List.set_cons_zero]
  have hrd : ∀ u, rd_T42 (upsP i ++ u :: l.drop (i + 1)) (i : Int) = u := fun u => by
   unfold rd_T42
   rw [Int.toNat_natCast, List.getD_eq_getElem?_getD, List.getElem?_append_right (by rw [upsP_length]; omega), upsP_length, Nat.sub_self]
   rfl
  simp only [laws_markPlaceS.l0]; rw [hlen, if_pos (by omega), if_pos (by omega)]
  simp only [Option.bind_some]
  rw [Int.toNat_natCast, hset, hrd, hset2, wnx (by omega), wsm (x := 1 + 2 * (i : Int) + 1) (by omega) (by omega), wsm (by omega) (by omega)]
  have := ih k (i + 1) (by omega) (by omega)
  rw [upsP_succ, List.append_assoc] at this
  rw [show (1 : Int) + 2 * i + 1 + 1 = 1 + 2 * ((i + 1 : Nat) : Int) by omega, show (1 : Int) + 2 * i + 1 = 2 + 2 * i by omega]
  exact this
theorem markP_tells {l : List PlM} (hl : l.length ≤ 10000000) {k : Nat} (hk : l.length < k) : laws_markPlaceS.f k l 1 = some (1 + 2 * (l.length : Int), upsP l.length) := by
 have := markP_loop l hl l.length k 0 (by omega) hk
 simpa [upsP, laws_markPlaceS.f] using this
theorem heldP_loop (m : Nat) (hl : m ≤ 10000000) (d : Nat) : ∀ (k i : Nat), i + d = m → d < k → laws_heldPlaceS.l0 k (upsP m) (1 + 2 * i) i = some (1 + 2 * (m : Int)) := by
 induction d with
 | zero =>
  intro k i hi hk
  obtain ⟨k, rfl⟩ : ∃ m, k = m + 1 := ⟨k - 1, by omega⟩
  have e : i = m := by omega
  subst e
  simp only [laws_heldPlaceS.l0]; rw [if_neg (by rw [upsP_length]; omega)]
 | succ d ih =>
  intro k i hi hk
  obtain ⟨k, rfl⟩ : ∃ m, k = m + 1 := ⟨k - 1, by omega⟩
  have hr : rd_T42 (upsP m) (i : Int) = upP i := by
   have : i < m := by omega
   simp [rd_T42, upsP, this]
  simp only [laws_heldPlaceS.l0]; rw [if_pos (by rw [upsP_length]; omega), if_pos (by omega), hr, wnx (by omega), wsm (x := 1 + 2 * (i : Int) + 1) (by omega) (by omega), wsm (by omega) (by omega)]
  have := ih k (i + 1) (by omega) (by omega)
  rw [show (1 : Int) + 2 * i + 1 + 1 = 1 + 2 * ((i + 1 : Nat) : Int) by omega, show (1 : Int) + 2 * i + 1 = 2 + 2 * i by omega]
  simp only [upP, if_true]
  exact this
theorem heldP_tells {m : Nat} (hl : m ≤ 10000000) {k : Nat} (hk : m < k) : laws_heldPlaceS.f k (upsP m) 1 = some (1 + 2 * (m : Int)) := by
 have := heldP_loop m hl m k 0 (by omega) hk
 simpa [laws_heldPlaceS.f] using this
end Go.Proofs.Ytmhmfhdmeedcfaa.G.PB
end
section
namespace Go.Proofs.Ytmhmfhdmeedcfaa.G.PB
open Go.RowKit M Go.Proofs.Ytmhmfhdmeedcfaa.PL Go.Proofs.YtmhmfhdmeedcfaaW.PrintWords Go.Proofs.YtmhmfhdmeedcfaaW.PrintMore
set_option linter.unusedSimpArgs false
set_option linter.unusedVariables false
def dxV (sd : Int) : Int := rd [0, 1, 1, 1, 0, (-1), (-1), (-1)] sd
def dyV (sd : Int) : Int := rd [(-1), (-1), 0, 1, 1, 1, 0, (-1)] sd
theorem sd_cases {sd : Int} (h0 : 0 ≤ sd) (h1 : sd ≤ 7) : sd = 0 ∨ sd = 1 ∨ sd = 2 ∨ sd = 3 ∨ sd = 4 ∨ sd = 5 ∨ sd = 6 ∨ sd = 7 := by omega
theorem dx_1 {sd : Int} (h0 : 0 ≤ sd) (h1 : sd ≤ 7) : (-1 ≤ dxV sd ∧ dxV sd ≤ 1) ∧ (-1 ≤ dyV sd ∧ dyV sd ≤ 1) := by
 rcases sd_cases h0 h1 with rfl | rfl | rfl | rfl | rfl | rfl | rfl | rfl <;> decide
theorem spec_side {x y sd : Int} (hx0 : 0 ≤ x) (hx1 : x < 16) (hy0 : 0 ≤ y) (hy1 : y < 16) (h0 : 0 ≤ sd) (h1 : sd ≤ 7) {k : Nat} (hk : 6 ≤ k) : spec_l07Side.f k x y sd = some (x + dxV sd, y + dyV sd) := by
 obtain ⟨m, rfl⟩ : ∃ m, k = m + 1 + 1 + 1 + 1 + 1 + 1 := ⟨k - 6, by omega⟩
 have e1 : IntKind.i8.wrap (y - 1) = y + -1 := by rw [w8 (by omega) (by omega)]; omega
 have e2 : IntKind.i8.wrap (y + 1) = y + 1 := w8 (by omega) (by omega)
 have e3 : IntKind.i8.wrap (x + 1) = x + 1 := w8 (by omega) (by omega)
 have e4 : IntKind.i8.wrap (x - 1) = x + -1 := by rw [w8 (by omega) (by omega)]; omega
 have d0 : dxV 0 = 0 ∧ dxV 1 = 1 ∧ dxV 2 = 1 ∧ dxV 3 = 1 ∧ dxV 4 = 0 ∧ dxV 5 = -1 ∧ dxV 6 = -1 ∧ dxV 7 = -1 := by decide
 have d1 : dyV 0 = -1 ∧ dyV 1 = -1 ∧ dyV 2 = 0 ∧ dyV 3 = 1 ∧ dyV 4 = 1 ∧ dyV 5 = 1 ∧ dyV 6 = 0 ∧ dyV 7 = -1 := by decide
 rcases sd_cases h0 h1 with rfl | rfl | rfl | rfl | rfl | rfl | rfl | rfl <;> simp [spec_l07Side.f, spec_l07Side.j0, spec_l07Side.j1, spec_l07Side.j2, spec_l07Side.j3, spec_l07Side.j4, e1, e2, e3, e4, d0, d1]
def driftV (b : Bay) (g : Grd) (x y ch f sd : Int) : Int × Int × Bool × Bool := if f ≤ holdV b g x y ch then (x, y, false, false) else if isW b (x + dxV sd) (y + dyV sd) = true then (x + dxV sd, y + dyV sd, true, false) else (x, y, true, true)
theorem impl_drift_tells {b : Bay} {g : Grd} (hg : groundsB b g = true) {x y ch : Int} (lo dr ki : Int) (hw : isW b x y = true) (hc0 : 0 ≤ ch) (hc1 : ch ≤ 127) {f sd : Int} (hf : b8 f) (h0 : 0 ≤ sd) (h1 : sd ≤ 7) :
  impl_drift.f b g x y ch lo dr ki f sd = some ((driftV b g x y ch f sd).1, (driftV b g x y ch f sd).2.1, ch, lo, dr, ki, (driftV b g x y ch f sd).2.2.1, (driftV b g x y ch f sd).2.2.2) := by
 have hb := (groundsB_true hg).1
 obtain ⟨x0, x1, y0, y1⟩ := isP_16 hb (isW_isP hw).1
 obtain ⟨⟨a, b'⟩, c, d⟩ := dx_1 h0 h1
 unfold impl_drift.f driftV
 rw [impl_hold_tells hg lo dr ki hw hc0 hc1]
 simp only [Option.bind_some]
 rw [ws hf]
 by_cases hh : f ≤ holdV b g x y ch
 ·rw [if_pos hh, if_pos hh]
 ·rw [if_neg hh, if_neg hh, if_pos h0, if_pos (by simp; omega), if_pos (by simp; omega), show rd [0, 1, 1, 1, 0, (-1), (-1), (-1)] sd = dxV sd from rfl, show rd [(-1), (-1), 0, 1, 1, 1, 0, (-1)] sd = dyV sd from rfl, w8 (by omega) (by omega), w8 (by omega) (by omega), impl_water hb]
  simp only [Option.bind_some]
  cases isW b (x + dxV sd) (y + dyV sd) <;> simp
theorem spec_once_tells {b : Bay} {g : Grd} (hg : groundsB b g = true) {x y ch : Int} (lo dr ki : Int) (hw : isW b x y = true) (hc0 : 0 ≤ ch) (hc1 : ch ≤ 127) {f sd : Int} (hf : b8 f) (h0 : 0 ≤ sd) (h1 : sd ≤ 7) {k : Nat} (hk : 6 ≤ k) :
  spec_l07Once.f k b g x y ch lo dr ki f sd = some ((driftV b g x y ch f sd).1, (driftV b g x y ch f sd).2.1, ch, lo, dr, ki, (driftV b g x y ch f sd).2.2.2) := by
 have hb := (groundsB_true hg).1
 obtain ⟨x0, x1, y0, y1⟩ := isP_16 hb (isW_isP hw).1
 obtain ⟨⟨a, b'⟩, c, d⟩ := dx_1 h0 h1
 unfold spec_l07Once.f spec_l07Drags.f driftV
 rw [spec_hold_tells hg lo dr ki hw hc0 hc1]
 simp only [Option.bind_some]
 rw [ws hf]
 by_cases hh : f ≤ holdV b g x y ch
 ·rw [if_pos hh, if_neg (by simp; omega)]
 ·rw [if_neg hh, if_pos (by simp; omega), spec_side x0 x1 y0 y1 h0 h1 hk]
  simp only [Option.bind_some]
  rw [spec_is b ⟨by omega, by omega⟩ ⟨by omega, by omega⟩]
  simp only [Option.bind_some, isW]
  by_cases hp : isP b (x + dxV sd) (y + dyV sd) = true
  case neg =>
   rw [if_neg hp]
   have hp' : isP b (x + dxV sd) (y + dyV sd) = false := by simpa using hp
   simp [hp']
  case pos =>
   obtain ⟨p0, p1, p2, p3⟩ := isP_16 hb hp
   have dd := dep_30 hb p0 p1 p2 p3
   unfold spec_l01Depth.f
   rw [if_pos hp, depO_in b p0 p1 p2 p3]
   simp only [Option.bind_some]
   by_cases hz : dep b (x + dxV sd) (y + dyV sd) = 0
   ·simp [hp, hz]
   ·have : 0 < dep b (x + dxV sd) (y + dyV sd) := by omega
    simp [hp, hz, this]
end Go.Proofs.Ytmhmfhdmeedcfaa.G.PB
end
section
namespace Go.Proofs.Ytmhmfhdmeedcfaa.G.PB
open Go.RowKit M Go.Proofs.Ytmhmfhdmeedcfaa.PL Go.Proofs.YtmhmfhdmeedcfaaW.PrintWords Go.Proofs.YtmhmfhdmeedcfaaW.PrintMore
set_option linter.unusedSimpArgs false
set_option linter.unusedVariables false
abbrev WdD := S78
abbrev PlD := S42
def dragsV (b : Bay) (g : Grd) (x y ch : Int) (ag : Bool) (f : Int) : Bool := !ag && decide (holdV b g x y ch < f)
def hourV (b : Bay) (g : Grd) (x y ch : Int) (ag : Bool) (f sd : Int) : Int × Int × Bool :=
 if ag = true then (x, y, true) else ((driftV b g x y ch f sd).1, (driftV b g x y ch f sd).2.1, (driftV b g x y ch f sd).2.2.2)
theorem driftV_isW {b : Bay} {g : Grd} {x y ch f sd : Int} (hw : isW b x y = true) : isW b (driftV b g x y ch f sd).1 (driftV b g x y ch f sd).2.1 = true := by
 unfold driftV
 split
 ·exact hw
 ·split
  ·assumption
  ·exact hw
theorem hourV_isW {b : Bay} {g : Grd} {x y ch f sd : Int} {ag : Bool} (hw : isW b x y = true) : isW b (hourV b g x y ch ag f sd).1 (hourV b g x y ch ag f sd).2.1 = true := by
 unfold hourV
 split
 ·exact hw
 ·exact driftV_isW hw
theorem driftV_moves {b : Bay} {g : Grd} {x y ch f sd : Int} : (driftV b g x y ch f sd).2.2.1 = decide (holdV b g x y ch < f) := by
 unfold driftV
 by_cases hh : f ≤ holdV b g x y ch
 ·rw [if_pos hh]; simp; omega
 ·rw [if_neg hh]; split <;> (simp; omega)
theorem driftV_stays {b : Bay} {g : Grd} {x y ch f sd : Int} (hh : f ≤ holdV b g x y ch) : driftV b g x y ch f sd = (x, y, false, false) := by
 unfold driftV; rw [if_pos hh]
theorem spec_drags_tells {b : Bay} {g : Grd} (hg : groundsB b g = true) {x y ch : Int} (lo dr ki : Int) (hw : isW b x y = true) (hc0 : 0 ≤ ch) (hc1 : ch ≤ 127) {f : Int} (sd : Int) (hf : b8 f) :
  spec_l07Drags.f b g x y ch lo dr ki f sd = some (decide (holdV b g x y ch < f)) := by
 unfold spec_l07Drags.f
 rw [spec_hold_tells hg lo dr ki hw hc0 hc1]
 simp only [Option.bind_some]
 rw [ws hf]
def firstV (b : Bay) (g : Grd) (x y ch : Int) (ag : Bool) (f fi n : Int) : Int := if dragsV b g x y ch ag f = true then (if fi < 0 then n else fi) else fi
def groundV (b : Bay) (g : Grd) (x y ch : Int) (ag : Bool) (f sd gr n : Int) : Int := if ag = true then gr else if (driftV b g x y ch f sd).2.2.2 = true then n else gr
theorem spec_hour_tells {b : Bay} {g : Grd} (hg : groundsB b g = true) {x y ch : Int} (lo dr ki : Int) (hw : isW b x y = true) (hc0 : 0 ≤ ch) (hc1 : ch ≤ 127) (ag : Bool) (fi gr n : Int) (v : Value) {f sd : Int} (hf : b8 f) (h0 : 0 ≤ sd) (h1 : sd ≤ 7) {k : Nat} (hk : 20 ≤ k) :
  spec_l07Drift_hour.f k x y ch lo dr ki ag fi gr v b g f sd n = some ((hourV b g x y ch ag f sd).1, (hourV b g x y ch ag f sd).2.1, ch, lo, dr, ki, (hourV b g x y ch ag f sd).2.2, firstV b g x y ch ag f fi n, groundV b g x y ch ag f sd gr n) := by
 obtain ⟨m, rfl⟩ : ∃ m, k = m + 6 + 1 + 1 + 1 + 1 := ⟨k - 10, by omega⟩
 unfold spec_l07Drift_hour.f hourV firstV groundV dragsV
 cases ag
 ·rw [if_neg (by simp), spec_drags_tells hg lo dr ki hw hc0 hc1 sd hf]
  simp only [Option.bind_some, spec_l07Drift_hour.j0]
  by_cases hh : f ≤ holdV b g x y ch
  ·rw [if_neg (by simp; omega), driftV_stays hh, spec_l07Drift_hour.j3]
   have : ¬ holdV b g x y ch < f := by omega
   simp [this]
  ·have hlt : holdV b g x y ch < f := by omega
   rw [if_pos (by simp; omega)]
   simp only [spec_l07Drift_hour.j1]
   rw [spec_once_tells hg lo dr ki hw hc0 hc1 hf h0 h1 (by omega)]
   simp only [Option.bind_some, spec_l07Drift_hour.j2, spec_l07Drift_hour.j3]
   by_cases hfi : fi < 0 <;> cases (driftV b g x y ch f sd).2.2.2 <;> simp [hlt, hfi]
 ·rw [if_pos rfl, spec_l07Drift_hour.j0, if_neg (by simp), spec_l07Drift_hour.j3]
  simp
theorem impl_hour_tells {b : Bay} {g : Grd} (hg : groundsB b g = true) {x y ch : Int} (lo dr ki : Int) (hw : isW b x y = true) (hc0 : 0 ≤ ch) (hc1 : ch ≤ 127) (ag : Bool) {f sd : Int} (hf : b8 f) (h0 : 0 ≤ sd) (h1 : sd ≤ 7) :
  impl_drifting_hour.f x y ch lo dr ki ag b g f sd = some (dragsV b g x y ch ag f, (hourV b g x y ch ag f sd).1, (hourV b g x y ch ag f sd).2.1, ch, lo, dr, ki, (hourV b g x y ch ag f sd).2.2) := by
 unfold impl_drifting_hour.f hourV dragsV
 cases ag
 ·rw [if_neg (by simp), impl_drift_tells hg lo dr ki hw hc0 hc1 hf h0 h1]
  simp only [Option.bind_some]
  rw [driftV_moves]
  simp
 ·simp
def traceV (b : Bay) (g : Grd) (ch : Int) : List WdD → Int → Int → Bool → List PlD
 | [], _, _, _ => []
 | w :: ws, x, y, ag => ⟨(hourV b g x y ch ag w.f0 w.f1).1, (hourV b g x y ch ag w.f0 w.f1).2.1⟩ :: traceV b g ch ws (hourV b g x y ch ag w.f0 w.f1).1 (hourV b g x y ch ag w.f0 w.f1).2.1 (hourV b g x y ch ag w.f0 w.f1).2.2
theorem traceV_length (b : Bay) (g : Grd) (ch : Int) : ∀ (l : List WdD) (x y : Int) (ag : Bool), (traceV b g ch l x y ag).length = l.length
 | [], _, _, _ => rfl
 | w :: ws, _, _, _ => by simp [traceV, traceV_length b g ch ws]
theorem vW_b8 {w : WdD} (h : vW w = true) : b8 w.f0 ∧ 0 ≤ w.f1 ∧ w.f1 ≤ 7 := by
 unfold vW windB inB at h; simp at h; unfold b8; omega
theorem spec_trace {b : Bay} {g : Grd} (hg : groundsB b g = true) {ch : Int} (lo dr ki : Int) (hc0 : 0 ≤ ch) (hc1 : ch ≤ 127) :
  ∀ (l : List WdD) (n x y : Int) (ag : Bool) (fi gr : Int) (acc : List PlD), l.all vW = true → isW b x y = true → acc.length + l.length < 1000000 →
   ∃ x' y' ag' fi' gr', allDrift b g l n x y ch lo dr ki ag fi gr acc = some (x', y', ch, lo, dr, ki, ag', fi', gr', acc ++ traceV b g ch l x y ag)
 | [], n, x, y, ag, fi, gr, acc, _, _, _ => ⟨x, y, ag, fi, gr, by simp [allDrift, traceV]⟩
 | w :: ws, n, x, y, ag, fi, gr, acc, hv, hw, hl => by
  simp only [List.all_cons, Bool.and_eq_true] at hv
  simp only [List.length_cons] at hl
  obtain ⟨b1, b2, b3⟩ := vW_b8 hv.1
  obtain ⟨x', y', ag', fi', gr', e⟩ := spec_trace hg lo dr ki hc0 hc1 ws (n + 1) (hourV b g x y ch ag w.f0 w.f1).1 (hourV b g x y ch ag w.f0 w.f1).2.1 (hourV b g x y ch ag w.f0 w.f1).2.2 (firstV b g x y ch ag w.f0 fi n) (groundV b g x y ch ag w.f0 w.f1 gr n) (acc ++ [⟨(hourV b g x y ch ag w.f0 w.f1).1, (hourV b g x y ch ag w.f0 w.f1).2.1⟩]) hv.2 (hourV_isW hw) (by simp; omega)
  refine ⟨x', y', ag', fi', gr', ?_⟩
  rw [allDrift, spec_hour_tells hg lo dr ki hw hc0 hc1 ag fi gr n _ b1 b2 b3 (by omega)]
  simp only [Option.bind_some]
  rw [if_pos (by omega), e, traceV]
  simp
theorem impl_trace {b : Bay} {g : Grd} (hg : groundsB b g = true) {ch : Int} (lo dr ki : Int) (hc0 : 0 ≤ ch) (hc1 : ch ≤ 127) {L : List WdD} (hL : L.length ≤ 48) (hv : L.all vW = true) (d : Nat) :
  ∀ (k i : Nat) (x y : Int) (ag : Bool) (acc : List PlD), i + d = L.length → acc.length ≤ i → d < k → isW b x y = true →
   impl_driftAll.l0 k acc L L.length i b g x y ch lo dr ki ag = some (acc ++ traceV b g ch (L.drop i) x y ag) := by
 induction d with
 | zero =>
  intro k i x y ag acc hi ha hk hw
  obtain ⟨k, rfl⟩ : ∃ m, k = m + 1 := ⟨k - 1, by omega⟩
  simp only [impl_driftAll.l0]; rw [if_neg (by omega), List.drop_of_length_le (by omega)]; simp [traceV]
 | succ d ih =>
  intro k i x y ag acc hi ha hk hw
  obtain ⟨k, rfl⟩ : ∃ m, k = m + 1 := ⟨k - 1, by omega⟩
  obtain ⟨b1, b2, b3⟩ := vW_b8 (List.all_eq_true.mp hv _ (List.getElem_mem (by omega : i < L.length)))
  simp only [impl_driftAll.l0]; rw [if_pos (by omega), if_pos (by omega), if_pos (by omega), rdW (by omega), impl_hour_tells hg lo dr ki hw hc0 hc1 ag b1 b2 b3, List.drop_eq_getElem_cons (by omega : i < L.length)]
  simp only [Option.bind_some]
  rw [if_pos (by omega), wnx (by omega), ih k (i + 1) _ _ _ _ (by omega) (by simp; omega) (by omega) (hourV_isW hw), traceV]
  simp
end Go.Proofs.Ytmhmfhdmeedcfaa.G.PB
end
section
namespace Go.Proofs.Ytmhmfhdmeedcfaa.G.Pure
open Go.RowKit M Go.Proofs.Ytmhmfhdmeedcfaa.PL Go.Proofs.Ytmhmfhdmeedcfaa.G.PB Go.Proofs.Ytmhmfhdmeedcfaa.G.PS
set_option linter.unusedSimpArgs false
set_option linter.unusedVariables false
abbrev Wd := S78
abbrev Pl := S42
def driftsV (b : PB.Bay) (g : Grd) (x y ch lo dr ki : Int) (ws : List Wd) : List Pl × Int := if (validV b g x y ch lo dr ki && windsV ws) = true then (traceV b g ch ws x y false, 0) else ([], 1)
theorem windsV_true {ws : List Wd} (h : windsV ws = true) : ws.all vW = true ∧ ws.length ≤ 48 := by
 unfold windsV at h; simpa using h
theorem driftsV_length (b : PB.Bay) (g : Grd) (x y ch lo dr ki : Int) (ws : List Wd) : (driftsV b g x y ch lo dr ki ws).1.length ≤ 256 := by
 unfold driftsV
 split
 ·rename_i h
  simp only [Bool.and_eq_true] at h
  have := (windsV_true h.2).2
  simp only [traceV_length]; omega
 ·simp
theorem spec_tells {b : PB.Bay} {g : Grd} {x y ch lo dr ki : Int} {l : List Wd} (hl : l.length ≤ 10000000) (hok : l.all okW = true) {k : Nat} (hk : l.length + 400 < k) (hx : b8 x) (hy : b8 y) (hc : b8 ch) (hlo : b8 lo) (hd : b8 dr) (hki : b8 ki) : spec_DriftAll.f k b g x y ch lo dr ki l = some (driftsV b g x y ch lo dr ki l) := by
 unfold spec_DriftAll.f driftsV
 rw [spec_valid (spec_winds_tells hl hok (by omega)) hx hy hc hlo hd hki]
 simp only [Option.bind_some]
 cases hv : validV b g x y ch lo dr ki
 ·simp
 ·cases hws : windsV l
  ·simp
  ·obtain ⟨hg, hb⟩ := validV_true hv
   obtain ⟨hw, h1, _⟩ := boatV_isW hb
   obtain ⟨hvw, h48⟩ := windsV_true hws
   obtain ⟨x', y', ag', fi', gr', e⟩ := spec_trace hg (ch := ch) lo dr ki (by omega) (by omega) l 0 x y false (-1) (-1) [] hvw hw (by simp; omega)
   simp only [Bool.and_true, if_true]
   unfold spec_l07All.f
   rw [if_pos (by omega), e]
   simp only [Option.bind_some, List.nil_append, List.length_nil]
   rw [if_pos (by have := traceV_length b g ch l x y false; omega)]
theorem impl_tells {b : PB.Bay} {g : Grd} {x y ch lo dr ki : Int} {l : List Wd} (hl : l.length ≤ 10000000) (hok : l.all okW = true) {k : Nat} (hk : l.length + 400 < k) : impl_DriftAll.f k b g x y ch lo dr ki l = some (driftsV b g x y ch lo dr ki l) := by
 unfold impl_DriftAll.f driftsV
 rw [impl_code hl (by omega)]
 simp only [Option.bind_some]
 cases hv : validV b g x y ch lo dr ki
 ·simp
 ·cases hws : windsV l
  ·simp
  ·obtain ⟨hg, hb⟩ := validV_true hv
   obtain ⟨hw, h1, _⟩ := boatV_isW hb
   obtain ⟨hvw, h48⟩ := windsV_true hws
   have := impl_trace hg (ch := ch) lo dr ki (by omega) (by omega) h48 hvw l.length k 0 x y false [] (by omega) (by simp) (by omega) hw
   rw [show ((0 : Nat) : Int) = 0 from rfl] at this
   simp only [Bool.and_true, if_true]
   unfold impl_driftAll.f
   rw [this]
   simp
theorem FnExactDriftAll : ∀ (o0 : O26) (o1 : O28) (a2_0 a2_1 a2_2 a2_3 a2_4 a2_5 : Int) (l3 : List S80), (Lit.int .i8 a2_0).wf = true → (Lit.int .i8 a2_1).wf = true → (Lit.int .i8 a2_2).wf = true → (Lit.int .i8 a2_3).wf = true → (Lit.int .i8 a2_4).wf = true → (Lit.int .i8 a2_5).wf = true → l3.length ≤ 9223372036854775807 → (∀ x ∈ l3, ∃ z : Nat → Int, x = (⟨z 0, z 1⟩ : S80) ∧ ∀ j, j < 2 → (Lit.int (([.i8, .i8] : List IntKind).getD j .i64) (z j)).wf = true) → ∃ k, laws_FnExactDriftAll.f k o0 o1 a2_0 a2_1 a2_2 a2_3 a2_4 a2_5 l3 = some true := by
 intro b g x y ch lo dr ki l hx hy hc hlo hd hk hl hxs
 have hok := winds_ok hxs
 unfold laws_FnExactDriftAll.f laws_szWindS.f
 rw [sz_tellsW hl]
 by_cases hbig : (1048576 : Int) - (l.length : Int) < 0
 ·exact ⟨0, by rw [if_pos hbig]; rfl⟩
 obtain ⟨K, hK⟩ : ∃ K, K = 3000000 := ⟨_, rfl⟩
 refine ⟨K + 1 + 1 + 1, ?_⟩
 obtain ⟨M, hM⟩ : ∃ M, M = l.map convWind := ⟨_, rfl⟩
 have hMl : M.length ≤ 1048576 := by rw [hM, List.length_map]; omega
 have hto : ∀ k, l.length < k → laws_toWindS.f k l = some M := fun k hk => by rw [hM]; exact toWind_tells (by omega) hk
 rw [← hM] at hok
 have hv := driftsV_length b g x y ch lo dr ki M
 obtain ⟨V, hV⟩ : ∃ V, V = driftsV b g x y ch lo dr ki M := ⟨_, rfl⟩
 have hsp : ∀ k, M.length + 400 < k → spec_DriftAll.f k b g x y ch lo dr ki M = some V := fun k h => by rw [hV]; exact spec_tells (by omega) hok h (b8_of hx) (b8_of hy) (b8_of hc) (b8_of hlo) (b8_of hd) (b8_of hk)
 have him : ∀ k, M.length + 400 < k → impl_DriftAll.f k b g x y ch lo dr ki M = some V := fun k h => by rw [hV]; exact impl_tells (by omega) hok h
 rw [← hV] at hv
 clear hM
 rw [if_neg hbig]
 simp only [Option.bind_some]
 rw [if_neg hbig]
 simp only [laws_toBay.f, laws_toGrounds.f, laws_toBoat.f, laws_toPlace.f, Option.bind_some]
 rw [hto _ (by omega)]
 simp only [Option.bind_some]
 rw [hsp _ (by omega)]
 simp only [Option.bind_some]
 rw [him _ (by omega)]
 simp only [Option.bind_some]
 rw [eqP_tells (by omega) (by omega)]
 simp only [Option.bind_some, if_true, bne_self_eq_false, laws_FnExactDriftAll.j0]
 rw [if_neg (by simp), hto _ (by omega)]
 simp only [Option.bind_some]
 rw [eqWind_tells (by omega) (by omega)]
 obtain ⟨r, hr⟩ := markWind_tells (l := M) (k := K + 1 + 1) (by omega) (by omega)
 simp only [Option.bind_some, if_true]
 rw [hr]
 simp only [Option.bind_some]
 rw [if_neg (by omega), eqP_tells (by omega) (by omega)]
 simp only [Option.bind_some, if_true, laws_FnExactDriftAll.j1]
 rw [if_neg (by simp), markP_tells (by omega) (by omega)]
 simp only [Option.bind_some]
 rw [heldP_tells (by omega) (by omega)]
 simp only [Option.bind_some]
 rw [if_neg (by omega)]
 simp only [eq_self, if_true]
 simp only [laws_toBay.f, laws_toGrounds.f, laws_toBoat.f, laws_toPlace.f, Option.bind_some]
 rw [hto _ (by omega)]
 simp only [Option.bind_some]
 rw [him _ (by omega)]
 simp only [Option.bind_some]
 rw [eqP_tells (by omega) (by omega)]
 simp only [Option.bind_some, if_true, bne_self_eq_false, laws_FnExactDriftAll.j2]
 rw [if_neg (by simp), heldP_tells (by omega) (by omega)]
 simp only [Option.bind_some]
 rw [if_neg (by omega)]
 simp only [eq_self, if_true]
end Go.Proofs.Ytmhmfhdmeedcfaa.G.Pure
end
namespace Go.Proofs.Ytmhmfhdmeedcfaa.rowFnExactDriftAll
open Go.ChangeShapes Go.WideShapes Go.ChangeAt Go.RowKit G Go.Proofs.YtmhmfhdmeedcfaaW.PrintWords
open Go.ChangeMaps (open_string shut_string)
set_option linter.unusedVariables false
theorem own : ownKnob Try.prog.godebug = none := by kernel_rfl
theorem laidOut : laidOutB Try.prog = true := by kernel_rfl
set_option maxRecDepth 100000 in
theorem lifted (os : Os) (started : os.Started) (H : Type) (enc : TypeId × Value → H) :
  ReturnsInHanded {} Try.checked os 3 .any (Rows.fnExactDriftAllSpec.pre6 enc Try.prog Try.f3 Rows.fnExactDriftAllRow.domain false) (Rows.fnExactDriftAllSpec.post enc Try.prog Try.f3 false true false false) := by
 refine returnsInHanded_of_change_sized (C := Try.checked) own started (by kernel_rfl) Try.func3
  (ChangeSpec.witness6 (enc := enc) (C := Try.checked) false ⟨#[], #[.agg (Array.mk [.int .i8 0, .int .i8 0, .int .i8 0, .int .i8 0, .int .i8 0, .int .i8 0, .int .i8 0, .int .i8 0, .int .i8 0, .int .i8 0, .int .i8 0, .int .i8 0, .int .i8 0, .int .i8 0, .int .i8 0, .int .i8 0, .int .i8 0, .int .i8 0, .int .i8 0, .int .i8 0, .int .i8 0, .int .i8 0, .int .i8 0, .int .i8 0, .int .i8 0, .int .i8 0, .int .i8 0, .int .i8 0, .int .i8 0, .int .i8 0, .int .i8 0, .int .i8 0, .int .i8 0, .int .i8 0, .int .i8 0, .int .i8 0, .int .i8 0, .int .i8 0, .int .i8 0, .int .i8 0, .int .i8 0, .int .i8 0, .int .i8 0, .int .i8 0, .int .i8 0, .int .i8 0, .int .i8 0, .int .i8 0, .int .i8 0, .int .i8 0, .int .i8 0, .int .i8 0, .int .i8 0, .int .i8 0, .int .i8 0, .int .i8 0, .int .i8 0, .int .i8 0, .int .i8 0, .int .i8 0, .int .i8 0, .int .i8 0, .int .i8 0, .int .i8 0, .int .i8 0, .int .i8 0, .int .i8 0, .int .i8 0, .int .i8 0, .int .i8 0, .int .i8 0, .int .i8 0, .int .i8 0, .int .i8 0, .int .i8 0, .int .i8 0, .int .i8 0, .int .i8 0, .int .i8 0, .int .i8 0, .int .i8 0, .int .i8 0, .int .i8 0, .int .i8 0, .int .i8 0, .int .i8 0, .int .i8 0, .int .i8 0, .int .i8 0, .int .i8 0, .int .i8 0, .int .i8 0, .int .i8 0, .int .i8 0, .int .i8 0, .int .i8 0, .int .i8 0, .int .i8 0, .int .i8 0, .int .i8 0, .int .i8 0, .int .i8 0, .int .i8 0, .int .i8 0, .int .i8 0, .int .i8 0, .int .i8 0, .int .i8 0, .int .i8 0, .int .i8 0, .int .i8 0, .int .i8 0, .int .i8 0, .int .i8 0, .int .i8 0, .int .i8 0, .int .i8 0, .int .i8 0, .int .i8 0, .int .i8 0, .int .i8 0, .int .i8 0, .int .i8 0, .int .i8 0, .int .i8 0, .int .i8 0, .int .i8 0, .int .i8 0, .int .i8 0, .int .i8 0, .int .i8 0, .int .i8 0, .int .i8 0, .int .i8 0, .int .i8 0, .int .i8 0, .int .i8 0, .int .i8 0, .int .i8 0, .int .i8 0, .int .i8 0, .int .i8 0, .int .i8 0, .int .i8 0, .int .i8 0, .int .i8 0, .int .i8 0, .int .i8 0, .int .i8 0, .int .i8 0, .int .i8 0, .int .i8 0, .int .i8 0, .int .i8 0, .int .i8 0, .int .i8 0, .int .i8 0, .int .i8 0, .int .i8 0, .int .i8 0, .int .i8 0, .int .i8 0, .int .i8 0, .int .i8 0, .int .i8 0, .int .i8 0, .int .i8 0, .int .i8 0, .int .i8 0, .int .i8 0, .int .i8 0, .int .i8 0, .int .i8 0, .int .i8 0, .int .i8 0, .int .i8 0, .int .i8 0, .int .i8 0, .int .i8 0, .int .i8 0, .int .i8 0, .int .i8 0, .int .i8 0, .int .i8 0, .int .i8 0, .int .i8 0, .int .i8 0, .int .i8 0, .int .i8 0, .int .i8 0, .int .i8 0, .int .i8 0, .int .i8 0, .int .i8 0, .int .i8 0, .int .i8 0, .int .i8 0, .int .i8 0, .int .i8 0, .int .i8 0, .int .i8 0, .int .i8 0, .int .i8 0, .int .i8 0, .int .i8 0, .int .i8 0, .int .i8 0, .int .i8 0, .int .i8 0, .int .i8 0, .int .i8 0, .int .i8 0, .int .i8 0, .int .i8 0, .int .i8 0, .int .i8 0, .int .i8 0, .int .i8 0, .int .i8 0, .int .i8 0, .int .i8 0, .int .i8 0, .int .i8 0, .int .i8 0, .int .i8 0, .int .i8 0, .int .i8 0, .int .i8 0, .int .i8 0, .int .i8 0, .int .i8 0, .int .i8 0, .int .i8 0, .int .i8 0, .int .i8 0, .int .i8 0, .int .i8 0, .int .i8 0, .int .i8 0, .int .i8 0, .int .i8 0, .int .i8 0, .int .i8 0, .int .i8 0, .int .i8 0, .int .i8 0, .int .i8 0, .int .i8 0, .int .i8 0, .int .i8 0, .int .i8 0, .int .i8 0, .int .i8 0, .int .i8 0, .int .i8 0, .int .i8 0, .int .i8 0, .int .i8 0]), .agg (Array.mk [.int .u8 0, .int .u8 0, .int .u8 0, .int .u8 0, .int .u8 0, .int .u8 0, .int .u8 0, .int .u8 0, .int .u8 0, .int .u8 0, .int .u8 0, .int .u8 0, .int .u8 0, .int .u8 0, .int .u8 0, .int .u8 0, .int .u8 0, .int .u8 0, .int .u8 0, .int .u8 0, .int .u8 0, .int .u8 0, .int .u8 0, .int .u8 0, .int .u8 0, .int .u8 0, .int .u8 0, .int .u8 0, .int .u8 0, .int .u8 0, .int .u8 0, .int .u8 0, .int .u8 0, .int .u8 0, .int .u8 0, .int .u8 0, .int .u8 0, .int .u8 0, .int .u8 0, .int .u8 0, .int .u8 0, .int .u8 0, .int .u8 0, .int .u8 0, .int .u8 0, .int .u8 0, .int .u8 0, .int .u8 0, .int .u8 0, .int .u8 0, .int .u8 0, .int .u8 0, .int .u8 0, .int .u8 0, .int .u8 0, .int .u8 0, .int .u8 0, .int .u8 0, .int .u8 0, .int .u8 0, .int .u8 0, .int .u8 0, .int .u8 0, .int .u8 0, .int .u8 0, .int .u8 0, .int .u8 0, .int .u8 0, .int .u8 0, .int .u8 0, .int .u8 0, .int .u8 0, .int .u8 0, .int .u8 0, .int .u8 0, .int .u8 0, .int .u8 0, .int .u8 0, .int .u8 0, .int .u8 0, .int .u8 0, .int .u8 0, .int .u8 0, .int .u8 0, .int .u8 0, .int .u8 0, .int .u8 0, .int .u8 0, .int .u8 0, .int .u8 0, .int .u8 0, .int .u8 0, .int .u8 0, .int .u8 0, .int .u8 0, .int .u8 0, .int .u8 0, .int .u8 0, .int .u8 0, .int .u8 0, .int .u8 0, .int .u8 0, .int .u8 0, .int .u8 0, .int .u8 0, .int .u8 0, .int .u8 0, .int .u8 0, .int .u8 0, .int .u8 0, .int .u8 0, .int .u8 0, .int .u8 0, .int .u8 0, .int .u8 0, .int .u8 0, .int .u8 0, .int .u8 0, .int .u8 0, .int .u8 0, .int .u8 0, .int .u8 0, .int .u8 0, .int .u8 0, .int .u8 0, .int .u8 0, .int .u8 0, .int .u8 0, .int .u8 0, .int .u8 0, .int .u8 0, .int .u8 0, .int .u8 0, .int .u8 0, .int .u8 0, .int .u8 0, .int .u8 0, .int .u8 0, .int .u8 0, .int .u8 0, .int .u8 0, .int .u8 0, .int .u8 0, .int .u8 0, .int .u8 0, .int .u8 0, .int .u8 0, .int .u8 0, .int .u8 0, .int .u8 0, .int .u8 0, .int .u8 0, .int .u8 0, .int .u8 0, .int .u8 0, .int .u8 0, .int .u8 0, .int .u8 0, .int .u8 0, .int .u8 0, .int .u8 0, .int .u8 0, .int .u8 0, .int .u8 0, .int .u8 0, .int .u8 0, .int .u8 0, .int .u8 0, .int .u8 0, .int .u8 0, .int .u8 0, .int .u8 0, .int .u8 0, .int .u8 0, .int .u8 0, .int .u8 0, .int .u8 0, .int .u8 0, .int .u8 0, .int .u8 0, .int .u8 0, .int .u8 0, .int .u8 0, .int .u8 0, .int .u8 0, .int .u8 0, .int .u8 0, .int .u8 0, .int .u8 0, .int .u8 0, .int .u8 0, .int .u8 0, .int .u8 0, .int .u8 0, .int .u8 0, .int .u8 0, .int .u8 0, .int .u8 0, .int .u8 0, .int .u8 0, .int .u8 0, .int .u8 0, .int .u8 0, .int .u8 0, .int .u8 0, .int .u8 0, .int .u8 0, .int .u8 0, .int .u8 0, .int .u8 0, .int .u8 0, .int .u8 0, .int .u8 0, .int .u8 0, .int .u8 0, .int .u8 0, .int .u8 0, .int .u8 0, .int .u8 0, .int .u8 0, .int .u8 0, .int .u8 0, .int .u8 0, .int .u8 0, .int .u8 0, .int .u8 0, .int .u8 0, .int .u8 0, .int .u8 0, .int .u8 0, .int .u8 0, .int .u8 0, .int .u8 0, .int .u8 0, .int .u8 0, .int .u8 0, .int .u8 0, .int .u8 0, .int .u8 0, .int .u8 0, .int .u8 0, .int .u8 0, .int .u8 0, .int .u8 0, .int .u8 0, .int .u8 0, .int .u8 0, .int .u8 0, .int .u8 0, .int .u8 0, .int .u8 0, .int .u8 0, .int .u8 0, .int .u8 0, .int .u8 0, .int .u8 0]), .agg #[.int .i8 0, .int .i8 0, .int .i8 0, .int .i8 0, .int .i8 0, .int .i8 0], .slice none 0 0], []⟩ 8 (by kernel_rfl) (by kernel_rfl) (by kernel_rfl) (by kernel_rfl)) ?_
 intro W base args ds gs before hval0 hW hcnd hsz0 _
 have hsz : (DataW.weightsEach Try.prog (Try.f3.params.toList ++ Rows.fnExactDriftAllSpec.plain.varTypes Try.prog) (ds ++ gs)).all (· ≤ reachBytes) = true := hsz0
 have hval : ∀ (j : Nat) t v, Try.f3.params[j]? = some t → args[j]? = some v → Value.okWide Try.prog W .any base t v := hval0
 have hW' := hW
 obtain ⟨p, q, hA0, hV, rfl, hfz, hnd⟩ := hW
 have hA : DataW.TrodAll enc Try.prog W 0 (fun _ => true) true Try.f3.params.toList args.toList ds p := hA0
 rw [Try.params3] at hA hval hsz
 obtain ⟨v0, vs0, d0, ds0, p0, q0, hargs, rfl, rfl, h0, r0⟩ := trodAll_cons hA
 obtain ⟨v1, vs1, d1, ds1, p1, q1, rfl, rfl, rfl, h1, r1⟩ := trodAll_cons r0
 obtain ⟨v2, vs2, d2, ds2, p2, q2, rfl, rfl, rfl, h2, r2⟩ := trodAll_cons r1
 obtain ⟨v3, vs3, d3, ds3, p3, q3, rfl, rfl, rfl, h3, r3⟩ := trodAll_cons r2
 obtain ⟨rfl, rfl, rfl⟩ := trodAll_nil r3
 obtain rfl : args = #[v0, v1, v2, v3] := by cases args; simp_all
 obtain ⟨rfl, rfl⟩ := trodVars_none hV
 have k0_ := h0
 have lt0 : ∀ x ∈ p0, x.block < W.heap.size := by obtain ⟨m, hm⟩ := k0_; exact DataW.trod_lt m _ _ _ hm
 obtain ⟨o0, rfl⟩ : ∃ o : O26, v0 = VO26 o := by
  obtain ⟨z, e, hw⟩ := RL.flat_value 258 KSO26 (by kernel_rfl) (by kernel_rfl) (okWide_struct Try.underlying26 (hval 0 26 v0 rfl rfl)) h0
  obtain ⟨o, ho⟩ := openO26 z hw
  exact ⟨o, by first | (rw [e, ho]; done) | (rw [e, ho]; rfl)⟩
 have k1_ := h1
 have lt1 : ∀ x ∈ p1, x.block < W.heap.size := by obtain ⟨m, hm⟩ := k1_; exact DataW.trod_lt m _ _ _ hm
 obtain ⟨o1, rfl⟩ : ∃ o : O28, v1 = VO28 o := by
  obtain ⟨z, e, hw⟩ := RL.flat_value 256 KSO28 (by kernel_rfl) (by kernel_rfl) (RL.okWide_arr Try.underlying28 (hval 1 28 v1 rfl rfl)) h1
  obtain ⟨o, ho⟩ := openO28 z hw
  exact ⟨o, by first | (rw [e, ho]; done) | (rw [e, ho]; rfl)⟩
 have k2_ := h2
 have lt2 : ∀ x ∈ p2, x.block < W.heap.size := by obtain ⟨m, hm⟩ := k2_; exact DataW.trod_lt m _ _ _ hm
 obtain ⟨a2_0, a2_1, a2_2, a2_3, a2_4, a2_5, rfl, w2_0, w2_1, w2_2, w2_3, w2_4, w2_5⟩ : ∃ a2_0 a2_1 a2_2 a2_3 a2_4 a2_5 : Int, v2 = .agg #[.int .i8 a2_0, .int .i8 a2_1, .int .i8 a2_2, .int .i8 a2_3, .int .i8 a2_4, .int .i8 a2_5] ∧ (Lit.int .i8 a2_0).wf = true ∧ (Lit.int .i8 a2_1).wf = true ∧ (Lit.int .i8 a2_2).wf = true ∧ (Lit.int .i8 a2_3).wf = true ∧ (Lit.int .i8 a2_4).wf = true ∧ (Lit.int .i8 a2_5).wf = true := by
  obtain ⟨z, e, hw⟩ := RL.flat_value 6 [.i8, .i8, .i8, .i8, .i8, .i8] (by kernel_rfl) (by kernel_rfl) (okWide_struct Try.underlying32 (hval 2 32 v2 rfl rfl)) h2
  exact ⟨z 0, z 1, z 2, z 3, z 4, z 5, e, hw 0 (by omega), hw 1 (by omega), hw 2 (by omega), hw 3 (by omega), hw 4 (by omega), hw 5 (by omega)⟩
 have k3_ := h3
 have lt3 : ∀ x ∈ p3, x.block < W.heap.size := by obtain ⟨m, hm⟩ := k3_; exact DataW.trod_lt m _ _ _ hm
 obtain ⟨A3, len3, c3, rfl⟩ := okWide_slice Try.underlying33 (hval 3 33 v3 rfl rfl)
 obtain ⟨l3, rfl, C3, g3, m3, y3⟩ := RL.slice_C k80 (fun z => (⟨z 0, z 1⟩ : S80)) 2 [.i8, .i8] rfl (fun z => ⟨[.int .i8 (z 0)], [.int .i8 (z 1)], rfl, rfl, rfl⟩) Try.underlying33 (by kernel_rfl) (by kernel_rfl) h3
 clear hA0 hval0 hsz0 hsz
 obtain ⟨k, hp⟩ := Pure.FnExactDriftAll o0 o1 a2_0 a2_1 a2_2 a2_3 a2_4 a2_5 l3 w2_0 w2_1 w2_2 w2_3 w2_4 w2_5 m3 y3
 refine (laws_FnExactDriftAll.calls k o0 o1 a2_0 a2_1 a2_2 a2_3 a2_4 a2_5 A3 c3 l3 true W rfl C3 g3 hp).mono fun e W' ⟨he, bel⟩ => ?_
 subst he
 exact ⟨_, rfl, _, _, _, [], _, [], hW', trodAll_mk1 (shut_bool Try.underlying4 _), (trodAll_cons_mk (Below.trod laidOut (by kernel_rfl) (of_decide_eq_true (by kernel_rfl)) k0_ bel lt0) (trodAll_cons_mk (Below.trod laidOut (by kernel_rfl) (of_decide_eq_true (by kernel_rfl)) k1_ bel lt1) (trodAll_cons_mk (Below.trod laidOut (by kernel_rfl) (of_decide_eq_true (by kernel_rfl)) k2_ bel lt2) (trodAll_cons_mk (Below.trod laidOut (by kernel_rfl) (of_decide_eq_true (by kernel_rfl)) k3_ bel lt3) trodAll_mk0)))), rfl, bel.frame _, fun h => by cases h⟩
set_option maxHeartbeats 8000000 in
theorem closed : joinedFacts Try.pinned.checked.prog 3 Try.f3 Rows.fnExactDriftAllSpec Rows.fnExactDriftAllRow = true := by
 kernel_rfl
theorem named : Try.pinned.checked.prog.funcNamed Rows.fnExactDriftAllRow.func = some 3 := by kernel_rfl
theorem inst : Try.f3.isInstance Try.pinned.checked.prog Rows.fnExactDriftAllRow.origin Rows.fnExactDriftAllRow.targs := of_decide_eq_true (by kernel_rfl)
theorem wrapper : Try.f3.isWrapper Try.pinned.checked.prog Rows.fnExactDriftAllRow.wrapper Rows.fnExactDriftAllRow.mainSum := by unfold Func.isWrapper; first | (rw [if_pos (by decide +kernel)]; kernel_rfl) | (rw [if_neg (by decide +kernel)]; exact ⟨rfl, rfl⟩)
theorem over : Rows.fnExactDriftAllRow.holds Try.pinned (OpenSpec.ofChange Rows.fnExactDriftAllSpec) :=
 OpenClaim.holds_of_wide 3 Try.f3 rfl rfl rfl rfl rfl rfl rfl ⟨rfl, rfl, rfl, rfl, rfl⟩ rfl rfl rfl rfl rfl named Try.func3 closed inst wrapper
  (fun os started H enc _ => lifted os started H enc)
theorem proved : Rows.FnExactDriftAllSaid := over
#print axioms proved
end Go.Proofs.Ytmhmfhdmeedcfaa.rowFnExactDriftAll
namespace Go.Proofs.Ytmhmfhdmeedcfaa
theorem fnExactDriftAll_holds : Rows.FnExactDriftAllSaid := rowFnExactDriftAll.proved
end Go.Proofs.Ytmhmfhdmeedcfaa
