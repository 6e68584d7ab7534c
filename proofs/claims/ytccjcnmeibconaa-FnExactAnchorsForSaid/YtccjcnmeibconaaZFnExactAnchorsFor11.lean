/- FnExactAnchorsFor returns true, whatever the input, and leaves its arguments as they were. -/
import Derived.RowKit
import Derived.Below
import Derived.Deep.Draws
import Derived.Deep.AppendLies
import Derived.Maps.AppendAt
import Derived.OwnWalk
import Derived.Laws.BytesArg
import Derived.Laws.MakeOwn
import Derived.Laws.OwnMore
import Derived.Deep.OwnRows
import Derived.Tactics
import Derived.Lib.ConvBytes
import Derived.Laws.Slices
import Derived.WalkKit
import Derived.KernelRfl
import Derived.RowKit3
import Derived.Deep.LoopGhost
import Derived.Deep.QuietTactic
import Derived.BigQuiet
import Derived.WideLaws
import Derived.Deep.DeepCutAuto
import Derived.Deep.CutBlock
import Derived.Deep.RegionHeld3
import Derived.Laws.Rows
import Derived.Lib.AppendStr
import Derived.ArgAppend
import Derived.Laws.IdiomCopy
import Derived.OpenShut
import Derived.Test.YtccjcnmeibconaaProg
import Derived.OrdersHeld
import Derived.Laws.BitsLemmas
import Derived.Laws.StructEq
import Derived.Deep.Slices
import Derived.ChangeSame
import Derived.ChangeArms
import Derived.ProofKit
import Derived.Laws.Tables
import Derived.Lib.Hide
import Derived.Laws.CopyOwn
import Derived.Laws.CopyRow
import Derived.Test.YtccjcnmeibconaaRows
import Derived.ShutString
import Derived.ChangeOld
import Derived.SizedLaws
import Derived.Test.YtccjcnmeibconaaZFnExactAnchorsFor1
import Derived.Test.YtccjcnmeibconaaZFnExactAnchorsFor2
import Derived.Test.YtccjcnmeibconaaZFnExactAnchorsFor3
import Derived.Test.YtccjcnmeibconaaZFnExactAnchorsFor4
import Derived.Test.YtccjcnmeibconaaZFnExactAnchorsFor5
import Derived.Test.YtccjcnmeibconaaZFnExactAnchorsFor6
import Derived.Test.YtccjcnmeibconaaZFnExactAnchorsFor7
import Derived.Test.YtccjcnmeibconaaZFnExactAnchorsFor8
import Derived.Test.YtccjcnmeibconaaZFnExactAnchorsFor9
import Derived.Test.YtccjcnmeibconaaZFnExactAnchorsFor10
section
namespace Go.Proofs.Ytccjcnmeibconaa.PL
open Go.RowKit M Go.Proofs.YtccjcnmeibconaaW.PrintWords
theorem i8_wf {x : Int} (h : (Lit.int .i8 x).wf = true) : i8B x = true := by
  have := bounds_i8 h
  simp [i8B, inB]; omega
theorem wsm {x : Int} (h0 : -1000000000000 ≤ x) (h1 : x ≤ 1000000000000) : wrap64 x = x := by
  unfold wrap64; omega
theorem wnx {i : Nat} (h : i ≤ 10000000) : wrap64 ((i : Int) + 1) = ((i + 1 : Nat) : Int) := by
  rw [wsm (by omega) (by omega)]; omega
theorem i8_bounds {x : Int} (h : i8B x = true) : -128 ≤ x ∧ x ≤ 127 := inB_true h
end Go.Proofs.Ytccjcnmeibconaa.PL
end
section
namespace Go.Proofs.Ytccjcnmeibconaa.G.PB
open Go.RowKit M Go.Proofs.Ytccjcnmeibconaa.PL Go.Proofs.YtccjcnmeibconaaW.PrintWords Go.Proofs.YtccjcnmeibconaaW.PrintMore
set_option linter.unusedSimpArgs false
set_option linter.unusedVariables false
abbrev Bay := Flat 258 .i8
def boatV (b : Bay) (x y ch lo dr ki : Int) : Bool := isW b x y && (inB ch 1 60 && (inB lo 0 5 && (inB dr 1 30 && inB ki 0 9)))
def b8 (x : Int) : Prop := -128 ≤ x ∧ x ≤ 127
theorem ws {x : Int} (h : b8 x) : wrap64 x = x := by obtain ⟨h0, h1⟩ := h; unfold wrap64; omega
theorem w8 {x : Int} (h0 : -128 ≤ x) (h1 : x ≤ 127) : IntKind.i8.wrap x = x := by
  unfold IntKind.wrap; simp [IntKind.signed, IntKind.bits]; omega
theorem upto {α : Type} {g : Nat → Option α} (hm : ∀ k r, g k = some r → g (k + 1) = some r) {K : Nat} {r : α} (h : g K = some r) {k : Nat} (hk : K ≤ k) : g k = some r := by
  induction hk with
  | refl => exact h
  | step _ ih => exact hm _ _ ih
theorem spec_in (n lo hi : Int) : spec_l00In.f n lo hi = some (inB n lo hi) := by
  unfold spec_l00In.f inB
  by_cases h : lo ≤ n <;> simp [h]
theorem depO_in (b : Bay) {x y : Int} (hx0 : 0 ≤ x) (hx1 : x < 16) (hy0 : 0 ≤ y) (hy1 : y < 16) : depO b x y = some (dep b x y) := if_pos ⟨hx0, hx1, hy0, hy1⟩
theorem bay_small {b : Bay} (h : bayB b = true) : 1 ≤ b.z 0 ∧ b.z 0 ≤ 16 ∧ 1 ≤ b.z 1 ∧ b.z 1 ≤ 16 := by
  obtain ⟨h0, h1, _⟩ := bayB_true h; omega
theorem isP_true {b : Bay} {x y : Int} (h0 : 0 ≤ x) (h1 : x < b.z 0) (h2 : 0 ≤ y) (h3 : y < b.z 1) : isP b x y = true := by simp [isP, h0, h1, h2, h3]
theorem isP_16 {b : Bay} {x y : Int} (h : bayB b = true) (hp : isP b x y = true) : 0 ≤ x ∧ x < 16 ∧ 0 ≤ y ∧ y < 16 := by
  have := bay_small h; have := isP_bounds hp; omega
theorem isW_isP {b : Bay} {x y : Int} (h : isW b x y = true) : isP b x y = true ∧ 0 < dep b x y := by
  unfold isW at h; simp at h; exact h
theorem boatV_isW {b : Bay} {x y ch lo dr ki : Int} (h : boatV b x y ch lo dr ki = true) : isW b x y = true ∧ (1 ≤ ch ∧ ch ≤ 60) ∧ (0 ≤ lo ∧ lo ≤ 5) ∧ (1 ≤ dr ∧ dr ≤ 30) ∧ (0 ≤ ki ∧ ki ≤ 9) := by
  unfold boatV inB at h; simp at h; omega
theorem dep_30 {b : Bay} {x y : Int} (h : bayB b = true) (h0 : 0 ≤ x) (h1 : x < 16) (h2 : 0 ≤ y) (h3 : y < 16) : 0 ≤ dep b x y ∧ dep b x y ≤ 30 := by
  have := (bayB_true h).2.2 y.toNat (by omega) x.toNat (by omega)
  unfold okD at this
  rw [Bool.and_eq_true] at this
  have h4 := inB_true this.1
  rw [show ((x.toNat : Nat) : Int) = x by omega, show ((y.toNat : Nat) : Int) = y by omega] at h4
  exact h4
theorem impl_place (b : Bay) (x y : Int) : impl_isPlace.f b x y = some (isP b x y) := by
  unfold impl_isPlace.f isP
  by_cases h1 : 0 ≤ x <;> by_cases h2 : x < b.z 0 <;> by_cases h3 : 0 ≤ y <;> simp [h1, h2, h3]
theorem impl_water {b : Bay} (h : bayB b = true) (x y : Int) : impl_isWater.f b x y = some (isW b x y) := by
  unfold impl_isWater.f isW
  rw [impl_place]
  simp only [Option.bind_some]
  cases hp : isP b x y
  · simp
  · obtain ⟨h0, h1, h2, h3⟩ := isP_16 h hp
    unfold impl_depth.f
    rw [if_pos rfl, depO_in b h0 h1 h2 h3]
    simp
theorem impl_boat {b : Bay} (h : bayB b = true) (x y ch lo dr ki : Int) : impl_isBoat.f b x y ch lo dr ki = some (boatV b x y ch lo dr ki) := by
  unfold impl_isBoat.f boatV
  rw [impl_water h]
  simp only [Option.bind_some]
  cases isW b x y
  · simp
  · simp only [if_true, Bool.true_and, inB]
    by_cases h1 : 1 ≤ ch
    · by_cases h2 : ch ≤ 60
      · by_cases h3 : 0 ≤ lo
        · by_cases h4 : lo ≤ 5
          · by_cases h5 : 1 ≤ dr
            · by_cases h6 : dr ≤ 30
              · by_cases h7 : 0 ≤ ki <;> simp [h1, h2, h3, h4, h5, h6, h7]
              · simp [h1, h2, h3, h4, h5, h6]
            · simp [h1, h2, h3, h4, h5]
          · simp [h1, h2, h3, h4]
        · simp [h1, h2, h3]
      · simp [h1, h2]
    · simp [h1]
theorem spec_is (b : Bay) {x y : Int} (hx : b8 x) (hy : b8 y) : spec_l01Is.f b x y = some (isP b x y) := by
  have h0 : b8 (b.z 0) := bounds_i8 (b.ok 0 (by omega))
  have h1 : b8 (b.z 1) := bounds_i8 (b.ok 1 (by omega))
  unfold spec_l01Is.f
  rw [ws hx, ws hy, ws h0, ws h1, wsm (by have := h0.1; omega) (by have := h0.2; omega), wsm (by have := h1.1; omega) (by have := h1.2; omega), spec_in, spec_in, isP_in]
  simp only [Option.bind_some]
  cases inB x 0 (b.z 0 - 1) <;> simp
theorem spec_boat {b : Bay} (h : bayB b = true) {x y ch lo dr ki : Int} (hx : b8 x) (hy : b8 y) (hc : b8 ch) (hl : b8 lo) (hd : b8 dr) (hk : b8 ki) : spec_l01Boat.f b x y ch lo dr ki = some (boatV b x y ch lo dr ki) := by
  unfold spec_l01Boat.f boatV isW
  rw [spec_is b hx hy]
  simp only [Option.bind_some]
  cases hp : isP b x y
  · simp
  · obtain ⟨h0, h1, h2, h3⟩ := isP_16 h hp
    unfold spec_l01Depth.f
    rw [if_pos rfl, depO_in b h0 h1 h2 h3, ws hc, ws hl, ws hd, ws hk, spec_in, spec_in, spec_in, spec_in]
    simp only [Option.bind_some]
    by_cases hw : 0 < dep b x y
    · rw [if_pos hw]
      cases inB ch 1 60 <;> cases inB lo 0 5 <;> cases inB dr 1 30 <;> simp [hw]
    · rw [if_neg hw]; simp [hw]
end Go.Proofs.Ytccjcnmeibconaa.G.PB
end
section
namespace Go.Proofs.Ytccjcnmeibconaa.G.PB
open Go.RowKit M Go.Proofs.Ytccjcnmeibconaa.PL Go.Proofs.YtccjcnmeibconaaW.PrintWords Go.Proofs.YtccjcnmeibconaaW.PrintMore
set_option linter.unusedSimpArgs false
set_option linter.unusedVariables false
def rootFrom (n : Int) : Nat → Int → Int
  | 0, r => r
  | d + 1, r => if (r + 1) * (r + 1) ≤ n then rootFrom n d (r + 1) else r
theorem root_bounds (n : Int) (d : Nat) : ∀ r, 0 ≤ r → r ≤ rootFrom n d r ∧ rootFrom n d r ≤ r + d := by
  induction d with
  | zero => intro r h; simp [rootFrom]
  | succ d ih =>
    intro r h
    simp only [rootFrom]
    split
    · have := ih (r + 1) (by omega); omega
    · omega
theorem sq_bounds {r B : Int} (h0 : 0 ≤ r) (h1 : r ≤ B) : 0 ≤ r * r ∧ r * r ≤ B * B := mul_bounds h0 h1 h0 h1
def rootV (n : Int) : Int := rootFrom n 60 0
theorem spec_root (n : Int) (hn : n ≤ 3600) (d : Nat) : ∀ (k : Nat) (r : Int), 0 ≤ r → r + d = 60 → d < k → spec_l01Reach.l0 k n r = some (rootFrom n d r) := by
  induction d with
  | zero =>
    intro k r h0 h1 hk
    obtain ⟨k, rfl⟩ : ∃ m, k = m + 1 := ⟨k - 1, by omega⟩
    obtain rfl : r = 60 := by omega
    simp only [spec_l01Reach.l0]; rw [wsm (x := 60 + 1) (by omega) (by omega), wsm (by omega) (by omega), if_neg (by omega)]; rfl
  | succ d ih =>
    intro k r h0 h1 hk
    obtain ⟨k, rfl⟩ : ∃ m, k = m + 1 := ⟨k - 1, by omega⟩
    have hs := sq_bounds (r := r + 1) (B := 61) (by omega) (by omega)
    simp only [spec_l01Reach.l0]; rw [wsm (x := r + 1) (by omega) (by omega), wsm (by omega) (by omega)]
    simp only [rootFrom]
    split
    · exact ih k (r + 1) (by omega) (by omega) (by omega)
    · rfl
theorem impl_root_loop (n : Int) (hn : n ≤ 3600) (d : Nat) : ∀ (k : Nat) (r : Int), 0 ≤ r → r + d = 60 → d < k → impl_root.l0 k n r = some (rootFrom n d r) := by
  induction d with
  | zero =>
    intro k r h0 h1 hk
    obtain ⟨k, rfl⟩ : ∃ m, k = m + 1 := ⟨k - 1, by omega⟩
    obtain rfl : r = 60 := by omega
    simp only [impl_root.l0]; rw [wsm (x := 60 + 1) (by omega) (by omega), wsm (by omega) (by omega), if_neg (by omega)]; rfl
  | succ d ih =>
    intro k r h0 h1 hk
    obtain ⟨k, rfl⟩ : ∃ m, k = m + 1 := ⟨k - 1, by omega⟩
    have hs := sq_bounds (r := r + 1) (B := 61) (by omega) (by omega)
    simp only [impl_root.l0]; rw [wsm (x := r + 1) (by omega) (by omega), wsm (by omega) (by omega)]
    simp only [rootFrom]
    split
    · exact ih k (r + 1) (by omega) (by omega) (by omega)
    · rfl
def reachV (b : Bay) (x y ch : Int) : Int := if ch * ch - dep b x y * dep b x y < 0 then -1 else rootV (ch * ch - dep b x y * dep b x y)
theorem reachV_bounds (b : Bay) (x y ch : Int) : -1 ≤ reachV b x y ch ∧ reachV b x y ch ≤ 60 := by
  unfold reachV rootV
  have := root_bounds (ch * ch - dep b x y * dep b x y) 60 0 (by omega)
  split <;> omega
theorem spec_reach_tells {b : Bay} (h : bayB b = true) {x y ch : Int} (lo dr ki : Int) (h0 : 0 ≤ x) (h1 : x < 16) (h2 : 0 ≤ y) (h3 : y < 16) (hc0 : 0 ≤ ch) (hc1 : ch ≤ 60) {k : Nat} (hk : 60 < k) : spec_l01Reach.f k b x y ch lo dr ki = some (reachV b x y ch) := by
  obtain ⟨d0, d1⟩ := dep_30 h h0 h1 h2 h3
  have hc := sq_bounds hc0 hc1
  have hd := sq_bounds d0 d1
  unfold spec_l01Reach.f spec_l01Depth.f reachV rootV
  rw [depO_in b h0 h1 h2 h3]
  simp only [Option.bind_some]
  rw [wsm (x := ch) (by omega) (by omega), wsm (x := ch * ch) (by omega) (by omega), wsm (x := dep b x y * dep b x y) (by omega) (by omega), wsm (by omega) (by omega)]
  split
  · rfl
  · exact spec_root _ (by omega) 60 k 0 (by omega) (by omega) (by omega)
theorem impl_reach_tells {b : Bay} (h : bayB b = true) {x y ch : Int} (lo dr ki : Int) (h0 : 0 ≤ x) (h1 : x < 16) (h2 : 0 ≤ y) (h3 : y < 16) (hc0 : 0 ≤ ch) (hc1 : ch ≤ 60) {k : Nat} (hk : 60 < k) : impl_reachOf.f k b x y ch lo dr ki = some (reachV b x y ch) := by
  obtain ⟨d0, d1⟩ := dep_30 h h0 h1 h2 h3
  have hc := sq_bounds hc0 hc1
  have hd := sq_bounds d0 d1
  unfold impl_reachOf.f impl_depth.f reachV rootV
  rw [depO_in b h0 h1 h2 h3]
  simp only [Option.bind_some]
  rw [wsm (x := ch) (by omega) (by omega), wsm (x := ch * ch) (by omega) (by omega), wsm (x := dep b x y * dep b x y) (by omega) (by omega), wsm (by omega) (by omega)]
  split
  · rfl
  · unfold impl_root.f
    rw [impl_root_loop _ (by omega) 60 k 0 (by omega) (by omega) (by omega)]; rfl
theorem boat_reach {b : Bay} (h : bayB b = true) {x y ch lo dr ki : Int} (hb : boatV b x y ch lo dr ki = true) {k : Nat} (hk : 60 < k) : impl_reachOf.f k b x y ch lo dr ki = some (reachV b x y ch) ∧ spec_l01Reach.f k b x y ch lo dr ki = some (reachV b x y ch) := by
  obtain ⟨hw, hc, _⟩ := boatV_isW hb
  obtain ⟨h0, h1, h2, h3⟩ := isP_16 h (isW_isP hw).1
  exact ⟨impl_reach_tells h lo dr ki h0 h1 h2 h3 (by omega) (by omega) hk, spec_reach_tells h lo dr ki h0 h1 h2 h3 (by omega) (by omega) hk⟩
end Go.Proofs.Ytccjcnmeibconaa.G.PB
end
section
namespace Go.Proofs.Ytccjcnmeibconaa.G.PB
open Go.RowKit M Go.Proofs.Ytccjcnmeibconaa.PL Go.Proofs.YtccjcnmeibconaaW.PrintWords Go.Proofs.YtccjcnmeibconaaW.PrintMore
set_option linter.unusedSimpArgs false
set_option linter.unusedVariables false
abbrev PlL := S42
def okP (p : PlL) : Bool := i8B p.f0 && i8B p.f1
theorem okP_b8 {p : PlL} (h : okP p = true) : b8 p.f0 ∧ b8 p.f1 := by
  simp only [okP, Bool.and_eq_true] at h
  exact ⟨i8_bounds h.1, i8_bounds h.2⟩
theorem rdP {l : List PlL} {i : Nat} (h : i < l.length) : rd_T42 l (i : Int) = l[i] := by simp [rd_T42, h]
def farV (p : PlL) (x y : Int) : Int := (p.f0 - x) * (p.f0 - x) + (p.f1 - y) * (p.f1 - y)
theorem sq_abs {a : Int} (h0 : -255 ≤ a) (h1 : a ≤ 255) : 0 ≤ a * a ∧ a * a ≤ 65025 := by
  by_cases h : 0 ≤ a
  · exact mul_bounds h h1 h h1
  · have := mul_bounds (a := -a) (b := -a) (A := 255) (B := 255) (by omega) (by omega) (by omega) (by omega)
    rw [Int.neg_mul_neg] at this
    exact this
theorem impl_far_tells {p : PlL} {x y : Int} (hp : okP p = true) (hx : b8 x) (hy : b8 y) : impl_far.f p.f0 p.f1 x y = some (farV p x y) := by
  obtain ⟨p0, p1⟩ := okP_b8 hp
  have hx' := hx; have hy' := hy; have p0' := p0; have p1' := p1
  unfold b8 at hx' hy' p0' p1'
  have s0 := sq_abs (a := p.f0 - x) (by omega) (by omega)
  have s1 := sq_abs (a := p.f1 - y) (by omega) (by omega)
  unfold impl_far.f farV
  rw [ws p0, ws p1, ws hx, ws hy, wsm (x := p.f0 - x) (by omega) (by omega), wsm (x := p.f1 - y) (by omega) (by omega), wsm (x := (p.f0 - x) * _) (by omega) (by omega), wsm (x := (p.f1 - y) * _) (by omega) (by omega), wsm (by omega) (by omega)]
theorem spec_far_tells {p : PlL} {x y : Int} (hp : okP p = true) (hx : b8 x) (hy : b8 y) : spec_l01Far.f p.f0 p.f1 x y = some (farV p x y) := by
  have := impl_far_tells hp hx hy
  unfold impl_far.f at this
  unfold spec_l01Far.f
  exact this
def offFrom (l : List PlL) (s x y : Int) : Nat → Nat → Int
  | 0, _ => -1
  | d + 1, i => if farV (l.getD i ⟨0, 0⟩) x y > s * s then (i : Int) else offFrom l s x y d (i + 1)
theorem getD_at {l : List PlL} {i : Nat} (h : i < l.length) : l.getD i ⟨0, 0⟩ = l[i] := by simp [h]
theorem impl_off_loop {l : List PlL} (hl : l.length ≤ 10000000) (hok : l.all okP = true) {s x y : Int} (c lo dr ki : Int) (hs0 : -1 ≤ s) (hs : s ≤ 1000) (hx : b8 x) (hy : b8 y) (d : Nat) : ∀ (k i : Nat), i + d = l.length → d < k → impl_off.l0 k s l l.length i x y c lo dr ki = some (offFrom l s x y d i) := by
  have hss : 0 ≤ s * s ∧ s * s ≤ 1000000 := by
    by_cases h : 0 ≤ s
    · exact sq_bounds h hs
    · obtain rfl : s = -1 := by omega
      omega
  induction d with
  | zero =>
    intro k i hi hk
    obtain ⟨k, rfl⟩ : ∃ m, k = m + 1 := ⟨k - 1, by omega⟩
    simp only [impl_off.l0]; rw [if_neg (by omega)]; rfl
  | succ d ih =>
    intro k i hi hk
    obtain ⟨k, rfl⟩ : ∃ m, k = m + 1 := ⟨k - 1, by omega⟩
    have ho : okP (l[i]'(by omega)) = true := List.all_eq_true.mp hok _ (List.getElem_mem (by omega : i < l.length))
    simp only [impl_off.l0]; rw [if_pos (by omega), if_pos (by omega), if_pos (by omega), rdP (by omega), impl_far_tells ho hx hy]
    simp only [Option.bind_some, offFrom]
    rw [wsm (x := s * s) (by omega) (by omega), getD_at (by omega)]
    split
    · rfl
    · rw [wnx (by omega)]; exact ih k (i + 1) (by omega) (by omega)
theorem spec_off_loop {l : List PlL} (hl : l.length ≤ 10000000) (hok : l.all okP = true) {s x y : Int} (c lo dr ki : Int) (hs0 : -1 ≤ s) (hs : s ≤ 1000) (hx : b8 x) (hy : b8 y) (d : Nat) : ∀ (k i : Nat), i + d = l.length → d < k → spec_l07Off.l0 k l s i x y c lo dr ki = some (offFrom l s x y d i) := by
  have hss : 0 ≤ s * s ∧ s * s ≤ 1000000 := by
    by_cases h : 0 ≤ s
    · exact sq_bounds h hs
    · obtain rfl : s = -1 := by omega
      omega
  induction d with
  | zero =>
    intro k i hi hk
    obtain ⟨k, rfl⟩ : ∃ m, k = m + 1 := ⟨k - 1, by omega⟩
    simp only [spec_l07Off.l0]; rw [if_neg (by omega)]; rfl
  | succ d ih =>
    intro k i hi hk
    obtain ⟨k, rfl⟩ : ∃ m, k = m + 1 := ⟨k - 1, by omega⟩
    have ho : okP (l[i]'(by omega)) = true := List.all_eq_true.mp hok _ (List.getElem_mem (by omega : i < l.length))
    simp only [spec_l07Off.l0]; rw [if_pos (by omega), if_pos (by omega), rdP (by omega), spec_far_tells ho hx hy]
    simp only [Option.bind_some, offFrom]
    rw [wsm (x := s * s) (by omega) (by omega), getD_at (by omega)]
    split
    · rfl
    · rw [wnx (by omega)]; exact ih k (i + 1) (by omega) (by omega)
def offV (b : Bay) (x y ch lo : Int) (l : List PlL) : Int := offFrom l (reachV b x y ch + lo) x y l.length 0
theorem impl_off_tells {b : Bay} (h : bayB b = true) {x y ch lo dr ki : Int} (hb : boatV b x y ch lo dr ki = true) {l : List PlL} (hl : l.length ≤ 10000000) (hok : l.all okP = true) {k : Nat} (hk : 60 < k) (hk2 : l.length < k) : impl_off.f k b x y ch lo dr ki l = some (offV b x y ch lo l) := by
  obtain ⟨hw, hc, hlo, _⟩ := boatV_isW hb
  obtain ⟨h0, h1, h2, h3⟩ := isP_16 h (isW_isP hw).1
  have hr := reachV_bounds b x y ch
  unfold impl_off.f impl_swingOf.f offV
  rw [(boat_reach h hb hk).1]
  simp only [Option.bind_some]
  rw [wsm (x := lo) (by omega) (by omega), wsm (by omega) (by omega)]
  exact impl_off_loop hl hok ch lo dr ki (by omega) (by omega) ⟨by omega, by omega⟩ ⟨by omega, by omega⟩ l.length k 0 (by omega) hk2
theorem spec_off_tells {b : Bay} (h : bayB b = true) {x y ch lo dr ki : Int} (hb : boatV b x y ch lo dr ki = true) {l : List PlL} (hl : l.length ≤ 10000000) (hok : l.all okP = true) {k : Nat} (hk : 60 < k) (hk2 : l.length < k) : spec_l07Off.f k b x y ch lo dr ki l = some (offV b x y ch lo l) := by
  obtain ⟨hw, hc, hlo, _⟩ := boatV_isW hb
  obtain ⟨h0, h1, h2, h3⟩ := isP_16 h (isW_isP hw).1
  have hr := reachV_bounds b x y ch
  unfold spec_l07Off.f offV
  rw [(boat_reach h hb hk).2]
  simp only [Option.bind_some]
  rw [wsm (x := lo) (by omega) (by omega), wsm (by omega) (by omega)]
  exact spec_off_loop hl hok ch lo dr ki (by omega) (by omega) ⟨by omega, by omega⟩ ⟨by omega, by omega⟩ l.length k 0 (by omega) hk2
def inBay (b : Bay) (p : PlL) : Bool := isP b p.f0 p.f1
theorem spec_log_loop (b : Bay) {l : List PlL} (hl : l.length ≤ 10000000) (hok : l.all okP = true) (d : Nat) : ∀ (k i : Nat), i + d = l.length → d < k → spec_l07Log.l0 k l i b = some ((l.drop i).all (inBay b)) := by
  induction d with
  | zero =>
    intro k i hi hk
    obtain ⟨k, rfl⟩ : ∃ m, k = m + 1 := ⟨k - 1, by omega⟩
    simp only [spec_l07Log.l0]; rw [if_neg (by omega), List.drop_of_length_le (by omega)]; rfl
  | succ d ih =>
    intro k i hi hk
    obtain ⟨k, rfl⟩ : ∃ m, k = m + 1 := ⟨k - 1, by omega⟩
    have ho : okP (l[i]'(by omega)) = true := List.all_eq_true.mp hok _ (List.getElem_mem (by omega : i < l.length))
    simp only [spec_l07Log.l0]; rw [if_pos (by omega), if_pos (by omega), rdP (by omega), spec_is b (okP_b8 ho).1 (okP_b8 ho).2, List.drop_eq_getElem_cons (by omega : i < l.length), List.all_cons]
    simp only [Option.bind_some]
    cases hp : isP b (l[i]'(by omega)).f0 (l[i]'(by omega)).f1
    · simp [inBay, hp]
    · rw [if_pos rfl, wnx (by omega), ih k (i + 1) (by omega) (by omega)]; simp [inBay, hp]
theorem spec_log_tells (b : Bay) {l : List PlL} (hl : l.length ≤ 10000000) (hok : l.all okP = true) {k : Nat} (hk : l.length < k) : spec_l07Log.f k b l = some (l.all (inBay b)) := by
  have := spec_log_loop b hl hok l.length k 0 (by omega) hk
  rwa [List.drop_zero] at this
theorem impl_log_inner (b : Bay) (L : List (List PlL)) (X Y : Int) {l : List PlL} (hl : l.length ≤ 10000000) (d : Nat) : ∀ (k i : Nat), i + d = l.length → impl_logCode.l2 (k + d + 1) L X Y l l.length i b = if (l.drop i).all (inBay b) = true then impl_logCode.l1 k L X (wrap64 (Y + 1)) b else some 2 := by
  induction d with
  | zero =>
    intro k i hi
    rw [Nat.add_zero]
    simp only [impl_logCode.l2]; rw [if_neg (by omega), List.drop_of_length_le (by omega)]; simp
  | succ d ih =>
    intro k i hi
    obtain ⟨K, hK⟩ : ∃ K, K = k + d + 1 := ⟨_, rfl⟩
    rw [show k + (d + 1) + 1 = K + 1 by omega]
    simp only [impl_logCode.l2]; rw [if_pos (by omega), if_pos (by omega), if_pos (by omega), rdP (by omega), impl_place, List.drop_eq_getElem_cons (by omega : i < l.length), List.all_cons]
    simp only [Option.bind_some]
    cases hp : isP b (l[i]'(by omega)).f0 (l[i]'(by omega)).f1
    · simp [inBay, hp]
    · rw [if_pos rfl, wnx (by omega)]; subst hK; rw [ih k (i + 1) (by omega)]; simp [inBay, hp]
theorem w01 : wrap64 (0 + 1) = 1 := by unfold wrap64; omega
theorem log_s0 (b : Bay) (l : List PlL) (K : Nat) : impl_logCode.l0 (K + 1) [l] [l] 1 0 b = if (l.length : Int) > 48 then some 3 else impl_logCode.l0 K [l] [l] 1 1 b := by
  simp only [impl_logCode.l0]; rw [if_pos (by omega), if_pos (by omega), if_pos (by simp), w01]; rfl
theorem log_s1 (b : Bay) (l : List PlL) (K : Nat) : impl_logCode.l0 (K + 1) [l] [l] 1 1 b = impl_logCode.l1 K [l] 1 0 b := by
  simp only [impl_logCode.l0]; rw [if_neg (by omega)]; rfl
theorem log_s2 (b : Bay) (l : List PlL) (K : Nat) : impl_logCode.l1 (K + 1) [l] 1 0 b = impl_logCode.l2 K [l] 1 0 l l.length ((0 : Nat) : Int) b := by
  simp only [impl_logCode.l1]; rw [if_pos (by omega), if_pos (by omega), if_pos (by simp)]; rfl
theorem log_s3 (b : Bay) (l : List PlL) (K : Nat) : impl_logCode.l1 (K + 1) [l] 1 1 b = some 0 := by
  simp only [impl_logCode.l1]; rw [if_neg (by omega)]
theorem impl_log_one (b : Bay) {l : List PlL} (hl : l.length ≤ 10000000) {k : Nat} (hk : l.length + 6 ≤ k) : impl_logCode.f k b [l] = some (if 48 < l.length then 3 else if l.all (inBay b) = true then 0 else 2) := by
  refine upto (g := fun k => impl_logCode.f k b [l]) (K := l.length + 6) (fun k r => impl_logCode.mono b [l] k r) ?_ hk
  unfold impl_logCode.f
  show impl_logCode.l0 (l.length + 6) [l] [l] 1 0 b = _
  rw [show l.length + 6 = (l.length + 5) + 1 by omega, log_s0]
  by_cases h : 48 < l.length
  · rw [if_pos (by omega), if_pos h]
  · rw [if_neg (by omega), if_neg h, show l.length + 5 = (l.length + 4) + 1 by omega, log_s1, show l.length + 4 = (2 + l.length + 1) + 1 by omega, log_s2, impl_log_inner b [l] 1 0 hl l.length 2 0 (by omega), List.drop_zero, w01, show 2 = 1 + 1 from rfl, log_s3]
    cases l.all (inBay b) <;> simp
end Go.Proofs.Ytccjcnmeibconaa.G.PB
end
section
namespace Go.Proofs.Ytccjcnmeibconaa.G.PB
open Go.RowKit M Go.Proofs.Ytccjcnmeibconaa.PL Go.Proofs.YtccjcnmeibconaaW.PrintWords Go.Proofs.YtccjcnmeibconaaW.PrintMore
set_option linter.unusedSimpArgs false
set_option linter.unusedVariables false
abbrev Bt := S44
def okB (t : Bt) : Bool := (i8B t.f0.f0 && i8B t.f0.f1) && (i8B t.f1 && (i8B t.f2 && (i8B t.f3 && i8B t.f4)))
def boatS (b : Bay) (t : Bt) : Bool := boatV b t.f0.f0 t.f0.f1 t.f1 t.f2 t.f3 t.f4
theorem okB_b8 {t : Bt} (h : okB t = true) : b8 t.f0.f0 ∧ b8 t.f0.f1 ∧ b8 t.f1 ∧ b8 t.f2 ∧ b8 t.f3 ∧ b8 t.f4 := by
  simp only [okB, Bool.and_eq_true] at h
  exact ⟨i8_bounds h.1.1, i8_bounds h.1.2, i8_bounds h.2.1, i8_bounds h.2.2.1, i8_bounds h.2.2.2.1, i8_bounds h.2.2.2.2⟩
theorem rdB {l : List Bt} {i : Nat} (h : i < l.length) : rd_T44 l (i : Int) = l[i] := by simp [rd_T44, h]
theorem spec_asked_loop {b : Bay} (hb : bayB b = true) {l : List Bt} (hl : l.length ≤ 10000000) (hok : l.all okB = true) (d : Nat) : ∀ (k i : Nat), i + d = l.length → d < k → spec_l01Asked.l0 k l i b = some (if (l.drop i).all (boatS b) = true then (if 10 < l.length then 3 else 0) else 1) := by
  induction d with
  | zero =>
    intro k i hi hk
    obtain ⟨k, rfl⟩ : ∃ m, k = m + 1 := ⟨k - 1, by omega⟩
    simp only [spec_l01Asked.l0]; rw [if_neg (by omega), List.drop_of_length_le (by omega), List.all_nil, if_pos rfl]
    by_cases h : 10 < l.length
    · rw [if_pos (by omega), if_pos h]
    · rw [if_neg (by omega), if_neg h]
  | succ d ih =>
    intro k i hi hk
    obtain ⟨k, rfl⟩ : ∃ m, k = m + 1 := ⟨k - 1, by omega⟩
    have ho := okB_b8 (List.all_eq_true.mp hok _ (List.getElem_mem (by omega : i < l.length)))
    simp only [spec_l01Asked.l0]; rw [if_pos (by omega), if_pos (by omega), rdB (by omega), spec_boat hb ho.1 ho.2.1 ho.2.2.1 ho.2.2.2.1 ho.2.2.2.2.1 ho.2.2.2.2.2, List.drop_eq_getElem_cons (by omega : i < l.length), List.all_cons]
    simp only [Option.bind_some]
    cases hp : boatV b (l[i]'(by omega)).f0.f0 (l[i]'(by omega)).f0.f1 (l[i]'(by omega)).f1 (l[i]'(by omega)).f2 (l[i]'(by omega)).f3 (l[i]'(by omega)).f4
    · simp [boatS, hp]
    · rw [if_pos rfl, wnx (by omega), ih k (i + 1) (by omega) (by omega)]; simp [boatS, hp]
def askedV (b : Bay) (l : List Bt) : Int := if bayB b = true then (if l.all (boatS b) = true then (if 10 < l.length then 3 else 0) else 1) else 1
theorem spec_asked_tells {b : Bay} {l : List Bt} (hl : l.length ≤ 10000000) (hok : l.all okB = true) {k : Nat} (hk : l.length < k) : spec_l01Asked.f k b l = some (askedV b l) := by
  unfold spec_l01Asked.f spec_l01Bay.f askedV
  cases hb : bayB b
  · simp
  · have := spec_asked_loop hb hl hok l.length k 0 (by omega) hk
    rw [List.drop_zero] at this
    simpa using this
theorem i8B_of {x : Int} (h : b8 x) : i8B x = true := by obtain ⟨h0, h1⟩ := h; simp [i8B, inB, h0, h1]
theorem okB_mk {x y ch lo dr ki : Int} (hx : b8 x) (hy : b8 y) (hc : b8 ch) (hl : b8 lo) (hd : b8 dr) (hk : b8 ki) : okB ⟨⟨x, y⟩, ch, lo, dr, ki⟩ = true := by
  simp [okB, i8B_of hx, i8B_of hy, i8B_of hc, i8B_of hl, i8B_of hd, i8B_of hk]
theorem spec_asked_one {b : Bay} {x y ch lo dr ki : Int} (hx : b8 x) (hy : b8 y) (hc : b8 ch) (hl : b8 lo) (hd : b8 dr) (hki : b8 ki) {k : Nat} (hk : 1 < k) : spec_l01Asked.f k b [(⟨⟨x, y⟩, ch, lo, dr, ki⟩ : Bt)] = some (if (bayB b && boatV b x y ch lo dr ki) = true then 0 else 1) := by
  rw [spec_asked_tells (by simp) (by simp [okB_mk hx hy hc hl hd hki]) (by simpa using hk)]
  unfold askedV
  cases bayB b <;> cases h : boatV b x y ch lo dr ki <;> simp [boatS, h]
end Go.Proofs.Ytccjcnmeibconaa.G.PB
end
section
namespace Go.Proofs.Ytccjcnmeibconaa.G.PB
open Go.RowKit M Go.Proofs.Ytccjcnmeibconaa.PL Go.Proofs.YtccjcnmeibconaaW.PrintWords Go.Proofs.YtccjcnmeibconaaW.PrintMore
set_option linter.unusedSimpArgs false
set_option linter.unusedVariables false
def logV (b : Bay) (l : List PlL) : Int := if 48 < l.length then 3 else if l.all (inBay b) = true then 0 else 2
def loggedV (b : Bay) (x y ch lo dr ki : Int) (l : List PlL) (r : Bool) : Int :=
  if (bayB b && boatV b x y ch lo dr ki) = true then (if logV b l = 0 then (if r = true then (if reachV b x y ch < 0 then 4 else 0) else 0) else logV b l) else 1
theorem valid_two {b : Bay} {x y ch lo dr ki : Int} (h : (bayB b && boatV b x y ch lo dr ki) = true) : bayB b = true ∧ boatV b x y ch lo dr ki = true := by simpa using h
theorem impl_valid_boat (b : Bay) (x y ch lo dr ki : Int) : impl_ValidBoat.f b x y ch lo dr ki = some (bayB b && boatV b x y ch lo dr ki) := by
  unfold impl_ValidBoat.f impl_ValidBay.f
  cases hb : bayB b
  · simp
  · simp only [Option.bind_some, if_true]; rw [impl_boat hb]; simp
theorem spec_logged_tells {b : Bay} {x y ch lo dr ki : Int} (hx : b8 x) (hy : b8 y) (hc : b8 ch) (hlo : b8 lo) (hd : b8 dr) (hki : b8 ki) {l : List PlL} (hl : l.length ≤ 10000000) (hok : l.all okP = true) (r : Bool) {k : Nat} (hk : l.length + 60 < k) : spec_l07Logged.f k b x y ch lo dr ki l r = some (loggedV b x y ch lo dr ki l r) := by
  unfold spec_l07Logged.f loggedV logV
  rw [spec_asked_one hx hy hc hlo hd hki (by omega)]
  simp only [Option.bind_some]
  cases hv : (bayB b && boatV b x y ch lo dr ki)
  · simp
  · obtain ⟨h1, h2⟩ := valid_two hv
    simp only [if_true]
    by_cases h : 48 < l.length
    · rw [if_pos (by omega), if_pos h]; simp
    · rw [if_neg (by omega), if_neg h, spec_log_tells b hl hok (by omega)]
      simp only [Option.bind_some]
      cases l.all (inBay b)
      · simp
      · simp only [if_true]
        cases r
        · simp
        · simp only [if_true]
          rw [(boat_reach h1 h2 (by omega)).2]
          simp only [Option.bind_some]
          split <;> rfl
end Go.Proofs.Ytccjcnmeibconaa.G.PB
end
section
namespace Go.Proofs.Ytccjcnmeibconaa.G.PB
open Go.RowKit M Go.Proofs.Ytccjcnmeibconaa.PL Go.Proofs.YtccjcnmeibconaaW.PrintWords Go.Proofs.YtccjcnmeibconaaW.PrintMore
set_option linter.unusedSimpArgs false
set_option linter.unusedVariables false
abbrev Pl := S42
def rowFrom (y : Int) : Nat → Int → List Pl
  | 0, _ => []
  | d + 1, x => (⟨x, y⟩ : Pl) :: rowFrom y d (x + 1)
def allFrom (w : Nat) : Nat → Int → List Pl
  | 0, _ => []
  | d + 1, y => rowFrom y w 0 ++ allFrom w d (y + 1)
def allV (b : Bay) : List Pl := allFrom (b.z 0).toNat (b.z 1).toNat 0
theorem row_length (y : Int) (d : Nat) : ∀ x, (rowFrom y d x).length = d := by
  induction d with
  | zero => intro x; rfl
  | succ d ih => intro x; simp [rowFrom, ih]
theorem row_mem {y : Int} {d : Nat} : ∀ {x : Int} {p : Pl}, p ∈ rowFrom y d x → x ≤ p.f0 ∧ p.f0 < x + d ∧ p.f1 = y := by
  induction d with
  | zero => intro x p h; simp [rowFrom] at h
  | succ d ih =>
    intro x p h
    simp only [rowFrom, List.mem_cons] at h
    rcases h with rfl | h
    · exact ⟨Int.le_refl _, by simp only; omega, rfl⟩
    · have := ih h; omega
theorem all_mem {w d : Nat} : ∀ {y : Int} {p : Pl}, p ∈ allFrom w d y → 0 ≤ p.f0 ∧ p.f0 < w ∧ y ≤ p.f1 ∧ p.f1 < y + d := by
  induction d with
  | zero => intro y p h; simp [allFrom] at h
  | succ d ih =>
    intro y p h
    simp only [allFrom, List.mem_append] at h
    rcases h with h | h
    · have := row_mem h; omega
    · have := ih h; omega
theorem all_length (w d : Nat) : ∀ y, (allFrom w d y).length = d * w := by
  induction d with
  | zero => intro y; simp [allFrom]
  | succ d ih => intro y; simp [allFrom, row_length, ih, Nat.succ_mul]; omega
theorem allV_isP {b : Bay} (h : bayB b = true) {p : Pl} (hp : p ∈ allV b) : isP b p.f0 p.f1 = true := by
  have := bay_small h
  have := all_mem hp
  exact isP_true (by omega) (by omega) (by omega) (by omega)
theorem allV_length {b : Bay} (h : bayB b = true) : (allV b).length ≤ 256 := by
  have := bay_small h
  unfold allV
  rw [all_length]
  calc (b.z 1).toNat * (b.z 0).toNat ≤ 16 * 16 := Nat.mul_le_mul (by omega) (by omega)
    _ = 256 := rfl
theorem spec_row {b : Bay} (h : bayB b = true) (y : Int) (d : Nat) : ∀ (k : Nat) (acc : List Pl) (x : Int), 0 ≤ x → x + d = b.z 0 → acc.length + d < 70368744177664 →
    spec_l01All.l1 (k + d + 1) acc y x b = spec_l01All.l0 k (acc ++ rowFrom y d x) (IntKind.i8.wrap (y + 1)) b := by
  have hb := bay_small h
  induction d with
  | zero =>
    intro k acc x h0 h1 hl
    simp only [Nat.add_zero, spec_l01All.l1]; rw [if_neg (by omega)]; simp [rowFrom]
  | succ d ih =>
    intro k acc x h0 h1 hl
    obtain ⟨K, hK⟩ : ∃ K, K = k + d + 1 := ⟨_, rfl⟩
    rw [show k + (d + 1) + 1 = K + 1 by omega]
    simp only [spec_l01All.l1]; rw [if_pos (by omega), if_pos (by omega), w8 (by omega) (by omega), hK, ih k _ (x + 1) (by omega) (by omega) (by simp; omega)]
    simp [rowFrom]
theorem spec_all {b : Bay} (h : bayB b = true) (e : Nat) : ∀ (acc : List Pl) (y : Int), 0 ≤ y → y + e = b.z 1 → acc.length + 1000 < 70368744177664 - e * 1000 →
    spec_l01All.l0 (e * ((b.z 0).toNat + 2) + 1) acc y b = some (acc ++ allFrom (b.z 0).toNat e y) := by
  have hb := bay_small h
  induction e with
  | zero =>
    intro acc y h0 h1 hl
    rw [Nat.zero_mul, Nat.zero_add]
    simp only [spec_l01All.l0]; rw [if_neg (by omega)]; simp [allFrom]
  | succ e ih =>
    intro acc y h0 h1 hl
    obtain ⟨K, hK⟩ : ∃ K, K = e * ((b.z 0).toNat + 2) + 1 + (b.z 0).toNat + 1 := ⟨_, rfl⟩
    rw [Nat.succ_mul, show e * ((b.z 0).toNat + 2) + ((b.z 0).toNat + 2) + 1 = K + 1 by omega]
    simp only [spec_l01All.l0]; rw [if_pos (by omega), hK, spec_row h y (b.z 0).toNat _ acc 0 (by omega) (by omega) (by omega), w8 (by omega) (by omega), ih _ (y + 1) (by omega) (by omega) (by simp [row_length]; omega)]
    simp [allFrom]
theorem spec_all_tells {b : Bay} (h : bayB b = true) {k : Nat} (hk : 400 ≤ k) : spec_l01All.f k b = some (allV b) := by
  have hb := bay_small h
  refine upto (g := fun k => spec_l01All.f k b) (K := (b.z 1).toNat * ((b.z 0).toNat + 2) + 1) (fun k r => spec_l01All.mono b k r) ?_ ?_
  · have := spec_all h (b.z 1).toNat [] 0 (by omega) (by omega) (by simp; omega)
    simpa [spec_l01All.f, allV] using this
  · have : (b.z 1).toNat * ((b.z 0).toNat + 2) ≤ 16 * 18 := Nat.mul_le_mul (by omega) (by omega)
    omega
theorem impl_row {b : Bay} (h : bayB b = true) (y X : Int) (d : Nat) : ∀ (k : Nat) (acc : List Pl) (x : Int), 0 ≤ x → x + d = b.z 0 → acc.length + d < 70368744177664 →
    impl_allPlaces.l1 (k + d + 1) acc y X y (b.z 0) x b = impl_allPlaces.l0 k (acc ++ rowFrom y d x) X (IntKind.i8.wrap (y + 1)) b := by
  have hb := bay_small h
  induction d with
  | zero =>
    intro k acc x h0 h1 hl
    simp only [Nat.add_zero, impl_allPlaces.l1]; rw [if_neg (by omega)]; simp [rowFrom]
  | succ d ih =>
    intro k acc x h0 h1 hl
    obtain ⟨K, hK⟩ : ∃ K, K = k + d + 1 := ⟨_, rfl⟩
    rw [show k + (d + 1) + 1 = K + 1 by omega]
    simp only [impl_allPlaces.l1]; rw [if_pos (by omega), if_pos (by omega), w8 (by omega) (by omega), hK, ih k _ (x + 1) (by omega) (by omega) (by simp; omega)]
    simp [rowFrom]
theorem impl_all {b : Bay} (h : bayB b = true) (e : Nat) : ∀ (acc : List Pl) (y : Int), 0 ≤ y → y + e = b.z 1 → acc.length + 1000 < 70368744177664 - e * 1000 →
    impl_allPlaces.l0 (e * ((b.z 0).toNat + 2) + 1) acc (b.z 1) y b = some (acc ++ allFrom (b.z 0).toNat e y) := by
  have hb := bay_small h
  induction e with
  | zero =>
    intro acc y h0 h1 hl
    rw [Nat.zero_mul, Nat.zero_add]
    simp only [impl_allPlaces.l0]; rw [if_neg (by omega)]; simp [allFrom]
  | succ e ih =>
    intro acc y h0 h1 hl
    obtain ⟨K, hK⟩ : ∃ K, K = e * ((b.z 0).toNat + 2) + 1 + (b.z 0).toNat + 1 := ⟨_, rfl⟩
    rw [Nat.succ_mul, show e * ((b.z 0).toNat + 2) + ((b.z 0).toNat + 2) + 1 = K + 1 by omega]
    simp only [impl_allPlaces.l0]; rw [if_pos (by omega), hK, impl_row h y (b.z 1) (b.z 0).toNat _ acc 0 (by omega) (by omega) (by omega), w8 (by omega) (by omega), ih _ (y + 1) (by omega) (by omega) (by simp [row_length]; omega)]
    simp [allFrom]
theorem impl_all_tells {b : Bay} (h : bayB b = true) {k : Nat} (hk : 400 ≤ k) : impl_allPlaces.f k b = some (allV b) := by
  have hb := bay_small h
  refine upto (g := fun k => impl_allPlaces.f k b) (K := (b.z 1).toNat * ((b.z 0).toNat + 2) + 1) (fun k r => impl_allPlaces.mono b k r) ?_ ?_
  · have := impl_all h (b.z 1).toNat [] 0 (by omega) (by omega) (by simp; omega)
    simpa [impl_allPlaces.f, allV] using this
  · have : (b.z 1).toNat * ((b.z 0).toNat + 2) ≤ 16 * 18 := Nat.mul_le_mul (by omega) (by omega)
    omega
end Go.Proofs.Ytccjcnmeibconaa.G.PB
end
section
namespace Go.Proofs.Ytccjcnmeibconaa.G.PS
open Go.RowKit Go.Proofs.Ytccjcnmeibconaa.PL Go.Proofs.YtccjcnmeibconaaW.PrintWords
set_option linter.unusedVariables false
set_option linter.unusedSimpArgs false
def convPlace (x : S30) : S42 := ⟨x.f0, x.f1⟩
theorem toPlace_loop (l : List S30) (hl : l.length ≤ 10000000) (d : Nat) : ∀ (k i : Nat) (o : List S42), o.length = l.length → o.take i = (l.map convPlace).take i → i + d = l.length → d < k → laws_toPlaceS.l0 k l o i = some (l.map convPlace) := by
  induction d with
  | zero =>
    intro k i o ho he hi hk
    obtain ⟨k, rfl⟩ : ∃ m, k = m + 1 := ⟨k - 1, by omega⟩
    rw [List.take_of_length_le (by omega), List.take_of_length_le (by rw [List.length_map]; omega)] at he
    simp only [laws_toPlaceS.l0]; rw [if_neg (by omega), he]
  | succ d ih =>
    intro k i o ho he hi hk
    obtain ⟨k, rfl⟩ : ∃ m, k = m + 1 := ⟨k - 1, by omega⟩
    simp only [laws_toPlaceS.l0]; rw [if_pos (by omega), if_pos (by omega)]
    simp only [laws_toPlace.f, Option.bind_some]
    rw [if_pos (by omega), wnx (by omega)]
    refine ih k (i + 1) _ (by rw [List.length_set]; exact ho) ?_ (by omega) (by omega)
    rw [Int.toNat_natCast]
    have e2 : rd_T30 l (i : Int) = l[i]'(by omega) := by simp [rd_T30, show i < l.length by omega]
    simp only [e2]
    rw [List.take_add_one, List.take_set_of_le (Nat.le_refl _), List.getElem?_set_self (by omega), he, List.take_add_one (l := l.map convPlace), List.getElem?_eq_getElem (by rw [List.length_map]; omega), List.getElem_map]
    rfl
theorem toPlace_tells {l : List S30} (hl : l.length ≤ 1048576) {k : Nat} (hk : l.length < k) : laws_toPlaceS.f k l = some (l.map convPlace) := by
  unfold laws_toPlaceS.f
  rw [if_pos (by omega), if_pos (by omega)]
  exact toPlace_loop l (by omega) l.length k 0 _ (by simp) (by simp) (by omega) hk
end Go.Proofs.Ytccjcnmeibconaa.G.PS
end
section
namespace Go.Proofs.Ytccjcnmeibconaa.G.PB
open Go.RowKit M Go.Proofs.Ytccjcnmeibconaa.PL Go.Proofs.Ytccjcnmeibconaa.G.PS Go.Proofs.YtccjcnmeibconaaW.PrintWords
set_option linter.unusedSimpArgs false
set_option linter.unusedVariables false
theorem places_ok {l : List S30} (h : ∀ x ∈ l, ∃ z : Nat → Int, x = (⟨z 0, z 1⟩ : S30) ∧ ∀ j, j < 2 → (Lit.int (([.i8, .i8] : List IntKind).getD j .i64) (z j)).wf = true) : (l.map convPlace).all okP = true := by
  rw [List.all_eq_true]
  intro y hy
  rw [List.mem_map] at hy
  obtain ⟨x, hx, rfl⟩ := hy
  obtain ⟨z, rfl, hz⟩ := h x hx
  simp [okP, convPlace, i8_wf (hz 0 (by omega)), i8_wf (hz 1 (by omega))]
theorem sz_tellsP {n : Nat} (h : n ≤ 9223372036854775807) : wrap64 (1048576 - (n : Int)) = 1048576 - (n : Int) := by unfold wrap64; omega
theorem b8_of' {x : Int} (h : (Lit.int .i8 x).wf = true) : b8 x := bounds_i8 h
end Go.Proofs.Ytccjcnmeibconaa.G.PB
end
section
namespace Go.Proofs.Ytccjcnmeibconaa.G.PB
open Go.RowKit Go.Proofs.Ytccjcnmeibconaa.PL Go.Proofs.YtccjcnmeibconaaW.PrintWords
set_option linter.unusedSimpArgs false
set_option linter.unusedVariables false
abbrev PlM := S42
theorem eqPlace0_loop (l : List PlM) (hl : l.length ≤ 10000000) (d : Nat) : ∀ (k i : Nat), i + d = l.length → d < k → laws_eqPlaceS.l0 k l l i = some true := by
  induction d with
  | zero =>
    intro k i hi hk
    obtain ⟨k, rfl⟩ : ∃ m, k = m + 1 := ⟨k - 1, by omega⟩
    simp only [laws_eqPlaceS.l0]; rw [if_neg (by omega)]
  | succ d ih =>
    intro k i hi hk
    obtain ⟨k, rfl⟩ : ∃ m, k = m + 1 := ⟨k - 1, by omega⟩
    simp only [laws_eqPlaceS.l0]; rw [if_pos (by omega), if_pos (by omega), if_pos (by omega)]
    simp only [laws_eqPlace.f, if_true, Option.bind_some]
    rw [wnx (by omega)]
    exact ih k (i + 1) (by omega) (by omega)
theorem eqP_tells {l : List PlM} (hl : l.length ≤ 10000000) {k : Nat} (hk : l.length < k) : laws_eqPlaceS.f k l l = some true := by
  unfold laws_eqPlaceS.f; rw [if_pos rfl]; exact eqPlace0_loop l hl l.length k 0 (by omega) hk
def upP (i : Nat) : PlM := ⟨IntKind.i8.wrap (1 + 2 * (i : Int)), IntKind.i8.wrap (2 + 2 * (i : Int))⟩
def upsP (m : Nat) : List PlM := (List.range m).map upP
theorem upsP_length (m : Nat) : (upsP m).length = m := by simp [upsP]
theorem upsP_succ (m : Nat) : upsP (m + 1) = upsP m ++ [upP m] := by simp [upsP, List.range_succ]
theorem markP_loop (l : List PlM) (hl : l.length ≤ 10000000) (d : Nat) : ∀ (k i : Nat), i + d = l.length → d < k → laws_markPlaceS.l0 k (upsP i ++ l.drop i) (1 + 2 * i) i = some (1 + 2 * (l.length : Int), upsP l.length) := by
  induction d with
  | zero =>
    intro k i hi hk
    obtain ⟨k, rfl⟩ : ∃ m, k = m + 1 := ⟨k - 1, by omega⟩
    have e : i = l.length := by omega
    subst e
    simp only [laws_markPlaceS.l0]; rw [if_neg (by simp [upsP_length])]; simp
  | succ d ih =>
    intro k i hi hk
    obtain ⟨k, rfl⟩ : ∃ m, k = m + 1 := ⟨k - 1, by omega⟩
    have hlen : (upsP i ++ l.drop i).length = l.length := by simp [upsP_length]; omega
    have hset : ∀ v, (upsP i ++ l.drop i).set i v = upsP i ++ v :: l.drop (i + 1) := fun v => by
      rw [List.set_append_right _ _ (by rw [upsP_length]; omega), upsP_length, Nat.sub_self, List.drop_eq_getElem_cons (by omega : i < l.length), List.set_cons_zero]
    have hset2 : ∀ u v, (upsP i ++ u :: l.drop (i + 1)).set i v = upsP i ++ v :: l.drop (i + 1) := fun u v => by
      rw [List.set_append_right _ _ (by rw [upsP_length]; omega), upsP_length, Nat.sub_self, List.set_cons_zero]
    have hrd : ∀ u, rd_T42 (upsP i ++ u :: l.drop (i + 1)) (i : Int) = u := fun u => by
      unfold rd_T42
      rw [Int.toNat_natCast, List.getD_eq_getElem?_getD, List.getElem?_append_right (by rw [upsP_length]; omega), upsP_length, Nat.sub_self]
      rfl
    simp only [laws_markPlaceS.l0]; rw [hlen, if_pos (by omega), if_pos (by omega)]
    simp only [Option.bind_some]
    rw [Int.toNat_natCast, hset, hrd, hset2, wnx (by omega), wsm (x := 1 + 2 * (i : Int) + 1) (by omega) (by omega), wsm (by omega) (by omega)]
    have := ih k (i + 1) (by omega) (by omega)
    rw [upsP_succ, List.append_assoc] at this
    rw [show (1 : Int) + 2 * i + 1 + 1 = 1 + 2 * ((i + 1 : Nat) : Int) by omega, show (1 : Int) + 2 * i + 1 = 2 + 2 * i by omega]
    exact this
theorem markP_tells {l : List PlM} (hl : l.length ≤ 10000000) {k : Nat} (hk : l.length < k) : laws_markPlaceS.f k l 1 = some (1 + 2 * (l.length : Int), upsP l.length) := by
  have := markP_loop l hl l.length k 0 (by omega) hk
  simpa [upsP, laws_markPlaceS.f] using this
theorem heldP_loop (m : Nat) (hl : m ≤ 10000000) (d : Nat) : ∀ (k i : Nat), i + d = m → d < k → laws_heldPlaceS.l0 k (upsP m) (1 + 2 * i) i = some (1 + 2 * (m : Int)) := by
  induction d with
  | zero =>
    intro k i hi hk
    obtain ⟨k, rfl⟩ : ∃ m, k = m + 1 := ⟨k - 1, by omega⟩
    have e : i = m := by omega
    subst e
    simp only [laws_heldPlaceS.l0]; rw [if_neg (by rw [upsP_length]; omega)]
  | succ d ih =>
    intro k i hi hk
    obtain ⟨k, rfl⟩ : ∃ m, k = m + 1 := ⟨k - 1, by omega⟩
    have hr : rd_T42 (upsP m) (i : Int) = upP i := by
      have : i < m := by omega
      simp [rd_T42, upsP, this]
    simp only [laws_heldPlaceS.l0]; rw [if_pos (by rw [upsP_length]; omega), if_pos (by omega), hr, wnx (by omega), wsm (x := 1 + 2 * (i : Int) + 1) (by omega) (by omega), wsm (by omega) (by omega)]
    have := ih k (i + 1) (by omega) (by omega)
    rw [show (1 : Int) + 2 * i + 1 + 1 = 1 + 2 * ((i + 1 : Nat) : Int) by omega, show (1 : Int) + 2 * i + 1 = 2 + 2 * i by omega]
    simp only [upP, if_true]
    exact this
theorem heldP_tells {m : Nat} (hl : m ≤ 10000000) {k : Nat} (hk : m < k) : laws_heldPlaceS.f k (upsP m) 1 = some (1 + 2 * (m : Int)) := by
  have := heldP_loop m hl m k 0 (by omega) hk
  simpa [laws_heldPlaceS.f] using this
end Go.Proofs.Ytccjcnmeibconaa.G.PB
end
section
namespace Go.Proofs.Ytccjcnmeibconaa.G.Pure
open Go.RowKit M Go.Proofs.Ytccjcnmeibconaa.PL Go.Proofs.Ytccjcnmeibconaa.G.PB Go.Proofs.Ytccjcnmeibconaa.G.PS
set_option linter.unusedSimpArgs false
set_option linter.unusedVariables false
def anchF (b : PB.Bay) (ch lo dr ki : Int) (l : List PlL) (p : Pl) : Bool := boatV b p.f0 p.f1 ch lo dr ki && (decide (0 ≤ reachV b p.f0 p.f1 ch) && decide (offV b p.f0 p.f1 ch lo l < 0))
theorem spec_loop {b : PB.Bay} (hb : bayB b = true) {l : List PlL} (hl : l.length ≤ 10000000) (hok : l.all okP = true) {ch lo dr ki : Int} (hc : b8 ch) (hlo : b8 lo) (hdr : b8 dr) (hki : b8 ki) {L : List Pl} (hLl : L.length ≤ 1000) (hL : ∀ p ∈ L, isP b p.f0 p.f1 = true) (d : Nat) :
    ∀ (k i : Nat) (out : List Pl) (x y : Int), i + d = L.length → out.length ≤ i → l.length + d + 60 < k → spec_AnchorsFor.l0 k l out L i b x y ch lo dr ki = some (out ++ (L.drop i).filter (anchF b ch lo dr ki l), 0) := by
  induction d with
  | zero =>
    intro k i out x y hi ho hk
    obtain ⟨k, rfl⟩ : ∃ m, k = m + 1 := ⟨k - 1, by omega⟩
    simp only [spec_AnchorsFor.l0]; rw [if_neg (by omega), List.drop_of_length_le (by omega)]; simp
  | succ d ih =>
    intro k i out x y hi ho hk
    obtain ⟨k, rfl⟩ : ∃ m, k = m + 1 := ⟨k - 1, by omega⟩
    have hp := hL (L[i]'(by omega)) (List.getElem_mem _)
    obtain ⟨h0, h1, h2, h3⟩ := isP_16 hb hp
    simp only [spec_AnchorsFor.l0]; rw [if_pos (by omega), if_pos (by omega), rdP (by omega), spec_boat hb ⟨by omega, by omega⟩ ⟨by omega, by omega⟩ hc hlo hdr hki, List.drop_eq_getElem_cons (by omega : i < L.length), List.filter_cons]
    simp only [Option.bind_some, anchF]
    by_cases hv : boatV b (L[i]'(by omega)).f0 (L[i]'(by omega)).f1 ch lo dr ki = true
    case neg =>
      rw [if_neg hv, wnx (by omega), ih k (i + 1) _ _ _ (by omega) (by omega) (by omega)]
      simp [hv]
    case pos =>
      rw [if_pos hv, (boat_reach hb hv (by omega)).2, wnx (by omega)]
      simp only [Option.bind_some]
      by_cases hr : 0 ≤ reachV b (L[i]'(by omega)).f0 (L[i]'(by omega)).f1 ch
      · rw [if_pos hr, spec_off_tells hb hv hl hok (by omega) (by omega)]
        simp only [Option.bind_some]
        by_cases hf : offV b (L[i]'(by omega)).f0 (L[i]'(by omega)).f1 ch lo l < 0
        · rw [if_pos hf, if_pos (by omega), ih k (i + 1) _ _ _ (by omega) (by simp; omega) (by omega)]
          simp [hv, hr, hf]
        · rw [if_neg hf, ih k (i + 1) _ _ _ (by omega) (by omega) (by omega)]
          simp [hv, hr, hf]
      · rw [if_neg hr, ih k (i + 1) _ _ _ (by omega) (by omega) (by omega)]
        simp [hv, hr]
theorem impl_loop {b : PB.Bay} (hb : bayB b = true) {l : List PlL} (hl : l.length ≤ 10000000) (hok : l.all okP = true) {ch lo dr ki : Int} {L : List Pl} (hLl : L.length ≤ 1000) (hL : ∀ p ∈ L, isP b p.f0 p.f1 = true) (d : Nat) :
    ∀ (k i : Nat) (out : List Pl) (x y : Int), i + d = L.length → out.length ≤ i → l.length + d + 60 < k → impl_AnchorsFor.l0 k l out L L.length i b x y ch lo dr ki = some (out ++ (L.drop i).filter (anchF b ch lo dr ki l), 0) := by
  induction d with
  | zero =>
    intro k i out x y hi ho hk
    obtain ⟨k, rfl⟩ : ∃ m, k = m + 1 := ⟨k - 1, by omega⟩
    simp only [impl_AnchorsFor.l0]; rw [if_neg (by omega), List.drop_of_length_le (by omega)]; simp
  | succ d ih =>
    intro k i out x y hi ho hk
    obtain ⟨k, rfl⟩ : ∃ m, k = m + 1 := ⟨k - 1, by omega⟩
    have hp := hL (L[i]'(by omega)) (List.getElem_mem _)
    simp only [impl_AnchorsFor.l0]; rw [if_pos (by omega), if_pos (by omega), if_pos (by omega), rdP (by omega), impl_boat hb, List.drop_eq_getElem_cons (by omega : i < L.length), List.filter_cons]
    simp only [Option.bind_some, anchF]
    by_cases hv : boatV b (L[i]'(by omega)).f0 (L[i]'(by omega)).f1 ch lo dr ki = true
    case neg =>
      rw [if_neg hv, wnx (by omega), ih k (i + 1) _ _ _ (by omega) (by omega) (by omega)]
      simp [hv]
    case pos =>
      rw [if_pos hv, (boat_reach hb hv (by omega)).1, wnx (by omega)]
      simp only [Option.bind_some]
      by_cases hr : 0 ≤ reachV b (L[i]'(by omega)).f0 (L[i]'(by omega)).f1 ch
      · rw [if_pos hr, impl_off_tells hb hv hl hok (by omega) (by omega)]
        simp only [Option.bind_some]
        by_cases hf : offV b (L[i]'(by omega)).f0 (L[i]'(by omega)).f1 ch lo l < 0
        · rw [if_pos hf, if_pos (by omega), ih k (i + 1) _ _ _ (by omega) (by simp; omega) (by omega)]
          simp [hv, hr, hf]
        · rw [if_neg hf, ih k (i + 1) _ _ _ (by omega) (by omega) (by omega)]
          simp [hv, hr, hf]
      · rw [if_neg hr, ih k (i + 1) _ _ _ (by omega) (by omega) (by omega)]
        simp [hv, hr]
def anchV (b : PB.Bay) (x y ch lo dr ki : Int) (l : List PlL) : List Pl × Int := if loggedV b x y ch lo dr ki l false = 0 then ((allV b).filter (anchF b ch lo dr ki l), 0) else ([], loggedV b x y ch lo dr ki l false)
theorem logged_bay {b : PB.Bay} {x y ch lo dr ki : Int} {l : List PlL} {r : Bool} (h : loggedV b x y ch lo dr ki l r = 0) : bayB b = true ∧ boatV b x y ch lo dr ki = true := by
  have hv : (bayB b && boatV b x y ch lo dr ki) = true := by
    cases hv : (bayB b && boatV b x y ch lo dr ki)
    · unfold loggedV at h; rw [hv] at h; simp at h
    · rfl
  exact valid_two hv
theorem anchV_length (b : PB.Bay) (x y ch lo dr ki : Int) (l : List PlL) : (anchV b x y ch lo dr ki l).1.length ≤ 256 := by
  unfold anchV
  split
  · rename_i h
    have := allV_length (logged_bay h).1
    have := List.length_filter_le (anchF b ch lo dr ki l) (allV b)
    simp only; omega
  · simp
theorem spec_tells {b : PB.Bay} {x y ch lo dr ki : Int} (hx : b8 x) (hy : b8 y) (hc : b8 ch) (hlo : b8 lo) (hd : b8 dr) (hki : b8 ki) {l : List PlL} (hl : l.length ≤ 10000000) (hok : l.all okP = true) {k : Nat} (hk : l.length + 500 < k) : spec_AnchorsFor.f k b x y ch lo dr ki l = some (anchV b x y ch lo dr ki l) := by
  unfold spec_AnchorsFor.f anchV
  simp only [Option.bind_some]
  rw [spec_logged_tells hx hy hc hlo hd hki hl hok false (by omega)]
  simp only [Option.bind_some]
  by_cases h : loggedV b x y ch lo dr ki l false = 0
  · obtain ⟨h1, h2⟩ := logged_bay h
    have hal := allV_length h1
    rw [if_pos h, if_pos h, spec_all_tells h1 (by omega)]
    simp only [Option.bind_some]
    have := spec_loop h1 hl hok hc hlo hd hki (by omega) (fun p hp => allV_isP h1 hp) (allV b).length k 0 [] x y (by omega) (by simp) (by omega)
    simpa using this
  · rw [if_neg h, if_neg h]
theorem impl_tells {b : PB.Bay} {x y ch lo dr ki : Int} {l : List PlL} (hl : l.length ≤ 10000000) (hok : l.all okP = true) {k : Nat} (hk : l.length + 500 < k) : impl_AnchorsFor.f k b x y ch lo dr ki l = some (anchV b x y ch lo dr ki l) := by
  unfold impl_AnchorsFor.f anchV
  rw [impl_valid_boat]
  simp only [Option.bind_some]
  cases hv : (bayB b && boatV b x y ch lo dr ki)
  · have : loggedV b x y ch lo dr ki l false = 1 := by unfold loggedV; rw [hv]; simp
    rw [this]; simp
  · obtain ⟨h1, h2⟩ := valid_two hv
    have hal := allV_length h1
    have e : loggedV b x y ch lo dr ki l false = logV b l := by
      unfold loggedV; rw [hv]; simp; intro h; exact h.symm
    rw [if_pos rfl, impl_log_one b hl (by omega), show (if 48 < l.length then 3 else if l.all (inBay b) = true then 0 else 2) = logV b l from rfl, e]
    simp only [Option.bind_some]
    by_cases h : logV b l = 0
    · rw [if_pos h, if_pos h, impl_all_tells h1 (by omega)]
      simp only [Option.bind_some]
      have := impl_loop h1 hl hok (ch := ch) (lo := lo) (dr := dr) (ki := ki) (by omega) (fun p hp => allV_isP h1 hp) (allV b).length k 0 [] x y (by omega) (by simp) (by omega)
      simpa using this
    · rw [if_neg h, if_neg h]
theorem FnExactAnchorsFor : ∀ (o0 : O26) (a1_0 a1_1 a1_2 a1_3 a1_4 a1_5 : Int) (l2 : List S30), (Lit.int .i8 a1_0).wf = true → (Lit.int .i8 a1_1).wf = true → (Lit.int .i8 a1_2).wf = true → (Lit.int .i8 a1_3).wf = true → (Lit.int .i8 a1_4).wf = true → (Lit.int .i8 a1_5).wf = true → l2.length ≤ 9223372036854775807 → (∀ x ∈ l2, ∃ z : Nat → Int, x = (⟨z 0, z 1⟩ : S30) ∧ ∀ j, j < 2 → (Lit.int (([.i8, .i8] : List IntKind).getD j .i64) (z j)).wf = true) → ∃ k, laws_FnExactAnchorsFor.f k o0 a1_0 a1_1 a1_2 a1_3 a1_4 a1_5 l2 = some true := by
  intro b x y ch lo dr ki l hx hy hc hlo hd hk hl hxs
  have hok := places_ok hxs
  unfold laws_FnExactAnchorsFor.f laws_szPlaceS.f
  rw [sz_tellsP hl]
  by_cases hbig : (1048576 : Int) - (l.length : Int) < 0
  · exact ⟨0, by rw [if_pos hbig]; rfl⟩
  obtain ⟨K, hK⟩ : ∃ K, K = 3000000 := ⟨_, rfl⟩
  refine ⟨K + 1 + 1 + 1, ?_⟩
  obtain ⟨M, hM⟩ : ∃ M, M = l.map convPlace := ⟨_, rfl⟩
  have hMl : M.length ≤ 1048576 := by rw [hM, List.length_map]; omega
  have hto : ∀ k, l.length < k → laws_toPlaceS.f k l = some M := fun k hk => by rw [hM]; exact toPlace_tells (by omega) hk
  rw [← hM] at hok
  have hv := anchV_length b x y ch lo dr ki M
  obtain ⟨V, hV⟩ : ∃ V, V = anchV b x y ch lo dr ki M := ⟨_, rfl⟩
  have hsp : ∀ k, M.length + 500 < k → spec_AnchorsFor.f k b x y ch lo dr ki M = some V := fun k h => by rw [hV]; exact spec_tells (b8_of' hx) (b8_of' hy) (b8_of' hc) (b8_of' hlo) (b8_of' hd) (b8_of' hk) (by omega) hok h
  have him : ∀ k, M.length + 500 < k → impl_AnchorsFor.f k b x y ch lo dr ki M = some V := fun k h => by rw [hV]; exact impl_tells (by omega) hok h
  rw [← hV] at hv
  clear hM
  rw [if_neg hbig]
  simp only [Option.bind_some]
  rw [if_neg hbig]
  simp only [laws_toBay.f, laws_toBoat.f, laws_toPlace.f, Option.bind_some]
  rw [hto _ (by omega)]
  simp only [Option.bind_some]
  rw [hsp _ (by omega)]
  simp only [Option.bind_some]
  rw [him _ (by omega)]
  simp only [Option.bind_some]
  rw [eqP_tells (by omega) (by omega)]
  simp only [Option.bind_some, if_true, bne_self_eq_false, laws_FnExactAnchorsFor.j0]
  rw [if_neg (by simp), hto _ (by omega)]
  simp only [Option.bind_some]
  rw [eqP_tells (by omega) (by omega)]
  simp only [Option.bind_some, if_true]
  rw [markP_tells (by omega) (by omega)]
  simp only [Option.bind_some]
  rw [if_neg (by omega), eqP_tells (by omega) (by omega)]
  simp only [Option.bind_some, if_true, laws_FnExactAnchorsFor.j1]
  rw [if_neg (by simp), markP_tells (by omega) (by omega)]
  simp only [Option.bind_some]
  rw [heldP_tells (by omega) (by omega)]
  simp only [Option.bind_some]
  rw [if_neg (by omega)]
  simp only [eq_self, if_true]
  simp only [laws_toBay.f, laws_toBoat.f, laws_toPlace.f, Option.bind_some]
  rw [hto _ (by omega)]
  simp only [Option.bind_some]
  rw [him _ (by omega)]
  simp only [Option.bind_some]
  rw [eqP_tells (by omega) (by omega)]
  simp only [Option.bind_some, if_true, bne_self_eq_false, laws_FnExactAnchorsFor.j2]
  rw [if_neg (by simp), heldP_tells (by omega) (by omega)]
  simp only [Option.bind_some]
  rw [if_neg (by omega)]
  simp only [eq_self, if_true]
end Go.Proofs.Ytccjcnmeibconaa.G.Pure
end
namespace Go.Proofs.Ytccjcnmeibconaa.rowFnExactAnchorsFor
open Go.ChangeShapes Go.WideShapes Go.ChangeAt Go.RowKit G Go.Proofs.YtccjcnmeibconaaW.PrintWords
open Go.ChangeMaps (open_string shut_string)
set_option linter.unusedVariables false
theorem own : ownKnob Try.prog.godebug = none := by kernel_rfl
theorem laidOut : laidOutB Try.prog = true := by kernel_rfl
set_option maxRecDepth 100000 in
theorem lifted (os : Os) (started : os.Started) (H : Type) (enc : TypeId × Value → H) :
    ReturnsInHanded {} Try.checked os 6 .any (Rows.fnExactAnchorsForSpec.pre6 enc Try.prog Try.f6 Rows.fnExactAnchorsForRow.domain false) (Rows.fnExactAnchorsForSpec.post enc Try.prog Try.f6 false true false false) := by
  refine returnsInHanded_of_change_sized (C := Try.checked) own started (by kernel_rfl) Try.func6
    (ChangeSpec.witness6 (enc := enc) (C := Try.checked) false ⟨#[], #[.agg (Array.mk [.int .i8 0, .int .i8 0, .int .i8 0, .int .i8 0, .int .i8 0, .int .i8 0, .int .i8 0, .int .i8 0, .int .i8 0, .int .i8 0, .int .i8 0, .int .i8 0, .int .i8 0, .int .i8 0, .int .i8 0, .int .i8 0, .int .i8 0, .int .i8 0, .int .i8 0, .int .i8 0, .int .i8 0, .int .i8 0, .int .i8 0, .int .i8 0, .int .i8 0, .int .i8 0, .int .i8 0, .int .i8 0, .int .i8 0, .int .i8 0, .int .i8 0, .int .i8 0, .int .i8 0, .int .i8 0, .int .i8 0, .int .i8 0, .int .i8 0, .int .i8 0, .int .i8 0, .int .i8 0, .int .i8 0, .int .i8 0, .int .i8 0, .int .i8 0, .int .i8 0, .int .i8 0, .int .i8 0, .int .i8 0, .int .i8 0, .int .i8 0, .int .i8 0, .int .i8 0, .int .i8 0, .int .i8 0, .int .i8 0, .int .i8 0, .int .i8 0, .int .i8 0, .int .i8 0, .int .i8 0, .int .i8 0, .int .i8 0, .int .i8 0, .int .i8 0, .int .i8 0, .int .i8 0, .int .i8 0, .int .i8 0, .int .i8 0, .int .i8 0, .int .i8 0, .int .i8 0, .int .i8 0, .int .i8 0, .int .i8 0, .int .i8 0, .int .i8 0, .int .i8 0, .int .i8 0, .int .i8 0, .int .i8 0, .int .i8 0, .int .i8 0, .int .i8 0, .int .i8 0, .int .i8 0, .int .i8 0, .int .i8 0, .int .i8 0, .int .i8 0, .int .i8 0, .int .i8 0, .int .i8 0, .int .i8 0, .int .i8 0, .int .i8 0, .int .i8 0, .int .i8 0, .int .i8 0, .int .i8 0, .int .i8 0, .int .i8 0, .int .i8 0, .int .i8 0, .int .i8 0, .int .i8 0, .int .i8 0, .int .i8 0, .int .i8 0, .int .i8 0, .int .i8 0, .int .i8 0, .int .i8 0, .int .i8 0, .int .i8 0, .int .i8 0, .int .i8 0, .int .i8 0, .int .i8 0, .int .i8 0, .int .i8 0, .int .i8 0, .int .i8 0, .int .i8 0, .int .i8 0, .int .i8 0, .int .i8 0, .int .i8 0, .int .i8 0, .int .i8 0, .int .i8 0, .int .i8 0, .int .i8 0, .int .i8 0, .int .i8 0, .int .i8 0, .int .i8 0, .int .i8 0, .int .i8 0, .int .i8 0, .int .i8 0, .int .i8 0, .int .i8 0, .int .i8 0, .int .i8 0, .int .i8 0, .int .i8 0, .int .i8 0, .int .i8 0, .int .i8 0, .int .i8 0, .int .i8 0, .int .i8 0, .int .i8 0, .int .i8 0, .int .i8 0, .int .i8 0, .int .i8 0, .int .i8 0, .int .i8 0, .int .i8 0, .int .i8 0, .int .i8 0, .int .i8 0, .int .i8 0, .int .i8 0, .int .i8 0, .int .i8 0, .int .i8 0, .int .i8 0, .int .i8 0, .int .i8 0, .int .i8 0, .int .i8 0, .int .i8 0, .int .i8 0, .int .i8 0, .int .i8 0, .int .i8 0, .int .i8 0, .int .i8 0, .int .i8 0, .int .i8 0, .int .i8 0, .int .i8 0, .int .i8 0, .int .i8 0, .int .i8 0, .int .i8 0, .int .i8 0, .int .i8 0, .int .i8 0, .int .i8 0, .int .i8 0, .int .i8 0, .int .i8 0, .int .i8 0, .int .i8 0, .int .i8 0, .int .i8 0, .int .i8 0, .int .i8 0, .int .i8 0, .int .i8 0, .int .i8 0, .int .i8 0, .int .i8 0, .int .i8 0, .int .i8 0, .int .i8 0, .int .i8 0, .int .i8 0, .int .i8 0, .int .i8 0, .int .i8 0, .int .i8 0, .int .i8 0, .int .i8 0, .int .i8 0, .int .i8 0, .int .i8 0, .int .i8 0, .int .i8 0, .int .i8 0, .int .i8 0, .int .i8 0, .int .i8 0, .int .i8 0, .int .i8 0, .int .i8 0, .int .i8 0, .int .i8 0, .int .i8 0, .int .i8 0, .int .i8 0, .int .i8 0, .int .i8 0, .int .i8 0, .int .i8 0, .int .i8 0, .int .i8 0, .int .i8 0, .int .i8 0, .int .i8 0, .int .i8 0, .int .i8 0, .int .i8 0, .int .i8 0, .int .i8 0, .int .i8 0, .int .i8 0, .int .i8 0, .int .i8 0, .int .i8 0, .int .i8 0, .int .i8 0, .int .i8 0, .int .i8 0]), .agg #[.int .i8 0, .int .i8 0, .int .i8 0, .int .i8 0, .int .i8 0, .int .i8 0], .slice none 0 0], []⟩ 8 (by kernel_rfl) (by kernel_rfl) (by kernel_rfl) (by kernel_rfl)) ?_
  intro W base args ds gs before hval0 hW hcnd hsz0 _
  have hsz : (DataW.weightsEach Try.prog (Try.f6.params.toList ++ Rows.fnExactAnchorsForSpec.plain.varTypes Try.prog) (ds ++ gs)).all (· ≤ reachBytes) = true := hsz0
  have hval : ∀ (j : Nat) t v, Try.f6.params[j]? = some t → args[j]? = some v → Value.okWide Try.prog W .any base t v := hval0
  have hW' := hW
  obtain ⟨p, q, hA0, hV, rfl, hfz, hnd⟩ := hW
  have hA : DataW.TrodAll enc Try.prog W 0 (fun _ => true) true Try.f6.params.toList args.toList ds p := hA0
  rw [Try.params6] at hA hval hsz
  obtain ⟨v0, vs0, d0, ds0, p0, q0, hargs, rfl, rfl, h0, r0⟩ := trodAll_cons hA
  obtain ⟨v1, vs1, d1, ds1, p1, q1, rfl, rfl, rfl, h1, r1⟩ := trodAll_cons r0
  obtain ⟨v2, vs2, d2, ds2, p2, q2, rfl, rfl, rfl, h2, r2⟩ := trodAll_cons r1
  obtain ⟨rfl, rfl, rfl⟩ := trodAll_nil r2
  obtain rfl : args = #[v0, v1, v2] := by cases args; simp_all
  obtain ⟨rfl, rfl⟩ := trodVars_none hV
  have k0_ := h0
  have lt0 : ∀ x ∈ p0, x.block < W.heap.size := by obtain ⟨m, hm⟩ := k0_; exact DataW.trod_lt m _ _ _ hm
  obtain ⟨o0, rfl⟩ : ∃ o : O26, v0 = VO26 o := by
    obtain ⟨z, e, hw⟩ := RL.flat_value 258 KSO26 (by kernel_rfl) (by kernel_rfl) (okWide_struct Try.underlying26 (hval 0 26 v0 rfl rfl)) h0
    obtain ⟨o, ho⟩ := openO26 z hw
    exact ⟨o, by first | (rw [e, ho]; done) | (rw [e, ho]; rfl)⟩
  have k1_ := h1
  have lt1 : ∀ x ∈ p1, x.block < W.heap.size := by obtain ⟨m, hm⟩ := k1_; exact DataW.trod_lt m _ _ _ hm
  obtain ⟨a1_0, a1_1, a1_2, a1_3, a1_4, a1_5, rfl, w1_0, w1_1, w1_2, w1_3, w1_4, w1_5⟩ : ∃ a1_0 a1_1 a1_2 a1_3 a1_4 a1_5 : Int, v1 = .agg #[.int .i8 a1_0, .int .i8 a1_1, .int .i8 a1_2, .int .i8 a1_3, .int .i8 a1_4, .int .i8 a1_5] ∧ (Lit.int .i8 a1_0).wf = true ∧ (Lit.int .i8 a1_1).wf = true ∧ (Lit.int .i8 a1_2).wf = true ∧ (Lit.int .i8 a1_3).wf = true ∧ (Lit.int .i8 a1_4).wf = true ∧ (Lit.int .i8 a1_5).wf = true := by
    obtain ⟨z, e, hw⟩ := RL.flat_value 6 [.i8, .i8, .i8, .i8, .i8, .i8] (by kernel_rfl) (by kernel_rfl) (okWide_struct Try.underlying32 (hval 1 32 v1 rfl rfl)) h1
    exact ⟨z 0, z 1, z 2, z 3, z 4, z 5, e, hw 0 (by omega), hw 1 (by omega), hw 2 (by omega), hw 3 (by omega), hw 4 (by omega), hw 5 (by omega)⟩
  have k2_ := h2
  have lt2 : ∀ x ∈ p2, x.block < W.heap.size := by obtain ⟨m, hm⟩ := k2_; exact DataW.trod_lt m _ _ _ hm
  obtain ⟨A2, len2, c2, rfl⟩ := okWide_slice Try.underlying53 (hval 2 53 v2 rfl rfl)
  obtain ⟨l2, rfl, C2, g2, m2, y2⟩ := RL.slice_C k30 (fun z => (⟨z 0, z 1⟩ : S30)) 2 [.i8, .i8] rfl (fun z => ⟨[.int .i8 (z 0)], [.int .i8 (z 1)], rfl, rfl, rfl⟩) Try.underlying53 (by kernel_rfl) (by kernel_rfl) h2
  clear hA0 hval0 hsz0 hsz
  obtain ⟨k, hp⟩ := Pure.FnExactAnchorsFor o0 a1_0 a1_1 a1_2 a1_3 a1_4 a1_5 l2 w1_0 w1_1 w1_2 w1_3 w1_4 w1_5 m2 y2
  refine (laws_FnExactAnchorsFor.calls k o0 a1_0 a1_1 a1_2 a1_3 a1_4 a1_5 A2 c2 l2 true W C2 g2 hp).mono fun e W' ⟨he, bel⟩ => ?_
  subst he
  exact ⟨_, rfl, _, _, _, [], _, [], hW', trodAll_mk1 (shut_bool Try.underlying4 _), (trodAll_cons_mk (Below.trod laidOut (by kernel_rfl) (of_decide_eq_true (by kernel_rfl)) k0_ bel lt0) (trodAll_cons_mk (Below.trod laidOut (by kernel_rfl) (of_decide_eq_true (by kernel_rfl)) k1_ bel lt1) (trodAll_cons_mk (Below.trod laidOut (by kernel_rfl) (of_decide_eq_true (by kernel_rfl)) k2_ bel lt2) trodAll_mk0))), rfl, bel.frame _, fun h => by cases h⟩
set_option maxHeartbeats 8000000 in
theorem closed : joinedFacts Try.pinned.checked.prog 6 Try.f6 Rows.fnExactAnchorsForSpec Rows.fnExactAnchorsForRow = true := by
  kernel_rfl
theorem named : Try.pinned.checked.prog.funcNamed Rows.fnExactAnchorsForRow.func = some 6 := by kernel_rfl
theorem inst : Try.f6.isInstance Try.pinned.checked.prog Rows.fnExactAnchorsForRow.origin Rows.fnExactAnchorsForRow.targs := of_decide_eq_true (by kernel_rfl)
theorem wrapper : Try.f6.isWrapper Try.pinned.checked.prog Rows.fnExactAnchorsForRow.wrapper Rows.fnExactAnchorsForRow.mainSum := by unfold Func.isWrapper; first | (rw [if_pos (by decide +kernel)]; kernel_rfl) | (rw [if_neg (by decide +kernel)]; exact ⟨rfl, rfl⟩)
theorem over : Rows.fnExactAnchorsForRow.holds Try.pinned (OpenSpec.ofChange Rows.fnExactAnchorsForSpec) :=
  OpenClaim.holds_of_wide 6 Try.f6 rfl rfl rfl rfl rfl rfl rfl ⟨rfl, rfl, rfl, rfl, rfl⟩ rfl rfl rfl rfl rfl named Try.func6 closed inst wrapper
    (fun os started H enc _ => lifted os started H enc)
theorem proved : Rows.FnExactAnchorsForSaid := over
#print axioms proved
end Go.Proofs.Ytccjcnmeibconaa.rowFnExactAnchorsFor
namespace Go.Proofs.Ytccjcnmeibconaa
theorem fnExactAnchorsFor_holds : Rows.FnExactAnchorsForSaid := rowFnExactAnchorsFor.proved
end Go.Proofs.Ytccjcnmeibconaa
