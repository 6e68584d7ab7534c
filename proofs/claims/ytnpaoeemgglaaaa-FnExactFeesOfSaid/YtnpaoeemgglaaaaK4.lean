/- Contracts of the reference: sums of fees, places. -/
import Derived.Test.YtnpaoeemgglaaaaK3
import Derived.Deep.RegionWith
namespace Go.Proofs.Ytnpaoeemgglaaaa.G
open Go.RowKit Go.Proofs.YtnpaoeemgglaaaaW.PrintWords Go.Proofs.YtnpaoeemgglaaaaW.PrintLast Go.Proofs.YtnpaoeemgglaaaaW.PrintMore M K RW
set_option linter.unusedVariables false
set_option linter.unusedSimpArgs false

theorem Drawn0.cell {w w' : World} (h : Drawn0 w w') (a : Addr) : w'.cell? a = w.cell? a := by
  obtain ⟨n, rfl⟩ := h; simp
theorem Drawn0.trans {w w1 w2 : World} (h : Drawn0 w w1) (h' : Drawn0 w1 w2) : Drawn0 w w2 := by
  obtain ⟨n, rfl⟩ := h'; exact h.step n
theorem StaysAt.drawn {w w' : World} {g o : Nat} {l : List S33} (h : StaysAt w g o l) (hd : Drawn0 w w') : StaysAt w' g o l := fun j hj => by
  rw [Drawn0.cell hd, Drawn0.cell hd, Drawn0.cell hd]; exact h j hj

theorem feeV_bounds {n l pl pn fr f : Int} (hs : stayB f n l = true) (hf : feesB pl pn fr = true) : 0 ≤ feeV n l pl pn fr ∧ feeV n l pl pn fr ≤ 10100000 := by
  obtain ⟨_, _, hn0, hn1, hl0, hl1⟩ := stayB_bounds hs
  obtain ⟨hp0, hp1, hq0, hq1, hr⟩ := feesB_bounds hf
  obtain ⟨m0, m1⟩ := mul_bounds (a := pl) (b := l) hp0 hp1 (by omega) hl1
  unfold feeV
  split
  · rename_i h
    obtain ⟨q0, q1⟩ := quo_bounds (n := n) (f := fr) (by omega) (by omega)
    have := mul_bounds (a := pl * l + pn) (b := n - n / fr) (A := 101000) (B := 100) (by omega) (by omega) (by omega) (by omega)
    omega
  · have := mul_bounds (a := pl * l + pn) (b := n) (A := 101000) (B := 100) (by omega) (by omega) (by omega) (by omega)
    omega
def sumV (l : List S33) (pl pn fr : Int) : Int := (l.map fun s => feeV s.f1 s.f2 pl pn fr).sum
theorem sumV_succ {l : List S33} {pl pn fr : Int} {k : Nat} (h : k < l.length) : sumV (l.take (k + 1)) pl pn fr = sumV (l.take k) pl pn fr + feeV l[k].f1 l[k].f2 pl pn fr := by
  unfold sumV
  rw [List.take_succ_eq_append_getElem h, List.map_append, List.sum_append]
  simp
theorem sumV_bounds {l : List S33} {pl pn fr : Int} (hv : l.all vS = true) (hf : feesB pl pn fr = true) (k : Nat) (hk : k ≤ l.length) : 0 ≤ sumV (l.take k) pl pn fr ∧ sumV (l.take k) pl pn fr ≤ 10100000 * k := by
  induction k with
  | zero => simp [sumV]
  | succ k ih =>
    have := ih (by omega)
    have hs : stayB l[k].f0 l[k].f1 l[k].f2 = true := List.all_eq_true.mp hv _ (List.getElem_mem (by omega : k < l.length))
    have := feeV_bounds hs hf
    rw [sumV_succ (by omega)]
    omega

theorem sum_any (A : Option Addr) (c : Nat) (l : List S33) (g' o' : Nat) (pl pn fr : Int) (w : World) (hr : Kd.C k33 w A l.length l) (hlen : l.length ≤ 10) (hv : l.all vS = true) (hf : feesB pl pn fr = true)
    (k0 : w.cell? ⟨g', o', none⟩ = some (.int .i16 pl)) (k1 : w.cell? ⟨g', o' + 1, none⟩ = some (.int .i16 pn)) (k2 : w.cell? ⟨g', o' + 2, none⟩ = some (.int .i8 fr)) :
    Calls Try.prog 72 #[.slice A l.length c, .pointer (some ⟨g', o', none⟩)] w fun e w' => e = .returned (.int .i64 (sumV l pl pn fr)) ∧ Drawn0 w w' := by
  have HB := Lib.hid (fun k hk => sumV_bounds hv hf (l := l) k hk)
  have HS := Lib.hid (fun (k : Nat) (h : k < l.length) => (sumV_succ h : sumV (l.take (k + 1)) pl pn fr = _))
  have hv' : ∀ j (h : j < l.length), stayB l[j].f0 l[j].f1 l[j].f2 = true := fun j h => List.all_eq_true.mp hv _ (List.getElem_mem h)
  have HV := Lib.hid hv'
  have HF := Lib.hid hf
  have HAT := Lib.hid (fun hl => stays_at hr hl)
  have K0 := Lib.hid k0; have K1 := Lib.hid k1; have K2 := Lib.hid k2
  clear hr hv hf hv' k0 k1 k2
  go_enter Try.func72, Try.ntmps72
  go_wp2
  go_loopw [5, 6] (fun s i wr => ∃ k : Nat, k ≤ l.length ∧ i = .int .i64 k ∧ s = .int .i64 (sumV (l.take k) pl pn fr) ∧ Hid (Drawn0 w wr)) (fun _ i _ => l.length - (intOf i).toNat)
  case atStart => exact ⟨0, Nat.zero_le _, rfl, rfl, Drawn0.refl _⟩
  case round =>
    obtain ⟨k, hk, rfl, rfl, HD⟩ := hrel
    obtain ⟨b0, b1⟩ := HB.out k hk
    by_cases hlt : k < l.length
    · obtain ⟨g, o, rfl, hat⟩ := HAT.out (by omega)
      obtain ⟨h0, h1, h2⟩ := (hat.drawn HD.out) k hlt
      have H1 := Lib.hid h1; have H2 := Lib.hid h2
      have Q0 := Lib.hid ((Drawn0.cell HD.out _).trans K0.out); have Q1 := Lib.hid ((Drawn0.cell HD.out _).trans K1.out); have Q2 := Lib.hid ((Drawn0.cell HD.out _).trans K2.out)
      obtain ⟨f0, f1⟩ := feeV_bounds (HV.out k hlt) HF.out
      clear hat h0 h1 h2
      go_wp2_with (go_at_call 63; refine (fee_ptr g (o + k * 3) g' o' l[k].f0 l[k].f1 l[k].f2 pl pn fr _ (HV.out k hlt) HF.out H1.out H2.out Q0.out Q1.out Q2.out).mono ?_; rintro e w1 ⟨rfl, hd⟩; have HD1 := Lib.hid (Drawn0.trans HD.out hd); clear hd)
      go_roundw
      case rel => exact ⟨k + 1, by omega, by go_num, by rw [HS.out k hlt], HD1.out⟩
      case measure => simp [intOf]; omega
    · have hke : k = l.length := by omega
      subst hke
      rw [List.take_length]
      go_wp2
      go_ret
      exact ⟨rfl, HD.out⟩

def feesOfV (l : List S33) (pl pn fr : Int) : Int × Int := if feesB pl pn fr then (if staysV l = 0 then (sumV l pl pn fr, 0) else (0, staysV l)) else (0, 1)
theorem staysV_zero {l : List S33} (h : staysV l = 0) : l.all vS = true ∧ l.length ≤ 10 := by
  unfold staysV at h
  split at h
  · rename_i h1
    split at h
    · omega
    · exact ⟨h1, by omega⟩
  · omega
def spec_FeesOf.f (l0 : List (S33)) (a1_0 : Int) (a1_1 : Int) (a1_2 : Int) : Option (Int × Int) := if (l0.all okS && feesOk a1_0 a1_1 a1_2) = true then some (feesOfV l0 a1_0 a1_1 a1_2) else none
theorem spec_FeesOf.calls (A0 : Option Addr) (c0 : Nat) (l0 : List (S33)) (a1_0 : Int) (a1_1 : Int) (a1_2 : Int) (r1 : Int) (r2 : Int) (w : World) (hr0 : Kd.C k33 w A0 l0.length l0) (hc0 : l0.length ≤ c0) (h : spec_FeesOf.f l0 a1_0 a1_1 a1_2 = some (r1, r2)) :
    Calls Try.prog 40 #[.slice A0 l0.length c0, .agg #[.int .i16 a1_0, .int .i16 a1_1, .int .i8 a1_2]] w fun e w' => e = .returned (.tuple #[.int .i64 r1, .int .i64 r2]) ∧ Below w.heap.size w w' := by
  obtain ⟨ho, hr⟩ := if_some h
  rw [Bool.and_eq_true] at ho
  obtain ⟨p1, p2, p3⟩ := feesOk_and ho.2
  have OK := Lib.hid ho.1
  have P1 := Lib.hid p1; have P2 := Lib.hid p2; have P3 := Lib.hid p3
  have HC := Lib.hid (Kd.C_below hr0 ((Below.refl _ _).alloc (Nat.le_refl _) (.cells #[.int .i16 a1_0, .int .i16 a1_1, .int .i8 a1_2] 27)))
  cases e1 : feesB a1_0 a1_1 a1_2
  · have HR : Hid (r1 = 0 ∧ r2 = 1) := by simp [feesOfV, e1] at hr; exact ⟨hr.1.symm, hr.2.symm⟩
    clear ho hr h p1 p2 p3 hr0 hc0
    go_enter Try.func40, Try.ntmps40
    go_wp2_with (go_at_call 54; refine (fees_ptr w.heap.size 0 a1_0 a1_1 a1_2 _ P1.out P2.out P3.out (by simp) (by simp) (by simp)).mono ?_; rintro e w' ⟨rfl, rfl⟩)
    go_ret2
    exact ⟨by rw [HR.out.1, HR.out.2]; rfl, (Below.refl _ _).alloc (Nat.le_refl _) _⟩
  · by_cases hz : staysV l0 = 0
    · have HR : Hid (r1 = sumV l0 a1_0 a1_1 a1_2 ∧ r2 = 0) := by simp [feesOfV, e1, hz] at hr; exact ⟨hr.1.symm, hr.2.symm⟩
      have HZ := Lib.hid hz
      have HV := Lib.hid (staysV_zero hz)
      have E1 := Lib.hid e1
      clear ho hr h p1 p2 p3 hr0 hc0 hz
      go_enter Try.func40, Try.ntmps40
      go_wp2_with (first
        | (go_at_call 54; refine (fees_ptr w.heap.size 0 a1_0 a1_1 a1_2 _ P1.out P2.out P3.out (by simp) (by simp) (by simp)).mono ?_; rintro e w' ⟨rfl, rfl⟩)
        | (go_at_call 69; refine (stays_any _ _ _ _ HC.out OK.out).mono ?_; rw [HZ.out]; rintro e w' ⟨rfl, rfl⟩)
        | (go_at_call 72; refine (sum_any _ _ _ w.heap.size 0 a1_0 a1_1 a1_2 _ HC.out HV.out.2 HV.out.1 E1.out (by simp) (by simp) (by simp)).mono ?_; rintro e w' ⟨rfl, ⟨nd, rfl⟩⟩))
      go_ret2
      exact ⟨by rw [HR.out.1, HR.out.2]; rfl, pw_below_drewN ((Below.refl _ _).alloc (Nat.le_refl _) _) _⟩
    · have HR : Hid (r1 = 0 ∧ r2 = staysV l0) := by simp [feesOfV, e1, hz] at hr; exact ⟨hr.1.symm, hr.2.symm⟩
      have hzb : (staysV l0 == 0) = false := by simpa using hz
      have hzn : (staysV l0 != 0) = true := by simpa using hz
      clear ho hr h p1 p2 p3 hr0 hc0 hz
      go_enter Try.func40, Try.ntmps40
      go_wp2_with (first
        | (go_at_call 54; refine (fees_ptr w.heap.size 0 a1_0 a1_1 a1_2 _ P1.out P2.out P3.out (by simp) (by simp) (by simp)).mono ?_; rintro e w' ⟨rfl, rfl⟩)
        | (go_at_call 69; refine (stays_any _ _ _ _ HC.out OK.out).mono ?_; rintro e w' ⟨rfl, rfl⟩))
      go_ret2
      exact ⟨by rw [HR.out.1, HR.out.2]; rfl, (Below.refl _ _).alloc (Nat.le_refl _) _⟩
end Go.Proofs.Ytnpaoeemgglaaaa.G
