/- Contracts of the reference over lists of stays. -/
import Derived.Test.YtnpaoeemgglaaaaK2
import Derived.Test.YtnpaoeemgglaaaaRows0
namespace Go.Proofs.Ytnpaoeemgglaaaa.G
open Go.RowKit Go.Proofs.YtnpaoeemgglaaaaW.PrintWords Go.Proofs.YtnpaoeemgglaaaaW.PrintLast Go.Proofs.YtnpaoeemgglaaaaW.PrintMore M K RW
set_option linter.unusedVariables false
set_option linter.unusedSimpArgs false

def okS (s : S33) : Bool := stayOk s.f0 s.f1 s.f2
def vS (s : S33) : Bool := stayB s.f0 s.f1 s.f2
def staysV (l : List S33) : Int := if l.all vS then (if 10 < l.length then 3 else 0) else 1

/-- Where the stays of a list lie. -/
def StaysAt (w : World) (g o : Nat) (l : List S33) : Prop := ∀ j (h : j < l.length),
  w.cell? ⟨g, o + j * 3, none⟩ = some (.int .i16 l[j].f0) ∧ w.cell? ⟨g, o + j * 3 + 1, none⟩ = some (.int .i16 l[j].f1) ∧ w.cell? ⟨g, o + j * 3 + 2, none⟩ = some (.int .i16 l[j].f2)
theorem stays_at {w : World} {A : Option Addr} {l : List S33} (h : Kd.C k33 w A l.length l) (hl : 0 < l.length) : ∃ g o, A = some ⟨g, o, none⟩ ∧ StaysAt w g o l := by
  obtain ⟨g, o, rfl, hc⟩ := row_at h hl (by decide)
  refine ⟨g, o, rfl, fun j hj => ?_⟩
  obtain ⟨c, hcl, hk, hcell⟩ := hc j _ (List.getElem?_eq_getElem hj)
  have e := trip_at hk
  subst e
  exact ⟨hcell 0 _ rfl, hcell 1 _ rfl, hcell 2 _ rfl⟩
theorem StaysAt.drewN {w : World} {g o : Nat} {l : List S33} (h : StaysAt w g o l) (n : Nat) : StaysAt (w.drewN n) g o l := fun j hj => by simpa using h j hj

theorem stays_any (A : Option Addr) (c : Nat) (l : List S33) (w : World) (hr : Kd.C k33 w A l.length l) (hok : l.all okS = true) :
    Calls Try.prog 69 #[.slice A l.length c] w fun e w' => e = .returned (.int .i64 (staysV l)) ∧ w = w' := by
  have hm := row_len hr
  have hok' : ∀ j (h : j < l.length), okS l[j] = true := fun j h => List.all_eq_true.mp hok _ (List.getElem_mem h)
  have HOK := Lib.hid hok'
  have HAT := Lib.hid (fun hl => stays_at hr hl)
  clear hr hok hok'
  go_enter Try.func69, Try.ntmps69
  go_wp2
  go_loop [3] (fun i => ∃ k : Nat, k ≤ l.length ∧ i = .int .i64 k ∧ Hid (∀ j (h : j < l.length), j < k → vS l[j] = true)) (fun i => l.length - (intOf i).toNat)
  case atStart => exact ⟨0, Nat.zero_le _, rfl, fun j h h' => absurd h' (by omega)⟩
  case round =>
    obtain ⟨k, hk, rfl, HV⟩ := hrel
    by_cases hlt : k < l.length
    · obtain ⟨g, o, rfl, hat⟩ := HAT.out (by omega)
      obtain ⟨h0, h1, h2⟩ := hat k hlt
      obtain ⟨o1, o2, o3⟩ := stayOk_and (HOK.out k hlt)
      have O1 := Lib.hid o1; have O2 := Lib.hid o2; have O3 := Lib.hid o3
      have HAT2 := Lib.hid hat
      clear hat o1 o2 o3
      cases e1 : stayB l[k].f0 l[k].f1 l[k].f2
      · have HN : Hid (staysV l = 1) := by
          have : l.all vS = false := by
            rw [List.all_eq_false]
            exact ⟨l[k], List.getElem_mem hlt, by simp [vS, e1]⟩
          simp [staysV, this, Hid]
        go_wp2_with (go_at_call 55; refine (stay_ptr g (o + k * 3) _ _ _ _ O1.out O2.out O3.out h0 h1 h2).mono ?_; rintro e w' ⟨rfl, rfl⟩)
        go_ret
        exact ⟨by rw [HN.out]; rfl, rfl⟩
      · go_wp2_with (go_at_call 55; refine (stay_ptr g (o + k * 3) _ _ _ _ O1.out O2.out O3.out h0 h1 h2).mono ?_; rintro e w' ⟨rfl, rfl⟩)
        go_round
        case rel => exact ⟨k + 1, by omega, by go_num, fun j h h' => by
          by_cases e : j = k
          · subst e; exact e1
          · exact HV.out j h (by omega)⟩
        case measure => simp [intOf]; omega
    · have hall : l.all vS = true := by
        rw [List.all_eq_true]
        intro x hx
        obtain ⟨j, hj, rfl⟩ := List.getElem_of_mem hx
        exact HV.out j hj (by omega)
      have HALL := Lib.hid hall
      clear hall
      by_cases h10 : 10 < l.length
      · have HN : Hid (staysV l = 3) := by simp [staysV, HALL.out, h10, Hid]
        go_wp2
        go_ret
        exact ⟨by rw [HN.out]; rfl, rfl⟩
      · have HN : Hid (staysV l = 0) := by simp [staysV, HALL.out, h10, Hid]
        go_wp2
        go_ret
        exact ⟨by rw [HN.out]; rfl, rfl⟩
end Go.Proofs.Ytnpaoeemgglaaaa.G
