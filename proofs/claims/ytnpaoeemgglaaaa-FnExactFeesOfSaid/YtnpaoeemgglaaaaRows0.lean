/- A row that is read: its cells lie in one block. -/
import Derived.Test.YtnpaoeemgglaaaaWWords
namespace Go.Proofs.Ytnpaoeemgglaaaa.RW
open Go.RowKit Go.Proofs.YtnpaoeemgglaaaaW.PrintWords
theorem addr_plain {w : World} {a : Addr} {v : Value} (h : w.cell? a = some v) : ∃ g o, a = ⟨g, o, none⟩ := by
  obtain ⟨g, o, s⟩ := a
  cases s with
  | none => exact ⟨g, o, rfl⟩
  | some x =>
    unfold World.cell? at h
    simp only [Option.isSome_some, if_true] at h
    split at h <;> cases h
theorem add_at (g o n : Nat) : (⟨g, o, none⟩ : Addr).add n = ⟨g, o + n, none⟩ := by
  unfold Addr.add
  split
  · rename_i h; subst h; rfl
  · rfl
theorem row_at {α : Type} {d : Kd α} {w : World} {A : Option Addr} {l : List α} (h : d.C w A l.length l) (hl : 0 < l.length) (hs : 0 < d.sz) :
    ∃ g o, A = some ⟨g, o, none⟩ ∧ ∀ j x, l[j]? = some x → ∃ c, c.length = d.sz ∧ d.K w x c ∧ ∀ i u, c[i]? = some u → w.cell? ⟨g, o + (j * d.sz + i), none⟩ = some u := by
  obtain ⟨_, _, hc0⟩ := h
  obtain ⟨ad, rfl, hc⟩ := hc0 hl
  clear hc0
  obtain ⟨c, hcl, hk, hcell⟩ := hc 0 _ (List.getElem?_eq_getElem hl)
  have h0 := hcell 0 (c[0]'(by omega)) (List.getElem?_eq_getElem (by omega))
  obtain ⟨g, o, e⟩ : ∃ g o, ad = ⟨g, o, none⟩ := by
    have : ad.add (0 * d.sz + 0) = ad := by simp [Addr.add]
    rw [this] at h0
    exact addr_plain h0
  subst e
  refine ⟨g, o, rfl, fun j x hx => ?_⟩
  obtain ⟨c, hcl, hk, hcell⟩ := hc j x hx
  refine ⟨c, hcl, hk, fun i u hu => ?_⟩
  have := hcell i u hu
  rwa [add_at] at this
theorem row_len {α : Type} {d : Kd α} {w : World} {A : Option Addr} {n : Nat} {l : List α} (h : d.C w A n l) : n ≤ 9223372036854775807 := h.2.1
/-- Three numbers in line. -/
theorem trip_at {w : World} {α : Type} {k0 k1 k2 : IntKind} {f : α → Int × Int × Int} {x : α} {c : List Value} (h : (Kd.iso (Kd.pair (Kd.int k0) (Kd.pair (Kd.int k1) (Kd.int k2))) f).K w x c) : c = [.int k0 (f x).1, .int k1 (f x).2.1, .int k2 (f x).2.2] := by
  obtain ⟨c0, c1, rfl, h0, c2, c3, rfl, h1, h2⟩ := h
  have e0 : c0 = [.int k0 (f x).1] := h0
  have e1 : c2 = [.int k1 (f x).2.1] := h1
  have e2 : c3 = [.int k2 (f x).2.2] := h2
  rw [e0, e1, e2]; rfl
end Go.Proofs.Ytnpaoeemgglaaaa.RW
