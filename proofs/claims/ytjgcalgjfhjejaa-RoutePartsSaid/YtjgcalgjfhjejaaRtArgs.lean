/-
  An argument that is a slice of bags.
-/
import Derived.Test.YtjgcalgjfhjejaaRecArgs
import Derived.Test.YtjgcalgjfhjejaaRecAll
namespace Go.Proofs.Ytjgcalgjfhjejaa
open Go.RowKit Go.Ox Go.ChangeShapes Go.WideShapes

section
variable {H : Type} {enc : TypeId × Value → H} {W : World} {base : Nat} {sp : Nat → Bool} {held : Bool} {v : Value} {d : DataW H} {p : List MemPlace} {r : Reach} {b0 : Nat}
theorem rows_pick (us : List Value) (h : ∀ u ∈ us, ∃ l : List Rec.R, RP W u l) : ∃ ls : List (List Rec.R), ls.length = us.length ∧ ∀ (k : Nat) (hk : k < ls.length), ∃ u, us[k]? = some u ∧ RP W u ls[k] := by
  induction us with
  | nil => exact ⟨[], rfl, fun k hk => absurd hk (Nat.not_lt_zero _)⟩
  | cons u us ih =>
    obtain ⟨l, hl⟩ := h u (List.mem_cons_self ..)
    obtain ⟨ls, h1, h2⟩ := ih fun x hx => h x (List.mem_cons_of_mem _ hx)
    refine ⟨l :: ls, by simp [h1], fun k hk => ?_⟩
    cases k with
    | zero => exact ⟨u, rfl, hl⟩
    | succ k =>
      obtain ⟨x, hx, hr⟩ := h2 k (by simpa using hk)
      exact ⟨x, by simpa using hx, by simpa using hr⟩
set_option maxRecDepth 100000 in
theorem recssArg (hv : Value.okWide Try.prog W r b0 24 v) (h : DataW.Trod enc Try.prog W base sp held 24 v d p) :
    ∃ ls : List (List Rec.R), RRS W v ls := by
  obtain ⟨us, h1, h2⟩ := rows_of_trod Try.underlying24 (by kernel_rfl) hv h
  have h3 : ∀ u ∈ us, ∃ l : List Rec.R, RP W u l := fun u hu => by
    obtain ⟨fuel, y, hx⟩ := h2 u hu
    obtain ⟨rows, hr, hrx⟩ := rdF_of_cell (n := 8) (ks := [.int .i64, .int .i64]) Try.underlying22 (by kernel_rfl) (by kernel_rfl) (by decide) hx
    obtain ⟨l, e1, e2⟩ := pairs_pV rows hrx
    rw [e1, e2] at hr
    exact ⟨l, hr⟩
  obtain ⟨ls, e1, e2⟩ := rows_pick us h3
  exact ⟨ls, us, by rw [e1]; exact h1, e2⟩
end
end Go.Proofs.Ytjgcalgjfhjejaa
