/-
  Arguments that are moments, ways, and slices of moments.
-/
import Derived.Test.YtacpomonidmjaaaMom
import Derived.Test.YtacpomonidmjaaaPair
import Derived.Test.YtacpomonidmjaaaFlat
namespace Go.Proofs.Ytacpomonidmjaaa.Mo
open Go.RowKit Go.Ox Go.ChangeShapes Go.WideShapes

section
variable {H : Type} {enc : TypeId × Value → H} {W : World} {base : Nat} {sp : Nat → Bool} {held : Bool} {v : Value} {d : DataW H} {p : List MemPlace} {r : Reach} {b0 : Nat}
set_option maxRecDepth 100000 in
theorem momArg (hv : Value.okWide Try.prog W r b0 24 v) (h : DataW.Trod enc Try.prog W base sp held 24 v d p) :
    ∃ x : Mom.M, v = mV x := by
  obtain ⟨cs, rfl, hr⟩ := struct_of_trod (n := 8) (ks := [.int .i64, .int .i64]) (by kernel_rfl) Try.underlying24 hv h
  obtain ⟨n, cs, rfl, _, hr⟩ := rowOk_int hr
  obtain ⟨m, cs, rfl, _, hr⟩ := rowOk_int hr
  obtain rfl := rowOk_nil hr
  exact ⟨(n, m), rfl⟩
theorem pairs_pV : ∀ (rows : List (List Value)), (∀ x ∈ rows, rowOk [.int .i64, .int .i64] x) → ∃ l : List Mom.M, rows.length = l.length ∧ rows.flatten = pV l
  | [], _ => ⟨[], rfl, rfl⟩
  | r :: rows, h => by
    obtain ⟨l, h1, h2⟩ := pairs_pV rows fun x hx => h x (List.mem_cons_of_mem _ hx)
    have hr := h r (List.mem_cons_self ..)
    obtain ⟨n, cs, rfl, _, hr⟩ := rowOk_int hr
    obtain ⟨m, cs, rfl, _, hr⟩ := rowOk_int hr
    obtain rfl := rowOk_nil hr
    exact ⟨(n, m) :: l, by simp [h1], by rw [List.flatten_cons, h2]; rfl⟩
set_option maxRecDepth 100000 in
theorem momsArg (hv : Value.okWide Try.prog W r b0 51 v) (h : DataW.Trod enc Try.prog W base sp held 51 v d p) :
    ∃ l : List Mom.M, RP W v l := by
  obtain ⟨rows, hr, hx⟩ := rdF_of_trod (n := 8) (ks := [.int .i64, .int .i64]) Try.underlying51 (by kernel_rfl) (by kernel_rfl) (by decide) hv h
  obtain ⟨l, h1, h2⟩ := pairs_pV rows hx
  rw [h1, h2] at hr
  exact ⟨l, hr⟩
end
end Go.Proofs.Ytacpomonidmjaaa.Mo
