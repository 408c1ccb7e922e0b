/-
  Arguments that are entries, and slices of them.
-/
import Derived.Test.YtbokblklldphgaaEnt
import Derived.Test.YtbokblklldphgaaFlat
namespace Go.Proofs.Ytbokblklldphgaa
open Go.RowKit Go.Ox Go.ChangeShapes Go.WideShapes

theorem rows4 {cs : List Value} (h : rowOk [.int .i64, .int .i64, .int .i64, .int .i64] cs) : ∃ x : Ent.E, cs = encEnt.enc x := by
  obtain ⟨a, cs, rfl, _, h⟩ := rowOk_int h
  obtain ⟨b, cs, rfl, _, h⟩ := rowOk_int h
  obtain ⟨c, cs, rfl, _, h⟩ := rowOk_int h
  obtain ⟨d, cs, rfl, _, h⟩ := rowOk_int h
  obtain rfl := rowOk_nil h
  exact ⟨((a, b), c, d), rfl⟩
section
variable {H : Type} {enc : TypeId × Value → H} {W : World} {base : Nat} {sp : Nat → Bool} {held : Bool} {v : Value} {d : DataW H} {p : List MemPlace} {r : Reach} {b0 : Nat}
set_option maxRecDepth 100000 in
theorem entArg (hv : Value.okWide Try.prog W r b0 33 v) (h : DataW.Trod enc Try.prog W base sp held 33 v d p) :
    ∃ x : Ent.E, v = entV x := by
  obtain ⟨cs, rfl, hr⟩ := struct_of_trod (n := 8) (ks := [.int .i64, .int .i64, .int .i64, .int .i64]) (by kernel_rfl) Try.underlying33 hv h
  obtain ⟨x, rfl⟩ := rows4 hr
  exact ⟨x, rfl⟩
theorem ents_eV : ∀ (rows : List (List Value)), (∀ x ∈ rows, rowOk [.int .i64, .int .i64, .int .i64, .int .i64] x) → ∃ l : List Ent.E, rows.length = l.length ∧ rows.flatten = eV l
  | [], _ => ⟨[], rfl, rfl⟩
  | r :: rows, h => by
    obtain ⟨l, h1, h2⟩ := ents_eV rows fun x hx => h x (List.mem_cons_of_mem _ hx)
    obtain ⟨x, rfl⟩ := rows4 (h r (List.mem_cons_self ..))
    exact ⟨x :: l, by simp [h1], by rw [List.flatten_cons, h2]; rfl⟩
set_option maxRecDepth 100000 in
theorem entsArg (hv : Value.okWide Try.prog W r b0 38 v) (h : DataW.Trod enc Try.prog W base sp held 38 v d p) :
    ∃ l : List Ent.E, RE W v l := by
  obtain ⟨rows, hr, hx⟩ := rdF_of_trod (n := 8) (ks := [.int .i64, .int .i64, .int .i64, .int .i64]) Try.underlying38 (by kernel_rfl) (by kernel_rfl) (by decide) hv h
  obtain ⟨l, h1, h2⟩ := ents_eV rows hx
  rw [h1, h2] at hr
  exact ⟨l, hr⟩
end
end Go.Proofs.Ytbokblklldphgaa
