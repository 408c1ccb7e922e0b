/-
  Arguments that are calls of a run, and slices of them.
-/
import Derived.Test.YtbokblklldphgaaEnt
import Derived.Test.YtbokblklldphgaaTree
namespace Go.Proofs.Ytbokblklldphgaa
open Go.RowKit Go.Ox Go.ChangeShapes Go.WideShapes
set_option linter.unusedVariables false

/-- a call: its kind, its entry, its moments -/
abbrev OpD := Int × Ent.E × List Mom.M
def OpR (w : World) (r : List Value) (o : OpD) : Prop := ∃ u, r = [.int .i64 o.1, .int .i64 o.2.1.1.1, .int .i64 o.2.1.1.2, .int .i64 o.2.1.2.1, .int .i64 o.2.1.2.2, u] ∧ RP w u o.2.2
section
variable {H : Type} {enc : TypeId × Value → H} {W : World} {base : Nat} {sp : Nat → Bool} {held : Bool} {v u : Value} {d : DataW H} {p : List MemPlace} {r : Reach} {b0 N : Nat}
theorem pairs_pVT {R : TypeId → Value → Prop} : ∀ (rows : List (List Value)), (∀ x ∈ rows, rowT R [.int .i64, .int .i64] x) → ∃ l : List Mom.M, rows.length = l.length ∧ rows.flatten = pV l
  | [], _ => ⟨[], rfl, rfl⟩
  | r :: rows, h => by
    obtain ⟨l, h1, h2⟩ := pairs_pVT rows fun x hx => h x (List.mem_cons_of_mem _ hx)
    have hr := h r (List.mem_cons_self ..)
    obtain ⟨n, cs, rfl, _, hr⟩ := rowT_int hr
    obtain ⟨m, cs, rfl, _, hr⟩ := rowT_int hr
    obtain rfl := rowT_nil hr
    exact ⟨(n, m) :: l, by simp [h1], by rw [List.flatten_cons, h2]; rfl⟩
set_option maxRecDepth 100000 in
theorem moms_of_was (h : Was enc Try.prog W base sp held N 35 u) : ∃ l : List Mom.M, RP W u l := by
  obtain ⟨rows, hr, -, hx⟩ := Was.rows (n := 8) (ks := [.int .i64, .int .i64]) Try.underlying35 (by kernel_rfl) (by kernel_rfl) (by decide) h
  obtain ⟨l, h1, h2⟩ := pairs_pVT rows hx
  rw [h1, h2] at hr
  exact ⟨l, hr⟩
theorem row_op {cs : List Value} (h : rowT (Was enc Try.prog W base sp held N) [.int .i64, .int .i64, .int .i64, .int .i64, .int .i64, .cell 35] cs) : ∃ o : OpD, OpR W cs o := by
  obtain ⟨a, cs, rfl, _, h⟩ := rowT_int h
  obtain ⟨b, cs, rfl, _, h⟩ := rowT_int h
  obtain ⟨c, cs, rfl, _, h⟩ := rowT_int h
  obtain ⟨d, cs, rfl, _, h⟩ := rowT_int h
  obtain ⟨e, cs, rfl, _, h⟩ := rowT_int h
  obtain ⟨u, cs, rfl, hu, h⟩ := rowT_cell h
  obtain rfl := rowT_nil h
  obtain ⟨f, hf⟩ := moms_of_was hu
  exact ⟨(a, ((b, c), d, e), f), u, rfl, hf⟩
set_option maxRecDepth 100000 in
theorem opArg (hv : Value.okWide Try.prog W r b0 46 v) (h : DataW.Trod enc Try.prog W base sp held 46 v d p) :
    ∃ x : OpD × Value, v = .agg #[.int .i64 x.1.1, .int .i64 x.1.2.1.1.1, .int .i64 x.1.2.1.1.2, .int .i64 x.1.2.1.2.1, .int .i64 x.1.2.1.2.2, x.2] ∧ RP W x.2 x.1.2.2 := by
  obtain ⟨cs, N, rfl, hr⟩ := struct_of_trodT (n := 8) (ks := [.int .i64, .int .i64, .int .i64, .int .i64, .int .i64, .cell 35]) (by kernel_rfl) Try.underlying46 hv h
  obtain ⟨o, u, rfl, hf⟩ := row_op hr
  exact ⟨(o, u), rfl, hf⟩
set_option maxRecDepth 100000 in
theorem opsArg (hv : Value.okWide Try.prog W r b0 42 v) (h : DataW.Trod enc Try.prog W base sp held 42 v d p) :
    ∃ l : List OpD, RS 6 OpR W v l := by
  obtain ⟨N, hw⟩ := was_of_trod Try.underlying42 hv h
  obtain ⟨rows, hr, -, hx⟩ := Was.rows (n := 8) (ks := [.int .i64, .int .i64, .int .i64, .int .i64, .int .i64, .cell 35]) Try.underlying42 (by kernel_rfl) (by kernel_rfl) (by decide) hw
  exact RS.of_rows hr fun r hr2 => ⟨rowT_len (hx r hr2), row_op (hx r hr2)⟩
end
end Go.Proofs.Ytbokblklldphgaa
