/-
  Arguments that are graphs, places.
-/
import Derived.Test.YtpmikcklkddocaaGrNodeAt
import Derived.Test.YtpmikcklkddocaaGrCheck
import Derived.Test.YtpmikcklkddocaaTree
import Derived.Test.YtpmikcklkddocaaFlat
namespace Go.Proofs.Ytpmikcklkddocaa
open Go.RowKit Go.Ox Go.Ox.Gr Go.ChangeShapes Go.WideShapes
set_option linter.unusedVariables false

section
variable {H : Type} {enc : TypeId × Value → H} {W : World} {base : Nat} {sp : Nat → Bool} {held : Bool} {v u : Value} {d : DataW H} {p : List MemPlace} {r : Reach} {b0 N : Nat}
theorem ints_eV {R : TypeId → Value → Prop} : ∀ (rows : List (List Value)), (∀ x ∈ rows, rowT R [.int .i64] x) → ∃ l : List Int, rows.length = l.length ∧ rows.flatten = eV l
  | [], _ => ⟨[], rfl, rfl⟩
  | r :: rows, h => by
    obtain ⟨l, h1, h2⟩ := ints_eV rows fun x hx => h x (List.mem_cons_of_mem _ hx)
    obtain ⟨n, cs, rfl, _, hr⟩ := rowT_int (h r (List.mem_cons_self ..))
    obtain rfl := rowT_nil hr
    exact ⟨n :: l, by simp [h1], by rw [List.flatten_cons, h2]; rfl⟩
set_option maxRecDepth 100000 in
theorem ints_of_was (h : Was enc Try.prog W base sp held N 36 u) : ∃ l : List Int, RE W u l := by
  obtain ⟨rows, hr, -, hx⟩ := Was.rows (n := 8) (ks := [.int .i64]) Try.underlying36 (by kernel_rfl) (by kernel_rfl) (by decide) h
  obtain ⟨l, h1, h2⟩ := ints_eV rows hx
  rw [h1, h2] at hr
  exact ⟨l, RE.mk hr⟩
set_option maxRecDepth 100000 in
theorem nodes_of_was : ∀ (N : Nat) (u : Value), Was enc Try.prog W base sp held N 22 u → ∃ l : List Nd, NodesR N W u l := by
  intro N
  induction N with
  | zero =>
    intro u h
    obtain ⟨rows, hr, h0, hx⟩ := Was.rows (n := 8) (ks := [.int .i64, .cell 36, .int .i64, .int .i64, .int .i64, .cell 22]) Try.underlying22 (by kernel_rfl) (by kernel_rfl) (by decide) h
    obtain rfl : rows = [] := h0.elim id fun h => absurd h (Nat.lt_irrefl _)
    exact ⟨[], ⟨[], hr, rfl, fun i r x hr => by simp at hr⟩⟩
  | succ N ih =>
    intro u h
    obtain ⟨rows, hr, h0, hx⟩ := Was.rows (n := 8) (ks := [.int .i64, .cell 36, .int .i64, .int .i64, .int .i64, .cell 22]) Try.underlying22 (by kernel_rfl) (by kernel_rfl) (by decide) h
    have each : ∀ r ∈ rows, r.length = 6 ∧ ∃ x : Nd, NdQ (NodesR N) W r x := fun r hr2 => by
      have hr := hx r hr2
      refine ⟨rowT_len hr, ?_⟩
      obtain ⟨op, cs, rfl, _, hr⟩ := rowT_int hr
      obtain ⟨u1, cs, rfl, hu1, hr⟩ := rowT_cell hr
      obtain ⟨kind, cs, rfl, _, hr⟩ := rowT_int hr
      obtain ⟨fa, cs, rfl, _, hr⟩ := rowT_int hr
      obtain ⟨a, cs, rfl, _, hr⟩ := rowT_int hr
      obtain ⟨u2, cs, rfl, hu2, hr⟩ := rowT_cell hr
      obtain rfl := rowT_nil hr
      obtain ⟨ins, hins⟩ := ints_of_was hu1
      obtain ⟨body, hbody⟩ := ih _ hu2
      exact ⟨.mk op ins kind fa a body, u1, u2, rfl, hins, hbody⟩
    obtain ⟨l, hl⟩ := RS.of_rows hr each
    exact ⟨l, NodesR.of_rs hl⟩
/-- a graph that came in -/
abbrev GArg := (Value × Nat) × G
set_option maxRecDepth 100000 in
theorem graphArg (hv : Value.okWide Try.prog W r b0 24 v) (h : DataW.Trod enc Try.prog W base sp held 24 v d p) :
    ∃ x : GArg, v = gAg x.1.1 x.2.2 ∧ NodesR x.1.2 W x.1.1 x.2.1 := by
  obtain ⟨cs, N, rfl, hr⟩ := struct_of_trodT (n := 8) (ks := [.cell 22, .int .i64]) (by kernel_rfl) Try.underlying24 hv h
  obtain ⟨u, cs, rfl, hu, hr⟩ := rowT_cell hr
  obtain ⟨out, cs, rfl, _, hr⟩ := rowT_int hr
  obtain rfl := rowT_nil hr
  obtain ⟨l, hl⟩ := nodes_of_was N u hu
  exact ⟨((u, N), l, out), rfl, hl⟩
set_option maxRecDepth 100000 in
theorem placeArg (hv : Value.okWide Try.prog W r b0 35 v) (h : DataW.Trod enc Try.prog W base sp held 35 v d p) :
    ∃ x : Pl, v = plV x := by
  obtain ⟨cs, N, rfl, hr⟩ := struct_of_trodT (n := 8) (ks := [.int .i64, .int .i64]) (by kernel_rfl) Try.underlying35 hv h
  obtain ⟨a, cs, rfl, _, hr⟩ := rowT_int hr
  obtain ⟨b, cs, rfl, _, hr⟩ := rowT_int hr
  obtain rfl := rowT_nil hr
  exact ⟨(a, b), rfl⟩
end
end Go.Proofs.Ytpmikcklkddocaa
