/-
  Records in order: slices.SortFunc at records; rec.Sort.
-/
import Derived.Test.YtbokblklldphgaaRecFn
namespace Go.Proofs.Ytbokblklldphgaa
open Go.RowKit Go.Ox Go.Shelf
attribute [local irreducible] OP RP
set_option linter.unusedVariables false

theorem ltM (x y : Mom.M) : Go.Proofs.ltOf Mom.cmp x y = true ↔ Mom.lt x y := by
  unfold Go.Proofs.ltOf
  simp only [decide_eq_true_eq]
  exact Mom.cmp_lt
theorem ltM_f (x y : Mom.M) : Go.Proofs.ltOf Mom.cmp x y = false ↔ ¬ Mom.lt x y := by
  rw [← ltM, Bool.not_eq_true]
theorem swoM : Go.Sort.SWO (Go.Proofs.ltOf Mom.cmp) where
  irrefl x := by rw [ltM_f]; exact Mom.lt_irrefl x
  trans x y z h1 h2 := by rw [ltM] at *; exact Mom.lt_trans h1 h2
  ntrans x y z h1 h2 := by
    rw [ltM_f] at *
    intro h3
    rcases Mom.lt_conn x y with h | h | h
    · exact h1 h
    · subst h; exact h2 h3
    · rcases Mom.lt_conn y z with k | k | k
      · exact h2 k
      · subst k; exact h1 h3
      · exact Mom.lt_irrefl _ (Mom.lt_trans h3 (Mom.lt_trans k h))
theorem cmpLaysM (blk off size : Nat) (w : World) : Go.Proofs.CmpLays Try.prog 49 #[] encM 2 Mom.cmp blk off size w :=
  fun _ _ _ _ x y => compare_grown x y _
unseal OP in
theorem pV_enc (l : List Mom.M) : pV l = l.flatMap encM := rfl
end Go.Proofs.Ytbokblklldphgaa
