/-
  The document's graphs: inputs of a node, one by one (plain).
-/
import Derived.Test.YtpmikcklkddocaaGrCheck
namespace Go.Proofs.Ytpmikcklkddocaa
open Go.RowKit Go.Ox Go.Ox.Gr
theorem insOk_s (ins : List Int) (i : Nat) {k : Nat} (h : k < ins.length) : insOk (ins.take (k + 1)) i = (insOk (ins.take k) i && ahB ins[k] i) := by
  unfold insOk ahB
  rw [List.take_succ_eq_append_getElem h, List.all_append]
  simp
theorem insOk_no (ins : List Int) (i : Nat) {k : Nat} (h : k < ins.length) (hx : ¬ (0 ≤ ins[k] ∧ ins[k] < (i : Int))) : insOk ins i = false := by
  cases hi : insOk ins i with
  | false => rfl
  | true =>
    unfold insOk at hi
    have := List.all_eq_true.1 hi ins[k] (List.getElem_mem h)
    simp only [Bool.and_eq_true, decide_eq_true_eq] at this
    exact absurd this hx
end Go.Proofs.Ytpmikcklkddocaa
