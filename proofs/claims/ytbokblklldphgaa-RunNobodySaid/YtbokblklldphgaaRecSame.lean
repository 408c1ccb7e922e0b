/-
  The walks on records: how often one is there; the document's word on which bags may be.
  The walks of the document's answer on records: in order; the same bag.
  slices.Equal at records; whether two bags are the same. (Printed by gen_recsame.py.)
  rec.Sorted (slices.IsSortedFunc at records).
  The document's Distinct on records.
-/
import Derived.Test.YtbokblklldphgaaRecRef
namespace Go.Proofs.Ytbokblklldphgaa
open Go.RowKit Go.Ox Go.Shelf
attribute [local irreducible] OP RP
set_option linter.unusedVariables false
set_option linter.unusedSimpArgs false

/-- how often -/
def cntR (l : List Rec.R) (r : Rec.R) : Nat := l.countP fun x => decide (x = r)
theorem cntR_s (l : List Rec.R) (r : Rec.R) (k : Nat) (h : k < l.length) : cntR (l.take (k + 1)) r = cntR (l.take k) r + (if l[k] = r then 1 else 0) := by
  unfold cntR
  rw [List.take_succ_eq_append_getElem h, List.countP_append]
  by_cases hq : l[k] = r <;> simp [hq]
theorem cntR_le (l : List Rec.R) (r : Rec.R) (k : Nat) : cntR (l.take k) r ≤ k := by
  unfold cntR
  have := List.countP_le_length (p := fun x => decide (x = r)) (l := l.take k)
  rw [List.length_take] at this
  omega
theorem all_take_r (l : List Rec.R) (p : Rec.R → Bool) (k : Nat) (h : k < l.length) : (l.take (k + 1)).all p = ((l.take k).all p && p l[k]) := by
  rw [List.take_succ_eq_append_getElem h, List.all_append]; simp

end Go.Proofs.Ytbokblklldphgaa
namespace Go.Proofs.Ytbokblklldphgaa
open Go.RowKit Go.Ox Go.Shelf
attribute [local irreducible] OP RP
set_option linter.unusedVariables false
set_option linter.unusedSimpArgs false

theorem rasc_s {l : List Rec.R} {j : Nat} (h : j + 1 < l.length) (ha : Rec.Asc (l.take (j + 1))) (hc : ¬ Mom.lt l[j + 1] l[j]) : Rec.Asc (l.take (j + 1 + 1)) := by
  rw [List.take_succ_eq_append_getElem h]
  refine List.pairwise_append.2 ⟨ha, List.pairwise_singleton _ _, ?_⟩
  intro x hx y hy
  rw [List.mem_singleton.1 hy]
  refine Rec.not_lt_trans ?_ hc
  rw [List.take_succ_eq_append_getElem (by omega)] at ha hx
  rcases List.mem_append.1 hx with q | q
  · exact (List.pairwise_append.1 ha).2.2 x q _ (List.mem_singleton.2 rfl)
  · rw [List.mem_singleton.1 q]; unfold Mom.lt; omega
theorem rasc_not {l : List Rec.R} {j : Nat} (h : j + 1 < l.length) (hc : Mom.lt l[j + 1] l[j]) : ¬ Rec.Asc l := fun ha =>
  (List.pairwise_iff_getElem.1 ha j (j + 1) (by omega) h (by omega)) hc
theorem rasc_1 (l : List Rec.R) : Rec.Asc (l.take 1) := by
  match l with
  | [] => exact List.Pairwise.nil
  | x :: r => exact List.pairwise_singleton _ _
theorem rasc_short {l : List Rec.R} (h : l.length ≤ 1) : Rec.Asc l := by
  match l, h with
  | [], _ => exact List.Pairwise.nil
  | [x], _ => exact List.pairwise_singleton _ _

end Go.Proofs.Ytbokblklldphgaa
namespace Go.Proofs.Ytbokblklldphgaa
open Go.RowKit Go.Ox Go.Shelf
attribute [local irreducible] OP RP
set_option linter.unusedVariables false
set_option linter.unusedSimpArgs false
end Go.Proofs.Ytbokblklldphgaa
namespace Go.Proofs.Ytbokblklldphgaa
open Go.RowKit Go.Ox Go.Shelf
attribute [local irreducible] OP RP
set_option linter.unusedVariables false
set_option linter.unusedSimpArgs false

theorem rasc_down {l : List Rec.R} {j : Nat} (h : j + 1 < l.length) (ha : Rec.Asc (l.drop (j + 1))) (hc : ¬ Mom.lt l[j + 1] l[j]) : Rec.Asc (l.drop j) := by
  rw [List.drop_eq_getElem_cons (by omega)]
  refine List.pairwise_cons.2 ⟨?_, ha⟩
  intro y hy
  rw [List.drop_eq_getElem_cons h] at ha hy
  rcases List.mem_cons.1 hy with q | q
  · rw [q]; exact hc
  · exact Rec.not_lt_trans hc ((List.pairwise_cons.1 ha).1 y q)
theorem rasc_last (l : List Rec.R) : Rec.Asc (l.drop (l.length - 1)) := rasc_short (by rw [List.length_drop]; omega)

end Go.Proofs.Ytbokblklldphgaa
namespace Go.Proofs.Ytbokblklldphgaa
open Go.RowKit Go.Ox Go.Shelf
attribute [local irreducible] OP RP
set_option linter.unusedVariables false
set_option linter.unusedSimpArgs false

/-- of the first k in order: each that is not as the one ahead of it -/
def disUp (s : List Rec.R) : Nat → List Rec.R
  | 0 => []
  | k + 1 => disUp s k ++ (match s[k]? with
    | some y => if k = 0 ∨ s[k - 1]? ≠ some y then [y] else []
    | none => [])
theorem disUp_len (s : List Rec.R) : ∀ k, (disUp s k).length ≤ k
  | 0 => Nat.le_refl _
  | k + 1 => by
    have := disUp_len s k
    unfold disUp
    rw [List.length_append]
    split
    · split <;> simp <;> omega
    · simp; omega
theorem disUp_0 {s : List Rec.R} (h : 0 < s.length) : disUp s 1 = [s[0]] := by simp [disUp, h]
theorem disUp_t {s : List Rec.R} {j : Nat} (h : j + 1 < s.length) (hq : s[j + 1] = s[j]) : disUp s (j + 1 + 1) = disUp s (j + 1) := by
  conv => lhs; unfold disUp
  rw [List.getElem?_eq_getElem h]
  have : s[j + 1 - 1]? = some s[j + 1] := by rw [Nat.add_sub_cancel, List.getElem?_eq_getElem (by omega), hq]
  simp [hq, List.getElem?_eq_getElem (show j < s.length by omega)]
theorem disUp_f {s : List Rec.R} {j : Nat} (h : j + 1 < s.length) (hq : ¬ s[j + 1] = s[j]) : disUp s (j + 1 + 1) = disUp s (j + 1) ++ [s[j + 1]] := by
  conv => lhs; unfold disUp
  rw [List.getElem?_eq_getElem h]
  have : s[j]? ≠ some s[j + 1] := by rw [List.getElem?_eq_getElem (by omega)]; intro e; injection e with e; exact hq e.symm
  simp [this]
/-- each record once, in order -/
def dis (l : List Rec.R) : List Rec.R := disUp (Rec.srt l) l.length
end Go.Proofs.Ytbokblklldphgaa
