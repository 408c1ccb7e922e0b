/-
  entry.may, entry.Sort, Size; the document's May.
-/
import Derived.Test.YtbokblklldphgaaEntSort
import Derived.Test.YtbokblklldphgaaEntSorted
namespace Go.Proofs.Ytbokblklldphgaa
open Go.RowKit Go.Ox Go.Shelf
set_option linter.unusedVariables false
set_option linter.unusedSimpArgs false

theorem chk_drop {l : List Ent.E} {k : Nat} (h : k < l.length) : Ent.chk (l.drop k) = if Ent.okE l[k] = 0 then Ent.chk (l.drop (k + 1)) else Ent.okE l[k] := by
  rw [List.drop_eq_getElem_cons h]; rfl
end Go.Proofs.Ytbokblklldphgaa
