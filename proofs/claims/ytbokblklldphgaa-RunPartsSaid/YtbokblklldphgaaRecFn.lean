/-
  The walks of package rec: what hands functions to the library.
-/
import Derived.Test.YtbokblklldphgaaRec
import Derived.Test.YtbokblklldphgaaShelf
namespace Go.Proofs.Ytbokblklldphgaa
open Go.RowKit Go.Ox Go.Shelf
set_option linter.unusedVariables false

end Go.Proofs.Ytbokblklldphgaa
