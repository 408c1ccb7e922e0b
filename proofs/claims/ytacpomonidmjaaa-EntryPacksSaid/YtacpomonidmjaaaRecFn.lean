/-
  The walks of package rec: what hands functions to the library.
-/
import Derived.Test.YtacpomonidmjaaaRec
import Derived.Test.YtacpomonidmjaaaShelf
namespace Go.Proofs.Ytacpomonidmjaaa
open Go.RowKit Go.Ox Go.Shelf
set_option linter.unusedVariables false

end Go.Proofs.Ytacpomonidmjaaa
