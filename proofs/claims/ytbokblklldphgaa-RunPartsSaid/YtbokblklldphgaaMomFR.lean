/-
  The walks of oxbowref04.Covers and oxbowref04.Front.
-/
import Derived.Test.YtbokblklldphgaaMomCov
import Derived.Test.YtbokblklldphgaaCopy
import Derived.Test.YtbokblklldphgaaEff
namespace Go.Proofs.Ytbokblklldphgaa.Mo
open Go.RowKit Go.Ox
set_option linter.unusedVariables false
attribute [local irreducible] OP RP

end Go.Proofs.Ytbokblklldphgaa.Mo
