/-
  The walks of package moment: what hands functions to the library.
-/
import Derived.Test.YtjgcalgjfhjejaaMom
import Derived.Test.YtjgcalgjfhjejaaPair
import Derived.Test.YtjgcalgjfhjejaaShelf
namespace Go.Proofs.Ytjgcalgjfhjejaa.Mo
open Go.RowKit Go.Ox Go.Shelf

abbrev encM (x : Mom.M) : List Value := [.int .i64 x.1, .int .i64 x.2]

end Go.Proofs.Ytjgcalgjfhjejaa.Mo
