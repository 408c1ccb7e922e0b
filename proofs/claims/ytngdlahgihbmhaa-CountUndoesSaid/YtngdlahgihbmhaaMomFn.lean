/-
  The walks of package moment: what hands functions to the library.
-/
import Derived.Test.YtngdlahgihbmhaaMom
import Derived.Test.YtngdlahgihbmhaaPair
import Derived.Test.YtngdlahgihbmhaaShelf
namespace Go.Proofs.Ytngdlahgihbmhaa
open Go.RowKit Go.Ox Go.Shelf

theorem elemM : Elem Try.prog 41 32 (.agg #[.int .i64 0, .int .i64 0]) 2 16 := Elem.mk' Try.underlying41 (by kernel_rfl) rfl (by omega)
theorem eqlNilM (w : World) (A : Option Addr) (n c n' c' : Nat) : (binOp .eql 41 (.slice A n c) (.slice none n' c')).run Try.prog w = .ok (.bool A.isNone) w :=
  Lib.run_eql_slice_nil (P := Try.prog) w 41 32 A n c n' c' Try.underlying41
abbrev encM (x : Mom.M) : List Value := [.int .i64 x.1, .int .i64 x.2]

end Go.Proofs.Ytngdlahgihbmhaa
