/-
  Layer 12: the laws that have numbers among their arguments, in the form in which the rows call them.
-/
import Derived.Test.YtbokblklldphgaaRunLaw2
import Derived.Test.YtbokblklldphgaaRunLaw3
namespace Go.Proofs.Ytbokblklldphgaa
open Go.RowKit Go.Ox
theorem runFills_law (w : World) (n : Int) (_ : -9223372036854775808 ≤ n ∧ n ≤ 9223372036854775807) (m : Int) (_ : -9223372036854775808 ≤ m ∧ m ≤ 9223372036854775807) :
    Calls Try.prog 3 #[.int .i64 n, .int .i64 m] w fun e w' => e = .returned (.bool true) ∧ Ext w w' := runFills_row n m w
theorem runWide_law (w : World) (n : Int) (_ : -9223372036854775808 ≤ n ∧ n ≤ 9223372036854775807) :
    Calls Try.prog 4 #[.int .i64 n] w fun e w' => e = .returned (.bool true) ∧ Ext w w' := runWide_row n w
theorem runDoes_law (w : World) (n : Int) (_ : -9223372036854775808 ≤ n ∧ n ≤ 9223372036854775807) (v : Value) (l : List OpD) (hv : RS 6 OpR w v l) :
    Calls Try.prog 5 #[.int .i64 n, v] w fun e w' => e = .returned (.bool true) ∧ Ext w w' := runDoes_row n v l w hv
theorem runNobody_law (w : World) (v : Value) (x : OpD × Value) (hv : v = .agg #[.int .i64 x.1.1, .int .i64 x.1.2.1.1.1, .int .i64 x.1.2.1.1.2, .int .i64 x.1.2.1.2.1, .int .i64 x.1.2.1.2.2, x.2] ∧ RP w x.2 x.1.2.2) :
    Calls Try.prog 6 #[v] w fun e w' => e = .returned (.bool true) ∧ Ext w w' := runNobody_row v x w hv
theorem runParts_law (w : World) (v : Value) (l : List Ent.E) (hv : RE w v l) :
    Calls Try.prog 7 #[v] w fun e w' => e = .returned (.bool true) ∧ Ext w w' := runParts_row v l w hv
end Go.Proofs.Ytbokblklldphgaa
