/-
  No cell of these rows narrows 'for every input' (looked for: loops, veiled, ifaces, maps, wideKeys, modest, calm, conditions, laid).
  DERIVED. THE GIVEN ROWS OF THIS SEAT. 6 by the template 'for every input the law returns true; each argument reads behind the call as it read before'; 0 by the template 'total and deterministic' (their statements: YtgmaeeihfoicmaaTotals.lean).
  GIVEN WITH THE SEED: the statements are not yours to turn. If you find one false, say at which input.
  Laid BY PROGRAM, IN A SANDBOX (cutbox-rows.mjs): the forced cells as the released guide's own fill.sh prints them over the translation 67e73ebf8d016fb7… (all of the seat's roots in one cut). By AI agents, Wed Nov 11 2026. No macro, syntax, notation, axiom, sorry.
-/
import Derived.Test.YtgmaeeihfoicmaaChecked
import GoSem.Claim
import GoSem.ClaimJoined
import GoSem.ClaimMapViews
import Derived.JoinedTies
import Derived.KernelRfl
namespace Go.Proofs.Ytgmaeeihfoicmaa
/- THE CELL 'sum', in the pinned program and in every row, IS THE sha256 OF THE DUMP (.gsa) THAT YtgmaeeihfoicmaaProg.lean LOADS. Nothing in Lean hashes anything: it is a label: what it is worth is what the hold of that sum in a sandbox is worth. -/
noncomputable def Try.pinned : Pinned := { name := "ytgmaeeihfoicmaa", sum := "67e73ebf8d016fb721eaa5378d7a1aad0417e26f00e7b6e52701f5253f7a840e", checked := Try.checked }
namespace Rows
def none {H : Type} : Left H := { results := [], args := [] }

/-- 'oxbowlaw03.RecCodes': WHATEVER THE INPUT: true; the input reads as it did. -/
def recCodesSpec : ChangeSpec := { name := "recCodes", fn := fun _ => fun
  | [d1, d2] => { results := [.lit (.bool true)], args := [d1, d2] }
  | _ => none }
def recCodesRow : OpenClaim := { program := "ytgmaeeihfoicmaa", sum := "67e73ebf8d016fb721eaa5378d7a1aad0417e26f00e7b6e52701f5253f7a840e", func := "oxbow/oxbowlaw03.RecCodes", spec := "recCodes", unfollowed := true, recurses := true, plainKeys := false, apart := false }
def RecCodesSaid : Prop := recCodesRow.holds Try.pinned (OpenSpec.ofChange recCodesSpec)

/-- ITS FALSE NEIGHBOUR: 'it returns false'. Refute it at one input. -/
def recCodesWrong : ChangeSpec := { name := "recCodes", fn := fun _ => fun
  | [d1, d2] => { results := [.lit (.bool false)], args := [d1, d2] }
  | _ => none }
def RecCodesWrongFalsely : Prop := recCodesRow.holds Try.pinned (OpenSpec.ofChange recCodesWrong)

/-- 'oxbowlaw03.RecReads': WHATEVER THE INPUT: true; the input reads as it did. -/
def recReadsSpec : ChangeSpec := { name := "recReads", fn := fun _ => fun
  | [d] => { results := [.lit (.bool true)], args := [d] }
  | _ => none }
def recReadsRow : OpenClaim := { program := "ytgmaeeihfoicmaa", sum := "67e73ebf8d016fb721eaa5378d7a1aad0417e26f00e7b6e52701f5253f7a840e", func := "oxbow/oxbowlaw03.RecReads", spec := "recReads", unfollowed := true, recurses := true, plainKeys := false, apart := false }
def RecReadsSaid : Prop := recReadsRow.holds Try.pinned (OpenSpec.ofChange recReadsSpec)

/-- ITS FALSE NEIGHBOUR: 'it returns false'. Refute it at one input. -/
def recReadsWrong : ChangeSpec := { name := "recReads", fn := fun _ => fun
  | [d] => { results := [.lit (.bool false)], args := [d] }
  | _ => none }
def RecReadsWrongFalsely : Prop := recReadsRow.holds Try.pinned (OpenSpec.ofChange recReadsWrong)

/-- 'oxbowlaw03.RecOrders': WHATEVER THE INPUT: true; the input reads as it did. -/
def recOrdersSpec : ChangeSpec := { name := "recOrders", fn := fun _ => fun
  | [d1, d2] => { results := [.lit (.bool true)], args := [d1, d2] }
  | _ => none }
def recOrdersRow : OpenClaim := { program := "ytgmaeeihfoicmaa", sum := "67e73ebf8d016fb721eaa5378d7a1aad0417e26f00e7b6e52701f5253f7a840e", func := "oxbow/oxbowlaw03.RecOrders", spec := "recOrders", unfollowed := true, recurses := true, plainKeys := false, apart := false }
def RecOrdersSaid : Prop := recOrdersRow.holds Try.pinned (OpenSpec.ofChange recOrdersSpec)

/-- ITS FALSE NEIGHBOUR: 'it returns false'. Refute it at one input. -/
def recOrdersWrong : ChangeSpec := { name := "recOrders", fn := fun _ => fun
  | [d1, d2] => { results := [.lit (.bool false)], args := [d1, d2] }
  | _ => none }
def RecOrdersWrongFalsely : Prop := recOrdersRow.holds Try.pinned (OpenSpec.ofChange recOrdersWrong)

/-- 'oxbowlaw03.RecBags': WHATEVER THE INPUT: true; the input reads as it did. -/
def recBagsSpec : ChangeSpec := { name := "recBags", fn := fun _ => fun
  | [d1, d2] => { results := [.lit (.bool true)], args := [d1, d2] }
  | _ => none }
def recBagsRow : OpenClaim := { program := "ytgmaeeihfoicmaa", sum := "67e73ebf8d016fb721eaa5378d7a1aad0417e26f00e7b6e52701f5253f7a840e", func := "oxbow/oxbowlaw03.RecBags", spec := "recBags", unfollowed := true, recurses := true, plainKeys := false, apart := false }
def RecBagsSaid : Prop := recBagsRow.holds Try.pinned (OpenSpec.ofChange recBagsSpec)

/-- ITS FALSE NEIGHBOUR: 'it returns false'. Refute it at one input. -/
def recBagsWrong : ChangeSpec := { name := "recBags", fn := fun _ => fun
  | [d1, d2] => { results := [.lit (.bool false)], args := [d1, d2] }
  | _ => none }
def RecBagsWrongFalsely : Prop := recBagsRow.holds Try.pinned (OpenSpec.ofChange recBagsWrong)

/-- 'oxbowlaw03.RecParts': WHATEVER THE INPUT: true; the input reads as it did. -/
def recPartsSpec : ChangeSpec := { name := "recParts", fn := fun _ => fun
  | [d1, d2] => { results := [.lit (.bool true)], args := [d1, d2] }
  | _ => none }
def recPartsRow : OpenClaim := { program := "ytgmaeeihfoicmaa", sum := "67e73ebf8d016fb721eaa5378d7a1aad0417e26f00e7b6e52701f5253f7a840e", func := "oxbow/oxbowlaw03.RecParts", spec := "recParts", unfollowed := true, recurses := true, plainKeys := false, apart := false }
def RecPartsSaid : Prop := recPartsRow.holds Try.pinned (OpenSpec.ofChange recPartsSpec)

/-- ITS FALSE NEIGHBOUR: 'it returns false'. Refute it at one input. -/
def recPartsWrong : ChangeSpec := { name := "recParts", fn := fun _ => fun
  | [d1, d2] => { results := [.lit (.bool false)], args := [d1, d2] }
  | _ => none }
def RecPartsWrongFalsely : Prop := recPartsRow.holds Try.pinned (OpenSpec.ofChange recPartsWrong)

/-- 'oxbowlaw03.RecSorts': WHATEVER THE INPUT: true; the input reads as it did. -/
def recSortsSpec : ChangeSpec := { name := "recSorts", fn := fun _ => fun
  | [d1, d2] => { results := [.lit (.bool true)], args := [d1, d2] }
  | _ => none }
def recSortsRow : OpenClaim := { program := "ytgmaeeihfoicmaa", sum := "67e73ebf8d016fb721eaa5378d7a1aad0417e26f00e7b6e52701f5253f7a840e", func := "oxbow/oxbowlaw03.RecSorts", spec := "recSorts", unfollowed := true, recurses := true, plainKeys := false, apart := false }
def RecSortsSaid : Prop := recSortsRow.holds Try.pinned (OpenSpec.ofChange recSortsSpec)

/-- ITS FALSE NEIGHBOUR: 'it returns false'. Refute it at one input. -/
def recSortsWrong : ChangeSpec := { name := "recSorts", fn := fun _ => fun
  | [d1, d2] => { results := [.lit (.bool false)], args := [d1, d2] }
  | _ => none }
def RecSortsWrongFalsely : Prop := recSortsRow.holds Try.pinned (OpenSpec.ofChange recSortsWrong)

/- THE SECOND FORM. 'bulk': how many values and letters a reading holds, each counted each time it is reached (what is shared counts as often as it is met; a slice's spare places count too). A statement '..UptoSaid' is the law's where the arguments, and the package variables that the reading takes, are together of bulk at most 1048576: NARROWER than '..Said'. Prove '..Said' where nothing that the law and all that it calls make is longer than what came in: it says more and counts as full. Else prove '..UptoSaid'. A law counts once. -/
mutual
def uptoBulk {H : Type} : DataW H → Nat
  | .lit (.string bytes) => bytes.length + 1
  | .lit _ => 1
  | .nil => 1
  | .ptr d => uptoBulk d + 1
  | .slice elems spare => uptoBulkAll elems + uptoBulkAll spare + 1
  | .agg parts => uptoBulkAll parts + 1
  | .iface _ d => uptoBulk d + 1
  | .map entries => uptoBulkEntries entries + 1
  | .held _ => 1
def uptoBulkAll {H : Type} : List (DataW H) → Nat
  | [] => 0
  | d :: r => uptoBulk d + uptoBulkAll r
def uptoBulkEntries {H : Type} : List (Lit × DataW H) → Nat
  | [] => 0
  | x :: r => uptoBulkEntry x + uptoBulkEntries r
def uptoBulkEntry {H : Type} : Lit × DataW H → Nat
  | (.string bytes, d) => bytes.length + uptoBulk d + 1
  | (_, d) => uptoBulk d + 1
 end
def uptoSmall : (H : Type) → List (DataW H) → Bool := fun _ ds => decide (uptoBulkAll ds ≤ 1048576)
def OpenSpec.upto (s : _root_.Go.ChangeSpec) : _root_.Go.OpenSpec := { _root_.Go.OpenSpec.ofChange s with cond := some uptoSmall }

/-- 'oxbowlaw03.RecCodes', WHERE WHAT IT READS IS OF BULK AT MOST 1048576: true; the input reads as it did. -/
def recCodesUptoRow : OpenClaim := { program := "ytgmaeeihfoicmaa", sum := "67e73ebf8d016fb721eaa5378d7a1aad0417e26f00e7b6e52701f5253f7a840e", func := "oxbow/oxbowlaw03.RecCodes", spec := "recCodes", unfollowed := true, recurses := true, plainKeys := false, apart := false, narrowed := true }
def RecCodesUptoSaid : Prop := recCodesUptoRow.holds Try.pinned (OpenSpec.upto recCodesSpec)

/-- 'oxbowlaw03.RecReads', WHERE WHAT IT READS IS OF BULK AT MOST 1048576: true; the input reads as it did. -/
def recReadsUptoRow : OpenClaim := { program := "ytgmaeeihfoicmaa", sum := "67e73ebf8d016fb721eaa5378d7a1aad0417e26f00e7b6e52701f5253f7a840e", func := "oxbow/oxbowlaw03.RecReads", spec := "recReads", unfollowed := true, recurses := true, plainKeys := false, apart := false, narrowed := true }
def RecReadsUptoSaid : Prop := recReadsUptoRow.holds Try.pinned (OpenSpec.upto recReadsSpec)

/-- 'oxbowlaw03.RecOrders', WHERE WHAT IT READS IS OF BULK AT MOST 1048576: true; the input reads as it did. -/
def recOrdersUptoRow : OpenClaim := { program := "ytgmaeeihfoicmaa", sum := "67e73ebf8d016fb721eaa5378d7a1aad0417e26f00e7b6e52701f5253f7a840e", func := "oxbow/oxbowlaw03.RecOrders", spec := "recOrders", unfollowed := true, recurses := true, plainKeys := false, apart := false, narrowed := true }
def RecOrdersUptoSaid : Prop := recOrdersUptoRow.holds Try.pinned (OpenSpec.upto recOrdersSpec)

/-- 'oxbowlaw03.RecBags', WHERE WHAT IT READS IS OF BULK AT MOST 1048576: true; the input reads as it did. -/
def recBagsUptoRow : OpenClaim := { program := "ytgmaeeihfoicmaa", sum := "67e73ebf8d016fb721eaa5378d7a1aad0417e26f00e7b6e52701f5253f7a840e", func := "oxbow/oxbowlaw03.RecBags", spec := "recBags", unfollowed := true, recurses := true, plainKeys := false, apart := false, narrowed := true }
def RecBagsUptoSaid : Prop := recBagsUptoRow.holds Try.pinned (OpenSpec.upto recBagsSpec)

/-- 'oxbowlaw03.RecParts', WHERE WHAT IT READS IS OF BULK AT MOST 1048576: true; the input reads as it did. -/
def recPartsUptoRow : OpenClaim := { program := "ytgmaeeihfoicmaa", sum := "67e73ebf8d016fb721eaa5378d7a1aad0417e26f00e7b6e52701f5253f7a840e", func := "oxbow/oxbowlaw03.RecParts", spec := "recParts", unfollowed := true, recurses := true, plainKeys := false, apart := false, narrowed := true }
def RecPartsUptoSaid : Prop := recPartsUptoRow.holds Try.pinned (OpenSpec.upto recPartsSpec)

/-- 'oxbowlaw03.RecSorts', WHERE WHAT IT READS IS OF BULK AT MOST 1048576: true; the input reads as it did. -/
def recSortsUptoRow : OpenClaim := { program := "ytgmaeeihfoicmaa", sum := "67e73ebf8d016fb721eaa5378d7a1aad0417e26f00e7b6e52701f5253f7a840e", func := "oxbow/oxbowlaw03.RecSorts", spec := "recSorts", unfollowed := true, recurses := true, plainKeys := false, apart := false, narrowed := true }
def RecSortsUptoSaid : Prop := recSortsUptoRow.holds Try.pinned (OpenSpec.upto recSortsSpec)

end Rows
end Go.Proofs.Ytgmaeeihfoicmaa
