/-
  No cell of these rows narrows 'for every input' (looked for: loops, veiled, ifaces, maps, wideKeys, modest, calm, conditions, laid).
  DERIVED. THE GIVEN ROWS OF THIS SEAT. 5 by the template 'for every input the law returns true; each argument reads behind the call as it read before'; 0 by the template 'total and deterministic' (their statements: YtngdlahgihbmhaaTotals.lean).
  GIVEN WITH THE SEED: the statements are not yours to turn. If you find one false, say at which input.
  Laid BY PROGRAM, IN A SANDBOX (cutbox-rows.mjs): the forced cells as the released guide's own fill.sh prints them over the translation 401f7c84e5b32e15… (all of the seat's roots in one cut). By AI agents, Wed Nov 11 2026. No macro, syntax, notation, axiom, sorry.
-/
import Derived.Test.YtngdlahgihbmhaaChecked
import GoSem.Claim
import GoSem.ClaimJoined
import GoSem.ClaimMapViews
import Derived.JoinedTies
import Derived.KernelRfl
namespace Go.Proofs.Ytngdlahgihbmhaa
/- THE CELL 'sum', in the pinned program and in every row, IS THE sha256 OF THE DUMP (.gsa) THAT YtngdlahgihbmhaaProg.lean LOADS. Nothing in Lean hashes anything: it is a label: what it is worth is what the hold of that sum in a sandbox is worth. -/
noncomputable def Try.pinned : Pinned := { name := "ytngdlahgihbmhaa", sum := "401f7c84e5b32e15d0d13dcd880a11932e102543f684c369eaa671ca16bdb84b", checked := Try.checked }
namespace Rows
def none {H : Type} : Left H := { results := [], args := [] }

/-- 'oxbowlaw21.CountDoes': WHATEVER THE INPUT: true; the input reads as it did. -/
def countDoesSpec : ChangeSpec := { name := "countDoes", fn := fun _ => fun
  | [d] => { results := [.lit (.bool true)], args := [d] }
  | _ => none }
def countDoesRow : OpenClaim := { program := "ytngdlahgihbmhaa", sum := "401f7c84e5b32e15d0d13dcd880a11932e102543f684c369eaa671ca16bdb84b", func := "oxbow/oxbowlaw21.CountDoes", spec := "countDoes", inPlace := ["maps.clone"], unfollowed := true, recurses := true, plainKeys := false, apart := false }
def CountDoesSaid : Prop := countDoesRow.holds Try.pinned (OpenSpec.ofChange countDoesSpec)

/-- ITS FALSE NEIGHBOUR: 'it returns false'. Refute it at one input. -/
def countDoesWrong : ChangeSpec := { name := "countDoes", fn := fun _ => fun
  | [d] => { results := [.lit (.bool false)], args := [d] }
  | _ => none }
def CountDoesWrongFalsely : Prop := countDoesRow.holds Try.pinned (OpenSpec.ofChange countDoesWrong)

/-- 'oxbowlaw21.CountUndoes': WHATEVER THE INPUT: true; the input reads as it did. -/
def countUndoesSpec : ChangeSpec := { name := "countUndoes", fn := fun _ => fun
  | [d] => { results := [.lit (.bool true)], args := [d] }
  | _ => none }
def countUndoesRow : OpenClaim := { program := "ytngdlahgihbmhaa", sum := "401f7c84e5b32e15d0d13dcd880a11932e102543f684c369eaa671ca16bdb84b", func := "oxbow/oxbowlaw21.CountUndoes", spec := "countUndoes", inPlace := ["maps.clone"], unfollowed := true, recurses := true, plainKeys := false, apart := false }
def CountUndoesSaid : Prop := countUndoesRow.holds Try.pinned (OpenSpec.ofChange countUndoesSpec)

/-- ITS FALSE NEIGHBOUR: 'it returns false'. Refute it at one input. -/
def countUndoesWrong : ChangeSpec := { name := "countUndoes", fn := fun _ => fun
  | [d] => { results := [.lit (.bool false)], args := [d] }
  | _ => none }
def CountUndoesWrongFalsely : Prop := countUndoesRow.holds Try.pinned (OpenSpec.ofChange countUndoesWrong)

/-- 'oxbowlaw21.CountNobody': WHATEVER THE INPUT: true; the input reads as it did. -/
def countNobodySpec : ChangeSpec := { name := "countNobody", fn := fun _ => fun
  | [d] => { results := [.lit (.bool true)], args := [d] }
  | _ => none }
def countNobodyRow : OpenClaim := { program := "ytngdlahgihbmhaa", sum := "401f7c84e5b32e15d0d13dcd880a11932e102543f684c369eaa671ca16bdb84b", func := "oxbow/oxbowlaw21.CountNobody", spec := "countNobody", inPlace := ["maps.clone"], unfollowed := true, recurses := true, plainKeys := false, apart := false }
def CountNobodySaid : Prop := countNobodyRow.holds Try.pinned (OpenSpec.ofChange countNobodySpec)

/-- ITS FALSE NEIGHBOUR: 'it returns false'. Refute it at one input. -/
def countNobodyWrong : ChangeSpec := { name := "countNobody", fn := fun _ => fun
  | [d] => { results := [.lit (.bool false)], args := [d] }
  | _ => none }
def CountNobodyWrongFalsely : Prop := countNobodyRow.holds Try.pinned (OpenSpec.ofChange countNobodyWrong)

/-- 'oxbowlaw21.CountOrder': WHATEVER THE INPUT: true; the input reads as it did. -/
def countOrderSpec : ChangeSpec := { name := "countOrder", fn := fun _ => fun
  | [d] => { results := [.lit (.bool true)], args := [d] }
  | _ => none }
def countOrderRow : OpenClaim := { program := "ytngdlahgihbmhaa", sum := "401f7c84e5b32e15d0d13dcd880a11932e102543f684c369eaa671ca16bdb84b", func := "oxbow/oxbowlaw21.CountOrder", spec := "countOrder", inPlace := ["maps.clone"], unfollowed := true, recurses := true, plainKeys := false, apart := false }
def CountOrderSaid : Prop := countOrderRow.holds Try.pinned (OpenSpec.ofChange countOrderSpec)

/-- ITS FALSE NEIGHBOUR: 'it returns false'. Refute it at one input. -/
def countOrderWrong : ChangeSpec := { name := "countOrder", fn := fun _ => fun
  | [d] => { results := [.lit (.bool false)], args := [d] }
  | _ => none }
def CountOrderWrongFalsely : Prop := countOrderRow.holds Try.pinned (OpenSpec.ofChange countOrderWrong)

/-- 'oxbowlaw21.CountOwn': WHATEVER THE INPUT: true; the input reads as it did. -/
def countOwnSpec : ChangeSpec := { name := "countOwn", fn := fun _ => fun
  | [d1, d2] => { results := [.lit (.bool true)], args := [d1, d2] }
  | _ => none }
def countOwnRow : OpenClaim := { program := "ytngdlahgihbmhaa", sum := "401f7c84e5b32e15d0d13dcd880a11932e102543f684c369eaa671ca16bdb84b", func := "oxbow/oxbowlaw21.CountOwn", spec := "countOwn", inPlace := ["maps.clone"], unfollowed := true, recurses := true, plainKeys := false, apart := false }
def CountOwnSaid : Prop := countOwnRow.holds Try.pinned (OpenSpec.ofChange countOwnSpec)

/-- ITS FALSE NEIGHBOUR: 'it returns false'. Refute it at one input. -/
def countOwnWrong : ChangeSpec := { name := "countOwn", fn := fun _ => fun
  | [d1, d2] => { results := [.lit (.bool false)], args := [d1, d2] }
  | _ => none }
def CountOwnWrongFalsely : Prop := countOwnRow.holds Try.pinned (OpenSpec.ofChange countOwnWrong)

/- THE SECOND FORM. 'bulk': how many values and letters a reading holds, each counted each time it is reached (what is shared counts as often as it is met; a slice's spare places count too). A statement '..UptoSaid' is the law's where the arguments, and the package variables that the reading takes, are together of bulk at most 1048576: NARROWER than '..Said'. Prove '..Said' where nothing that the law and all that it calls make is longer than what came in: it says more and counts as full. Else prove '..UptoSaid'. A law counts once. -/
mutual
def uptoBulk {H : Type} : DataW H → Nat
  | .lit (.string bytes) => bytes.length + 1
  | .lit _ => 1
  | .nil => 1
  | .ptr d => uptoBulk d + 1
  | .slice elems spare => uptoBulkAll elems + uptoBulkAll spare + 1
  | .agg parts => uptoBulkAll parts + 1
  | .iface _ d => uptoBulk d + 1
  | .map entries => uptoBulkEntries entries + 1
  | .held _ => 1
def uptoBulkAll {H : Type} : List (DataW H) → Nat
  | [] => 0
  | d :: r => uptoBulk d + uptoBulkAll r
def uptoBulkEntries {H : Type} : List (Lit × DataW H) → Nat
  | [] => 0
  | x :: r => uptoBulkEntry x + uptoBulkEntries r
def uptoBulkEntry {H : Type} : Lit × DataW H → Nat
  | (.string bytes, d) => bytes.length + uptoBulk d + 1
  | (_, d) => uptoBulk d + 1
 end
def uptoSmall : (H : Type) → List (DataW H) → Bool := fun _ ds => decide (uptoBulkAll ds ≤ 1048576)
def OpenSpec.upto (s : _root_.Go.ChangeSpec) : _root_.Go.OpenSpec := { _root_.Go.OpenSpec.ofChange s with cond := some uptoSmall }

/-- 'oxbowlaw21.CountDoes', WHERE WHAT IT READS IS OF BULK AT MOST 1048576: true; the input reads as it did. -/
def countDoesUptoRow : OpenClaim := { program := "ytngdlahgihbmhaa", sum := "401f7c84e5b32e15d0d13dcd880a11932e102543f684c369eaa671ca16bdb84b", func := "oxbow/oxbowlaw21.CountDoes", spec := "countDoes", inPlace := ["maps.clone"], unfollowed := true, recurses := true, plainKeys := false, apart := false, narrowed := true }
def CountDoesUptoSaid : Prop := countDoesUptoRow.holds Try.pinned (OpenSpec.upto countDoesSpec)

/-- 'oxbowlaw21.CountUndoes', WHERE WHAT IT READS IS OF BULK AT MOST 1048576: true; the input reads as it did. -/
def countUndoesUptoRow : OpenClaim := { program := "ytngdlahgihbmhaa", sum := "401f7c84e5b32e15d0d13dcd880a11932e102543f684c369eaa671ca16bdb84b", func := "oxbow/oxbowlaw21.CountUndoes", spec := "countUndoes", inPlace := ["maps.clone"], unfollowed := true, recurses := true, plainKeys := false, apart := false, narrowed := true }
def CountUndoesUptoSaid : Prop := countUndoesUptoRow.holds Try.pinned (OpenSpec.upto countUndoesSpec)

/-- 'oxbowlaw21.CountNobody', WHERE WHAT IT READS IS OF BULK AT MOST 1048576: true; the input reads as it did. -/
def countNobodyUptoRow : OpenClaim := { program := "ytngdlahgihbmhaa", sum := "401f7c84e5b32e15d0d13dcd880a11932e102543f684c369eaa671ca16bdb84b", func := "oxbow/oxbowlaw21.CountNobody", spec := "countNobody", inPlace := ["maps.clone"], unfollowed := true, recurses := true, plainKeys := false, apart := false, narrowed := true }
def CountNobodyUptoSaid : Prop := countNobodyUptoRow.holds Try.pinned (OpenSpec.upto countNobodySpec)

/-- 'oxbowlaw21.CountOrder', WHERE WHAT IT READS IS OF BULK AT MOST 1048576: true; the input reads as it did. -/
def countOrderUptoRow : OpenClaim := { program := "ytngdlahgihbmhaa", sum := "401f7c84e5b32e15d0d13dcd880a11932e102543f684c369eaa671ca16bdb84b", func := "oxbow/oxbowlaw21.CountOrder", spec := "countOrder", inPlace := ["maps.clone"], unfollowed := true, recurses := true, plainKeys := false, apart := false, narrowed := true }
def CountOrderUptoSaid : Prop := countOrderUptoRow.holds Try.pinned (OpenSpec.upto countOrderSpec)

/-- 'oxbowlaw21.CountOwn', WHERE WHAT IT READS IS OF BULK AT MOST 1048576: true; the input reads as it did. -/
def countOwnUptoRow : OpenClaim := { program := "ytngdlahgihbmhaa", sum := "401f7c84e5b32e15d0d13dcd880a11932e102543f684c369eaa671ca16bdb84b", func := "oxbow/oxbowlaw21.CountOwn", spec := "countOwn", inPlace := ["maps.clone"], unfollowed := true, recurses := true, plainKeys := false, apart := false, narrowed := true }
def CountOwnUptoSaid : Prop := countOwnUptoRow.holds Try.pinned (OpenSpec.upto countOwnSpec)

end Rows
end Go.Proofs.Ytngdlahgihbmhaa
