/-
  No cell of these rows narrows 'for every input' (looked for: loops, veiled, ifaces, maps, wideKeys, modest, calm, conditions, laid).
  DERIVED. THE GIVEN ROWS OF THIS SEAT. 5 by the template 'for every input the law returns true; each argument reads behind the call as it read before'; 0 by the template 'total and deterministic' (their statements: YtbokblklldphgaaTotals.lean).
  GIVEN WITH THE SEED: the statements are not yours to turn. If you find one false, say at which input.
  Laid BY PROGRAM, IN A SANDBOX (cutbox-rows.mjs): the forced cells as the released guide's own fill.sh prints them over the translation f2158cb5003c6651… (all of the seat's roots in one cut). By AI agents, Wed Nov 11 2026. No macro, syntax, notation, axiom, sorry.
-/
import Derived.Test.YtbokblklldphgaaChecked
import GoSem.Claim
import GoSem.ClaimJoined
import GoSem.ClaimMapViews
import Derived.JoinedTies
import Derived.KernelRfl
namespace Go.Proofs.Ytbokblklldphgaa
/- THE CELL 'sum', in the pinned program and in every row, IS THE sha256 OF THE DUMP (.gsa) THAT YtbokblklldphgaaProg.lean LOADS. Nothing in Lean hashes anything: it is a label: what it is worth is what the hold of that sum in a sandbox is worth. -/
noncomputable def Try.pinned : Pinned := { name := "ytbokblklldphgaa", sum := "f2158cb5003c66512b8bd86fffd0578efc0abdc72a2885c8d8aec339f7f3f6d1", checked := Try.checked }
namespace Rows
def none {H : Type} : Left H := { results := [], args := [] }

/-- 'oxbowlaw12.RunFills': WHATEVER THE INPUT: true; the input reads as it did. -/
def runFillsSpec : ChangeSpec := { name := "runFills", fn := fun _ => fun
  | [d1, d2] => { results := [.lit (.bool true)], args := [d1, d2] }
  | _ => none }
def runFillsRow : OpenClaim := { program := "ytbokblklldphgaa", sum := "f2158cb5003c66512b8bd86fffd0578efc0abdc72a2885c8d8aec339f7f3f6d1", func := "oxbow/oxbowlaw12.RunFills", spec := "runFills", unfollowed := true, recurses := true, apart := false }
def RunFillsSaid : Prop := runFillsRow.holds Try.pinned (OpenSpec.ofChange runFillsSpec)

/-- ITS FALSE NEIGHBOUR: 'it returns false'. Refute it at one input. -/
def runFillsWrong : ChangeSpec := { name := "runFills", fn := fun _ => fun
  | [d1, d2] => { results := [.lit (.bool false)], args := [d1, d2] }
  | _ => none }
def RunFillsWrongFalsely : Prop := runFillsRow.holds Try.pinned (OpenSpec.ofChange runFillsWrong)

/-- 'oxbowlaw12.RunWide': WHATEVER THE INPUT: true; the input reads as it did. -/
def runWideSpec : ChangeSpec := { name := "runWide", fn := fun _ => fun
  | [d] => { results := [.lit (.bool true)], args := [d] }
  | _ => none }
def runWideRow : OpenClaim := { program := "ytbokblklldphgaa", sum := "f2158cb5003c66512b8bd86fffd0578efc0abdc72a2885c8d8aec339f7f3f6d1", func := "oxbow/oxbowlaw12.RunWide", spec := "runWide", unfollowed := true, recurses := true, apart := false }
def RunWideSaid : Prop := runWideRow.holds Try.pinned (OpenSpec.ofChange runWideSpec)

/-- ITS FALSE NEIGHBOUR: 'it returns false'. Refute it at one input. -/
def runWideWrong : ChangeSpec := { name := "runWide", fn := fun _ => fun
  | [d] => { results := [.lit (.bool false)], args := [d] }
  | _ => none }
def RunWideWrongFalsely : Prop := runWideRow.holds Try.pinned (OpenSpec.ofChange runWideWrong)

/-- 'oxbowlaw12.RunDoes': WHATEVER THE INPUT: true; the input reads as it did. -/
def runDoesSpec : ChangeSpec := { name := "runDoes", fn := fun _ => fun
  | [d1, d2] => { results := [.lit (.bool true)], args := [d1, d2] }
  | _ => none }
def runDoesRow : OpenClaim := { program := "ytbokblklldphgaa", sum := "f2158cb5003c66512b8bd86fffd0578efc0abdc72a2885c8d8aec339f7f3f6d1", func := "oxbow/oxbowlaw12.RunDoes", spec := "runDoes", unfollowed := true, recurses := true, apart := false }
def RunDoesSaid : Prop := runDoesRow.holds Try.pinned (OpenSpec.ofChange runDoesSpec)

/-- ITS FALSE NEIGHBOUR: 'it returns false'. Refute it at one input. -/
def runDoesWrong : ChangeSpec := { name := "runDoes", fn := fun _ => fun
  | [d1, d2] => { results := [.lit (.bool false)], args := [d1, d2] }
  | _ => none }
def RunDoesWrongFalsely : Prop := runDoesRow.holds Try.pinned (OpenSpec.ofChange runDoesWrong)

/-- 'oxbowlaw12.RunNobody': WHATEVER THE INPUT: true; the input reads as it did. -/
def runNobodySpec : ChangeSpec := { name := "runNobody", fn := fun _ => fun
  | [d] => { results := [.lit (.bool true)], args := [d] }
  | _ => none }
def runNobodyRow : OpenClaim := { program := "ytbokblklldphgaa", sum := "f2158cb5003c66512b8bd86fffd0578efc0abdc72a2885c8d8aec339f7f3f6d1", func := "oxbow/oxbowlaw12.RunNobody", spec := "runNobody", unfollowed := true, recurses := true, apart := false }
def RunNobodySaid : Prop := runNobodyRow.holds Try.pinned (OpenSpec.ofChange runNobodySpec)

/-- ITS FALSE NEIGHBOUR: 'it returns false'. Refute it at one input. -/
def runNobodyWrong : ChangeSpec := { name := "runNobody", fn := fun _ => fun
  | [d] => { results := [.lit (.bool false)], args := [d] }
  | _ => none }
def RunNobodyWrongFalsely : Prop := runNobodyRow.holds Try.pinned (OpenSpec.ofChange runNobodyWrong)

/-- 'oxbowlaw12.RunParts': WHATEVER THE INPUT: true; the input reads as it did. -/
def runPartsSpec : ChangeSpec := { name := "runParts", fn := fun _ => fun
  | [d] => { results := [.lit (.bool true)], args := [d] }
  | _ => none }
def runPartsRow : OpenClaim := { program := "ytbokblklldphgaa", sum := "f2158cb5003c66512b8bd86fffd0578efc0abdc72a2885c8d8aec339f7f3f6d1", func := "oxbow/oxbowlaw12.RunParts", spec := "runParts", unfollowed := true, recurses := true, apart := false }
def RunPartsSaid : Prop := runPartsRow.holds Try.pinned (OpenSpec.ofChange runPartsSpec)

/-- ITS FALSE NEIGHBOUR: 'it returns false'. Refute it at one input. -/
def runPartsWrong : ChangeSpec := { name := "runParts", fn := fun _ => fun
  | [d] => { results := [.lit (.bool false)], args := [d] }
  | _ => none }
def RunPartsWrongFalsely : Prop := runPartsRow.holds Try.pinned (OpenSpec.ofChange runPartsWrong)

/- THE SECOND FORM. 'bulk': how many values and letters a reading holds, each counted each time it is reached (what is shared counts as often as it is met; a slice's spare places count too). A statement '..UptoSaid' is the law's where the arguments, and the package variables that the reading takes, are together of bulk at most 1048576: NARROWER than '..Said'. Prove '..Said' where nothing that the law and all that it calls make is longer than what came in: it says more and counts as full. Else prove '..UptoSaid'. A law counts once. -/
mutual
def uptoBulk {H : Type} : DataW H → Nat
  | .lit (.string bytes) => bytes.length + 1
  | .lit _ => 1
  | .nil => 1
  | .ptr d => uptoBulk d + 1
  | .slice elems spare => uptoBulkAll elems + uptoBulkAll spare + 1
  | .agg parts => uptoBulkAll parts + 1
  | .iface _ d => uptoBulk d + 1
  | .map entries => uptoBulkEntries entries + 1
  | .held _ => 1
def uptoBulkAll {H : Type} : List (DataW H) → Nat
  | [] => 0
  | d :: r => uptoBulk d + uptoBulkAll r
def uptoBulkEntries {H : Type} : List (Lit × DataW H) → Nat
  | [] => 0
  | x :: r => uptoBulkEntry x + uptoBulkEntries r
def uptoBulkEntry {H : Type} : Lit × DataW H → Nat
  | (.string bytes, d) => bytes.length + uptoBulk d + 1
  | (_, d) => uptoBulk d + 1
 end
def uptoSmall : (H : Type) → List (DataW H) → Bool := fun _ ds => decide (uptoBulkAll ds ≤ 1048576)
def OpenSpec.upto (s : _root_.Go.ChangeSpec) : _root_.Go.OpenSpec := { _root_.Go.OpenSpec.ofChange s with cond := some uptoSmall }

/-- 'oxbowlaw12.RunFills', WHERE WHAT IT READS IS OF BULK AT MOST 1048576: true; the input reads as it did. -/
def runFillsUptoRow : OpenClaim := { program := "ytbokblklldphgaa", sum := "f2158cb5003c66512b8bd86fffd0578efc0abdc72a2885c8d8aec339f7f3f6d1", func := "oxbow/oxbowlaw12.RunFills", spec := "runFills", unfollowed := true, recurses := true, apart := false, narrowed := true }
def RunFillsUptoSaid : Prop := runFillsUptoRow.holds Try.pinned (OpenSpec.upto runFillsSpec)

/-- 'oxbowlaw12.RunWide', WHERE WHAT IT READS IS OF BULK AT MOST 1048576: true; the input reads as it did. -/
def runWideUptoRow : OpenClaim := { program := "ytbokblklldphgaa", sum := "f2158cb5003c66512b8bd86fffd0578efc0abdc72a2885c8d8aec339f7f3f6d1", func := "oxbow/oxbowlaw12.RunWide", spec := "runWide", unfollowed := true, recurses := true, apart := false, narrowed := true }
def RunWideUptoSaid : Prop := runWideUptoRow.holds Try.pinned (OpenSpec.upto runWideSpec)

/-- 'oxbowlaw12.RunDoes', WHERE WHAT IT READS IS OF BULK AT MOST 1048576: true; the input reads as it did. -/
def runDoesUptoRow : OpenClaim := { program := "ytbokblklldphgaa", sum := "f2158cb5003c66512b8bd86fffd0578efc0abdc72a2885c8d8aec339f7f3f6d1", func := "oxbow/oxbowlaw12.RunDoes", spec := "runDoes", unfollowed := true, recurses := true, apart := false, narrowed := true }
def RunDoesUptoSaid : Prop := runDoesUptoRow.holds Try.pinned (OpenSpec.upto runDoesSpec)

/-- 'oxbowlaw12.RunNobody', WHERE WHAT IT READS IS OF BULK AT MOST 1048576: true; the input reads as it did. -/
def runNobodyUptoRow : OpenClaim := { program := "ytbokblklldphgaa", sum := "f2158cb5003c66512b8bd86fffd0578efc0abdc72a2885c8d8aec339f7f3f6d1", func := "oxbow/oxbowlaw12.RunNobody", spec := "runNobody", unfollowed := true, recurses := true, apart := false, narrowed := true }
def RunNobodyUptoSaid : Prop := runNobodyUptoRow.holds Try.pinned (OpenSpec.upto runNobodySpec)

/-- 'oxbowlaw12.RunParts', WHERE WHAT IT READS IS OF BULK AT MOST 1048576: true; the input reads as it did. -/
def runPartsUptoRow : OpenClaim := { program := "ytbokblklldphgaa", sum := "f2158cb5003c66512b8bd86fffd0578efc0abdc72a2885c8d8aec339f7f3f6d1", func := "oxbow/oxbowlaw12.RunParts", spec := "runParts", unfollowed := true, recurses := true, apart := false, narrowed := true }
def RunPartsUptoSaid : Prop := runPartsUptoRow.holds Try.pinned (OpenSpec.upto runPartsSpec)

end Rows
end Go.Proofs.Ytbokblklldphgaa
