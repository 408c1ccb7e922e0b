/-
  No cell of these rows narrows 'for every input' (looked for: loops, veiled, ifaces, maps, wideKeys, modest, calm, conditions, laid).
  DERIVED. THE GIVEN ROWS OF THIS SEAT. 5 by the template 'for every input the law returns true; each argument reads behind the call as it read before'; 0 by the template 'total and deterministic' (their statements: YtacpomonidmjaaaTotals.lean).
  GIVEN WITH THE SEED: the statements are not yours to turn. If you find one false, say at which input.
  Laid BY PROGRAM, IN A SANDBOX (cutbox-rows.mjs): the forced cells as the released guide's own fill.sh prints them over the translation 93d4e4a813ad7e17… (all of the seat's roots in one cut). By AI agents, Wed Nov 11 2026. No macro, syntax, notation, axiom, sorry.
-/
import Derived.Test.YtacpomonidmjaaaChecked
import GoSem.Claim
import GoSem.ClaimJoined
import GoSem.ClaimMapViews
import Derived.JoinedTies
import Derived.KernelRfl
namespace Go.Proofs.Ytacpomonidmjaaa
/- THE CELL 'sum', in the pinned program and in every row, IS THE sha256 OF THE DUMP (.gsa) THAT YtacpomonidmjaaaProg.lean LOADS. Nothing in Lean hashes anything: it is a label: what it is worth is what the hold of that sum in a sandbox is worth. -/
noncomputable def Try.pinned : Pinned := { name := "ytacpomonidmjaaa", sum := "93d4e4a813ad7e17989f816eb1abaf5c4633e467911203ff8ef6973f74cf1128", checked := Try.checked }
namespace Rows
def none {H : Type} : Left H := { results := [], args := [] }

/-- 'oxbowlaw07.EntrySorts': WHATEVER THE INPUT: true; the input reads as it did. -/
def entrySortsSpec : ChangeSpec := { name := "entrySorts", fn := fun _ => fun
  | [d1, d2, d3] => { results := [.lit (.bool true)], args := [d1, d2, d3] }
  | _ => none }
def entrySortsRow : OpenClaim := { program := "ytacpomonidmjaaa", sum := "93d4e4a813ad7e17989f816eb1abaf5c4633e467911203ff8ef6973f74cf1128", func := "oxbow/oxbowlaw07.EntrySorts", spec := "entrySorts", unfollowed := true, recurses := true, apart := false }
def EntrySortsSaid : Prop := entrySortsRow.holds Try.pinned (OpenSpec.ofChange entrySortsSpec)

/-- ITS FALSE NEIGHBOUR: 'it returns false'. Refute it at one input. -/
def entrySortsWrong : ChangeSpec := { name := "entrySorts", fn := fun _ => fun
  | [d1, d2, d3] => { results := [.lit (.bool false)], args := [d1, d2, d3] }
  | _ => none }
def EntrySortsWrongFalsely : Prop := entrySortsRow.holds Try.pinned (OpenSpec.ofChange entrySortsWrong)

/-- 'oxbowlaw07.EntryPacks': WHATEVER THE INPUT: true; the input reads as it did. -/
def entryPacksSpec : ChangeSpec := { name := "entryPacks", fn := fun _ => fun
  | [d] => { results := [.lit (.bool true)], args := [d] }
  | _ => none }
def entryPacksRow : OpenClaim := { program := "ytacpomonidmjaaa", sum := "93d4e4a813ad7e17989f816eb1abaf5c4633e467911203ff8ef6973f74cf1128", func := "oxbow/oxbowlaw07.EntryPacks", spec := "entryPacks", unfollowed := true, recurses := true, apart := false }
def EntryPacksSaid : Prop := entryPacksRow.holds Try.pinned (OpenSpec.ofChange entryPacksSpec)

/-- ITS FALSE NEIGHBOUR: 'it returns false'. Refute it at one input. -/
def entryPacksWrong : ChangeSpec := { name := "entryPacks", fn := fun _ => fun
  | [d] => { results := [.lit (.bool false)], args := [d] }
  | _ => none }
def EntryPacksWrongFalsely : Prop := entryPacksRow.holds Try.pinned (OpenSpec.ofChange entryPacksWrong)

/-- 'oxbowlaw07.EntryReads': WHATEVER THE INPUT: true; the input reads as it did. -/
def entryReadsSpec : ChangeSpec := { name := "entryReads", fn := fun _ => fun
  | [d] => { results := [.lit (.bool true)], args := [d] }
  | _ => none }
def entryReadsRow : OpenClaim := { program := "ytacpomonidmjaaa", sum := "93d4e4a813ad7e17989f816eb1abaf5c4633e467911203ff8ef6973f74cf1128", func := "oxbow/oxbowlaw07.EntryReads", spec := "entryReads", unfollowed := true, recurses := true, apart := false }
def EntryReadsSaid : Prop := entryReadsRow.holds Try.pinned (OpenSpec.ofChange entryReadsSpec)

/-- ITS FALSE NEIGHBOUR: 'it returns false'. Refute it at one input. -/
def entryReadsWrong : ChangeSpec := { name := "entryReads", fn := fun _ => fun
  | [d] => { results := [.lit (.bool false)], args := [d] }
  | _ => none }
def EntryReadsWrongFalsely : Prop := entryReadsRow.holds Try.pinned (OpenSpec.ofChange entryReadsWrong)

/-- 'oxbowlaw07.EntryChooses': WHATEVER THE INPUT: true; the input reads as it did. -/
def entryChoosesSpec : ChangeSpec := { name := "entryChooses", fn := fun _ => fun
  | [d1, d2, d3] => { results := [.lit (.bool true)], args := [d1, d2, d3] }
  | _ => none }
def entryChoosesRow : OpenClaim := { program := "ytacpomonidmjaaa", sum := "93d4e4a813ad7e17989f816eb1abaf5c4633e467911203ff8ef6973f74cf1128", func := "oxbow/oxbowlaw07.EntryChooses", spec := "entryChooses", unfollowed := true, recurses := true, apart := false }
def EntryChoosesSaid : Prop := entryChoosesRow.holds Try.pinned (OpenSpec.ofChange entryChoosesSpec)

/-- ITS FALSE NEIGHBOUR: 'it returns false'. Refute it at one input. -/
def entryChoosesWrong : ChangeSpec := { name := "entryChooses", fn := fun _ => fun
  | [d1, d2, d3] => { results := [.lit (.bool false)], args := [d1, d2, d3] }
  | _ => none }
def EntryChoosesWrongFalsely : Prop := entryChoosesRow.holds Try.pinned (OpenSpec.ofChange entryChoosesWrong)

/-- 'oxbowlaw07.EntryOrders': WHATEVER THE INPUT: true; the input reads as it did. -/
def entryOrdersSpec : ChangeSpec := { name := "entryOrders", fn := fun _ => fun
  | [d1, d2] => { results := [.lit (.bool true)], args := [d1, d2] }
  | _ => none }
def entryOrdersRow : OpenClaim := { program := "ytacpomonidmjaaa", sum := "93d4e4a813ad7e17989f816eb1abaf5c4633e467911203ff8ef6973f74cf1128", func := "oxbow/oxbowlaw07.EntryOrders", spec := "entryOrders", unfollowed := true, recurses := true, apart := false }
def EntryOrdersSaid : Prop := entryOrdersRow.holds Try.pinned (OpenSpec.ofChange entryOrdersSpec)

/-- ITS FALSE NEIGHBOUR: 'it returns false'. Refute it at one input. -/
def entryOrdersWrong : ChangeSpec := { name := "entryOrders", fn := fun _ => fun
  | [d1, d2] => { results := [.lit (.bool false)], args := [d1, d2] }
  | _ => none }
def EntryOrdersWrongFalsely : Prop := entryOrdersRow.holds Try.pinned (OpenSpec.ofChange entryOrdersWrong)

/- THE SECOND FORM. 'bulk': how many values and letters a reading holds, each counted each time it is reached (what is shared counts as often as it is met; a slice's spare places count too). A statement '..UptoSaid' is the law's where the arguments, and the package variables that the reading takes, are together of bulk at most 1048576: NARROWER than '..Said'. Prove '..Said' where nothing that the law and all that it calls make is longer than what came in: it says more and counts as full. Else prove '..UptoSaid'. A law counts once. -/
mutual
def uptoBulk {H : Type} : DataW H → Nat
  | .lit (.string bytes) => bytes.length + 1
  | .lit _ => 1
  | .nil => 1
  | .ptr d => uptoBulk d + 1
  | .slice elems spare => uptoBulkAll elems + uptoBulkAll spare + 1
  | .agg parts => uptoBulkAll parts + 1
  | .iface _ d => uptoBulk d + 1
  | .map entries => uptoBulkEntries entries + 1
  | .held _ => 1
def uptoBulkAll {H : Type} : List (DataW H) → Nat
  | [] => 0
  | d :: r => uptoBulk d + uptoBulkAll r
def uptoBulkEntries {H : Type} : List (Lit × DataW H) → Nat
  | [] => 0
  | x :: r => uptoBulkEntry x + uptoBulkEntries r
def uptoBulkEntry {H : Type} : Lit × DataW H → Nat
  | (.string bytes, d) => bytes.length + uptoBulk d + 1
  | (_, d) => uptoBulk d + 1
 end
def uptoSmall : (H : Type) → List (DataW H) → Bool := fun _ ds => decide (uptoBulkAll ds ≤ 1048576)
def OpenSpec.upto (s : _root_.Go.ChangeSpec) : _root_.Go.OpenSpec := { _root_.Go.OpenSpec.ofChange s with cond := some uptoSmall }

/-- 'oxbowlaw07.EntrySorts', WHERE WHAT IT READS IS OF BULK AT MOST 1048576: true; the input reads as it did. -/
def entrySortsUptoRow : OpenClaim := { program := "ytacpomonidmjaaa", sum := "93d4e4a813ad7e17989f816eb1abaf5c4633e467911203ff8ef6973f74cf1128", func := "oxbow/oxbowlaw07.EntrySorts", spec := "entrySorts", unfollowed := true, recurses := true, apart := false, narrowed := true }
def EntrySortsUptoSaid : Prop := entrySortsUptoRow.holds Try.pinned (OpenSpec.upto entrySortsSpec)

/-- 'oxbowlaw07.EntryPacks', WHERE WHAT IT READS IS OF BULK AT MOST 1048576: true; the input reads as it did. -/
def entryPacksUptoRow : OpenClaim := { program := "ytacpomonidmjaaa", sum := "93d4e4a813ad7e17989f816eb1abaf5c4633e467911203ff8ef6973f74cf1128", func := "oxbow/oxbowlaw07.EntryPacks", spec := "entryPacks", unfollowed := true, recurses := true, apart := false, narrowed := true }
def EntryPacksUptoSaid : Prop := entryPacksUptoRow.holds Try.pinned (OpenSpec.upto entryPacksSpec)

/-- 'oxbowlaw07.EntryReads', WHERE WHAT IT READS IS OF BULK AT MOST 1048576: true; the input reads as it did. -/
def entryReadsUptoRow : OpenClaim := { program := "ytacpomonidmjaaa", sum := "93d4e4a813ad7e17989f816eb1abaf5c4633e467911203ff8ef6973f74cf1128", func := "oxbow/oxbowlaw07.EntryReads", spec := "entryReads", unfollowed := true, recurses := true, apart := false, narrowed := true }
def EntryReadsUptoSaid : Prop := entryReadsUptoRow.holds Try.pinned (OpenSpec.upto entryReadsSpec)

/-- 'oxbowlaw07.EntryChooses', WHERE WHAT IT READS IS OF BULK AT MOST 1048576: true; the input reads as it did. -/
def entryChoosesUptoRow : OpenClaim := { program := "ytacpomonidmjaaa", sum := "93d4e4a813ad7e17989f816eb1abaf5c4633e467911203ff8ef6973f74cf1128", func := "oxbow/oxbowlaw07.EntryChooses", spec := "entryChooses", unfollowed := true, recurses := true, apart := false, narrowed := true }
def EntryChoosesUptoSaid : Prop := entryChoosesUptoRow.holds Try.pinned (OpenSpec.upto entryChoosesSpec)

/-- 'oxbowlaw07.EntryOrders', WHERE WHAT IT READS IS OF BULK AT MOST 1048576: true; the input reads as it did. -/
def entryOrdersUptoRow : OpenClaim := { program := "ytacpomonidmjaaa", sum := "93d4e4a813ad7e17989f816eb1abaf5c4633e467911203ff8ef6973f74cf1128", func := "oxbow/oxbowlaw07.EntryOrders", spec := "entryOrders", unfollowed := true, recurses := true, apart := false, narrowed := true }
def EntryOrdersUptoSaid : Prop := entryOrdersUptoRow.holds Try.pinned (OpenSpec.upto entryOrdersSpec)

end Rows
end Go.Proofs.Ytacpomonidmjaaa
