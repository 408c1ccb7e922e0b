/-
  NARROWER THAN 'FOR EVERY INPUT', by the rows' own cells (each row's printed sentence says how): GraphChecks: loops · GraphPlaces: loops · GraphCodes: loops · GraphOrders: loops · GraphGrows: loops.
  DERIVED. THE GIVEN ROWS OF THIS SEAT. 6 by the template 'for every input the law returns true; each argument reads behind the call as it read before'; 0 by the template 'total and deterministic' (their statements: YtpmikcklkddocaaTotals.lean).
  GIVEN WITH THE SEED: the statements are not yours to turn. If you find one false, say at which input.
  Laid BY PROGRAM, IN A SANDBOX (cutbox-rows.mjs): the forced cells as the released guide's own fill.sh prints them over the translation c42449f2311a4492… (all of the seat's roots in one cut). By AI agents, Wed Nov 11 2026. No macro, syntax, notation, axiom, sorry.
-/
import Derived.Test.YtpmikcklkddocaaChecked
import GoSem.Claim
import GoSem.ClaimJoined
import GoSem.ClaimMapViews
import Derived.JoinedTies
import Derived.KernelRfl
namespace Go.Proofs.Ytpmikcklkddocaa
/- THE CELL 'sum', in the pinned program and in every row, IS THE sha256 OF THE DUMP (.gsa) THAT YtpmikcklkddocaaProg.lean LOADS. Nothing in Lean hashes anything: it is a label: what it is worth is what the hold of that sum in a sandbox is worth. -/
noncomputable def Try.pinned : Pinned := { name := "ytpmikcklkddocaa", sum := "c42449f2311a4492675c307ff413887b4df478ac6d10c907bbff3d3edb7af2e9", checked := Try.checked }
namespace Rows
def none {H : Type} : Left H := { results := [], args := [] }

/-- 'oxbowlaw17.GraphChecks': WHATEVER THE INPUT: true; the input reads as it did. -/
def graphChecksSpec : ChangeSpec := { name := "graphChecks", fn := fun _ => fun
  | [d] => { results := [.lit (.bool true)], args := [d] }
  | _ => none }
def graphChecksRow : OpenClaim := { program := "ytpmikcklkddocaa", sum := "c42449f2311a4492675c307ff413887b4df478ac6d10c907bbff3d3edb7af2e9", func := "oxbow/oxbowlaw17.GraphChecks", spec := "graphChecks", unfollowed := true, recurses := true, loops := true, apart := false }
def GraphChecksSaid : Prop := graphChecksRow.holds Try.pinned (OpenSpec.ofChange graphChecksSpec)

/-- ITS FALSE NEIGHBOUR: 'it returns false'. Refute it at one input. -/
def graphChecksWrong : ChangeSpec := { name := "graphChecks", fn := fun _ => fun
  | [d] => { results := [.lit (.bool false)], args := [d] }
  | _ => none }
def GraphChecksWrongFalsely : Prop := graphChecksRow.holds Try.pinned (OpenSpec.ofChange graphChecksWrong)

/-- 'oxbowlaw17.GraphPlaces': WHATEVER THE INPUT: true; the input reads as it did. -/
def graphPlacesSpec : ChangeSpec := { name := "graphPlaces", fn := fun _ => fun
  | [d1, d2, d3] => { results := [.lit (.bool true)], args := [d1, d2, d3] }
  | _ => none }
def graphPlacesRow : OpenClaim := { program := "ytpmikcklkddocaa", sum := "c42449f2311a4492675c307ff413887b4df478ac6d10c907bbff3d3edb7af2e9", func := "oxbow/oxbowlaw17.GraphPlaces", spec := "graphPlaces", unfollowed := true, recurses := true, loops := true, apart := false }
def GraphPlacesSaid : Prop := graphPlacesRow.holds Try.pinned (OpenSpec.ofChange graphPlacesSpec)

/-- ITS FALSE NEIGHBOUR: 'it returns false'. Refute it at one input. -/
def graphPlacesWrong : ChangeSpec := { name := "graphPlaces", fn := fun _ => fun
  | [d1, d2, d3] => { results := [.lit (.bool false)], args := [d1, d2, d3] }
  | _ => none }
def GraphPlacesWrongFalsely : Prop := graphPlacesRow.holds Try.pinned (OpenSpec.ofChange graphPlacesWrong)

/-- 'oxbowlaw17.GraphCodes': WHATEVER THE INPUT: true; the input reads as it did. -/
def graphCodesSpec : ChangeSpec := { name := "graphCodes", fn := fun _ => fun
  | [d1, d2] => { results := [.lit (.bool true)], args := [d1, d2] }
  | _ => none }
def graphCodesRow : OpenClaim := { program := "ytpmikcklkddocaa", sum := "c42449f2311a4492675c307ff413887b4df478ac6d10c907bbff3d3edb7af2e9", func := "oxbow/oxbowlaw17.GraphCodes", spec := "graphCodes", unfollowed := true, recurses := true, loops := true, apart := false }
def GraphCodesSaid : Prop := graphCodesRow.holds Try.pinned (OpenSpec.ofChange graphCodesSpec)

/-- ITS FALSE NEIGHBOUR: 'it returns false'. Refute it at one input. -/
def graphCodesWrong : ChangeSpec := { name := "graphCodes", fn := fun _ => fun
  | [d1, d2] => { results := [.lit (.bool false)], args := [d1, d2] }
  | _ => none }
def GraphCodesWrongFalsely : Prop := graphCodesRow.holds Try.pinned (OpenSpec.ofChange graphCodesWrong)

/-- 'oxbowlaw17.GraphGets': WHATEVER THE INPUT: true; the input reads as it did. -/
def graphGetsSpec : ChangeSpec := { name := "graphGets", fn := fun _ => fun
  | [d] => { results := [.lit (.bool true)], args := [d] }
  | _ => none }
def graphGetsRow : OpenClaim := { program := "ytpmikcklkddocaa", sum := "c42449f2311a4492675c307ff413887b4df478ac6d10c907bbff3d3edb7af2e9", func := "oxbow/oxbowlaw17.GraphGets", spec := "graphGets", unfollowed := true, recurses := true, apart := false }
def GraphGetsSaid : Prop := graphGetsRow.holds Try.pinned (OpenSpec.ofChange graphGetsSpec)

/-- ITS FALSE NEIGHBOUR: 'it returns false'. Refute it at one input. -/
def graphGetsWrong : ChangeSpec := { name := "graphGets", fn := fun _ => fun
  | [d] => { results := [.lit (.bool false)], args := [d] }
  | _ => none }
def GraphGetsWrongFalsely : Prop := graphGetsRow.holds Try.pinned (OpenSpec.ofChange graphGetsWrong)

/-- 'oxbowlaw17.GraphOrders': WHATEVER THE INPUT: true; the input reads as it did. -/
def graphOrdersSpec : ChangeSpec := { name := "graphOrders", fn := fun _ => fun
  | [d] => { results := [.lit (.bool true)], args := [d] }
  | _ => none }
def graphOrdersRow : OpenClaim := { program := "ytpmikcklkddocaa", sum := "c42449f2311a4492675c307ff413887b4df478ac6d10c907bbff3d3edb7af2e9", func := "oxbow/oxbowlaw17.GraphOrders", spec := "graphOrders", unfollowed := true, recurses := true, loops := true, apart := false }
def GraphOrdersSaid : Prop := graphOrdersRow.holds Try.pinned (OpenSpec.ofChange graphOrdersSpec)

/-- ITS FALSE NEIGHBOUR: 'it returns false'. Refute it at one input. -/
def graphOrdersWrong : ChangeSpec := { name := "graphOrders", fn := fun _ => fun
  | [d] => { results := [.lit (.bool false)], args := [d] }
  | _ => none }
def GraphOrdersWrongFalsely : Prop := graphOrdersRow.holds Try.pinned (OpenSpec.ofChange graphOrdersWrong)

/-- 'oxbowlaw17.GraphGrows': WHATEVER THE INPUT: true; the input reads as it did. -/
def graphGrowsSpec : ChangeSpec := { name := "graphGrows", fn := fun _ => fun
  | [d1, d2] => { results := [.lit (.bool true)], args := [d1, d2] }
  | _ => none }
def graphGrowsRow : OpenClaim := { program := "ytpmikcklkddocaa", sum := "c42449f2311a4492675c307ff413887b4df478ac6d10c907bbff3d3edb7af2e9", func := "oxbow/oxbowlaw17.GraphGrows", spec := "graphGrows", unfollowed := true, recurses := true, loops := true, apart := false }
def GraphGrowsSaid : Prop := graphGrowsRow.holds Try.pinned (OpenSpec.ofChange graphGrowsSpec)

/-- ITS FALSE NEIGHBOUR: 'it returns false'. Refute it at one input. -/
def graphGrowsWrong : ChangeSpec := { name := "graphGrows", fn := fun _ => fun
  | [d1, d2] => { results := [.lit (.bool false)], args := [d1, d2] }
  | _ => none }
def GraphGrowsWrongFalsely : Prop := graphGrowsRow.holds Try.pinned (OpenSpec.ofChange graphGrowsWrong)

/- THE SECOND FORM. 'bulk': how many values and letters a reading holds, each counted each time it is reached (what is shared counts as often as it is met; a slice's spare places count too). A statement '..UptoSaid' is the law's where the arguments, and the package variables that the reading takes, are together of bulk at most 1048576: NARROWER than '..Said'. Prove '..Said' where nothing that the law and all that it calls make is longer than what came in: it says more and counts as full. Else prove '..UptoSaid'. A law counts once. -/
mutual
def uptoBulk {H : Type} : DataW H → Nat
  | .lit (.string bytes) => bytes.length + 1
  | .lit _ => 1
  | .nil => 1
  | .ptr d => uptoBulk d + 1
  | .slice elems spare => uptoBulkAll elems + uptoBulkAll spare + 1
  | .agg parts => uptoBulkAll parts + 1
  | .iface _ d => uptoBulk d + 1
  | .map entries => uptoBulkEntries entries + 1
  | .held _ => 1
def uptoBulkAll {H : Type} : List (DataW H) → Nat
  | [] => 0
  | d :: r => uptoBulk d + uptoBulkAll r
def uptoBulkEntries {H : Type} : List (Lit × DataW H) → Nat
  | [] => 0
  | x :: r => uptoBulkEntry x + uptoBulkEntries r
def uptoBulkEntry {H : Type} : Lit × DataW H → Nat
  | (.string bytes, d) => bytes.length + uptoBulk d + 1
  | (_, d) => uptoBulk d + 1
 end
def uptoSmall : (H : Type) → List (DataW H) → Bool := fun _ ds => decide (uptoBulkAll ds ≤ 1048576)
def OpenSpec.upto (s : _root_.Go.ChangeSpec) : _root_.Go.OpenSpec := { _root_.Go.OpenSpec.ofChange s with cond := some uptoSmall }

/-- 'oxbowlaw17.GraphChecks', WHERE WHAT IT READS IS OF BULK AT MOST 1048576: true; the input reads as it did. -/
def graphChecksUptoRow : OpenClaim := { program := "ytpmikcklkddocaa", sum := "c42449f2311a4492675c307ff413887b4df478ac6d10c907bbff3d3edb7af2e9", func := "oxbow/oxbowlaw17.GraphChecks", spec := "graphChecks", unfollowed := true, recurses := true, loops := true, apart := false, narrowed := true }
def GraphChecksUptoSaid : Prop := graphChecksUptoRow.holds Try.pinned (OpenSpec.upto graphChecksSpec)

/-- 'oxbowlaw17.GraphPlaces', WHERE WHAT IT READS IS OF BULK AT MOST 1048576: true; the input reads as it did. -/
def graphPlacesUptoRow : OpenClaim := { program := "ytpmikcklkddocaa", sum := "c42449f2311a4492675c307ff413887b4df478ac6d10c907bbff3d3edb7af2e9", func := "oxbow/oxbowlaw17.GraphPlaces", spec := "graphPlaces", unfollowed := true, recurses := true, loops := true, apart := false, narrowed := true }
def GraphPlacesUptoSaid : Prop := graphPlacesUptoRow.holds Try.pinned (OpenSpec.upto graphPlacesSpec)

/-- 'oxbowlaw17.GraphCodes', WHERE WHAT IT READS IS OF BULK AT MOST 1048576: true; the input reads as it did. -/
def graphCodesUptoRow : OpenClaim := { program := "ytpmikcklkddocaa", sum := "c42449f2311a4492675c307ff413887b4df478ac6d10c907bbff3d3edb7af2e9", func := "oxbow/oxbowlaw17.GraphCodes", spec := "graphCodes", unfollowed := true, recurses := true, loops := true, apart := false, narrowed := true }
def GraphCodesUptoSaid : Prop := graphCodesUptoRow.holds Try.pinned (OpenSpec.upto graphCodesSpec)

/-- 'oxbowlaw17.GraphGets', WHERE WHAT IT READS IS OF BULK AT MOST 1048576: true; the input reads as it did. -/
def graphGetsUptoRow : OpenClaim := { program := "ytpmikcklkddocaa", sum := "c42449f2311a4492675c307ff413887b4df478ac6d10c907bbff3d3edb7af2e9", func := "oxbow/oxbowlaw17.GraphGets", spec := "graphGets", unfollowed := true, recurses := true, apart := false, narrowed := true }
def GraphGetsUptoSaid : Prop := graphGetsUptoRow.holds Try.pinned (OpenSpec.upto graphGetsSpec)

/-- 'oxbowlaw17.GraphOrders', WHERE WHAT IT READS IS OF BULK AT MOST 1048576: true; the input reads as it did. -/
def graphOrdersUptoRow : OpenClaim := { program := "ytpmikcklkddocaa", sum := "c42449f2311a4492675c307ff413887b4df478ac6d10c907bbff3d3edb7af2e9", func := "oxbow/oxbowlaw17.GraphOrders", spec := "graphOrders", unfollowed := true, recurses := true, loops := true, apart := false, narrowed := true }
def GraphOrdersUptoSaid : Prop := graphOrdersUptoRow.holds Try.pinned (OpenSpec.upto graphOrdersSpec)

/-- 'oxbowlaw17.GraphGrows', WHERE WHAT IT READS IS OF BULK AT MOST 1048576: true; the input reads as it did. -/
def graphGrowsUptoRow : OpenClaim := { program := "ytpmikcklkddocaa", sum := "c42449f2311a4492675c307ff413887b4df478ac6d10c907bbff3d3edb7af2e9", func := "oxbow/oxbowlaw17.GraphGrows", spec := "graphGrows", unfollowed := true, recurses := true, loops := true, apart := false, narrowed := true }
def GraphGrowsUptoSaid : Prop := graphGrowsUptoRow.holds Try.pinned (OpenSpec.upto graphGrowsSpec)

end Rows
end Go.Proofs.Ytpmikcklkddocaa
