/-
  No cell of these rows narrows 'for every input' (looked for: loops, veiled, ifaces, maps, wideKeys, modest, calm, conditions, laid).
  DERIVED. THE GIVEN ROWS OF THIS SEAT. 6 by the template 'for every input the law returns true; each argument reads behind the call as it read before'; 0 by the template 'total and deterministic' (their statements: YtbcbhcohfbkijaaTotals.lean).
  GIVEN WITH THE SEED: the statements are not yours to turn. If you find one false, say at which input.
  Laid BY PROGRAM, IN A SANDBOX (cutbox-rows.mjs): the forced cells as the released guide's own fill.sh prints them over the translation ab513a513d357989… (all of the seat's roots in one cut). By AI agents, Wed Nov 11 2026. No macro, syntax, notation, axiom, sorry.
-/
import Derived.Test.YtbcbhcohfbkijaaChecked
import GoSem.Claim
import GoSem.ClaimJoined
import GoSem.ClaimMapViews
import Derived.JoinedTies
import Derived.KernelRfl
namespace Go.Proofs.Ytbcbhcohfbkijaa
/- THE CELL 'sum', in the pinned program and in every row, IS THE sha256 OF THE DUMP (.gsa) THAT YtbcbhcohfbkijaaProg.lean LOADS. Nothing in Lean hashes anything: it is a label: what it is worth is what the hold of that sum in a sandbox is worth. -/
noncomputable def Try.pinned : Pinned := { name := "ytbcbhcohfbkijaa", sum := "ab513a513d357989ee4530ab4be34fc31c1d01f35229f0af07ef58d4a00cdc84", checked := Try.checked }
namespace Rows
def none {H : Type} : Left H := { results := [], args := [] }

/-- 'oxbowlaw04.MomentOrders': WHATEVER THE INPUT: true; the input reads as it did. -/
def momentOrdersSpec : ChangeSpec := { name := "momentOrders", fn := fun _ => fun
  | [d1, d2] => { results := [.lit (.bool true)], args := [d1, d2] }
  | _ => none }
def momentOrdersRow : OpenClaim := { program := "ytbcbhcohfbkijaa", sum := "ab513a513d357989ee4530ab4be34fc31c1d01f35229f0af07ef58d4a00cdc84", func := "oxbow/oxbowlaw04.MomentOrders", spec := "momentOrders", unfollowed := true, recurses := true, apart := false }
def MomentOrdersSaid : Prop := momentOrdersRow.holds Try.pinned (OpenSpec.ofChange momentOrdersSpec)

/-- ITS FALSE NEIGHBOUR: 'it returns false'. Refute it at one input. -/
def momentOrdersWrong : ChangeSpec := { name := "momentOrders", fn := fun _ => fun
  | [d1, d2] => { results := [.lit (.bool false)], args := [d1, d2] }
  | _ => none }
def MomentOrdersWrongFalsely : Prop := momentOrdersRow.holds Try.pinned (OpenSpec.ofChange momentOrdersWrong)

/-- 'oxbowlaw04.MomentSteps': WHATEVER THE INPUT: true; the input reads as it did. -/
def momentStepsSpec : ChangeSpec := { name := "momentSteps", fn := fun _ => fun
  | [d1, d2, d3] => { results := [.lit (.bool true)], args := [d1, d2, d3] }
  | _ => none }
def momentStepsRow : OpenClaim := { program := "ytbcbhcohfbkijaa", sum := "ab513a513d357989ee4530ab4be34fc31c1d01f35229f0af07ef58d4a00cdc84", func := "oxbow/oxbowlaw04.MomentSteps", spec := "momentSteps", unfollowed := true, recurses := true, apart := false }
def MomentStepsSaid : Prop := momentStepsRow.holds Try.pinned (OpenSpec.ofChange momentStepsSpec)

/-- ITS FALSE NEIGHBOUR: 'it returns false'. Refute it at one input. -/
def momentStepsWrong : ChangeSpec := { name := "momentSteps", fn := fun _ => fun
  | [d1, d2, d3] => { results := [.lit (.bool false)], args := [d1, d2, d3] }
  | _ => none }
def MomentStepsWrongFalsely : Prop := momentStepsRow.holds Try.pinned (OpenSpec.ofChange momentStepsWrong)

/-- 'oxbowlaw04.MomentFronts': WHATEVER THE INPUT: true; the input reads as it did. -/
def momentFrontsSpec : ChangeSpec := { name := "momentFronts", fn := fun _ => fun
  | [d1, d2, d3] => { results := [.lit (.bool true)], args := [d1, d2, d3] }
  | _ => none }
def momentFrontsRow : OpenClaim := { program := "ytbcbhcohfbkijaa", sum := "ab513a513d357989ee4530ab4be34fc31c1d01f35229f0af07ef58d4a00cdc84", func := "oxbow/oxbowlaw04.MomentFronts", spec := "momentFronts", unfollowed := true, recurses := true, apart := false }
def MomentFrontsSaid : Prop := momentFrontsRow.holds Try.pinned (OpenSpec.ofChange momentFrontsSpec)

/-- ITS FALSE NEIGHBOUR: 'it returns false'. Refute it at one input. -/
def momentFrontsWrong : ChangeSpec := { name := "momentFronts", fn := fun _ => fun
  | [d1, d2, d3] => { results := [.lit (.bool false)], args := [d1, d2, d3] }
  | _ => none }
def MomentFrontsWrongFalsely : Prop := momentFrontsRow.holds Try.pinned (OpenSpec.ofChange momentFrontsWrong)

/-- 'oxbowlaw04.MomentKeeps': WHATEVER THE INPUT: true; the input reads as it did. -/
def momentKeepsSpec : ChangeSpec := { name := "momentKeeps", fn := fun _ => fun
  | [d1, d2, d3] => { results := [.lit (.bool true)], args := [d1, d2, d3] }
  | _ => none }
def momentKeepsRow : OpenClaim := { program := "ytbcbhcohfbkijaa", sum := "ab513a513d357989ee4530ab4be34fc31c1d01f35229f0af07ef58d4a00cdc84", func := "oxbow/oxbowlaw04.MomentKeeps", spec := "momentKeeps", unfollowed := true, recurses := true, apart := false }
def MomentKeepsSaid : Prop := momentKeepsRow.holds Try.pinned (OpenSpec.ofChange momentKeepsSpec)

/-- ITS FALSE NEIGHBOUR: 'it returns false'. Refute it at one input. -/
def momentKeepsWrong : ChangeSpec := { name := "momentKeeps", fn := fun _ => fun
  | [d1, d2, d3] => { results := [.lit (.bool false)], args := [d1, d2, d3] }
  | _ => none }
def MomentKeepsWrongFalsely : Prop := momentKeepsRow.holds Try.pinned (OpenSpec.ofChange momentKeepsWrong)

/-- 'oxbowlaw04.MomentWalks': WHATEVER THE INPUT: true; the input reads as it did. -/
def momentWalksSpec : ChangeSpec := { name := "momentWalks", fn := fun _ => fun
  | [d1, d2, d3] => { results := [.lit (.bool true)], args := [d1, d2, d3] }
  | _ => none }
def momentWalksRow : OpenClaim := { program := "ytbcbhcohfbkijaa", sum := "ab513a513d357989ee4530ab4be34fc31c1d01f35229f0af07ef58d4a00cdc84", func := "oxbow/oxbowlaw04.MomentWalks", spec := "momentWalks", unfollowed := true, recurses := true, apart := false }
def MomentWalksSaid : Prop := momentWalksRow.holds Try.pinned (OpenSpec.ofChange momentWalksSpec)

/-- ITS FALSE NEIGHBOUR: 'it returns false'. Refute it at one input. -/
def momentWalksWrong : ChangeSpec := { name := "momentWalks", fn := fun _ => fun
  | [d1, d2, d3] => { results := [.lit (.bool false)], args := [d1, d2, d3] }
  | _ => none }
def MomentWalksWrongFalsely : Prop := momentWalksRow.holds Try.pinned (OpenSpec.ofChange momentWalksWrong)

/-- 'oxbowlaw04.MomentCodes': WHATEVER THE INPUT: true; the input reads as it did. -/
def momentCodesSpec : ChangeSpec := { name := "momentCodes", fn := fun _ => fun
  | [d1, d2] => { results := [.lit (.bool true)], args := [d1, d2] }
  | _ => none }
def momentCodesRow : OpenClaim := { program := "ytbcbhcohfbkijaa", sum := "ab513a513d357989ee4530ab4be34fc31c1d01f35229f0af07ef58d4a00cdc84", func := "oxbow/oxbowlaw04.MomentCodes", spec := "momentCodes", unfollowed := true, recurses := true, apart := false }
def MomentCodesSaid : Prop := momentCodesRow.holds Try.pinned (OpenSpec.ofChange momentCodesSpec)

/-- ITS FALSE NEIGHBOUR: 'it returns false'. Refute it at one input. -/
def momentCodesWrong : ChangeSpec := { name := "momentCodes", fn := fun _ => fun
  | [d1, d2] => { results := [.lit (.bool false)], args := [d1, d2] }
  | _ => none }
def MomentCodesWrongFalsely : Prop := momentCodesRow.holds Try.pinned (OpenSpec.ofChange momentCodesWrong)

/- THE SECOND FORM. 'bulk': how many values and letters a reading holds, each counted each time it is reached (what is shared counts as often as it is met; a slice's spare places count too). A statement '..UptoSaid' is the law's where the arguments, and the package variables that the reading takes, are together of bulk at most 1048576: NARROWER than '..Said'. Prove '..Said' where nothing that the law and all that it calls make is longer than what came in: it says more and counts as full. Else prove '..UptoSaid'. A law counts once. -/
mutual
def uptoBulk {H : Type} : DataW H → Nat
  | .lit (.string bytes) => bytes.length + 1
  | .lit _ => 1
  | .nil => 1
  | .ptr d => uptoBulk d + 1
  | .slice elems spare => uptoBulkAll elems + uptoBulkAll spare + 1
  | .agg parts => uptoBulkAll parts + 1
  | .iface _ d => uptoBulk d + 1
  | .map entries => uptoBulkEntries entries + 1
  | .held _ => 1
def uptoBulkAll {H : Type} : List (DataW H) → Nat
  | [] => 0
  | d :: r => uptoBulk d + uptoBulkAll r
def uptoBulkEntries {H : Type} : List (Lit × DataW H) → Nat
  | [] => 0
  | x :: r => uptoBulkEntry x + uptoBulkEntries r
def uptoBulkEntry {H : Type} : Lit × DataW H → Nat
  | (.string bytes, d) => bytes.length + uptoBulk d + 1
  | (_, d) => uptoBulk d + 1
 end
def uptoSmall : (H : Type) → List (DataW H) → Bool := fun _ ds => decide (uptoBulkAll ds ≤ 1048576)
def OpenSpec.upto (s : _root_.Go.ChangeSpec) : _root_.Go.OpenSpec := { _root_.Go.OpenSpec.ofChange s with cond := some uptoSmall }

/-- 'oxbowlaw04.MomentOrders', WHERE WHAT IT READS IS OF BULK AT MOST 1048576: true; the input reads as it did. -/
def momentOrdersUptoRow : OpenClaim := { program := "ytbcbhcohfbkijaa", sum := "ab513a513d357989ee4530ab4be34fc31c1d01f35229f0af07ef58d4a00cdc84", func := "oxbow/oxbowlaw04.MomentOrders", spec := "momentOrders", unfollowed := true, recurses := true, apart := false, narrowed := true }
def MomentOrdersUptoSaid : Prop := momentOrdersUptoRow.holds Try.pinned (OpenSpec.upto momentOrdersSpec)

/-- 'oxbowlaw04.MomentSteps', WHERE WHAT IT READS IS OF BULK AT MOST 1048576: true; the input reads as it did. -/
def momentStepsUptoRow : OpenClaim := { program := "ytbcbhcohfbkijaa", sum := "ab513a513d357989ee4530ab4be34fc31c1d01f35229f0af07ef58d4a00cdc84", func := "oxbow/oxbowlaw04.MomentSteps", spec := "momentSteps", unfollowed := true, recurses := true, apart := false, narrowed := true }
def MomentStepsUptoSaid : Prop := momentStepsUptoRow.holds Try.pinned (OpenSpec.upto momentStepsSpec)

/-- 'oxbowlaw04.MomentFronts', WHERE WHAT IT READS IS OF BULK AT MOST 1048576: true; the input reads as it did. -/
def momentFrontsUptoRow : OpenClaim := { program := "ytbcbhcohfbkijaa", sum := "ab513a513d357989ee4530ab4be34fc31c1d01f35229f0af07ef58d4a00cdc84", func := "oxbow/oxbowlaw04.MomentFronts", spec := "momentFronts", unfollowed := true, recurses := true, apart := false, narrowed := true }
def MomentFrontsUptoSaid : Prop := momentFrontsUptoRow.holds Try.pinned (OpenSpec.upto momentFrontsSpec)

/-- 'oxbowlaw04.MomentKeeps', WHERE WHAT IT READS IS OF BULK AT MOST 1048576: true; the input reads as it did. -/
def momentKeepsUptoRow : OpenClaim := { program := "ytbcbhcohfbkijaa", sum := "ab513a513d357989ee4530ab4be34fc31c1d01f35229f0af07ef58d4a00cdc84", func := "oxbow/oxbowlaw04.MomentKeeps", spec := "momentKeeps", unfollowed := true, recurses := true, apart := false, narrowed := true }
def MomentKeepsUptoSaid : Prop := momentKeepsUptoRow.holds Try.pinned (OpenSpec.upto momentKeepsSpec)

/-- 'oxbowlaw04.MomentWalks', WHERE WHAT IT READS IS OF BULK AT MOST 1048576: true; the input reads as it did. -/
def momentWalksUptoRow : OpenClaim := { program := "ytbcbhcohfbkijaa", sum := "ab513a513d357989ee4530ab4be34fc31c1d01f35229f0af07ef58d4a00cdc84", func := "oxbow/oxbowlaw04.MomentWalks", spec := "momentWalks", unfollowed := true, recurses := true, apart := false, narrowed := true }
def MomentWalksUptoSaid : Prop := momentWalksUptoRow.holds Try.pinned (OpenSpec.upto momentWalksSpec)

/-- 'oxbowlaw04.MomentCodes', WHERE WHAT IT READS IS OF BULK AT MOST 1048576: true; the input reads as it did. -/
def momentCodesUptoRow : OpenClaim := { program := "ytbcbhcohfbkijaa", sum := "ab513a513d357989ee4530ab4be34fc31c1d01f35229f0af07ef58d4a00cdc84", func := "oxbow/oxbowlaw04.MomentCodes", spec := "momentCodes", unfollowed := true, recurses := true, apart := false, narrowed := true }
def MomentCodesUptoSaid : Prop := momentCodesUptoRow.holds Try.pinned (OpenSpec.upto momentCodesSpec)

end Rows
end Go.Proofs.Ytbcbhcohfbkijaa
