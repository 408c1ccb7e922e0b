/-
  NARROWER THAN 'FOR EVERY INPUT', by the rows' own cells (each row's printed sentence says how): FrontStays: loops · FrontAt: loops · FrontNotes: loops.
  DERIVED. THE GIVEN ROWS OF THIS SEAT. 4 by the template 'for every input the law returns true; each argument reads behind the call as it read before'; 0 by the template 'total and deterministic' (their statements: YtdkejfjcchlnpaaGreatTotals.lean).
  GIVEN WITH THE SEED: the statements are not yours to turn. If you find one false, say at which input.
  Laid BY PROGRAM, IN A SANDBOX (cutbox-rows.mjs): the forced cells as the released guide's own fill.sh prints them over the translation d306d574deaf64ce… (all of the seat's roots in one cut). By AI agents, Wed Nov 11 2026. No macro, syntax, notation, axiom, sorry.
-/
import Derived.Test.YtdkejfjcchlnpaaGreatChecked
import GoSem.Claim
import GoSem.ClaimJoined
import GoSem.ClaimMapViews
import Derived.JoinedTies
import Derived.KernelRfl
namespace Go.Proofs.YtdkejfjcchlnpaaGreat
/- THE CELL 'sum', in the pinned program and in every row, IS THE sha256 OF THE DUMP (.gsa) THAT YtdkejfjcchlnpaaGreatProg.lean LOADS. Nothing in Lean hashes anything: it is a label: what it is worth is what the hold of that sum in a sandbox is worth. -/
noncomputable def Tryz.pinned : Pinned := { name := "ytdkejfjcchlnpaagreat", sum := "d306d574deaf64cee1095e309470c830c67efea9ad73f51763f5f7d3749c0b57", checked := Tryz.checked }
namespace Rows
def none {H : Type} : Left H := { results := [], args := [] }

/-- 'oxbowlaw22.FrontStays': WHATEVER THE INPUT: true; the input reads as it did. -/
def frontStaysSpec : ChangeSpec := { name := "frontStays", fn := fun _ => fun
  | [d1, d2, d3, d4, d5] => { results := [.lit (.bool true)], args := [d1, d2, d3, d4, d5] }
  | _ => none }
def frontStaysRow : OpenClaim := { program := "ytdkejfjcchlnpaagreat", sum := "d306d574deaf64cee1095e309470c830c67efea9ad73f51763f5f7d3749c0b57", func := "oxbow/oxbowlaw22.FrontStays", spec := "frontStays", unfollowed := true, recurses := true, loops := true, plainKeys := false, apart := false }
def FrontStaysSaid : Prop := frontStaysRow.holds Tryz.pinned (OpenSpec.ofChange frontStaysSpec)

/-- ITS FALSE NEIGHBOUR: 'it returns false'. Refute it at one input. -/
def frontStaysWrong : ChangeSpec := { name := "frontStays", fn := fun _ => fun
  | [d1, d2, d3, d4, d5] => { results := [.lit (.bool false)], args := [d1, d2, d3, d4, d5] }
  | _ => none }
def FrontStaysWrongFalsely : Prop := frontStaysRow.holds Tryz.pinned (OpenSpec.ofChange frontStaysWrong)

/-- 'oxbowlaw22.FrontAt': WHATEVER THE INPUT: true; the input reads as it did. -/
def frontAtSpec : ChangeSpec := { name := "frontAt", fn := fun _ => fun
  | [d1, d2, d3, d4] => { results := [.lit (.bool true)], args := [d1, d2, d3, d4] }
  | _ => none }
def frontAtRow : OpenClaim := { program := "ytdkejfjcchlnpaagreat", sum := "d306d574deaf64cee1095e309470c830c67efea9ad73f51763f5f7d3749c0b57", func := "oxbow/oxbowlaw22.FrontAt", spec := "frontAt", unfollowed := true, recurses := true, loops := true, plainKeys := false, apart := false }
def FrontAtSaid : Prop := frontAtRow.holds Tryz.pinned (OpenSpec.ofChange frontAtSpec)

/-- ITS FALSE NEIGHBOUR: 'it returns false'. Refute it at one input. -/
def frontAtWrong : ChangeSpec := { name := "frontAt", fn := fun _ => fun
  | [d1, d2, d3, d4] => { results := [.lit (.bool false)], args := [d1, d2, d3, d4] }
  | _ => none }
def FrontAtWrongFalsely : Prop := frontAtRow.holds Tryz.pinned (OpenSpec.ofChange frontAtWrong)

/-- 'oxbowlaw22.FrontNotes': WHATEVER THE INPUT: true; the input reads as it did. -/
def frontNotesSpec : ChangeSpec := { name := "frontNotes", fn := fun _ => fun
  | [d1, d2] => { results := [.lit (.bool true)], args := [d1, d2] }
  | _ => none }
def frontNotesRow : OpenClaim := { program := "ytdkejfjcchlnpaagreat", sum := "d306d574deaf64cee1095e309470c830c67efea9ad73f51763f5f7d3749c0b57", func := "oxbow/oxbowlaw22.FrontNotes", spec := "frontNotes", unfollowed := true, recurses := true, loops := true, plainKeys := false, apart := false }
def FrontNotesSaid : Prop := frontNotesRow.holds Tryz.pinned (OpenSpec.ofChange frontNotesSpec)

/-- ITS FALSE NEIGHBOUR: 'it returns false'. Refute it at one input. -/
def frontNotesWrong : ChangeSpec := { name := "frontNotes", fn := fun _ => fun
  | [d1, d2] => { results := [.lit (.bool false)], args := [d1, d2] }
  | _ => none }
def FrontNotesWrongFalsely : Prop := frontNotesRow.holds Tryz.pinned (OpenSpec.ofChange frontNotesWrong)

/-- 'oxbowlaw22.FrontNobody': WHATEVER THE INPUT: true; the input reads as it did. -/
def frontNobodySpec : ChangeSpec := { name := "frontNobody", fn := fun _ => fun
  | [d1, d2] => { results := [.lit (.bool true)], args := [d1, d2] }
  | _ => none }
def frontNobodyRow : OpenClaim := { program := "ytdkejfjcchlnpaagreat", sum := "d306d574deaf64cee1095e309470c830c67efea9ad73f51763f5f7d3749c0b57", func := "oxbow/oxbowlaw22.FrontNobody", spec := "frontNobody", unfollowed := true, recurses := true, plainKeys := false, apart := false }
def FrontNobodySaid : Prop := frontNobodyRow.holds Tryz.pinned (OpenSpec.ofChange frontNobodySpec)

/-- ITS FALSE NEIGHBOUR: 'it returns false'. Refute it at one input. -/
def frontNobodyWrong : ChangeSpec := { name := "frontNobody", fn := fun _ => fun
  | [d1, d2] => { results := [.lit (.bool false)], args := [d1, d2] }
  | _ => none }
def FrontNobodyWrongFalsely : Prop := frontNobodyRow.holds Tryz.pinned (OpenSpec.ofChange frontNobodyWrong)

/- THE SECOND FORM. 'bulk': how many values and letters a reading holds, each counted each time it is reached (what is shared counts as often as it is met; a slice's spare places count too). A statement '..UptoSaid' is the law's where the arguments, and the package variables that the reading takes, are together of bulk at most 1048576: NARROWER than '..Said'. Prove '..Said' where nothing that the law and all that it calls make is longer than what came in: it says more and counts as full. Else prove '..UptoSaid'. A law counts once. -/
mutual
def uptoBulk {H : Type} : DataW H → Nat
  | .lit (.string bytes) => bytes.length + 1
  | .lit _ => 1
  | .nil => 1
  | .ptr d => uptoBulk d + 1
  | .slice elems spare => uptoBulkAll elems + uptoBulkAll spare + 1
  | .agg parts => uptoBulkAll parts + 1
  | .iface _ d => uptoBulk d + 1
  | .map entries => uptoBulkEntries entries + 1
  | .held _ => 1
def uptoBulkAll {H : Type} : List (DataW H) → Nat
  | [] => 0
  | d :: r => uptoBulk d + uptoBulkAll r
def uptoBulkEntries {H : Type} : List (Lit × DataW H) → Nat
  | [] => 0
  | x :: r => uptoBulkEntry x + uptoBulkEntries r
def uptoBulkEntry {H : Type} : Lit × DataW H → Nat
  | (.string bytes, d) => bytes.length + uptoBulk d + 1
  | (_, d) => uptoBulk d + 1
 end
def uptoSmall : (H : Type) → List (DataW H) → Bool := fun _ ds => decide (uptoBulkAll ds ≤ 1048576)
def OpenSpec.upto (s : _root_.Go.ChangeSpec) : _root_.Go.OpenSpec := { _root_.Go.OpenSpec.ofChange s with cond := some uptoSmall }

/-- 'oxbowlaw22.FrontStays', WHERE WHAT IT READS IS OF BULK AT MOST 1048576: true; the input reads as it did. -/
def frontStaysUptoRow : OpenClaim := { program := "ytdkejfjcchlnpaagreat", sum := "d306d574deaf64cee1095e309470c830c67efea9ad73f51763f5f7d3749c0b57", func := "oxbow/oxbowlaw22.FrontStays", spec := "frontStays", unfollowed := true, recurses := true, loops := true, plainKeys := false, apart := false, narrowed := true }
def FrontStaysUptoSaid : Prop := frontStaysUptoRow.holds Tryz.pinned (OpenSpec.upto frontStaysSpec)

/-- 'oxbowlaw22.FrontAt', WHERE WHAT IT READS IS OF BULK AT MOST 1048576: true; the input reads as it did. -/
def frontAtUptoRow : OpenClaim := { program := "ytdkejfjcchlnpaagreat", sum := "d306d574deaf64cee1095e309470c830c67efea9ad73f51763f5f7d3749c0b57", func := "oxbow/oxbowlaw22.FrontAt", spec := "frontAt", unfollowed := true, recurses := true, loops := true, plainKeys := false, apart := false, narrowed := true }
def FrontAtUptoSaid : Prop := frontAtUptoRow.holds Tryz.pinned (OpenSpec.upto frontAtSpec)

/-- 'oxbowlaw22.FrontNotes', WHERE WHAT IT READS IS OF BULK AT MOST 1048576: true; the input reads as it did. -/
def frontNotesUptoRow : OpenClaim := { program := "ytdkejfjcchlnpaagreat", sum := "d306d574deaf64cee1095e309470c830c67efea9ad73f51763f5f7d3749c0b57", func := "oxbow/oxbowlaw22.FrontNotes", spec := "frontNotes", unfollowed := true, recurses := true, loops := true, plainKeys := false, apart := false, narrowed := true }
def FrontNotesUptoSaid : Prop := frontNotesUptoRow.holds Tryz.pinned (OpenSpec.upto frontNotesSpec)

/-- 'oxbowlaw22.FrontNobody', WHERE WHAT IT READS IS OF BULK AT MOST 1048576: true; the input reads as it did. -/
def frontNobodyUptoRow : OpenClaim := { program := "ytdkejfjcchlnpaagreat", sum := "d306d574deaf64cee1095e309470c830c67efea9ad73f51763f5f7d3749c0b57", func := "oxbow/oxbowlaw22.FrontNobody", spec := "frontNobody", unfollowed := true, recurses := true, plainKeys := false, apart := false, narrowed := true }
def FrontNobodyUptoSaid : Prop := frontNobodyUptoRow.holds Tryz.pinned (OpenSpec.upto frontNobodySpec)

end Rows
end Go.Proofs.YtdkejfjcchlnpaaGreat
