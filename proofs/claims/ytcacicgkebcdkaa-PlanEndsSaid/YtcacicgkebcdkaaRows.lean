/-
  NARROWER THAN 'FOR EVERY INPUT', by the rows' own cells (each row's printed sentence says how): PlanArcs: loops · PlanSteps: loops · PlanEnds: loops · PlanWays: loops.
  DERIVED. THE GIVEN ROWS OF THIS SEAT. 4 by the template 'for every input the law returns true; each argument reads behind the call as it read before'; 0 by the template 'total and deterministic' (their statements: YtcacicgkebcdkaaTotals.lean).
  GIVEN WITH THE SEED: the statements are not yours to turn. If you find one false, say at which input.
  Laid BY PROGRAM, IN A SANDBOX (cutbox-rows.mjs): the forced cells as the released guide's own fill.sh prints them over the translation 3f46efe5030269bd… (all of the seat's roots in one cut). By AI agents, Wed Nov 11 2026. No macro, syntax, notation, axiom, sorry.
-/
import Derived.Test.YtcacicgkebcdkaaChecked
import GoSem.Claim
import GoSem.ClaimJoined
import GoSem.ClaimMapViews
import Derived.JoinedTies
import Derived.KernelRfl
namespace Go.Proofs.Ytcacicgkebcdkaa
/- THE CELL 'sum', in the pinned program and in every row, IS THE sha256 OF THE DUMP (.gsa) THAT YtcacicgkebcdkaaProg.lean LOADS. Nothing in Lean hashes anything: it is a label: what it is worth is what the hold of that sum in a sandbox is worth. -/
noncomputable def Try.pinned : Pinned := { name := "ytcacicgkebcdkaa", sum := "3f46efe5030269bda733b1a52b916292d64d10fd09621b4aa2768248a8042c5d", checked := Try.checked }
namespace Rows
def none {H : Type} : Left H := { results := [], args := [] }

/-- 'oxbowlaw20.PlanArcs': WHATEVER THE INPUT: true; the input reads as it did. -/
def planArcsSpec : ChangeSpec := { name := "planArcs", fn := fun _ => fun
  | [d1, d2] => { results := [.lit (.bool true)], args := [d1, d2] }
  | _ => none }
def planArcsRow : OpenClaim := { program := "ytcacicgkebcdkaa", sum := "3f46efe5030269bda733b1a52b916292d64d10fd09621b4aa2768248a8042c5d", func := "oxbow/oxbowlaw20.PlanArcs", spec := "planArcs", unfollowed := true, recurses := true, loops := true, plainKeys := false, apart := false }
def PlanArcsSaid : Prop := planArcsRow.holds Try.pinned (OpenSpec.ofChange planArcsSpec)

/-- ITS FALSE NEIGHBOUR: 'it returns false'. Refute it at one input. -/
def planArcsWrong : ChangeSpec := { name := "planArcs", fn := fun _ => fun
  | [d1, d2] => { results := [.lit (.bool false)], args := [d1, d2] }
  | _ => none }
def PlanArcsWrongFalsely : Prop := planArcsRow.holds Try.pinned (OpenSpec.ofChange planArcsWrong)

/-- 'oxbowlaw20.PlanSteps': WHATEVER THE INPUT: true; the input reads as it did. -/
def planStepsSpec : ChangeSpec := { name := "planSteps", fn := fun _ => fun
  | [d1, d2, d3, d4, d5, d6, d7] => { results := [.lit (.bool true)], args := [d1, d2, d3, d4, d5, d6, d7] }
  | _ => none }
def planStepsRow : OpenClaim := { program := "ytcacicgkebcdkaa", sum := "3f46efe5030269bda733b1a52b916292d64d10fd09621b4aa2768248a8042c5d", func := "oxbow/oxbowlaw20.PlanSteps", spec := "planSteps", unfollowed := true, recurses := true, loops := true, plainKeys := false, apart := false }
def PlanStepsSaid : Prop := planStepsRow.holds Try.pinned (OpenSpec.ofChange planStepsSpec)

/-- ITS FALSE NEIGHBOUR: 'it returns false'. Refute it at one input. -/
def planStepsWrong : ChangeSpec := { name := "planSteps", fn := fun _ => fun
  | [d1, d2, d3, d4, d5, d6, d7] => { results := [.lit (.bool false)], args := [d1, d2, d3, d4, d5, d6, d7] }
  | _ => none }
def PlanStepsWrongFalsely : Prop := planStepsRow.holds Try.pinned (OpenSpec.ofChange planStepsWrong)

/-- 'oxbowlaw20.PlanEnds': WHATEVER THE INPUT: true; the input reads as it did. -/
def planEndsSpec : ChangeSpec := { name := "planEnds", fn := fun _ => fun
  | [d] => { results := [.lit (.bool true)], args := [d] }
  | _ => none }
def planEndsRow : OpenClaim := { program := "ytcacicgkebcdkaa", sum := "3f46efe5030269bda733b1a52b916292d64d10fd09621b4aa2768248a8042c5d", func := "oxbow/oxbowlaw20.PlanEnds", spec := "planEnds", unfollowed := true, recurses := true, loops := true, plainKeys := false, apart := false }
def PlanEndsSaid : Prop := planEndsRow.holds Try.pinned (OpenSpec.ofChange planEndsSpec)

/-- ITS FALSE NEIGHBOUR: 'it returns false'. Refute it at one input. -/
def planEndsWrong : ChangeSpec := { name := "planEnds", fn := fun _ => fun
  | [d] => { results := [.lit (.bool false)], args := [d] }
  | _ => none }
def PlanEndsWrongFalsely : Prop := planEndsRow.holds Try.pinned (OpenSpec.ofChange planEndsWrong)

/-- 'oxbowlaw20.PlanWays': WHATEVER THE INPUT: true; the input reads as it did. -/
def planWaysSpec : ChangeSpec := { name := "planWays", fn := fun _ => fun
  | [d1, d2, d3, d4, d5] => { results := [.lit (.bool true)], args := [d1, d2, d3, d4, d5] }
  | _ => none }
def planWaysRow : OpenClaim := { program := "ytcacicgkebcdkaa", sum := "3f46efe5030269bda733b1a52b916292d64d10fd09621b4aa2768248a8042c5d", func := "oxbow/oxbowlaw20.PlanWays", spec := "planWays", unfollowed := true, recurses := true, loops := true, plainKeys := false, apart := false }
def PlanWaysSaid : Prop := planWaysRow.holds Try.pinned (OpenSpec.ofChange planWaysSpec)

/-- ITS FALSE NEIGHBOUR: 'it returns false'. Refute it at one input. -/
def planWaysWrong : ChangeSpec := { name := "planWays", fn := fun _ => fun
  | [d1, d2, d3, d4, d5] => { results := [.lit (.bool false)], args := [d1, d2, d3, d4, d5] }
  | _ => none }
def PlanWaysWrongFalsely : Prop := planWaysRow.holds Try.pinned (OpenSpec.ofChange planWaysWrong)

/- THE SECOND FORM. 'bulk': how many values and letters a reading holds, each counted each time it is reached (what is shared counts as often as it is met; a slice's spare places count too). A statement '..UptoSaid' is the law's where the arguments, and the package variables that the reading takes, are together of bulk at most 1048576: NARROWER than '..Said'. Prove '..Said' where nothing that the law and all that it calls make is longer than what came in: it says more and counts as full. Else prove '..UptoSaid'. A law counts once. -/
mutual
def uptoBulk {H : Type} : DataW H → Nat
  | .lit (.string bytes) => bytes.length + 1
  | .lit _ => 1
  | .nil => 1
  | .ptr d => uptoBulk d + 1
  | .slice elems spare => uptoBulkAll elems + uptoBulkAll spare + 1
  | .agg parts => uptoBulkAll parts + 1
  | .iface _ d => uptoBulk d + 1
  | .map entries => uptoBulkEntries entries + 1
  | .held _ => 1
def uptoBulkAll {H : Type} : List (DataW H) → Nat
  | [] => 0
  | d :: r => uptoBulk d + uptoBulkAll r
def uptoBulkEntries {H : Type} : List (Lit × DataW H) → Nat
  | [] => 0
  | x :: r => uptoBulkEntry x + uptoBulkEntries r
def uptoBulkEntry {H : Type} : Lit × DataW H → Nat
  | (.string bytes, d) => bytes.length + uptoBulk d + 1
  | (_, d) => uptoBulk d + 1
 end
def uptoSmall : (H : Type) → List (DataW H) → Bool := fun _ ds => decide (uptoBulkAll ds ≤ 1048576)
def OpenSpec.upto (s : _root_.Go.ChangeSpec) : _root_.Go.OpenSpec := { _root_.Go.OpenSpec.ofChange s with cond := some uptoSmall }

/-- 'oxbowlaw20.PlanArcs', WHERE WHAT IT READS IS OF BULK AT MOST 1048576: true; the input reads as it did. -/
def planArcsUptoRow : OpenClaim := { program := "ytcacicgkebcdkaa", sum := "3f46efe5030269bda733b1a52b916292d64d10fd09621b4aa2768248a8042c5d", func := "oxbow/oxbowlaw20.PlanArcs", spec := "planArcs", unfollowed := true, recurses := true, loops := true, plainKeys := false, apart := false, narrowed := true }
def PlanArcsUptoSaid : Prop := planArcsUptoRow.holds Try.pinned (OpenSpec.upto planArcsSpec)

/-- 'oxbowlaw20.PlanSteps', WHERE WHAT IT READS IS OF BULK AT MOST 1048576: true; the input reads as it did. -/
def planStepsUptoRow : OpenClaim := { program := "ytcacicgkebcdkaa", sum := "3f46efe5030269bda733b1a52b916292d64d10fd09621b4aa2768248a8042c5d", func := "oxbow/oxbowlaw20.PlanSteps", spec := "planSteps", unfollowed := true, recurses := true, loops := true, plainKeys := false, apart := false, narrowed := true }
def PlanStepsUptoSaid : Prop := planStepsUptoRow.holds Try.pinned (OpenSpec.upto planStepsSpec)

/-- 'oxbowlaw20.PlanEnds', WHERE WHAT IT READS IS OF BULK AT MOST 1048576: true; the input reads as it did. -/
def planEndsUptoRow : OpenClaim := { program := "ytcacicgkebcdkaa", sum := "3f46efe5030269bda733b1a52b916292d64d10fd09621b4aa2768248a8042c5d", func := "oxbow/oxbowlaw20.PlanEnds", spec := "planEnds", unfollowed := true, recurses := true, loops := true, plainKeys := false, apart := false, narrowed := true }
def PlanEndsUptoSaid : Prop := planEndsUptoRow.holds Try.pinned (OpenSpec.upto planEndsSpec)

/-- 'oxbowlaw20.PlanWays', WHERE WHAT IT READS IS OF BULK AT MOST 1048576: true; the input reads as it did. -/
def planWaysUptoRow : OpenClaim := { program := "ytcacicgkebcdkaa", sum := "3f46efe5030269bda733b1a52b916292d64d10fd09621b4aa2768248a8042c5d", func := "oxbow/oxbowlaw20.PlanWays", spec := "planWays", unfollowed := true, recurses := true, loops := true, plainKeys := false, apart := false, narrowed := true }
def PlanWaysUptoSaid : Prop := planWaysUptoRow.holds Try.pinned (OpenSpec.upto planWaysSpec)

end Rows
end Go.Proofs.Ytcacicgkebcdkaa
