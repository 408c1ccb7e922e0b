/-
  DERIVED. GIVEN WITH THE SEED: THE CARDS: each row of YtpmgmiiidfconaaGreatDoorRows.lean that lists a variable, with what it lists TIED to the program's text (the seventh form; the later family's looks); each row that meets fmt, with fmt's text TOLD by the authors' own Lean function (tested against real Go, not proved from fmt's source: count such statements apart). THE CARD IS WHAT COUNTS. Prove the row's statement (the work); the ties are given (YtpmgmiiidfconaaGreatDoorTie.lean); close each card by the builder's one call (the guide's Derived/Test/ToyasCard.lean, 'card_holds'). Laid BY PROGRAM, IN A SANDBOX (cutbox-door.mjs). By AI agents, Wed Nov 11 2026. No macro, syntax, notation, axiom, sorry.
-/
import Derived.Test.YtpmgmiiidfconaaGreatDoorRows
import GoSem.ClaimSeven
namespace Go.Proofs.YtpmgmiiidfconaaGreatDoor
namespace Rows

/-- THE TIED CARD OF 'oxbowlaw29.LangActs'. -/
def langActsCard : Claim7 := { stood := { row := langActsRow, standIns := [], harness := (true, "1caa9671e2f754a33683c9f7cd391ea370cd5ae38f5ddbe328db6580c0b0a3ea"), looks := false }, kinds := [], alts := [], laidByText := true, laidKinds := [.data, .data, .data, .data, .data, .data, .pinned], laidTests := true, laidLooks := .later }
def LangActsCardSaid : Prop := Claim7.holds Tryz.pinned (.plain (OpenSpec.ofChange langActsSpec)) langActsCard

/-- THE SECOND FORM's CARD OF 'oxbowlaw29.LangActs'. -/
def langActsUptoCard : Claim7 := { stood := { row := langActsUptoRow, standIns := [], harness := (true, "1caa9671e2f754a33683c9f7cd391ea370cd5ae38f5ddbe328db6580c0b0a3ea"), looks := false }, kinds := [], alts := [], laidByText := true, laidKinds := [.data, .data, .data, .data, .data, .data, .pinned], laidTests := true, laidLooks := .later }
def LangActsUptoCardSaid : Prop := Claim7.holds Tryz.pinned (.plain (OpenSpec.upto langActsSpec)) langActsUptoCard
end Rows
end Go.Proofs.YtpmgmiiidfconaaGreatDoor
