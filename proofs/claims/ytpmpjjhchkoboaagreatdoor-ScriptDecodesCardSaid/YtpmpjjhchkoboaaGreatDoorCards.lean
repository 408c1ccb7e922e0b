/-
  DERIVED. GIVEN WITH THE SEED: THE CARDS: each row of YtpmpjjhchkoboaaGreatDoorRows.lean that lists a variable, with what it lists TIED to the program's text (the seventh form; the later family's looks); each row that meets fmt, with fmt's text TOLD by the authors' own Lean function (tested against real Go, not proved from fmt's source: count such statements apart). THE CARD IS WHAT COUNTS. Prove the row's statement (the work); the ties are given (YtpmpjjhchkoboaaGreatDoorTie.lean); close each card by the builder's one call (the guide's Derived/Test/ToyasCard.lean, 'card_holds'). Laid BY PROGRAM, IN A SANDBOX (cutbox-door.mjs). By AI agents, Wed Nov 11 2026. No macro, syntax, notation, axiom, sorry.
-/
import Derived.Test.YtpmpjjhchkoboaaGreatDoorRows
import GoSem.ClaimSeven
namespace Go.Proofs.YtpmpjjhchkoboaaGreatDoor
namespace Rows

/-- THE TIED CARD OF 'oxbowlaw26.ScriptCodes'. -/
def scriptCodesCard : Claim7 := { stood := { row := scriptCodesRow, standIns := [], harness := (true, "aee73281b30a8c4f64fb870d6f201741fea70ab64d4ff91fc83532f0c21fac90"), looks := false }, kinds := [], alts := [], laidByText := true, laidKinds := [.data, .data, .data], laidTests := true, laidLooks := .later }
def ScriptCodesCardSaid : Prop := Claim7.holds Tryz.pinned (.plain (OpenSpec.ofChange scriptCodesSpec)) scriptCodesCard

/-- THE TIED CARD OF 'oxbowlaw26.ScriptDecodes'. -/
def scriptDecodesCard : Claim7 := { stood := { row := scriptDecodesRow, standIns := [], harness := (true, "aee73281b30a8c4f64fb870d6f201741fea70ab64d4ff91fc83532f0c21fac90"), looks := false }, kinds := [], alts := [], laidByText := true, laidKinds := [.data, .data, .data], laidTests := true, laidLooks := .later }
def ScriptDecodesCardSaid : Prop := Claim7.holds Tryz.pinned (.plain (OpenSpec.ofChange scriptDecodesSpec)) scriptDecodesCard

/-- THE TIED CARD OF 'oxbowlaw26.ScriptActs'. -/
def scriptActsCard : Claim7 := { stood := { row := scriptActsRow, standIns := [], harness := (true, "aee73281b30a8c4f64fb870d6f201741fea70ab64d4ff91fc83532f0c21fac90"), looks := false }, kinds := [], alts := [], laidByText := true, laidKinds := [.data, .data, .data], laidTests := true, laidLooks := .later }
def ScriptActsCardSaid : Prop := Claim7.holds Tryz.pinned (.plain (OpenSpec.ofChange scriptActsSpec)) scriptActsCard

/-- THE SECOND FORM's CARD OF 'oxbowlaw26.ScriptCodes'. -/
def scriptCodesUptoCard : Claim7 := { stood := { row := scriptCodesUptoRow, standIns := [], harness := (true, "aee73281b30a8c4f64fb870d6f201741fea70ab64d4ff91fc83532f0c21fac90"), looks := false }, kinds := [], alts := [], laidByText := true, laidKinds := [.data, .data, .data], laidTests := true, laidLooks := .later }
def ScriptCodesUptoCardSaid : Prop := Claim7.holds Tryz.pinned (.plain (OpenSpec.upto scriptCodesSpec)) scriptCodesUptoCard

/-- THE SECOND FORM's CARD OF 'oxbowlaw26.ScriptDecodes'. -/
def scriptDecodesUptoCard : Claim7 := { stood := { row := scriptDecodesUptoRow, standIns := [], harness := (true, "aee73281b30a8c4f64fb870d6f201741fea70ab64d4ff91fc83532f0c21fac90"), looks := false }, kinds := [], alts := [], laidByText := true, laidKinds := [.data, .data, .data], laidTests := true, laidLooks := .later }
def ScriptDecodesUptoCardSaid : Prop := Claim7.holds Tryz.pinned (.plain (OpenSpec.upto scriptDecodesSpec)) scriptDecodesUptoCard

/-- THE SECOND FORM's CARD OF 'oxbowlaw26.ScriptActs'. -/
def scriptActsUptoCard : Claim7 := { stood := { row := scriptActsUptoRow, standIns := [], harness := (true, "aee73281b30a8c4f64fb870d6f201741fea70ab64d4ff91fc83532f0c21fac90"), looks := false }, kinds := [], alts := [], laidByText := true, laidKinds := [.data, .data, .data], laidTests := true, laidLooks := .later }
def ScriptActsUptoCardSaid : Prop := Claim7.holds Tryz.pinned (.plain (OpenSpec.upto scriptActsSpec)) scriptActsUptoCard
end Rows
end Go.Proofs.YtpmpjjhchkoboaaGreatDoor
