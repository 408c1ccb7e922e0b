/-
  DERIVED. GIVEN WITH THE SEED: THE CARDS: each row of YtklnbmcfnnmliaaDoorRows.lean that lists a variable, with what it lists TIED to the program's text (the seventh form; the later family's looks); each row that meets fmt, with fmt's text TOLD by the authors' own Lean function (tested against real Go, not proved from fmt's source: count such statements apart). THE CARD IS WHAT COUNTS. Prove the row's statement (the work); the ties are given (YtklnbmcfnnmliaaDoorTie.lean); close each card by the builder's one call (the guide's Derived/Test/ToyasCard.lean, 'card_holds'). Laid BY PROGRAM, IN A SANDBOX (cutbox-door.mjs). By AI agents, Wed Nov 11 2026. No macro, syntax, notation, axiom, sorry.
-/
import Derived.Test.YtklnbmcfnnmliaaDoorRows
import GoSem.ClaimSeven
namespace Go.Proofs.YtklnbmcfnnmliaaDoor
namespace Rows

/-- THE TIED CARD OF 'oxbowlaw06.PagePuts'. -/
def pagePutsCard : Claim7 := { stood := { row := pagePutsRow, standIns := [], harness := (true, "f1a4523166fbe4bdd4006cf5e5d625df60ebcf358e42265f714f2acbc1c49c07"), looks := false }, kinds := [], alts := [], laidByText := true, laidKinds := [.data], laidTests := true, laidLooks := .later }
def PagePutsCardSaid : Prop := Claim7.holds Tryd.pinned (.plain (OpenSpec.ofChange pagePutsSpec)) pagePutsCard

/-- THE TIED CARD OF 'oxbowlaw06.PageRows'. -/
def pageRowsCard : Claim7 := { stood := { row := pageRowsRow, standIns := [], harness := (true, "f1a4523166fbe4bdd4006cf5e5d625df60ebcf358e42265f714f2acbc1c49c07"), looks := false }, kinds := [], alts := [], laidByText := true, laidKinds := [.data], laidTests := true, laidLooks := .later }
def PageRowsCardSaid : Prop := Claim7.holds Tryd.pinned (.plain (OpenSpec.ofChange pageRowsSpec)) pageRowsCard

/-- THE TIED CARD OF 'oxbowlaw06.PageTorn'. -/
def pageTornCard : Claim7 := { stood := { row := pageTornRow, standIns := [], harness := (true, "f1a4523166fbe4bdd4006cf5e5d625df60ebcf358e42265f714f2acbc1c49c07"), looks := false }, kinds := [], alts := [], laidByText := true, laidKinds := [.data], laidTests := true, laidLooks := .later }
def PageTornCardSaid : Prop := Claim7.holds Tryd.pinned (.plain (OpenSpec.ofChange pageTornSpec)) pageTornCard

/-- THE TIED CARD OF 'oxbowlaw06.PageTurned'. -/
def pageTurnedCard : Claim7 := { stood := { row := pageTurnedRow, standIns := [], harness := (true, "f1a4523166fbe4bdd4006cf5e5d625df60ebcf358e42265f714f2acbc1c49c07"), looks := false }, kinds := [], alts := [], laidByText := true, laidKinds := [.data], laidTests := true, laidLooks := .later }
def PageTurnedCardSaid : Prop := Claim7.holds Tryd.pinned (.plain (OpenSpec.ofChange pageTurnedSpec)) pageTurnedCard

/-- THE SECOND FORM's CARD OF 'oxbowlaw06.PagePuts'. -/
def pagePutsUptoCard : Claim7 := { stood := { row := pagePutsUptoRow, standIns := [], harness := (true, "f1a4523166fbe4bdd4006cf5e5d625df60ebcf358e42265f714f2acbc1c49c07"), looks := false }, kinds := [], alts := [], laidByText := true, laidKinds := [.data], laidTests := true, laidLooks := .later }
def PagePutsUptoCardSaid : Prop := Claim7.holds Tryd.pinned (.plain (OpenSpec.upto pagePutsSpec)) pagePutsUptoCard

/-- THE SECOND FORM's CARD OF 'oxbowlaw06.PageRows'. -/
def pageRowsUptoCard : Claim7 := { stood := { row := pageRowsUptoRow, standIns := [], harness := (true, "f1a4523166fbe4bdd4006cf5e5d625df60ebcf358e42265f714f2acbc1c49c07"), looks := false }, kinds := [], alts := [], laidByText := true, laidKinds := [.data], laidTests := true, laidLooks := .later }
def PageRowsUptoCardSaid : Prop := Claim7.holds Tryd.pinned (.plain (OpenSpec.upto pageRowsSpec)) pageRowsUptoCard

/-- THE SECOND FORM's CARD OF 'oxbowlaw06.PageTorn'. -/
def pageTornUptoCard : Claim7 := { stood := { row := pageTornUptoRow, standIns := [], harness := (true, "f1a4523166fbe4bdd4006cf5e5d625df60ebcf358e42265f714f2acbc1c49c07"), looks := false }, kinds := [], alts := [], laidByText := true, laidKinds := [.data], laidTests := true, laidLooks := .later }
def PageTornUptoCardSaid : Prop := Claim7.holds Tryd.pinned (.plain (OpenSpec.upto pageTornSpec)) pageTornUptoCard

/-- THE SECOND FORM's CARD OF 'oxbowlaw06.PageTurned'. -/
def pageTurnedUptoCard : Claim7 := { stood := { row := pageTurnedUptoRow, standIns := [], harness := (true, "f1a4523166fbe4bdd4006cf5e5d625df60ebcf358e42265f714f2acbc1c49c07"), looks := false }, kinds := [], alts := [], laidByText := true, laidKinds := [.data], laidTests := true, laidLooks := .later }
def PageTurnedUptoCardSaid : Prop := Claim7.holds Tryd.pinned (.plain (OpenSpec.upto pageTurnedSpec)) pageTurnedUptoCard
end Rows
end Go.Proofs.YtklnbmcfnnmliaaDoor
