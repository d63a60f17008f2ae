/-
  DERIVED. GIVEN WITH THE SEED: THE CARDS: each row of YtlniliigcnedmaaGreatDoorRows.lean that lists a variable, with what it lists TIED to the program's text (the seventh form; the later family's looks); each row that meets fmt, with fmt's text TOLD by the authors' own Lean function (tested against real Go, not proved from fmt's source: count such statements apart). THE CARD IS WHAT COUNTS. Prove the row's statement (the work); the ties are given (YtlniliigcnedmaaGreatDoorTie.lean); close each card by the builder's one call (the guide's Derived/Test/ToyasCard.lean, 'card_holds'). Laid BY PROGRAM, IN A SANDBOX (cutbox-door.mjs). By AI agents, Wed Nov 11 2026. No macro, syntax, notation, axiom, sorry.
-/
import Derived.Test.YtlniliigcnedmaaGreatDoorRows
import GoSem.ClaimSeven
namespace Go.Proofs.YtlniliigcnedmaaGreatDoor
namespace Rows

/-- THE TIED CARD OF 'environlaw10.AlikeTexts'. -/
def alikeTextsCard : Claim7 := { stood := { row := alikeTextsRow, standIns := [], harness := (true, "712b2cb35fec48647b91b388765922c39389cab65496b570f50fd787350a628f"), looks := false }, kinds := [], alts := [], laidByText := true, laidKinds := [.data, .data, .data, .data], laidTests := true, laidLooks := .later }
def AlikeTextsCardSaid : Prop := Claim7.holds Tryz.pinned (.plain (OpenSpec.ofChange alikeTextsSpec)) alikeTextsCard

/-- THE TIED CARD OF 'environlaw10.AlikeEqual'. -/
def alikeEqualCard : Claim7 := { stood := { row := alikeEqualRow, standIns := [], harness := (true, "712b2cb35fec48647b91b388765922c39389cab65496b570f50fd787350a628f"), looks := false }, kinds := [], alts := [], laidByText := true, laidKinds := [.data, .data, .data, .data], laidTests := true, laidLooks := .later }
def AlikeEqualCardSaid : Prop := Claim7.holds Tryz.pinned (.plain (OpenSpec.ofChange alikeEqualSpec)) alikeEqualCard

/-- THE TIED CARD OF 'environlaw10.AlikeOrders'. -/
def alikeOrdersCard : Claim7 := { stood := { row := alikeOrdersRow, standIns := [], harness := (true, "712b2cb35fec48647b91b388765922c39389cab65496b570f50fd787350a628f"), looks := false }, kinds := [], alts := [], laidByText := true, laidKinds := [.data, .data, .data, .data], laidTests := true, laidLooks := .later }
def AlikeOrdersCardSaid : Prop := Claim7.holds Tryz.pinned (.plain (OpenSpec.ofChange alikeOrdersSpec)) alikeOrdersCard

/-- THE TIED CARD OF 'environlaw10.AlikeMoved'. -/
def alikeMovedCard : Claim7 := { stood := { row := alikeMovedRow, standIns := [], harness := (true, "712b2cb35fec48647b91b388765922c39389cab65496b570f50fd787350a628f"), looks := false }, kinds := [], alts := [], laidByText := true, laidKinds := [.data, .data, .data, .data], laidTests := true, laidLooks := .later }
def AlikeMovedCardSaid : Prop := Claim7.holds Tryz.pinned (.plain (OpenSpec.ofChange alikeMovedSpec)) alikeMovedCard

/-- THE TIED CARD OF 'environlaw10.AlikeParts'. -/
def alikePartsCard : Claim7 := { stood := { row := alikePartsRow, standIns := [], harness := (true, "712b2cb35fec48647b91b388765922c39389cab65496b570f50fd787350a628f"), looks := false }, kinds := [], alts := [], laidByText := true, laidKinds := [.data, .data, .data, .data], laidTests := true, laidLooks := .later }
def AlikePartsCardSaid : Prop := Claim7.holds Tryz.pinned (.plain (OpenSpec.ofChange alikePartsSpec)) alikePartsCard

/-- THE TIED CARD OF 'environlaw10.AlikeReduces'. -/
def alikeReducesCard : Claim7 := { stood := { row := alikeReducesRow, standIns := [], harness := (true, "712b2cb35fec48647b91b388765922c39389cab65496b570f50fd787350a628f"), looks := false }, kinds := [], alts := [], laidByText := true, laidKinds := [.data, .data, .data, .data], laidTests := true, laidLooks := .later }
def AlikeReducesCardSaid : Prop := Claim7.holds Tryz.pinned (.plain (OpenSpec.ofChange alikeReducesSpec)) alikeReducesCard

/-- THE TIED CARD OF 'environlaw10.AlikeAcross'. -/
def alikeAcrossCard : Claim7 := { stood := { row := alikeAcrossRow, standIns := [], harness := (true, "712b2cb35fec48647b91b388765922c39389cab65496b570f50fd787350a628f"), looks := false }, kinds := [], alts := [], laidByText := true, laidKinds := [.data, .data, .data, .data], laidTests := true, laidLooks := .later }
def AlikeAcrossCardSaid : Prop := Claim7.holds Tryz.pinned (.plain (OpenSpec.ofChange alikeAcrossSpec)) alikeAcrossCard

/-- THE TIED CARD OF 'environlaw10.AlikeUnfolds'. -/
def alikeUnfoldsCard : Claim7 := { stood := { row := alikeUnfoldsRow, standIns := [], harness := (true, "712b2cb35fec48647b91b388765922c39389cab65496b570f50fd787350a628f"), looks := false }, kinds := [], alts := [], laidByText := true, laidKinds := [.data, .data, .data, .data], laidTests := true, laidLooks := .later }
def AlikeUnfoldsCardSaid : Prop := Claim7.holds Tryz.pinned (.plain (OpenSpec.ofChange alikeUnfoldsSpec)) alikeUnfoldsCard

/-- THE TIED CARD OF 'environlaw10.AlikeLeast'. -/
def alikeLeastCard : Claim7 := { stood := { row := alikeLeastRow, standIns := [], harness := (true, "712b2cb35fec48647b91b388765922c39389cab65496b570f50fd787350a628f"), looks := false }, kinds := [], alts := [], laidByText := true, laidKinds := [.data, .data, .data, .data], laidTests := true, laidLooks := .later }
def AlikeLeastCardSaid : Prop := Claim7.holds Tryz.pinned (.plain (OpenSpec.ofChange alikeLeastSpec)) alikeLeastCard

/-- THE TIED CARD OF 'environlaw10.AlikePuts'. -/
def alikePutsCard : Claim7 := { stood := { row := alikePutsRow, standIns := [], harness := (true, "712b2cb35fec48647b91b388765922c39389cab65496b570f50fd787350a628f"), looks := false }, kinds := [], alts := [], laidByText := true, laidKinds := [.data, .data, .data, .data], laidTests := true, laidLooks := .later }
def AlikePutsCardSaid : Prop := Claim7.holds Tryz.pinned (.plain (OpenSpec.ofChange alikePutsSpec)) alikePutsCard

/-- THE SECOND FORM's CARD OF 'environlaw10.AlikeTexts'. -/
def alikeTextsUptoCard : Claim7 := { stood := { row := alikeTextsUptoRow, standIns := [], harness := (true, "712b2cb35fec48647b91b388765922c39389cab65496b570f50fd787350a628f"), looks := false }, kinds := [], alts := [], laidByText := true, laidKinds := [.data, .data, .data, .data], laidTests := true, laidLooks := .later }
def AlikeTextsUptoCardSaid : Prop := Claim7.holds Tryz.pinned (.plain (OpenSpec.upto alikeTextsSpec)) alikeTextsUptoCard

/-- THE SECOND FORM's CARD OF 'environlaw10.AlikeEqual'. -/
def alikeEqualUptoCard : Claim7 := { stood := { row := alikeEqualUptoRow, standIns := [], harness := (true, "712b2cb35fec48647b91b388765922c39389cab65496b570f50fd787350a628f"), looks := false }, kinds := [], alts := [], laidByText := true, laidKinds := [.data, .data, .data, .data], laidTests := true, laidLooks := .later }
def AlikeEqualUptoCardSaid : Prop := Claim7.holds Tryz.pinned (.plain (OpenSpec.upto alikeEqualSpec)) alikeEqualUptoCard

/-- THE SECOND FORM's CARD OF 'environlaw10.AlikeOrders'. -/
def alikeOrdersUptoCard : Claim7 := { stood := { row := alikeOrdersUptoRow, standIns := [], harness := (true, "712b2cb35fec48647b91b388765922c39389cab65496b570f50fd787350a628f"), looks := false }, kinds := [], alts := [], laidByText := true, laidKinds := [.data, .data, .data, .data], laidTests := true, laidLooks := .later }
def AlikeOrdersUptoCardSaid : Prop := Claim7.holds Tryz.pinned (.plain (OpenSpec.upto alikeOrdersSpec)) alikeOrdersUptoCard

/-- THE SECOND FORM's CARD OF 'environlaw10.AlikeMoved'. -/
def alikeMovedUptoCard : Claim7 := { stood := { row := alikeMovedUptoRow, standIns := [], harness := (true, "712b2cb35fec48647b91b388765922c39389cab65496b570f50fd787350a628f"), looks := false }, kinds := [], alts := [], laidByText := true, laidKinds := [.data, .data, .data, .data], laidTests := true, laidLooks := .later }
def AlikeMovedUptoCardSaid : Prop := Claim7.holds Tryz.pinned (.plain (OpenSpec.upto alikeMovedSpec)) alikeMovedUptoCard

/-- THE SECOND FORM's CARD OF 'environlaw10.AlikeParts'. -/
def alikePartsUptoCard : Claim7 := { stood := { row := alikePartsUptoRow, standIns := [], harness := (true, "712b2cb35fec48647b91b388765922c39389cab65496b570f50fd787350a628f"), looks := false }, kinds := [], alts := [], laidByText := true, laidKinds := [.data, .data, .data, .data], laidTests := true, laidLooks := .later }
def AlikePartsUptoCardSaid : Prop := Claim7.holds Tryz.pinned (.plain (OpenSpec.upto alikePartsSpec)) alikePartsUptoCard

/-- THE SECOND FORM's CARD OF 'environlaw10.AlikeReduces'. -/
def alikeReducesUptoCard : Claim7 := { stood := { row := alikeReducesUptoRow, standIns := [], harness := (true, "712b2cb35fec48647b91b388765922c39389cab65496b570f50fd787350a628f"), looks := false }, kinds := [], alts := [], laidByText := true, laidKinds := [.data, .data, .data, .data], laidTests := true, laidLooks := .later }
def AlikeReducesUptoCardSaid : Prop := Claim7.holds Tryz.pinned (.plain (OpenSpec.upto alikeReducesSpec)) alikeReducesUptoCard

/-- THE SECOND FORM's CARD OF 'environlaw10.AlikeAcross'. -/
def alikeAcrossUptoCard : Claim7 := { stood := { row := alikeAcrossUptoRow, standIns := [], harness := (true, "712b2cb35fec48647b91b388765922c39389cab65496b570f50fd787350a628f"), looks := false }, kinds := [], alts := [], laidByText := true, laidKinds := [.data, .data, .data, .data], laidTests := true, laidLooks := .later }
def AlikeAcrossUptoCardSaid : Prop := Claim7.holds Tryz.pinned (.plain (OpenSpec.upto alikeAcrossSpec)) alikeAcrossUptoCard

/-- THE SECOND FORM's CARD OF 'environlaw10.AlikeUnfolds'. -/
def alikeUnfoldsUptoCard : Claim7 := { stood := { row := alikeUnfoldsUptoRow, standIns := [], harness := (true, "712b2cb35fec48647b91b388765922c39389cab65496b570f50fd787350a628f"), looks := false }, kinds := [], alts := [], laidByText := true, laidKinds := [.data, .data, .data, .data], laidTests := true, laidLooks := .later }
def AlikeUnfoldsUptoCardSaid : Prop := Claim7.holds Tryz.pinned (.plain (OpenSpec.upto alikeUnfoldsSpec)) alikeUnfoldsUptoCard

/-- THE SECOND FORM's CARD OF 'environlaw10.AlikeLeast'. -/
def alikeLeastUptoCard : Claim7 := { stood := { row := alikeLeastUptoRow, standIns := [], harness := (true, "712b2cb35fec48647b91b388765922c39389cab65496b570f50fd787350a628f"), looks := false }, kinds := [], alts := [], laidByText := true, laidKinds := [.data, .data, .data, .data], laidTests := true, laidLooks := .later }
def AlikeLeastUptoCardSaid : Prop := Claim7.holds Tryz.pinned (.plain (OpenSpec.upto alikeLeastSpec)) alikeLeastUptoCard

/-- THE SECOND FORM's CARD OF 'environlaw10.AlikePuts'. -/
def alikePutsUptoCard : Claim7 := { stood := { row := alikePutsUptoRow, standIns := [], harness := (true, "712b2cb35fec48647b91b388765922c39389cab65496b570f50fd787350a628f"), looks := false }, kinds := [], alts := [], laidByText := true, laidKinds := [.data, .data, .data, .data], laidTests := true, laidLooks := .later }
def AlikePutsUptoCardSaid : Prop := Claim7.holds Tryz.pinned (.plain (OpenSpec.upto alikePutsSpec)) alikePutsUptoCard
end Rows
end Go.Proofs.YtlniliigcnedmaaGreatDoor
